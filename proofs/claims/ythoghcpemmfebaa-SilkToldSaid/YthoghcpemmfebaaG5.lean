/- The law SilkTold, on our machine. Numbers that are wound off bytes: the contracts of Spool. What lots really weigh, made from the last one to the first: the plain part. Shares by kind: shares, Where. Tables by kind: the plain part. Made. Read, Weighed. The reference's table. Where, and that of the reference. Kinds together: the plain part of SilkParted. The law SilkParted, on our machine. dry. What the lots of a kind weigh: the plain part of SilkTold. -/
import Derived.Test.YthoghcpemmfebaaG2
import Derived.Test.YthoghcpemmfebaaAc7
import Derived.Test.YthoghcpemmfebaaG4
import Derived.Test.YthoghcpemmfebaaPa6
set_option linter.unusedSimpArgs false
set_option linter.unusedVariables false
namespace Go.Ab
theorem q_shr_3 (a : Int) : q_sh .shr (.int .u64 a) (.int .u64 3) = some (.int .u64 (a.fdiv (2 ^ (min 3 IntKind.u64.bits)))) := rfl
theorem q_shr_19 (a : Int) : q_sh .shr (.int .u64 a) (.int .u64 19) = some (.int .u64 (a.fdiv (2 ^ (min 19 IntKind.u64.bits)))) := rfl
def xorI (k : IntKind) (a b : Int) : Int := k.wrap (BitVec.ofInt k.bits a ^^^ BitVec.ofInt k.bits b).toNat
def andI (k : IntKind) (a b : Int) : Int := k.wrap (BitVec.ofInt k.bits a &&& BitVec.ofInt k.bits b).toNat
theorem q_ar_xor (k : IntKind) (a b : Int) : q_ar .xor (.int k a) (.int k b) = some (.int k (xorI k a b)) := by simp [q_ar, arith, xorV, vi, xorI]
theorem q_ar_and (k : IntKind) (a b : Int) : q_ar .and (.int k a) (.int k b) = some (.int k (andI k a b)) := by simp [q_ar, arith, andV, vi, andI]
theorem and_bd (a : Int) : 0 ≤ andI .i64 a 65535 ∧ andI .i64 a 65535 ≤ 65535 := by
  have h : (BitVec.ofInt IntKind.i64.bits a &&& BitVec.ofInt IntKind.i64.bits 65535).toNat ≤ 65535 := by
    rw [BitVec.toNat_and]
    exact Nat.le_trans Nat.and_le_right (by decide)
  unfold andI
  rw [← wr_eq, wr_in (by omega) (by omega)]
  omega
namespace Try
def encU8 (n : Int) : List V := [.int .u8 n]
def SpAt (h : H) (p : Nat) (x : V) (T : Int) : Prop := ∃ st, h.get p = some (.cells .rw [x, .int .i64 T, .int .u64 st])
theorem SpAt.mono {h h' : H} {p : Nat} {x : V} {T : Int} (a : SpAt h p x T) (hs : h.Sub h') : SpAt h' p x T := by
  obtain ⟨st, a⟩ := a
  exact ⟨st, hs.get a⟩
theorem SpAt.keep {h h' : H} {p : Nat} {x : V} {T : Int} {S : Nat → Prop} (a : SpAt h p x T) (k : Keeps S h h') (n : ¬ S p) : SpAt h' p x T := by
  obtain ⟨st, a⟩ := a
  exact ⟨st, k.2 _ _ a n⟩
set_option maxHeartbeats 1000000 in
theorem turn_ev {h0 h : H} {p : Nat} {x : V} {bs : List Int} {T : Int} (hs : h0.Sub h) (hw0 : h0.wf) (hx : SlAt h0 x 1 (bs.map encU8)) (hp0 : h0.next ≤ p) (hp : SpAt h p x T) (hT : 0 ≤ T ∧ T ≤ 1000000000) (Q : V → H → Prop)
    (q : ∀ r h', 0 ≤ r → r ≤ 65535 → h0.Sub h' → SpAt h' p x (T + 1) → Keeps (fun b => b = p) h h' → h'.next = h.next → Q (.int .i64 r) h') : Ev fnG fastA (.fn 109 [] []) [.ptr p 0] h Q := by
  obtain ⟨st, hp⟩ := hp
  have hw := hs.wf
  have hlp := hw _ _ hp
  have hx1 := hx.one
  have hlen := hx.lenE
  have hc := cells_of hp
  refine Ev_body (fd := c109) rfl rfl rfl ?_
  have fin : ∀ (st' : Int) (r : Int), 0 ≤ r → r ≤ 65535 → Q (.int .i64 r) (h.set p (.cells .rw [x, .int .i64 (T + 1), .int .u64 st'])) := fun st' r r0 r1 =>
    q r _ r0 r1 (hs.set hp0 hlp hw0 _) ⟨st', get_set_same rfl⟩ (Keeps.set _ _ _) (H.next_set _ _ _)
  by_cases h1 : 0 < (bs.length : Int)
  · have hT0 : 0 ≤ T.tmod (bs.length : Int) := Int.tmod_nonneg _ hT.1
    have hT1 : T.tmod (bs.length : Int) < (bs.length : Int) := Int.tmod_lt_of_pos _ h1
    obtain ⟨i, ei⟩ := Int.eq_ofNat_of_zero_le hT0
    have hi : i < bs.length := by omega
    obtain ⟨b2, o2, c2, cs2, e2, hcs2, hq2, hgg2, hn2, hn02⟩ := (hx.mono hs).at hi
    have v2 := hn02 (by omega)
    simp only [encU8] at v2
    have hbb : b2 ≠ p := by
      have := SlAt_lt hw0 hx (by intro e; rw [List.map_eq_nil_iff] at e; rw [e] at hi; simp at hi) b2 ⟨_, _, _, e2⟩
      omega
    have hne : ¬ (bs.length : Int) = 0 := by omega
    by_cases h2 : (bs.length : Int) < T + 1
    · simp -implicitDefEqProofs (maxSteps := 999999) (disch := first | with_reducible rfl | omega | (simp only [nA, nS, nD] <;> omega) | fail) only [c109, go_sem, hc, hlen, h1, q_ar_rem .i64 hne, ei, hq2 (nat_cst i), hcs2, v2, hp, wr_in, h2, hx1, q_shr_3, q_shr_19, q_ar_xor, q_ar_and]
      exact fin _ _ (and_bd _).1 (and_bd _).2
    · simp -implicitDefEqProofs (maxSteps := 999999) (disch := first | with_reducible rfl | omega | (simp only [nA, nS, nD] <;> omega) | fail) only [c109, go_sem, hc, hlen, h1, q_ar_rem .i64 hne, ei, hq2 (nat_cst i), hcs2, v2, hp, wr_in, h2, hx1, q_shr_3, q_shr_19, q_ar_xor, q_ar_and]
      exact fin _ _ (and_bd _).1 (and_bd _).2
  · by_cases h2 : (bs.length : Int) < T + 1
    · simp -implicitDefEqProofs (maxSteps := 999999) (disch := first | with_reducible rfl | omega | (simp only [nA, nS, nD] <;> omega) | fail) only [c109, go_sem, hc, hlen, h1, hp, wr_in, h2, hx1, q_shr_3, q_shr_19, q_ar_xor, q_ar_and]
      exact fin _ _ (and_bd _).1 (and_bd _).2
    · omega
theorem Upto_ev {h0 h : H} {p : Nat} {x : V} {bs : List Int} {T : Int} (hs : h0.Sub h) (hw0 : h0.wf) (hx : SlAt h0 x 1 (bs.map encU8)) (hp0 : h0.next ≤ p) (hp : SpAt h p x T) (hT : 0 ≤ T ∧ T ≤ 1000000000) {n : Int} (hn : -1000000000 ≤ n ∧ n ≤ 1000000000) (Q : V → H → Prop)
    (q : ∀ r h', 0 ≤ r → r ≤ max 0 n → h0.Sub h' → SpAt h' p x (T + 1) → Keeps (fun b => b = p) h h' → h'.next = h.next → Q (.int .i64 r) h') : Ev fnG fastA (.fn 49 [] []) [.ptr p 0, .int .i64 n] h Q := by
  refine Ev_body (fd := c49) rfl rfl rfl ?_
  simp -implicitDefEqProofs (maxSteps := 999999) (disch := first | with_reducible rfl | omega | (simp only [nA, nS, nD] <;> omega) | fail) only [c49, go_sem]
  refine turn_ev hs hw0 hx hp0 hp hT _ fun r h' r0 r1 s' p' k' n' => ?_
  have hm : ¬ max 1 (n + 1) = 0 := by omega
  have e0 : 0 ≤ r.tmod (max 1 (n + 1)) := Int.tmod_nonneg _ r0
  have e1 : r.tmod (max 1 (n + 1)) < max 1 (n + 1) := Int.tmod_lt_of_pos _ (by omega)
  simp -implicitDefEqProofs (maxSteps := 999999) (disch := first | with_reducible rfl | omega | (simp only [nA, nS, nD] <;> omega) | fail) only [go_sem, wr_in, q_ar_rem .i64 hm]
  exact q _ _ e0 (by omega) s' p' k' n'
theorem From_ev {h0 h : H} {p : Nat} {x : V} {bs : List Int} {T : Int} (hs : h0.Sub h) (hw0 : h0.wf) (hx : SlAt h0 x 1 (bs.map encU8)) (hp0 : h0.next ≤ p) (hp : SpAt h p x T) (hT : 0 ≤ T ∧ T ≤ 1000000000) {lo hi : Int} (hlo : -1000000 ≤ lo ∧ lo ≤ 1000000) (hhi : -1000000 ≤ hi ∧ hi ≤ 1000000) (Q : V → H → Prop)
    (q : ∀ r h', lo ≤ r → r ≤ max lo hi → h0.Sub h' → SpAt h' p x (T + 1) → Keeps (fun b => b = p) h h' → h'.next = h.next → Q (.int .i64 r) h') : Ev fnG fastA (.fn 52 [] []) [.ptr p 0, .int .i64 lo, .int .i64 hi] h Q := by
  refine Ev_body (fd := c52) rfl rfl rfl ?_
  simp -implicitDefEqProofs (maxSteps := 999999) (disch := first | with_reducible rfl | omega | (simp only [nA, nS, nD] <;> omega) | fail) only [c52, go_sem, wr_in]
  refine Upto_ev hs hw0 hx hp0 hp hT (by omega) _ fun r h' r0 r1 s' p' k' n' => ?_
  simp -implicitDefEqProofs (maxSteps := 999999) (disch := first | with_reducible rfl | omega | (simp only [nA, nS, nD] <;> omega) | fail) only [go_sem, wr_in]
  exact q _ _ (by omega) (by omega) s' p' k' n'
theorem Once_ev {h0 h : H} {p : Nat} {x : V} {bs : List Int} {T : Int} (hs : h0.Sub h) (hw0 : h0.wf) (hx : SlAt h0 x 1 (bs.map encU8)) (hp0 : h0.next ≤ p) (hp : SpAt h p x T) (hT : 0 ≤ T ∧ T ≤ 1000000000) {n : Int} (hn : 0 ≤ n ∧ n ≤ 1000000) (Q : V → H → Prop)
    (q : ∀ t h', h0.Sub h' → SpAt h' p x (T + 1) → Keeps (fun b => b = p) h h' → h'.next = h.next → Q (.bool t) h') : Ev fnG fastA (.fn 59 [] []) [.ptr p 0, .int .i64 n] h Q := by
  refine Ev_body (fd := c59) rfl rfl rfl ?_
  simp -implicitDefEqProofs (maxSteps := 999999) (disch := first | with_reducible rfl | omega | (simp only [nA, nS, nD] <;> omega) | fail) only [c59, go_sem, wr_in]
  refine Upto_ev hs hw0 hx hp0 hp hT (by omega) _ fun r h' r0 r1 s' p' k' n' => ?_
  simp -implicitDefEqProofs (maxSteps := 999999) (disch := first | with_reducible rfl | omega | (simp only [nA, nS, nD] <;> omega) | fail) only [go_sem]
  exact q _ _ s' p' k' n'
theorem Wound_ev {h : H} {x : V} {bs : List Int} (hw : h.wf) (hx : SlAt h x 1 (bs.map encU8)) (Q : V → H → Prop) (q : ∀ h', h.Sub h' → SpAt h' h.next x 0 → h'.next = h.next + 1 → Q (.ptr h.next 0) h') : Ev fnG fastA (.fn 32 [] []) [x] h Q := by
  have hx1 := hx.one
  refine Ev_body (fd := c32) rfl rfl rfl ?_
  simp -implicitDefEqProofs (maxSteps := 999999) (disch := first | with_reducible rfl | omega | (simp only [nA, nS, nD] <;> omega) | fail) only [c32, go_sem, hx.lenE, hx1, cells_one hx1]
  exact q _ ((H.Sub.refl hw).add _) ⟨_, get_add_new rfl⟩ (H.next_add _ _)
end Try
end Go.Ab
set_option linter.unusedSimpArgs false
set_option linter.unusedVariables false
namespace Go.Ab.Try
open Go.Ab.Silk
def LotsOk (l : List Lt) : Prop := ∀ j (hj : j < l.length), (-1 ≤ l[j].frm ∧ l[j].frm ≤ (j : Int) - 1) ∧ (0 ≤ l[j].kind ∧ l[j].kind ≤ 3)
theorem LotsOk.nil : LotsOk [] := fun j hj => by simp at hj
theorem LotsOk.snoc {l : List Lt} (h : LotsOk l) {f k : Int} (h1 : -1 ≤ f ∧ f ≤ (l.length : Int) - 1) (h2 : 0 ≤ k ∧ k ≤ 3) : LotsOk (l ++ [⟨f, k⟩]) := fun j hj => by
  by_cases e : j < l.length
  · rw [List.getElem_append_left e]; exact h j e
  · have : j = l.length := by simp at hj; omega
    subst this
    simp; exact ⟨h1, h2⟩
theorem good_made {e : Int} {l : List Lt} (he : 0 ≤ e ∧ e ≤ 50) (h1 : 1 ≤ l.length ∧ l.length ≤ 12) (h : LotsOk l) : Good ⟨e, l, []⟩ :=
  ⟨h1, by simp, he, by simp, fun a ha => by
    obtain ⟨j, hj, rfl⟩ := List.getElem_of_mem ha
    exact (h j hj).2, fun i hi => (h i hi).1, by simp, by simp⟩
def allL (n : Nat) : List Int := (List.range n).map fun (k : Nat) => (k : Int)
theorem mem_allL {n : Nat} {i : Int} : i ∈ allL n ↔ 0 ≤ i ∧ i < n := by
  unfold allL
  rw [List.mem_map]
  constructor
  · rintro ⟨k, hk, rfl⟩
    have := List.mem_range.1 hk; omega
  · rintro ⟨h0, h1⟩
    exact ⟨i.toNat, List.mem_range.2 (by omega), by omega⟩
theorem allL_nodup (n : Nat) : (allL n).Nodup := by
  unfold allL List.Nodup
  rw [List.pairwise_map]
  exact List.nodup_range.imp fun h e => h (by omega)
def potG (m : Ml) (r : Int → Int) (i : Int) : Int → Int := fun j => if j ≤ i ∨ frmAt m j < 0 then r j else 0
def pot (m : Ml) (r : Int → Int) (i : Int) : Int := sumL (potG m r i) (allL m.lots.length)
structure RealI (m : Ml) (D i : Int) (r : Int → Int) : Prop where
  node : ∀ j : Int, i < j → j < m.lots.length → parts m j ≠ [] → r j = sumL r (parts m j)
  acc : ∀ j : Int, 0 ≤ j → j ≤ i → r j = sumL r ((parts m j).filter fun q => decide (i < q))
  nn : ∀ j : Int, 0 ≤ j → j < m.lots.length → 0 ≤ r j
  lim : pot m r i ≤ D * ((m.lots.length : Int) - 1 - i)
section
variable {m : Ml} {D : Int}
theorem RealI.start (g : Good m) : RealI m D ((m.lots.length : Int) - 1) fun _ => 0 := by
  have z : ∀ l : List Int, sumL (fun _ => (0 : Int)) l = 0 := fun l => by
    induction l with
    | nil => rfl
    | cons a l ih => simp only [sumL, ih]; omega
  refine ⟨fun j h1 h2 => by omega, fun j _ _ => (z _).symm, fun j _ _ => Int.le_refl _, ?_⟩
  have e : pot m (fun _ => 0) ((m.lots.length : Int) - 1) = 0 := by
    unfold pot
    rw [sumL_congr (y := fun _ => 0) fun p _ => by unfold potG; split <;> rfl]
    exact z _
  rw [e]
  have : (m.lots.length : Int) - 1 - ((m.lots.length : Int) - 1) = 0 := by omega
  rw [this]; omega
theorem sumL_filter (x : Int → Int) {i : Int} : ∀ {l : List Int}, l.Nodup → sumL x (l.filter fun q => decide (i - 1 < q)) = sumL x (l.filter fun q => decide (i < q)) + (if i ∈ l then x i else 0)
  | [], _ => by simp [sumL]
  | a :: l, h => by
    rw [List.nodup_cons] at h
    have ih := sumL_filter x (i := i) h.2
    simp only [List.filter_cons, List.mem_cons]
    by_cases e : i = a
    · subst e
      have h1 : decide (i - 1 < i) = true := by rw [decide_eq_true_eq]; omega
      have h2 : decide (i < i) = false := by rw [decide_eq_false_iff_not]; omega
      rw [if_neg h.1] at ih
      simp only [h1, h2, if_true, Bool.false_eq_true, if_false, true_or, sumL, ih]
      omega
    · have h3 : decide (i - 1 < a) = decide (i < a) := by
        by_cases c : i < a
        · rw [decide_eq_true c, decide_eq_true (by omega)]
        · rw [decide_eq_false c, decide_eq_false (by omega)]
      rw [h3]
      simp only [e, false_or]
      by_cases c : i < a
      · simp only [decide_eq_true c, if_true, sumL, ih]; omega
      · simp only [decide_eq_false c, Bool.false_eq_true, if_false, ih]
theorem potG_nn {r : Int → Int} (h : ∀ j : Int, 0 ≤ j → j < m.lots.length → 0 ≤ r j) (i : Int) : ∀ j ∈ allL m.lots.length, 0 ≤ potG m r i j := fun j hj => by
  have := mem_allL.1 hj
  unfold potG; split
  · exact h j this.1 this.2
  · exact Int.le_refl _
theorem sumL_ge' {x : Int → Int} {p : Int} {l : List Int} (h : ∀ p ∈ l, 0 ≤ x p) (hp : p ∈ l) : x p ≤ sumL x l := by
  induction l with
  | nil => simp at hp
  | cons a l ih =>
    have h0 := h a (by simp)
    have h1 := sumL_nonneg (x := x) (l := l) fun p hp => h p (by simp [hp])
    simp only [sumL]
    rcases List.mem_cons.1 hp with rfl | hp
    · omega
    · have := ih (fun p hp => h p (by simp [hp])) hp; omega
theorem RealI.done (g : Good m) {i : Int} {r : Int → Int} (h : RealI m D i r) (i0 : 0 ≤ i) (i1 : i < m.lots.length) {d : Int} (hd : 0 ≤ d ∧ d ≤ D) {r1 : Int → Int} (e1 : r1 = if parts m i = [] then up1 r i d else r) :
    (∀ j : Int, j ≠ i → r1 j = r j) ∧ (∀ j : Int, 0 ≤ j → j < m.lots.length → 0 ≤ r1 j) ∧ (parts m i ≠ [] → r1 i = sumL r1 (parts m i)) ∧ pot m r1 i ≤ D * ((m.lots.length : Int) - i) := by
  have F := forest g
  have hl : D * ((m.lots.length : Int) - i) = D * ((m.lots.length : Int) - 1 - i) + D := by
    rw [show (m.lots.length : Int) - i = ((m.lots.length : Int) - 1 - i) + 1 by omega, Int.mul_add, Int.mul_one]
  have hlim := h.lim
  have hacc := h.acc i i0 (Int.le_refl _)
  by_cases hp : parts m i = []
  · rw [if_pos hp] at e1
    have hz : r i = 0 := by rw [hacc, hp]; rfl
    subst e1
    refine ⟨fun j hj => up1_ne r d hj, fun j j0 j1 => ?_, fun hn => absurd hp hn, ?_⟩
    · by_cases e : j = i
      · subst e; rw [up1_same]; exact hd.1
      · rw [up1_ne r d e]; exact h.nn j j0 j1
    · have e2 : potG m (up1 r i d) i = up1 (potG m r i) i d := by
        funext j
        unfold potG up1
        by_cases e : j = i
        · subst e; simp
        · simp [e]
      unfold pot
      rw [e2, sumL_up1 (allL_nodup _) (mem_allL.2 ⟨i0, i1⟩)]
      have : potG m r i i = 0 := by unfold potG; rw [if_pos (.inl (Int.le_refl _)), hz]
      unfold pot at hlim
      omega
  · rw [if_neg hp] at e1
    subst e1
    refine ⟨fun j _ => rfl, h.nn, fun _ => ?_, by omega⟩
    rw [hacc, List.filter_eq_self.2 fun q hq => ?_]
    obtain ⟨q0, q1, qf⟩ := (F.mem _ _).1 hq
    have := F.lt q q0 q1
    rw [decide_eq_true_eq]; omega
theorem sum_two {x : Int → Int} {a b : Int} {l : List Int} (hn : l.Nodup) (h : ∀ p ∈ l, 0 ≤ x p) (ha : a ∈ l) (hb : b ∈ l) (hab : a ≠ b) : x a + x b ≤ sumL x l := by
  have e := sumL_up1 (x := x) (v := 0) hn ha
  have h2 := sumL_ge' (x := up1 x a 0) (l := l) (fun p hp => by
      by_cases c : p = a
      · subst c; rw [up1_same]; exact Int.le_refl _
      · rw [up1_ne x 0 c]; exact h p hp) hb
  rw [up1_ne x 0 (Ne.symm hab)] at h2
  omega
theorem RealI.push (g : Good m) {i : Int} {r : Int → Int} (h : RealI m D i r) (i0 : 0 ≤ i) (i1 : i < m.lots.length) {d : Int} (hd : 0 ≤ d ∧ d ≤ D) {r1 r2 : Int → Int} (e1 : r1 = if parts m i = [] then up1 r i d else r)
    (e2 : r2 = if frmAt m i = -1 then r1 else up1 r1 (frmAt m i) (r1 (frmAt m i) + r1 i)) : RealI m D (i - 1) r2 ∧ (frmAt m i ≠ -1 → 0 ≤ r1 (frmAt m i) ∧ 0 ≤ r1 i ∧ r1 (frmAt m i) + r1 i ≤ D * ((m.lots.length : Int) - i)) := by
  have F := forest g
  obtain ⟨d1, d2, d3, d4⟩ := h.done g i0 i1 hd e1
  have hf := F.lt i i0 i1
  have hl : (m.lots.length : Int) - 1 - (i - 1) = (m.lots.length : Int) - i := by omega
  have hlow := frmAt_lt g i0 i1
  have acc1 : ∀ j : Int, 0 ≤ j → j ≤ i - 1 → r1 j = sumL r1 ((parts m j).filter fun q => decide (i < q)) := fun j j0 j1 => by
    rw [d1 j (by omega), h.acc j j0 (by omega)]
    refine sumL_congr fun q hq => (d1 q ?_).symm
    have := (List.mem_filter.1 hq).2
    rw [decide_eq_true_eq] at this; omega
  have node1 : ∀ j : Int, i - 1 < j → j < m.lots.length → parts m j ≠ [] → r1 j = sumL r1 (parts m j) := fun j j0 j1 hp => by
    by_cases e : j = i
    · subst e; exact d3 hp
    · rw [d1 j e, h.node j (by omega) j1 hp]
      refine sumL_congr fun q hq => (d1 q ?_).symm
      obtain ⟨q0, q1, qf⟩ := (F.mem _ _).1 hq
      have := F.lt q q0 q1
      omega
  by_cases hr : frmAt m i = -1
  · rw [if_pos hr] at e2
    subst e2
    refine ⟨⟨node1, fun j j0 j1 => ?_, d2, ?_⟩, fun h => absurd hr h⟩
    · rw [sumL_filter r2 (F.nodup j), if_neg fun hm => by
        obtain ⟨_, _, qf⟩ := (F.mem _ _).1 hm
        omega, Int.add_zero]
      exact acc1 j j0 j1
    · rw [hl]
      have e3 : pot m r2 (i - 1) = pot m r2 i := by
        unfold pot
        refine sumL_congr fun j hj => ?_
        unfold potG
        by_cases e : j = i
        · subst e; rw [if_pos (.inr (by omega)), if_pos (.inl (Int.le_refl _))]
        · by_cases c : j ≤ i - 1 ∨ frmAt m j < 0
          · rw [if_pos c, if_pos (by omega)]
          · rw [if_neg c, if_neg (by omega)]
      rw [e3]; exact d4
  · rw [if_neg hr] at e2
    obtain ⟨f, ef⟩ : ∃ f, frmAt m i = f := ⟨_, rfl⟩
    rw [ef] at e2 hf hr hlow
    have f0 : 0 ≤ f := by omega
    have f1 : f < m.lots.length := by omega
    have hin : i ∈ parts m f := (F.mem _ _).2 ⟨i0, i1, ef⟩
    have hsum : r1 f + r1 i ≤ pot m r1 i := by
      have := sum_two (x := potG m r1 i) (a := f) (b := i) (allL_nodup _) (potG_nn d2 i) (mem_allL.2 ⟨f0, f1⟩) (mem_allL.2 ⟨i0, i1⟩) (by omega)
      unfold potG at this
      rw [if_pos (.inl (by omega)), if_pos (.inl (Int.le_refl _))] at this
      exact this
    rw [ef]
    refine ⟨?_, fun _ => ⟨d2 f f0 f1, d2 i i0 i1, by omega⟩⟩
    subst e2
    have oth : ∀ j : Int, j ≠ f → up1 r1 f (r1 f + r1 i) j = r1 j := fun j hj => up1_ne _ _ hj
    refine ⟨fun j j0 j1 hp => ?_, fun j j0 j1 => ?_, fun j j0 j1 => ?_, ?_⟩
    · rw [oth j (by omega), node1 j j0 j1 hp]
      refine sumL_congr fun q hq => (oth q ?_).symm
      obtain ⟨q0, q1, qf⟩ := (F.mem _ _).1 hq
      have := F.lt q q0 q1
      omega
    · have e4 : sumL (up1 r1 f (r1 f + r1 i)) ((parts m j).filter fun q => decide (i - 1 < q)) = sumL r1 ((parts m j).filter fun q => decide (i - 1 < q)) := by
        refine sumL_congr fun q hq => oth q ?_
        have := (List.mem_filter.1 hq).2
        rw [decide_eq_true_eq] at this; omega
      rw [e4, sumL_filter r1 (F.nodup j), ← acc1 j j0 j1]
      by_cases e : j = f
      · subst e; rw [up1_same, if_pos hin]
      · rw [oth j e, if_neg fun hm => by
          obtain ⟨_, _, qf⟩ := (F.mem _ _).1 hm
          omega, Int.add_zero]
    · by_cases e : j = f
      · subst e; rw [up1_same]
        have := d2 j j0 j1
        have := d2 i i0 i1
        omega
      · rw [oth j e]; exact d2 j j0 j1
    · rw [hl]
      have e3 : potG m (up1 r1 f (r1 f + r1 i)) (i - 1) = up1 (up1 (potG m r1 i) f (potG m r1 i f + r1 i)) i 0 := by
        funext j
        unfold potG up1
        by_cases e : j = i
        · subst e
          rw [if_neg (by omega)]; simp
        · by_cases c : j = f
          · subst c; rw [if_pos (.inl (by omega))]; simp [e]; omega
          · simp only [e, c, if_false]
            by_cases k : j ≤ i - 1 ∨ frmAt m j < 0
            · rw [if_pos k, if_pos (by omega)]
            · rw [if_neg k, if_neg (by omega)]
      unfold pot at d4 ⊢
      rw [e3, sumL_up1 (allL_nodup _) (mem_allL.2 ⟨i0, i1⟩), sumL_up1 (allL_nodup _) (mem_allL.2 ⟨f0, f1⟩), up1_ne _ _ (by omega)]
      have : potG m r1 i i = r1 i := by unfold potG; rw [if_pos (.inl (Int.le_refl _))]
      omega
theorem RealI.last (g : Good m) {r : Int → Int} (h : RealI m D (-1) r) (hD : 0 ≤ D) : (∀ j : Int, 0 ≤ j → j < m.lots.length → 0 ≤ r j ∧ r j ≤ 12 * D) ∧ ∀ j : Int, 0 ≤ j → j < m.lots.length → parts m j ≠ [] → r j = sumL r (parts m j) := by
  have F := forest g
  have gl := g.lots
  have hlim := h.lim
  have hl : D * ((m.lots.length : Int) - 1 - -1) ≤ D * 12 := Int.mul_le_mul_of_nonneg_left (by omega) hD
  have hup : ∀ (k : Nat) (j : Int), j < k → 0 ≤ j → j < m.lots.length → r j ≤ 12 * D := by
    intro k
    induction k with
    | zero => intro j h1 h2; omega
    | succ k ih =>
      intro j hj j0 j1
      have hf := F.lt j j0 j1
      by_cases c : frmAt m j < 0
      · have := sumL_ge' (x := potG m r (-1)) (potG_nn h.nn (-1)) (mem_allL.2 ⟨j0, j1⟩)
        unfold potG at this
        rw [if_pos (.inr c)] at this
        unfold pot potG at hlim
        omega
      · have hin : j ∈ parts m (frmAt m j) := (F.mem _ _).2 ⟨j0, j1, rfl⟩
        have h1 := ih (frmAt m j) (by omega) (by omega) (by omega)
        rw [h.node (frmAt m j) (by omega) (by omega) (fun e => by rw [e] at hin; simp at hin)] at h1
        have := sumL_ge' (x := r) (l := parts m (frmAt m j)) (fun q hq => by
          obtain ⟨q0, q1, _⟩ := (F.mem _ _).1 hq
          exact h.nn q q0 q1) hin
        omega
  exact ⟨fun j j0 j1 => ⟨h.nn j j0 j1, hup m.lots.length j j1 j0 j1⟩, fun j j0 j1 hp => h.node j (by omega) j1 hp⟩
end
end Go.Ab.Try
set_option linter.unusedSimpArgs false
set_option linter.unusedVariables false
namespace Go.Ab.Try
open Go.Ab.Silk
def kindAt (m : Ml) (i : Int) : Int := if h : i.toNat < m.lots.length then m.lots[i.toNat].kind else 0
theorem kindAt_at {m : Ml} {i : Nat} (h : i < m.lots.length) : kindAt m (i : Int) = m.lots[i].kind := by unfold kindAt; simp [h]
def chK (m : Ml) (p : Int → Bool) : Int → Bool := fun i => p (kindAt m i)
def shM (m : Ml) (b : Box) (p : Int → Bool) : Box := sh m.lots.length (parts m) b (chK m p)
theorem conB {m : Ml} (g : Good m) {b : Box} (h : ExactM m allC b) (t : Tight m.lots.length (parts m) b) : Con m.lots.length (parts m) b := ⟨fun i _ _ => (h.bd g i).1, t.ne, t.node⟩
theorem conU {m : Ml} (g : Good m) (h : ∃ w, FeasM m allC w) : Con m.lots.length (parts m) (Um m allC) := by
  refine ⟨fun i i0 i1 => (Um_bd g allC i0 i1).1, (agree_iff g).1 h, fun i i0 i1 hp => ?_⟩
  unfold Um
  rw [Uo_node (forest g) (ownB m allC) i0 i1 hp]
  simp only; omega
theorem feasU {m : Ml} (g : Good m) (w : Int → Int) : Feas m.lots.length (parts m) (Um m allC) w ↔ FeasM m allC w := by
  constructor
  · rintro ⟨h1, h2⟩
    refine ⟨fun i i0 i1 => ?_, h2⟩
    have := Uo_own (forest g) (ownB m allC) i0 i1
    have := h1 i i0 i1
    unfold Um at this; omega
  · exact fun f => ⟨fun i i0 i1 => Uo_sound (forest g) f i i0 i1, f.2⟩
theorem feasB {m : Ml} {b : Box} (h : ExactM m allC b) (w : Int → Int) : Feas m.lots.length (parts m) b w ↔ FeasM m allC w := by
  constructor
  · rintro ⟨h1, h2⟩
    refine ⟨fun i i0 i1 => ?_, h2⟩
    have hn := h.1.ne i i0 i1
    obtain ⟨w1, f1, e1⟩ := h.1.full i _ i0 i1 (Int.le_refl _) hn
    obtain ⟨w2, f2, e2⟩ := h.1.full i _ i0 i1 hn (Int.le_refl _)
    have a1 := f1.1 i i0 i1
    have a2 := f2.1 i i0 i1
    have := h1 i i0 i1
    omega
  · exact fun f => ⟨fun i i0 i1 => h.1.sound w f i i0 i1, f.2⟩
theorem sh_same {m : Ml} (g : Good m) {b : Box} (h : ExactM m allC b) (t : Tight m.lots.length (parts m) b) (p : Int → Bool) {i : Int} (i0 : 0 ≤ i) (i1 : i < m.lots.length) (hf : frmAt m i < 0) : shM m b p i = shM m (Um m allC) p i :=
  sh_root_eq (forest g) _ (conB g h t) (conU g (h.feas g)) (fun w => (feasB h w).trans (feasU g w).symm) i0 i1 hf
theorem sum10k : ∀ {x : Int → Int} {l : List Int}, (∀ p ∈ l, 0 ≤ x p ∧ x p ≤ 10000) → (l.length : Int) ≤ 12 → 0 ≤ sumL x l ∧ sumL x l ≤ 120000 := fun {x l} h hl => by
  have e1 : ∀ (l : List Int), sumL (fun _ => (10000 : Int)) l = l.length * 10000 := fun l => by
    induction l with
    | nil => simp [sumL]
    | cons a l ih => simp only [sumL, ih, List.length_cons, Int.natCast_add]; omega
  have a1 := sumL_nonneg (x := x) (l := l) fun p hp => (h p hp).1
  have a2 := sumL_mono (x := x) (y := fun _ => 10000) (l := l) fun p hp => (h p hp).2
  rw [e1] at a2
  omega
set_option maxHeartbeats 2000000 in
theorem shares_ev {m : Ml} (g : Good m) {b : Box} (cb : Con m.lots.length (parts m) b) (hbd : ∀ i : Int, 0 ≤ i → i < m.lots.length → (b i).2 ≤ 10000) {f : V} {p : Int → Bool} {h0 : H} (hf1 : f.one = true) (hf : ∀ a, PureA h0 f [.int .i64 a] (.bool (p a))) :
    ∀ (k : Nat) {h : H} {d : Nat} (lot : Nat), m.lots.length - lot ≤ k → lot < m.lots.length → h0.Sub h → DkAt h d m → ∀ (Q : V → H → Prop),
      (∀ h', h.Sub h' → Q (.tup [.int .i64 (shM m b p (lot : Int)).1, .int .i64 (shM m b p (lot : Int)).2]) h') → Ev fnG fastA (.fn 80 [] []) [.ptr d 0, .agg (encB b), .int .i64 (lot : Int), f] h Q := by
  intro k
  induction k with
  | zero => intro h d lot h1 h2; omega
  | succ k ih =>
    intro h d lot hk hlot h0s hd Q q
    have F := forest g
    have gl := g.lots
    have hw := h0s.wf
    have hd0 := hd
    obtain ⟨pm, l, L, W, g1, g2, aL, aW, ap⟩ := hd
    have hl0 : (0 : Int) ≤ (lot : Int) := by omega
    have hl1 : (lot : Int) < (m.lots.length : Int) := by omega
    have h12 : lot < 12 := by omega
    obtain ⟨n1, n2, n3⟩ := encB_at b h12
    refine Ev_body (fd := c80) rfl rfl rfl ?_
    have s2 : h.Sub (h.add (.cells .rw (encB b))) := (by repeat (first | assumption | exact H.Sub.refl (by assumption) | refine H.Sub.add ?_ _ | refine H.Sub.set ?_ (by first | omega | (simp only [H.next_add, H.next_set, H.next_del] <;> omega)) (by first | omega | (simp only [H.next_add, H.next_set, H.next_del] <;> omega)) (by assumption) _))
    have gb : (h.add (.cells .rw (encB b))).cells h.next = some (encB b) := cells_add_new rfl
    have hSh := sh_eq F b (chK m p) hl0 hl1
    have hsb := cb.sh F (chK m p)
    have hap := (ap (lot : Int)).mono s2
    have hlp := parts_len m (lot : Int)
    have hlenP := hap.lenE
    obtain ⟨ps, eps⟩ : ∃ ps, parts m (lot : Int) = ps := ⟨_, rfl⟩
    obtain ⟨X, eX⟩ : ∃ X, found .nils false (lkA (lot : Int) l) = X := ⟨_, rfl⟩
    rw [eX] at hlenP hap
    rw [eps] at hlp hlenP hap hSh
    have hpsm : ∀ p ∈ ps, 0 ≤ p ∧ p < m.lots.length ∧ (lot : Int) < p := fun p hp => by
      obtain ⟨p0, p1, pf⟩ := (F.mem (lot : Int) p).1 (by rw [eps]; exact hp)
      have := F.lt p p0 p1
      omega
    by_cases hps : ps = []
    · have h00 : (ps.length : Int) = 0 := by rw [hps]; rfl
      rw [if_pos hps] at hSh
      obtain ⟨bb, o, cc, cs, eb, hcs, hq, hgg, hn, hn0⟩ := (aL.mono s2).at hlot
      have hkind := kindAt_at hlot
      simp -implicitDefEqProofs (maxSteps := 999999) (disch := first | with_reducible rfl | omega | (simp only [nA, nS, nD] <;> omega) | fail) only [c80, go_sem, cells_of (s2.get g1), s2.get g2, eX, hlenP, h00, hq (nat_cst lot), hcs, hn 1 (by omega), encL]
      refine ((hf m.lots[lot].kind) _ (h0s.trans s2)).mono fun u h3 hu => ?_
      obtain ⟨rfl, s23⟩ := hu
      have gb3 := s23.cells gb
      have e : chK m p (lot : Int) = p m.lots[lot].kind := by unfold chK; rw [hkind]
      rw [e] at hSh
      have hq1 := q h3 (s2.trans s23)
      unfold shM at hq1
      rw [hSh] at hq1
      cases hp : p m.lots[lot].kind
      · rw [hp] at hq1
        simp -implicitDefEqProofs (maxSteps := 999999) (disch := first | with_reducible rfl | omega | (simp only [nA, nS, nD] <;> omega) | fail) only [go_sem, q_iaa_ptr (nat_cst lot) h12, gb3, n1, n2]
        exact hq1
      · rw [hp] at hq1
        simp -implicitDefEqProofs (maxSteps := 999999) (disch := first | with_reducible rfl | omega | (simp only [nA, nS, nD] <;> omega) | fail) only [go_sem, q_iaa_ptr (nat_cst lot) h12, gb3, n1, n2]
        exact hq1
    · have h00 : ¬ (ps.length : Int) = 0 := by have := List.length_pos_iff.2 hps; omega
      rw [if_neg hps] at hSh
      have bS : ∀ j, (0 ≤ sumL (lo1 (shM m b p)) (ps.take j) ∧ sumL (lo1 (shM m b p)) (ps.take j) ≤ 120000) ∧ (0 ≤ sumL (hi1 (shM m b p)) (ps.take j) ∧ sumL (hi1 (shM m b p)) (ps.take j) ≤ 120000) := fun j => by
        have hb : ∀ q ∈ ps.take j, (0 ≤ (shM m b p q).1 ∧ (shM m b p q).1 ≤ 10000) ∧ (0 ≤ (shM m b p q).2 ∧ (shM m b p q).2 ≤ 10000) := fun q hq => by
          obtain ⟨p0, p1, _⟩ := hpsm q (List.mem_of_mem_take hq)
          have a1 := hsb q p0 p1
          have a2 := cb.ne q p0 p1
          have a3 := hbd q p0 p1
          unfold shM; omega
        have hl : ((ps.take j).length : Int) ≤ 12 := by simp only [List.length_take]; omega
        exact ⟨sum10k (fun q hq => (hb q hq).1) hl, sum10k (fun q hq => (hb q hq).2) hl⟩
      simp -implicitDefEqProofs (maxSteps := 999999) (disch := first | with_reducible rfl | omega | (simp only [nA, nS, nD] <;> omega) | fail) only [c80, go_sem, cells_of (s2.get g1), s2.get g2, eX, hlenP, h00]
      refine W_count ps.length (fun j s => ∃ tm h', s = ⟨tm, h', []⟩ ∧ (h.add (.cells .rw (encB b))).Sub h' ∧ (Opd.t 0).ev tm = .ptr d 0 ∧ (Opd.t 2).ev tm = .int .i64 (lot : Int) ∧ (Opd.t 3).ev tm = f ∧ (Opd.t 5).ev tm = .ptr h.next 0 ∧ (Opd.t 8).ev tm = .int .i64 (sumL (lo1 (shM m b p)) (ps.take j)) ∧
          (Opd.t 9).ev tm = .int .i64 (sumL (hi1 (shM m b p)) (ps.take j)) ∧ (Opd.t 46).ev tm = X ∧ (Opd.t 47).ev tm = .int .i64 (ps.length : Int) ∧ (Opd.t 48).ev tm = .int .i64 (j : Int))
        ?_ ?_ (i := 0) (Nat.zero_le _) ⟨_, _, rfl, H.Sub.refl s2.wf, (by simp [ev_c, ev_put] <;> rfl), (by simp [ev_c, ev_put] <;> rfl), (by simp [ev_c, ev_put] <;> rfl), (by simp [ev_c, ev_put] <;> rfl), (by simp [ev_c, ev_put] <;> rfl), (by simp [ev_c, ev_put] <;> rfl), (by simp [ev_c, ev_put] <;> rfl), (by simp [ev_c, ev_put] <;> rfl), (by simp [ev_c, ev_put] <;> rfl)⟩
      · rintro j s hj ⟨tm, h', rfl, hs, t0, t2, t3, t5, t8, t9, t46, t47, t48⟩
        have hj' : (j : Int) < (ps.length : Int) := by omega
        have hsh := s2.trans hs
        have gb' := hs.cells gb
        obtain ⟨b2, o2, c2, cs2, eb, hcs2, hq2, hgg2, hn2, hn02⟩ := (hap.mono hs).at hj
        subst eb
        obtain ⟨p0, p1, p2⟩ := hpsm _ (List.getElem_mem hj)
        obtain ⟨pp, ep⟩ := Int.eq_ofNat_of_zero_le p0
        have e1 := sum_take (lo1 (shM m b p)) hj
        have e2 := sum_take (hi1 (shM m b p)) hj
        rw [ep] at e1 e2
        have f1 : lo1 (shM m b p) (pp : Int) = (shM m b p (pp : Int)).1 := rfl
        have f2 : hi1 (shM m b p) (pp : Int) = (shM m b p (pp : Int)).2 := rfl
        rw [f1] at e1
        rw [f2] at e2
        have bj := bS j
        have bj1 := bS (j + 1)
        simp -implicitDefEqProofs (maxSteps := 999999) (disch := first | with_reducible rfl | omega | (simp only [nA, nS, nD] <;> omega) | fail) only [go_sem, t0, t2, t3, t5, t8, t9, t46, t47, t48, hj', hq2 (nat_cst j), hcs2, hn02 (by omega), encI, ep, gb', ld_B]
        refine ih pp (by omega) (by omega) (h0s.trans hsh) (hd0.mono hsh) _ fun h5 s45 => ?_
        simp -implicitDefEqProofs (maxSteps := 999999) (disch := first | with_reducible rfl | omega | (simp only [nA, nS, nD] <;> omega) | fail) only [go_sem, t0, t2, t3, t5, t8, t9, t46, t47, t48, wr_in, wr_succ]
        exact ⟨_, _, rfl, hs.trans s45, (by simp [ev_c, ev_put, t0] <;> rfl), (by simp [ev_c, ev_put, t2] <;> rfl), (by simp [ev_c, ev_put, t3] <;> rfl), (by simp [ev_c, ev_put, t5] <;> rfl), by rw [e1]; exact (by simp [ev_c, ev_put] <;> rfl), by rw [e2]; exact (by simp [ev_c, ev_put] <;> rfl), (by simp [ev_c, ev_put, t46] <;> rfl), (by simp [ev_c, ev_put, t47] <;> rfl), (by simp [ev_c, ev_put] <;> rfl)⟩
      · rintro s ⟨tm, h', rfl, hs, t0, t2, t3, t5, t8, t9, t46, t47, t48⟩
        rw [List.take_length] at t8 t9
        have gb' := hs.cells gb
        have bl := bS ps.length
        rw [List.take_length] at bl
        have bb0 := cb.nn _ hl0 hl1
        have bb1 := cb.ne _ hl0 hl1
        have bb2 := hbd _ hl0 hl1
        have hSh' : shM m b p (lot : Int) = (max (sumL (lo1 (shM m b p)) ps) ((b (lot : Int)).1 - sumL (hi1 (shM m b p)) ps), min (sumL (hi1 (shM m b p)) ps) ((b (lot : Int)).2 - sumL (lo1 (shM m b p)) ps)) := hSh
        simp -implicitDefEqProofs (maxSteps := 999999) (disch := first | with_reducible rfl | omega | (simp only [nA, nS, nD] <;> omega) | fail) only [go_sem, t0, t2, t3, t5, t8, t9, t46, t47, t48, Int.lt_irrefl, q_iaa_ptr (nat_cst lot) h12, gb', n1, n2, wr_in]
        refine least_use (l := [(b (lot : Int)).2 - sumL (lo1 (shM m b p)) ps]) (SlAt.new _ rfl (by rfl) (by rfl) (by simp [encI]) (by simp)) ?_
        have s6 : h'.Sub (h'.add (.cells .rw [.int .i64 ((b (lot : Int)).2 - sumL (lo1 (shM m b p)) ps)])) := (H.Sub.refl (H.Sub.wf hs)).add _
        simp -implicitDefEqProofs (maxSteps := 999999) (disch := first | with_reducible rfl | omega | (simp only [nA, nS, nD] <;> omega) | fail) only [go_sem, List.foldl, gb', n1, n2, s6.cells gb']
        have hq1 := q _ ((s2.trans hs).trans s6)
        rw [hSh'] at hq1
        exact hq1
end Go.Ab.Try
set_option linter.unusedSimpArgs false
set_option linter.unusedVariables false
namespace Go.Ab.Try
open Go.Ab.Silk
def tab (f : Int → Int) (n : Nat) : List V := (List.range n).map fun (i : Nat) => iv (f (i : Int))
def fset (f : Int → Int) (i x : Int) : Int → Int := fun k => if k = i then x else f k
theorem tab_len (f : Int → Int) (n : Nat) : (tab f n).length = n := by simp [tab]
theorem tab_nth (f : Int → Int) {n i : Nat} (h : i < n) : nth i (tab f n) = some (.int .i64 (f (i : Int))) := by
  rw [nth_get, List.getElem?_eq_getElem (by rw [tab_len]; exact h)]
  simp [tab, iv]
theorem ints_put : ∀ (l : List Int) (i : Nat) (x : Int), i < l.length → putN i [.int .i64 x] (l.map iv) = some ((l.set i x).map iv)
  | [], i, b, h => by simp at h
  | a :: l, 0, b, _ => by simp [putN_0, over_s, over_0, consV_some, iv]
  | a :: l, i + 1, b, h => by
    have ih := ints_put l i b (by simpa using h)
    simp only [List.map_cons, putN_s, ih, consV_some, List.set_cons_succ]
theorem tab_put (f : Int → Int) {n i : Nat} (h : i < n) (x : Int) : putN i [.int .i64 x] (tab f n) = some (tab (fset f (i : Int) x) n) := by
  have e : ∀ g : Int → Int, tab g n = ((List.range n).map fun (i : Nat) => g (i : Int)).map iv := fun g => by simp [tab]
  rw [e, e, ints_put _ _ _ (by simpa using h)]
  congr 2
  refine List.ext_getElem (by simp) fun k h1 h2 => ?_
  rw [List.getElem_set]
  simp only [List.getElem_map, List.getElem_range, fset]
  by_cases c : i = k
  · subst c; simp
  · rw [if_neg c, if_neg (by omega)]
theorem tab_congr {f g : Int → Int} {n : Nat} (h : ∀ k : Int, 0 ≤ k → k < n → f k = g k) : tab f n = tab g n := by
  unfold tab
  refine List.map_congr_left fun i hi => ?_
  have : i < n := List.mem_range.1 hi
  rw [h (i : Int) (by omega) (by omega)]
theorem tab_zero : ∀ n : Nat, repN n [V.int .i64 0] = tab (fun _ => 0) n := fun n => by
  have : ∀ n, repN n [V.int .i64 0] = List.replicate n (iv 0) := fun n => by
    induction n with
    | zero => rfl
    | succ n ih => rw [repN, appN_eq, ih]; rfl
  rw [this]
  refine List.ext_getElem (by simp [tab]) fun k h1 h2 => ?_
  simp [tab]
def pK (kind : Int) : Int → Bool := fun k => decide (k = kind)
def nK (kind : Int) : Int → Bool := fun k => decide (k ≠ kind)
def Ua (m : Ml) : Box := Um m allC
def sK (m : Ml) (kind : Int) : Box := shM m (Ua m) (pK kind)
def sN (m : Ml) (kind : Int) : Box := shM m (Ua m) (nK kind)
section
variable {m : Ml} {kind : Int}
theorem sK_quad (g : Good m) (h : ∃ w, FeasM m allC w) {i : Int} (i0 : 0 ≤ i) (i1 : i < m.lots.length) : Quad (sK m kind i).1 (sK m kind i).2 (Ua m i).1 (Ua m i).2 := (conU g h).quad (forest g) _ i0 i1
theorem sN_quad (g : Good m) (h : ∃ w, FeasM m allC w) {i : Int} (i0 : 0 ≤ i) (i1 : i < m.lots.length) : Quad (sN m kind i).1 (sN m kind i).2 (Ua m i).1 (Ua m i).2 := (conU g h).quad (forest g) _ i0 i1
end
end Go.Ab.Try
set_option linter.unusedSimpArgs false
set_option linter.unusedVariables false
namespace Go.Ab
theorem Keeps.new {S : Nat → Prop} {h h' : H} (hw : h.wf) (k : Keeps (fun c => S c ∨ h.next ≤ c) h h') : Keeps S h h' := ⟨k.1, fun c y e n => k.2 c y e fun hs => hs.elim n fun hge => by have := hw c y e; omega⟩
namespace Try
open Go.Ab.Silk
theorem whole_iff {m : Ml} {lot : Int} : (m.lots.any fun l => decide (l.frm = lot)) = !decide (parts m lot = []) := by
  have e : (∃ a ∈ m.lots, a.frm = lot) ↔ ¬ parts m lot = [] := by
    constructor
    · rintro ⟨a, ha, e⟩ h
      obtain ⟨j, hj, rfl⟩ := List.getElem_of_mem ha
      have : ((j : Nat) : Int) ∈ parts m lot := mem_partsL.2 ⟨j, hj, by simp, e⟩
      rw [h] at this; simp at this
    · intro h
      obtain ⟨p, hp⟩ := List.exists_mem_of_ne_nil _ h
      obtain ⟨j, hj, _, e⟩ := mem_partsL.1 hp
      exact ⟨_, List.getElem_mem hj, e⟩
  rw [Bool.eq_iff_iff, List.any_eq_true]
  simp only [decide_eq_true_eq, Bool.not_eq_true', decide_eq_false_iff_not]
  exact e
theorem tab_at2 {n i : Nat} (h : i < n) (f : Int → Int) : nth i (tab f n) = some (.int .i64 (f (i : Int))) := tab_nth f h
theorem tab_st2 {n i : Nat} (h : i < n) (f : Int → Int) (x : Int) : putN i [.int .i64 x] (tab f n) = some (tab (fset f (i : Int) x) n) := tab_put f h x
theorem whole_ev {h : H} {v : V} {m : Ml} (hw : h.wf) (hm : MlIs h v m) (lot : Int) (Q : V → H → Prop) (q : ∀ h', h.Sub h' → Q (.bool (decide (parts m lot = []))) h') : Ev fnG fastA (.fn 40 [] []) [v, .int .i64 lot] h Q := by
  obtain ⟨L, W, rfl, aL, aW⟩ := hm
  refine Ev_body (fd := c40) rfl rfl rfl ?_
  have s1 : h.Sub ((h.add (.cells .rw [.int .i64 m.errs, L, W])).add (.cells .rw [.int .i64 lot])) := (by repeat (first | assumption | exact H.Sub.refl (by assumption) | refine H.Sub.add ?_ _ | refine H.Sub.set ?_ (by first | omega | (simp only [H.next_add, H.next_set, H.next_del] <;> omega)) (by first | omega | (simp only [H.next_add, H.next_set, H.next_del] <;> omega)) (by assumption) _))
  simp -implicitDefEqProofs (maxSteps := 999999) (disch := first | with_reducible rfl | omega | (simp only [nA, nS, nD] <;> omega) | fail) only [c40, go_sem]
  have e1 : ((h.add (.cells .rw [.int .i64 m.errs, L, W])).add (.cells .rw [.int .i64 lot])).cells (h.next + 1) = some [.int .i64 lot] := by simp -implicitDefEqProofs (maxSteps := 999999) (disch := first | with_reducible rfl | omega | (simp only [nA, nS, nD] <;> omega) | fail) only [go_sem]
  refine (containsFuncLot_ev (p := fun l : Lt => decide (l.frm = lot)) s1.wf (aL.mono s1) fun a _ h1 hs1 => ?_).mono fun u h2 hu => ?_
  · have e2 := hs1.cells e1
    obtain ⟨_, b2⟩ := H.cells_eq e2
    have l2 := hs1.wf _ _ b2
    refine Ev.gen fun Q2 q2 => ?_
    refine Ev_body (fd := c100) rfl rfl rfl ?_
    simp -implicitDefEqProofs (maxSteps := 999999) (disch := first | with_reducible rfl | omega | (simp only [nA, nS, nD] <;> omega) | fail) only [c100, go_sem, encL, e2]
    exact q2 _ _ ⟨rfl, (H.Sub.refl hs1.wf).add _⟩
  · obtain ⟨rfl, s2⟩ := hu
    simp -implicitDefEqProofs (maxSteps := 999999) (disch := first | with_reducible rfl | omega | (simp only [nA, nS, nD] <;> omega) | fail) only [go_sem]
    have := q h2 (s1.trans s2)
    rw [whole_iff, Bool.not_not]; exact this
theorem spGet {h : H} {p : Nat} {x : V} {T : Int} (a : SpAt h p x T) : h.get p = some (.cells .rw [x, .int .i64 T, .int .u64 (Classical.choose a)]) := Classical.choose_spec a
set_option maxRecDepth 4000 in
set_option maxHeartbeats 4000000 in
theorem Made_ev {h0 h : H} {p : Nat} {x : V} {bs : List Int} {T : Int} (hs : h0.Sub h) (hw0 : h0.wf) (hx : SlAt h0 x 1 (bs.map encU8)) (hp0 : h0.next ≤ p) (hp : SpAt h p x T) (hT : 0 ≤ T ∧ T ≤ 1000000) {lots drams : Int} (hlots : 1 ≤ lots ∧ lots ≤ 12) (hdr : 0 ≤ drams ∧ drams ≤ 300) (Q : V → H → Prop)
    (q : ∀ e l r L b h' T', (0 ≤ e ∧ e ≤ 5) → (1 ≤ l.length ∧ (l.length : Int) ≤ lots) → LotsOk l → RealI ⟨e, l, []⟩ drams (-1) r → h0.Sub h' → SpAt h' p x T' → (0 ≤ T' ∧ T' ≤ T + 100) → Keeps (fun c => c = p) h h' → SlAt h' L 2 (l.map encL) → L.one = true → (∀ c, blkOf L c → c ≠ p ∧ h.next ≤ c) → h.next ≤ b → h'.get b = some (.cells .rw (tab r l.length)) →
      Q (.tup [.agg [.int .i64 e, L, .nils], .sl b 0 l.length (.fix l.length)]) h') : Ev fnG fastA (.fn 33 [] []) [.ptr p 0, .int .i64 lots, .int .i64 drams] h Q := by
  have hw := hs.wf
  have hlp := hw _ _ (spGet hp)
  refine Ev_body (fd := c33) rfl rfl rfl ?_
  have sA := (H.Sub.refl hw).add (.cells .rw [.int .i64 0, .nils, .nils])
  have gA : (h.add (.cells .rw [.int .i64 0, .nils, .nils])).get h.next = some (.cells .rw [.int .i64 0, .nils, .nils]) := get_add_new rfl
  simp -implicitDefEqProofs (maxSteps := 999999) (disch := first | with_reducible rfl | omega | (simp only [nA, nS, nD] <;> omega) | fail) only [c33, go_sem]
  refine Upto_ev (hs.trans sA) hw0 hx hp0 (hp.mono sA) (by omega) (by omega) _ fun e h1 e0 e1 s1 p1 k1 n1 => ?_
  have g1 := k1.2 _ _ gA (by omega)
  rw [H.next_add] at n1
  have sB := (H.Sub.refl s1.wf).add (.cells .rw [.int .i64 e, .nils, .nils])
  have hB : (h1.add (.cells .rw [.int .i64 e, .nils, .nils])).get (h.next + 1) = some (.cells .rw [.int .i64 e, .nils, .nils]) := get_add_new n1.symm
  simp -implicitDefEqProofs (maxSteps := 999999) (disch := first | with_reducible rfl | omega | (simp only [nA, nS, nD] <;> omega) | fail) only [go_sem, n1]
  refine From_ev (s1.trans sB) hw0 hx hp0 (p1.mono sB) (by omega) (by omega) (by omega) _ fun N h2 N0 N1 s2 p2 k2 n2 => ?_
  have g2 := k2.2 _ _ (sB.get g1) (by omega)
  have g82 := k2.2 _ _ hB (by omega)
  rw [H.next_add, n1] at n2
  obtain ⟨Nn, rfl⟩ := Int.eq_ofNat_of_zero_le (show 0 ≤ N by omega)
  have K2 : Keeps (fun c => c = p ∨ h.next ≤ c) h h2 := by
    refine ((((Keeps.of sA (fun _ => False)).trans k1).trans (Keeps.of sB (fun _ => False))).trans k2).mono ?_
    rintro c (((h | h) | h) | h)
    · exact h.elim
    · exact .inl h
    · exact h.elim
    · exact .inl h
  simp -implicitDefEqProofs (maxSteps := 999999) (disch := first | with_reducible rfl | omega | (simp only [nA, nS, nD] <;> omega) | fail) only [go_sem]
  refine W_count Nn (fun i s => ∃ tm h' L l T', s = ⟨tm, h', []⟩ ∧ h0.Sub h' ∧ OwnSl h0 h' L 2 (l.map encL) ∧ l.length = i ∧ LotsOk l ∧ SpAt h' p x T' ∧ 0 ≤ T' ∧ T' ≤ T + 2 + 3 * (i : Int) ∧ Keeps (fun c => c = p ∨ h.next ≤ c) h h' ∧ h.next + 1 < h'.next ∧ h'.get h.next = some (.cells .rw [.int .i64 0, .nils, .nils]) ∧ h'.get (h.next + 1) = some (.cells .rw [.int .i64 e, L, .nils]) ∧ (∀ b, blkOf L b → h.next ≤ b) ∧
      (Opd.t 0).ev tm = .ptr p 0 ∧ (Opd.t 2).ev tm = .int .i64 drams ∧ (Opd.t 6).ev tm = .ptr h.next 0 ∧ (Opd.t 8).ev tm = .ptr (h.next + 1) 0 ∧ (Opd.t 19).ev tm = .int .i64 (Nn : Int) ∧ (Opd.t 20).ev tm = .int .i64 (i : Int))
    ?_ ?_ (i := 0) (Nat.zero_le _) ⟨_, _, .nils, [], T + 1 + 1, rfl, s2, OwnSl.nil s2 2, rfl, LotsOk.nil, p2, by omega, by omega, K2, by omega, g2, g82, fun b hb => (blkOf_nils hb).elim, (by simp [ev_c, ev_put] <;> rfl), (by simp [ev_c, ev_put] <;> rfl), (by simp [ev_c, ev_put] <;> rfl), (by simp [ev_c, ev_put] <;> rfl), (by simp [ev_c, ev_put] <;> rfl), (by simp [ev_c, ev_put] <;> rfl)⟩
  · rintro i s hi ⟨tm, hH, L, l, T', rfl, sH, oLH, hli, hlo, pH, T0, T1, KH, lt, g6H, g8H, oLN, t0, t2, t6, t8, t19, t20⟩
    have hi' : (i : Int) < (Nn : Int) := by omega
    by_cases hi0 : 0 < (i : Int)
    · simp -implicitDefEqProofs (maxSteps := 999999) (disch := first | with_reducible rfl | omega | (simp only [nA, nS, nD] <;> omega) | fail) only [go_sem, t0, t2, t6, t8, t19, t20, hi', hi0]
      refine Once_ev sH hw0 hx hp0 pH (by omega) (by omega) _ fun t h1' s1' p1' k1' n1' => ?_
      have oL1' := oLH.keep k1' s1' fun b hb e => (oLH.ne (spGet pH)) (e ▸ hb)
      have g81' := k1'.2 _ _ g8H (by omega)
      have g61' := k1'.2 _ _ g6H (by omega)
      have K1' : Keeps (fun c => c = p ∨ h.next ≤ c) h h1' := (KH.trans k1').mono fun c hc => hc.elim id .inl
      clear pH oLH g8H g6H KH sH s1
      cases t
      · simp -implicitDefEqProofs (maxSteps := 999999) (disch := first | with_reducible rfl | omega | (simp only [nA, nS, nD] <;> omega) | fail) only [go_sem, t0, t2, t6, t8, t19, t20, Bool.not_false, wr_in]
        refine From_ev s1' hw0 hx hp0 p1' (by omega) (by omega) (by omega) _ fun f h2' f0 f1 sH pH k2' n2' => ?_
        have oLH := oL1'.keep k2' sH fun b hb e => (oL1'.ne (spGet p1')) (e ▸ hb)
        have g8H := k2'.2 _ _ g81' (by omega)
        have g6H := k2'.2 _ _ g61' (by omega)
        have KH : Keeps (fun c => c = p ∨ h.next ≤ c) h h2' := (K1'.trans k2').mono fun c hc => hc.elim id .inl
        simp -implicitDefEqProofs (maxSteps := 999999) (disch := first | with_reducible rfl | omega | (simp only [nA, nS, nD] <;> omega) | fail) only [go_sem, t0, t2, t6, t8, t19, t20, cells_of g8H]
        refine Upto_ev sH hw0 hx hp0 pH (by omega) (by omega) _ fun kd h3 kd0 kd1 s3 p3 k3 n3 => ?_
        have oL3 := oLH.keep k3 s3 fun b hb e => (oLH.ne (spGet pH)) (e ▸ hb)
        have g83 := k3.2 _ _ g8H (by omega)
        have g63 := k3.2 _ _ g6H (by omega)
        have L1 := OwnC.one oL3.c
        have sA := (H.Sub.refl s3.wf).add (.cells .rw [.int .i64 f, .int .i64 kd])
        have hll : (l.map Go.Ab.Try.encL).length ≤ 12 := by simp only [List.length_map]; omega
        simp -implicitDefEqProofs (maxSteps := 999999) (disch := first | with_reducible rfl | omega | (simp only [nA, nS, nD] <;> omega) | fail) only [go_sem, t0, t2, t6, t8, t19, t20, cells_of g8H, cells_of g83]
        refine (oL3.mono sA).app1 (r := [.int .i64 f, .int .i64 kd]) hw0 rfl (by omega) (SlAt.new _ rfl rfl rfl (by simp) (by simp)) rfl (by omega) (by omega) fun h4 o4 k4 n4 => ?_
        have g84 := k4.2 _ _ (sA.get g83) ((oL3.mono sA).ne (sA.get g83))
        have g64 := k4.2 _ _ (sA.get g63) ((oL3.mono sA).ne (sA.get g63))
        have p4 : SpAt h4 p x ((T' + 1 + 1) + 1) := (p3.mono sA).keep k4 ((oL3.mono sA).ne (spGet (p3.mono sA)))
        have l4 := k4.1
        simp only [H.next_add] at n4 o4 l4
        have z84 := cells_of g84
        have K4 : Keeps (fun c => c = p ∨ h.next ≤ c) h h4 := by
          refine (((KH.trans k3).trans (Keeps.of sA (fun _ => False))).trans k4).mono ?_
          rintro c (((h | h) | h) | h)
          · exact h
          · exact .inl h
          · exact h.elim
          · exact .inr (by have := (oLH.blk h).1; exact oLN c h)
        simp -implicitDefEqProofs (maxSteps := 999999) (disch := first | with_reducible rfl | omega | (simp only [nA, nS, nD] <;> omega) | fail) only [go_sem, t0, t2, t6, t8, t19, t20, cells_of g8H, cells_of g83, (sA.cells (cells_of g83)), z84, g84, V.one, V.cells, wr_succ]
        refine ⟨_, _, _, l ++ [⟨f, kd⟩], (T' + 1 + 1) + 1, rfl, o4.1.set (by omega) (by omega) hw0 _, ?_, by simp [hli], hlo.snoc ⟨by omega, by omega⟩ ⟨by omega, by omega⟩, p4.keep (Keeps.set _ _ _) (by omega), by omega, by omega, (K4.trans (Keeps.set _ _ _)).mono ?_, by simp only [H.next_set]; omega, by rw [get_set_other (by omega)]; exact g64, get_set_same rfl, ?_, (by simp [ev_c, ev_put, t0] <;> rfl), (by simp [ev_c, ev_put, t2] <;> rfl), (by simp [ev_c, ev_put, t6] <;> rfl), (by simp [ev_c, ev_put, t8] <;> rfl), (by simp [ev_c, ev_put, t19] <;> rfl), (by simp [ev_c, ev_put] <;> rfl)⟩
        · rw [List.map_append]
          exact o4.keep (Keeps.set h4 (h.next + 1) _) (o4.1.set (by omega) (by omega) hw0 _) fun b hb e => (o4.ne g84) (e ▸ hb)
        · rintro c (h | h)
          · exact h
          · exact .inr (by omega)
        · rintro b ⟨_, _, _, e⟩; cases e; omega
      · have sH := s1'
        have pH := p1'
        have oLH := oL1'
        have g8H := g81'
        have g6H := g61'
        have KH := K1'
        simp -implicitDefEqProofs (maxSteps := 999999) (disch := first | with_reducible rfl | omega | (simp only [nA, nS, nD] <;> omega) | fail) only [go_sem, t0, t2, t6, t8, t19, t20, Bool.not_true, cells_of g8H]
        refine Upto_ev sH hw0 hx hp0 pH (by omega) (by omega) _ fun kd h3 kd0 kd1 s3 p3 k3 n3 => ?_
        have oL3 := oLH.keep k3 s3 fun b hb e => (oLH.ne (spGet pH)) (e ▸ hb)
        have g83 := k3.2 _ _ g8H (by omega)
        have g63 := k3.2 _ _ g6H (by omega)
        have L1 := OwnC.one oL3.c
        have sA := (H.Sub.refl s3.wf).add (.cells .rw [.int .i64 (-1), .int .i64 kd])
        have hll : (l.map Go.Ab.Try.encL).length ≤ 12 := by simp only [List.length_map]; omega
        simp -implicitDefEqProofs (maxSteps := 999999) (disch := first | with_reducible rfl | omega | (simp only [nA, nS, nD] <;> omega) | fail) only [go_sem, t0, t2, t6, t8, t19, t20, cells_of g8H, cells_of g83]
        refine (oL3.mono sA).app1 (r := [.int .i64 (-1), .int .i64 kd]) hw0 rfl (by omega) (SlAt.new _ rfl rfl rfl (by simp) (by simp)) rfl (by omega) (by omega) fun h4 o4 k4 n4 => ?_
        have g84 := k4.2 _ _ (sA.get g83) ((oL3.mono sA).ne (sA.get g83))
        have g64 := k4.2 _ _ (sA.get g63) ((oL3.mono sA).ne (sA.get g63))
        have p4 : SpAt h4 p x ((T' + 1) + 1) := (p3.mono sA).keep k4 ((oL3.mono sA).ne (spGet (p3.mono sA)))
        have l4 := k4.1
        simp only [H.next_add] at n4 o4 l4
        have z84 := cells_of g84
        have K4 : Keeps (fun c => c = p ∨ h.next ≤ c) h h4 := by
          refine (((KH.trans k3).trans (Keeps.of sA (fun _ => False))).trans k4).mono ?_
          rintro c (((h | h) | h) | h)
          · exact h
          · exact .inl h
          · exact h.elim
          · exact .inr (by have := (oLH.blk h).1; exact oLN c h)
        simp -implicitDefEqProofs (maxSteps := 999999) (disch := first | with_reducible rfl | omega | (simp only [nA, nS, nD] <;> omega) | fail) only [go_sem, t0, t2, t6, t8, t19, t20, cells_of g8H, cells_of g83, (sA.cells (cells_of g83)), z84, g84, V.one, V.cells, wr_succ]
        refine ⟨_, _, _, l ++ [⟨(-1), kd⟩], (T' + 1) + 1, rfl, o4.1.set (by omega) (by omega) hw0 _, ?_, by simp [hli], hlo.snoc ⟨by omega, by omega⟩ ⟨by omega, by omega⟩, p4.keep (Keeps.set _ _ _) (by omega), by omega, by omega, (K4.trans (Keeps.set _ _ _)).mono ?_, by simp only [H.next_set]; omega, by rw [get_set_other (by omega)]; exact g64, get_set_same rfl, ?_, (by simp [ev_c, ev_put, t0] <;> rfl), (by simp [ev_c, ev_put, t2] <;> rfl), (by simp [ev_c, ev_put, t6] <;> rfl), (by simp [ev_c, ev_put, t8] <;> rfl), (by simp [ev_c, ev_put, t19] <;> rfl), (by simp [ev_c, ev_put] <;> rfl)⟩
        · rw [List.map_append]
          exact o4.keep (Keeps.set h4 (h.next + 1) _) (o4.1.set (by omega) (by omega) hw0 _) fun b hb e => (o4.ne g84) (e ▸ hb)
        · rintro c (h | h)
          · exact h
          · exact .inr (by omega)
        · rintro b ⟨_, _, _, e⟩; cases e; omega
    · simp -implicitDefEqProofs (maxSteps := 999999) (disch := first | with_reducible rfl | omega | (simp only [nA, nS, nD] <;> omega) | fail) only [go_sem, t0, t2, t6, t8, t19, t20, hi', hi0, cells_of g8H]
      refine Upto_ev sH hw0 hx hp0 pH (by omega) (by omega) _ fun kd h3 kd0 kd1 s3 p3 k3 n3 => ?_
      have oL3 := oLH.keep k3 s3 fun b hb e => (oLH.ne (spGet pH)) (e ▸ hb)
      have g83 := k3.2 _ _ g8H (by omega)
      have g63 := k3.2 _ _ g6H (by omega)
      have L1 := OwnC.one oL3.c
      have sA := (H.Sub.refl s3.wf).add (.cells .rw [.int .i64 (-1), .int .i64 kd])
      have hll : (l.map Go.Ab.Try.encL).length ≤ 12 := by simp only [List.length_map]; omega
      simp -implicitDefEqProofs (maxSteps := 999999) (disch := first | with_reducible rfl | omega | (simp only [nA, nS, nD] <;> omega) | fail) only [go_sem, t0, t2, t6, t8, t19, t20, cells_of g8H, cells_of g83]
      refine (oL3.mono sA).app1 (r := [.int .i64 (-1), .int .i64 kd]) hw0 rfl (by omega) (SlAt.new _ rfl rfl rfl (by simp) (by simp)) rfl (by omega) (by omega) fun h4 o4 k4 n4 => ?_
      have g84 := k4.2 _ _ (sA.get g83) ((oL3.mono sA).ne (sA.get g83))
      have g64 := k4.2 _ _ (sA.get g63) ((oL3.mono sA).ne (sA.get g63))
      have p4 : SpAt h4 p x (T' + 1) := (p3.mono sA).keep k4 ((oL3.mono sA).ne (spGet (p3.mono sA)))
      have l4 := k4.1
      simp only [H.next_add] at n4 o4 l4
      have z84 := cells_of g84
      have K4 : Keeps (fun c => c = p ∨ h.next ≤ c) h h4 := by
        refine (((KH.trans k3).trans (Keeps.of sA (fun _ => False))).trans k4).mono ?_
        rintro c (((h | h) | h) | h)
        · exact h
        · exact .inl h
        · exact h.elim
        · exact .inr (by have := (oLH.blk h).1; exact oLN c h)
      simp -implicitDefEqProofs (maxSteps := 999999) (disch := first | with_reducible rfl | omega | (simp only [nA, nS, nD] <;> omega) | fail) only [go_sem, t0, t2, t6, t8, t19, t20, cells_of g8H, cells_of g83, (sA.cells (cells_of g83)), z84, g84, V.one, V.cells, wr_succ]
      refine ⟨_, _, _, l ++ [⟨(-1), kd⟩], T' + 1, rfl, o4.1.set (by omega) (by omega) hw0 _, ?_, by simp [hli], hlo.snoc ⟨by omega, by omega⟩ ⟨by omega, by omega⟩, p4.keep (Keeps.set _ _ _) (by omega), by omega, by omega, (K4.trans (Keeps.set _ _ _)).mono ?_, by simp only [H.next_set]; omega, by rw [get_set_other (by omega)]; exact g64, get_set_same rfl, ?_, (by simp [ev_c, ev_put, t0] <;> rfl), (by simp [ev_c, ev_put, t2] <;> rfl), (by simp [ev_c, ev_put, t6] <;> rfl), (by simp [ev_c, ev_put, t8] <;> rfl), (by simp [ev_c, ev_put, t19] <;> rfl), (by simp [ev_c, ev_put] <;> rfl)⟩
      · rw [List.map_append]
        exact o4.keep (Keeps.set h4 (h.next + 1) _) (o4.1.set (by omega) (by omega) hw0 _) fun b hb e => (o4.ne g84) (e ▸ hb)
      · rintro c (h | h)
        · exact h
        · exact .inr (by omega)
      · rintro b ⟨_, _, _, e⟩; cases e; omega
  · rintro s ⟨tm, hH, L, l, T', rfl, sH, oLH, hli, hlo, pH, T0, T1, KH, lt, g6H, g8H, oLN, t0, t2, t6, t8, t19, t20⟩
    subst hli
    have hN : l.length ≤ 12 := by omega
    have L1 := OwnC.one oLH.c
    have aLH := oLH.sl (by simp only [List.length_map]; omega)
    have hlenL := aLH.lenE
    obtain ⟨m, em⟩ : ∃ m : Ml, m = ⟨e, l, []⟩ := ⟨_, rfl⟩
    have em1 : m.lots = l := by rw [em]
    have em2 : m.wgs = [] := by rw [em]
    have em3 : m.errs = e := by rw [em]
    have g : Good m := by rw [em]; exact good_made (by omega) (by omega) hlo
    have F := forest g
    have nLp : ∀ b, blkOf L b → b ≠ p := fun b hb e => (oLH.ne (spGet pH)) (e ▸ hb)
    have nLR : ∀ b, blkOf L b → b < hH.next := fun b hb => (oLH.blk hb).2.1
    have nLt : ∀ b, blkOf L b → b ≠ h.next + 1 ∧ b ≠ h.next := fun b hb => ⟨fun e => (oLH.ne g8H) (e ▸ hb), fun e => (oLH.ne g6H) (e ▸ hb)⟩
    have hz := tab_zero l.length
    have sR := (H.Sub.refl sH.wf).add (.cells .rw (tab (fun _ => 0) l.length))
    have gR : (hH.add (.cells .rw (tab (fun _ => 0) l.length))).get hH.next = some (.cells .rw (tab (fun _ => 0) l.length)) := get_add_new rfl
    have lR : (hH.add (.cells .rw (tab (fun _ => 0) l.length))).next = hH.next + 1 := H.next_add _ _
    simp -implicitDefEqProofs (maxSteps := 999999) (disch := first | with_reducible rfl | omega | (simp only [nA, nS, nD] <;> omega) | fail) only [go_sem, t0, t2, t6, t8, t19, t20, Int.lt_irrefl, cells_of g8H, hlenL, a_msl_nm, hz]
    generalize hH.add (.cells .rw (tab (fun _ => 0) l.length)) = hR at sR gR lR ⊢
    have g8R := sR.get g8H
    have KR : Keeps (fun c => c = p ∨ h.next ≤ c) h hR := (KH.trans (Keeps.of sR (fun _ => False))).mono fun c hc => hc.elim id False.elim
    simp -implicitDefEqProofs (maxSteps := 999999) (disch := first | with_reducible rfl | omega | (simp only [nA, nS, nD] <;> omega) | fail) only [go_sem, t0, t2, t6, t8, cells_of g8R, hlenL, wr_in]
    refine W_loop (fun k s => ∃ (tm : Go.Ab.T V) (h' : H) (i : Int) (r : Int → Int) (T' : Int), s = ⟨tm, h', []⟩ ∧ -1 ≤ i ∧ i < (l.length : Int) ∧ (k : Int) = i + 1 ∧ RealI m drams i r ∧ h0.Sub h' ∧ SlAt h' L 2 (l.map encL) ∧ SpAt h' p x T' ∧ 0 ≤ T' ∧ T' ≤ T + 2 + 3 * (l.length : Int) + ((l.length : Int) - 1 - i) ∧ Keeps (fun c => c = p ∨ h.next ≤ c) h h' ∧ hH.next < h'.next ∧
        h'.get h.next = some (.cells .rw [.int .i64 0, .nils, .nils]) ∧ h'.get (h.next + 1) = some (.cells .rw [.int .i64 e, L, .nils]) ∧ h'.get hH.next = some (.cells .rw (tab r l.length)) ∧
        (Opd.t 0).ev tm = .ptr p 0 ∧ (Opd.t 2).ev tm = .int .i64 drams ∧ (Opd.t 6).ev tm = .ptr h.next 0 ∧ (Opd.t 8).ev tm = .ptr (h.next + 1) 0 ∧ (Opd.t 11).ev tm = .sl hH.next 0 l.length (.fix l.length) ∧ (Opd.t 12).ev tm = .int .i64 i)
      ?_ l.length _ ⟨_, _, (l.length : Int) - 1, fun _ => 0, T', rfl, by omega, by omega, by omega, by have := RealI.start (D := drams) g; rw [em1] at this; exact this, sH.trans sR, aLH.mono sR, pH.mono sR, T0, by omega, KR, by omega, sR.get g6H, g8R, gR, (by simp [ev_c, ev_put, t0] <;> rfl), (by simp [ev_c, ev_put, t2] <;> rfl), (by simp [ev_c, ev_put, t6] <;> rfl), (by simp [ev_c, ev_put, t8] <;> rfl), (by simp [ev_c, ev_put] <;> rfl), (by simp [ev_c, ev_put] <;> rfl)⟩
    clear t0 t2 t6 t8 t19 t20 gR g8R sR lR KR pH oLH
    rintro k s ⟨tm, h', i, r, T2, rfl, i0, i1, hk, hI, s', aL', p', T20, T21, K', lt', g6', g8', gR', t0, t2, t6, t8, t11, t12⟩
    by_cases hi0 : 0 ≤ i
    · obtain ⟨ii, rfl⟩ := Int.eq_ofNat_of_zero_le hi0
      have hii : ii < l.length := by omega
      have hiim : ii < m.lots.length := by rw [em1]; exact hii
      have hi1m : (ii : Int) < m.lots.length := by omega
      have hmI : ∀ hh : H, SlAt hh L 2 (l.map encL) → MlIs hh (.agg [.int .i64 e, L, .nils]) m := fun hh a => ⟨L, .nils, by rw [em3], by rw [em1]; exact a, by rw [em2]; exact ⟨by simp, by simp, .inl ⟨rfl, rfl⟩⟩⟩
      obtain ⟨J, hJ⟩ : ∃ J : St → Prop, ∀ s, J s ↔ ∃ tm h2 r1 d T3, s = ⟨tm, h2, []⟩ ∧ (0 ≤ d ∧ d ≤ drams) ∧ r1 = (if parts m (ii : Int) = [] then up1 r (ii : Int) d else r) ∧ h0.Sub h2 ∧ SlAt h2 L 2 (l.map encL) ∧ SpAt h2 p x T3 ∧ 0 ≤ T3 ∧ T3 ≤ T2 + 1 ∧ Keeps (fun c => c = p ∨ h.next ≤ c) h h2 ∧ hH.next < h2.next ∧
          h2.get h.next = some (.cells .rw [.int .i64 0, .nils, .nils]) ∧ h2.get (h.next + 1) = some (.cells .rw [.int .i64 e, L, .nils]) ∧ h2.get hH.next = some (.cells .rw (tab r1 l.length)) ∧
          (Opd.t 0).ev tm = .ptr p 0 ∧ (Opd.t 2).ev tm = .int .i64 drams ∧ (Opd.t 6).ev tm = .ptr h.next 0 ∧ (Opd.t 8).ev tm = .ptr (h.next + 1) 0 ∧ (Opd.t 11).ev tm = .sl hH.next 0 l.length (.fix l.length) ∧ (Opd.t 12).ev tm = .int .i64 (ii : Int) := ⟨_, fun _ => Iff.rfl⟩
      simp -implicitDefEqProofs (maxSteps := 999999) (disch := first | with_reducible rfl | omega | (simp only [nA, nS, nD] <;> omega) | fail) only [go_sem, t0, t2, t6, t8, t11, t12, hi0, cells_of g8']
      refine whole_ev s'.wf (hmI _ aL') (ii : Int) _ fun h2 s2' => ?_
      have K2' : Keeps (fun c => c = p ∨ h.next ≤ c) h h2 := (K'.trans (Keeps.of s2' (fun _ => False))).mono fun c hc => hc.elim id False.elim
      have l2' := s2'.next
      simp -implicitDefEqProofs (maxSteps := 999999) (disch := first | with_reducible rfl | omega | (simp only [nA, nS, nD] <;> omega) | fail) only [go_sem]
      refine PB_cut (p := parts m (ii : Int) = []) J ?_ ?_ ?_
      · intro hp
        simp -implicitDefEqProofs (maxSteps := 999999) (disch := first | with_reducible rfl | omega | (simp only [nA, nS, nD] <;> omega) | fail) only [go_sem, t0, t2, t6, t8, t11, t12]
        refine Upto_ev (s'.trans s2') hw0 hx hp0 (p'.mono s2') (by omega) (by omega) _ fun d h3 d0 d1 s3 p3 k3 n3 => ?_
        have g63 := k3.2 _ _ (s2'.get g6') (by omega)
        have g83 := k3.2 _ _ (s2'.get g8') (by omega)
        have gR3 := k3.2 _ _ (s2'.get gR') (by have := KH.1; omega)
        have a3 := SlAt_keep (aL'.mono s2') k3 fun b hb e => nLp b hb e
        simp -implicitDefEqProofs (maxSteps := 999999) (disch := first | with_reducible rfl | omega | (simp only [nA, nS, nD] <;> omega) | fail) only [go_sem, t0, t2, t6, t8, t11, t12, q_iad_sl (nat_cst ii) hii, Nat.mul_one, gR3, tab_st2 hii]
        have K3 : Keeps (fun c => c = p ∨ h.next ≤ c) h (h3.set hH.next (.cells .rw (tab (fset r (ii : Int) d) l.length))) := ((K2'.trans k3).trans (Keeps.set _ _ _)).mono (by
          rintro c ((h | h) | h)
          · exact h
          · exact .inl h
          · exact .inr (by have := KH.1; omega))
        have hb0 : h0.next ≤ hH.next := by have := hs.next; have := KH.1; omega
        exact ⟨rfl, (hJ _).2 ⟨_, _, fset r (ii : Int) d, d, T2 + 1, rfl, ⟨d0, by omega⟩, by rw [if_pos hp]; rfl, s3.set hb0 (by omega) hw0 _, SlAt_keep a3 (Keeps.set _ _ _) fun b hb e => by have := nLR b hb; omega, p3.keep (Keeps.set _ _ _) (by have := KH.1; omega), by omega, by omega, K3, by rw [H.next_set]; omega,
          by rw [get_set_other (by omega)]; exact g63, by rw [get_set_other (by omega)]; exact g83, get_set_same rfl, (by simp [ev_c, ev_put, t0] <;> rfl), (by simp [ev_c, ev_put, t2] <;> rfl), (by simp [ev_c, ev_put, t6] <;> rfl), (by simp [ev_c, ev_put, t8] <;> rfl), (by simp [ev_c, ev_put, t11] <;> rfl), (by simp [ev_c, ev_put, t12] <;> rfl)⟩⟩
      · intro hp
        simp -implicitDefEqProofs (maxSteps := 999999) (disch := first | with_reducible rfl | omega | (simp only [nA, nS, nD] <;> omega) | fail) only [go_sem]
        exact ⟨rfl, (hJ _).2 ⟨_, _, r, 0, T2, rfl, ⟨by omega, by omega⟩, by rw [if_neg hp], s'.trans s2', aL'.mono s2', p'.mono s2', T20, by omega, K2', by omega, s2'.get g6', s2'.get g8', s2'.get gR', (by simp [ev_c, ev_put, t0] <;> rfl), (by simp [ev_c, ev_put, t2] <;> rfl), (by simp [ev_c, ev_put, t6] <;> rfl), (by simp [ev_c, ev_put, t8] <;> rfl), (by simp [ev_c, ev_put, t11] <;> rfl), (by simp [ev_c, ev_put, t12] <;> rfl)⟩⟩
      · clear t0 t2 t6 t8 t11 t12 g6' g8' gR' aL' p' s2' K2' l2' K' lt' s'
        intro s hs2
        obtain ⟨tm, h2, r1, d, T3, rfl, hd, e1, s2, a2, p2', T30, T31, K2', lt2, g62, g82', gR2, t0, t2, t6, t8, t11, t12⟩ := (hJ s).1 hs2
        have hf : frmAt m (ii : Int) = l[ii].frm := by rw [frmAt_nat hiim]; simp only [em1]
        obtain ⟨b3, o3, c3, cs3, e3, hcs3, hq3, hgg3, hn3, hn03⟩ := a2.at hii
        have hlow := frmAt_lt g hi0 hi1m
        have hpush := hI.push g hi0 hi1m hd e1 (r2 := if frmAt m (ii : Int) = -1 then r1 else up1 r1 (frmAt m (ii : Int)) (r1 (frmAt m (ii : Int)) + r1 (ii : Int))) rfl
        obtain ⟨hI2, hbd⟩ := hpush
        rw [em1] at hbd
        have hD : drams * ((l.length : Int) - (ii : Int)) ≤ 300 * 12 := Int.le_trans (Int.mul_le_mul_of_nonneg_right hdr.2 (by omega)) (by omega)
        rw [hf] at hI2 hbd hlow
        by_cases hr : l[ii].frm = -1
        · rw [if_pos hr] at hI2
          simp -implicitDefEqProofs (maxSteps := 999999) (disch := first | with_reducible rfl | omega | (simp only [nA, nS, nD] <;> omega) | fail) only [go_sem, t0, t2, t6, t8, t11, t12, cells_of g82', hq3 (nat_cst ii), hcs3, hn03 (by omega), encL, hr, ne_eq, not_true_eq_false, wr_in]
          exact ⟨ii, by omega, _, _, (ii : Int) - 1, r1, T3, rfl, by omega, by omega, by omega, hI2, s2, a2, p2', T30, by omega, K2', lt2, g62, g82', gR2, (by simp [ev_c, ev_put, t0] <;> rfl), (by simp [ev_c, ev_put, t2] <;> rfl), (by simp [ev_c, ev_put, t6] <;> rfl), (by simp [ev_c, ev_put, t8] <;> rfl), (by simp [ev_c, ev_put, t11] <;> rfl), (by simp [ev_c, ev_put] <;> rfl)⟩
        · rw [if_neg hr] at hI2
          have hbd2 := hbd hr
          obtain ⟨ff, ef⟩ := Int.eq_ofNat_of_zero_le (show 0 ≤ l[ii].frm by omega)
          rw [ef] at hI2 hbd2 hlow
          have hff : ff < l.length := by omega
          have hr' : ¬ (ff : Int) = -1 := by omega
          simp -implicitDefEqProofs (maxSteps := 999999) (disch := first | with_reducible rfl | omega | (simp only [nA, nS, nD] <;> omega) | fail) only [go_sem, t0, t2, t6, t8, t11, t12, cells_of g82', hq3 (nat_cst ii), hcs3, hn03 (by omega), encL, ef, hr', ne_eq, not_false_eq_true, q_iad_sl (nat_cst ii) hii, q_iad_sl (nat_cst ff) hff, Nat.mul_one, cells_of gR2, gR2, tab_at2 hii, tab_at2 hff, tab_st2 hff, wr_in]
          have hb0 : h0.next ≤ hH.next := by have := hs.next; have := KH.1; omega
          have K3 : Keeps (fun c => c = p ∨ h.next ≤ c) h (h2.set hH.next (.cells .rw (tab (fset r1 (ff : Int) (r1 (ff : Int) + r1 (ii : Int))) l.length))) := (K2'.trans (Keeps.set _ _ _)).mono (by
            rintro c (h | h)
            · exact h
            · exact .inr (by have := KH.1; omega))
          exact ⟨ii, by omega, _, _, (ii : Int) - 1, fset r1 (ff : Int) (r1 (ff : Int) + r1 (ii : Int)), T3, rfl, by omega, by omega, by omega, hI2, s2.set hb0 (by omega) hw0 _, SlAt_keep a2 (Keeps.set _ _ _) fun b hb e => by have := nLR b hb; omega, p2'.keep (Keeps.set _ _ _) (by have := KH.1; omega), T30, by omega, K3, by rw [H.next_set]; omega,
            by rw [get_set_other (by omega)]; exact g62, by rw [get_set_other (by omega)]; exact g82', get_set_same rfl, (by simp [ev_c, ev_put, t0] <;> rfl), (by simp [ev_c, ev_put, t2] <;> rfl), (by simp [ev_c, ev_put, t6] <;> rfl), (by simp [ev_c, ev_put, t8] <;> rfl), (by simp [ev_c, ev_put, t11] <;> rfl), (by simp [ev_c, ev_put] <;> rfl)⟩
    · have hi1' : i = -1 := by omega
      subst hi1'
      have hn1 : ¬ (0 : Int) ≤ -1 := by omega
      simp -implicitDefEqProofs (maxSteps := 999999) (disch := first | with_reducible rfl | omega | (simp only [nA, nS, nD] <;> omega) | fail) only [go_sem, t0, t2, t6, t8, t11, t12, hn1, cells_of g8', g6', L1, cells_one L1]
      have hb0 : h0.next ≤ h.next := hs.next
      have K3 : Keeps (fun c => c = p) h (h'.set h.next (.cells .rw [.int .i64 e, L, .nils])) := Keeps.new hw ((K'.trans (Keeps.set _ _ _)).mono (by
        rintro c (h | h)
        · exact h
        · exact .inr (by omega)))
      exact q e l r L hH.next _ T2 ⟨e0, by omega⟩ ⟨by omega, by omega⟩ hlo (by rw [← em]; exact hI) (s'.set hb0 (by omega) hw0 _) (p'.keep (Keeps.set _ _ _) (by omega)) ⟨T20, by omega⟩ K3 (SlAt_keep aL' (Keeps.set _ _ _) fun b hb e => (nLt b hb).2 e) L1 (fun c hc => ⟨nLp c hc, oLN c hc⟩) (by have := KH.1; omega) (by rw [get_set_other (by omega)]; exact gR')
end Try
end Go.Ab
set_option linter.unusedSimpArgs false
set_option linter.unusedVariables false
namespace Go.Ab.Try
open Go.Ab.Silk
set_option maxHeartbeats 1000000 in
theorem Read_ev {h0 h : H} {p : Nat} {x L W : V} {bs : List Int} {T e : Int} (hs : h0.Sub h) (hw0 : h0.wf) (hx : SlAt h0 x 1 (bs.map encU8)) (hp0 : h0.next ≤ p) (hp : SpAt h p x T) (hT : 0 ≤ T ∧ T ≤ 1000000) (hL : L.one = true) (hW : W.one = true) (he : 0 ≤ e ∧ e ≤ 50) (lot : Int) {dry : Int} (hd : 0 ≤ dry ∧ dry ≤ 100000) (Q : V → H → Prop)
    (q : ∀ (w : Wg) h', w.lot = lot → (0 ≤ w.reads ∧ w.reads ≤ 10000) → (0 ≤ w.lo ∧ w.lo ≤ w.hi ∧ w.hi ≤ 60) → h0.Sub h' → SpAt h' p x (T + 4) → Keeps (fun c => c = p) h h' → Q (.agg (encW w)) h') : Ev fnG fastA (.fn 51 [] []) [.ptr p 0, .agg [.int .i64 e, L, W], .int .i64 lot, .int .i64 dry] h Q := by
  have hw := hs.wf
  have hlp := hw _ _ (spGet hp)
  refine Ev_body (fd := c51) rfl rfl rfl ?_
  have sA := ((H.Sub.refl hw).add (.cells .rw [.int .i64 e, L, W])).add (.cells .rw [.int .i64 0, .int .i64 0, .int .i64 0, .int .i64 0])
  have gm : ((h.add (.cells .rw [.int .i64 e, L, W])).add (.cells .rw [.int .i64 0, .int .i64 0, .int .i64 0, .int .i64 0])).get h.next = some (.cells .rw [.int .i64 e, L, W]) := by simp -implicitDefEqProofs (maxSteps := 999999) (disch := first | with_reducible rfl | omega | (simp only [nA, nS, nD] <;> omega) | fail) only [go_sem]
  have gr : ((h.add (.cells .rw [.int .i64 e, L, W])).add (.cells .rw [.int .i64 0, .int .i64 0, .int .i64 0, .int .i64 0])).get (h.next + 1) = some (.cells .rw [.int .i64 0, .int .i64 0, .int .i64 0, .int .i64 0]) := by simp -implicitDefEqProofs (maxSteps := 999999) (disch := first | with_reducible rfl | omega | (simp only [nA, nS, nD] <;> omega) | fail) only [go_sem]
  have lA : ((h.add (.cells .rw [.int .i64 e, L, W])).add (.cells .rw [.int .i64 0, .int .i64 0, .int .i64 0, .int .i64 0])).next = h.next + 2 := by simp only [H.next_add]
  simp -implicitDefEqProofs (maxSteps := 999999) (disch := first | with_reducible rfl | omega | (simp only [nA, nS, nD] <;> omega) | fail) only [c51, go_sem, hL, hW, cells_one hL, cells_one hW]
  generalize ((h.add (.cells .rw [.int .i64 e, L, W])).add (.cells .rw [.int .i64 0, .int .i64 0, .int .i64 0, .int .i64 0])) = hA at sA gm gr lA ⊢
  have KA : Keeps (fun c => c = p ∨ h.next ≤ c) h hA := (Keeps.of sA (fun _ => False)).mono fun c hc => hc.elim
  refine Upto_ev (hs.trans sA) hw0 hx hp0 (hp.mono sA) (by omega) (by omega) _ fun lo h1 lo0 lo1 s1 p1 k1 n1 => ?_
  simp -implicitDefEqProofs (maxSteps := 999999) (disch := first | with_reducible rfl | omega | (simp only [nA, nS, nD] <;> omega) | fail) only [go_sem, wr_in]
  refine From_ev s1 hw0 hx hp0 p1 (by omega) (by omega) (by omega) _ fun hi h2 hi0 hi1 s2 p2 k2 n2 => ?_
  simp -implicitDefEqProofs (maxSteps := 999999) (disch := first | with_reducible rfl | omega | (simp only [nA, nS, nD] <;> omega) | fail) only [go_sem, wr_in]
  refine From_ev s2 hw0 hx hp0 p2 (by omega) (by omega) (by omega) _ fun re h3 re0 re1 s3 p3 k3 n3 => ?_
  have k13 := (k1.trans k2).trans k3
  have gm3 := k13.2 _ _ gm (by omega)
  have hmul : 0 ≤ dry * (100 + re) ∧ dry * (100 + re) ≤ 100000 * 160 := ⟨Int.mul_nonneg hd.1 (by omega), by
    have h1 : dry * (100 + re) ≤ 100000 * (100 + re) := Int.mul_le_mul_of_nonneg_right hd.2 (by omega)
    have h2 : (100000 : Int) * (100 + re) ≤ 100000 * 160 := Int.mul_le_mul_of_nonneg_left (by omega) (by omega)
    omega⟩
  have hq := tdiv_le (a := dry * (100 + re) + 50) (b := 100) (by omega) (by omega)
  have n100 : (100 : Int) ≠ 0 := by omega
  simp -implicitDefEqProofs (maxSteps := 999999) (disch := first | with_reducible rfl | omega | (simp only [nA, nS, nD] <;> omega) | fail) only [go_sem, wr_in, q_ar_quo .i64 n100, cells_of gm3]
  refine From_ev s3 hw0 hx hp0 p3 (by omega) (by omega) (by omega) _ fun er h4 er0 er1 s4 p4 k4 n4 => ?_
  have k14 := k13.trans k4
  have gr4 := k14.2 _ _ gr (by omega)
  simp -implicitDefEqProofs (maxSteps := 999999) (disch := first | with_reducible rfl | omega | (simp only [nA, nS, nD] <;> omega) | fail) only [go_sem, wr_in, gr4]
  have K5 : Keeps (fun c => c = p) h (h4.set (h.next + 1) (.cells .rw [.int .i64 lot, .int .i64 (min 10000 (max 0 ((dry * (100 + re) + 50).tdiv 100 + er))), .int .i64 lo, .int .i64 hi])) := Keeps.new hw (((KA.trans k14).trans (Keeps.set _ _ _)).mono (by
    rintro c ((h | (((h | h) | h) | h)) | h)
    · exact h
    · exact .inl h
    · exact .inl h
    · exact .inl h
    · exact .inl h
    · exact .inr (by omega)))
  have hb0 := hs.next
  have hp4 : SpAt h4 p x (T + 4) := by
    have e4 : T + 1 + 1 + 1 + 1 = T + 4 := by omega
    rw [← e4]; exact p4
  exact q ⟨lot, _, lo, hi⟩ _ rfl ⟨by simp only; omega, by simp only; omega⟩ ⟨by simp only; omega, by simp only; omega, by simp only; omega⟩ (s4.set (by omega) (by have := k14.1; omega) hw0 _) (hp4.keep (Keeps.set _ _ _) (by omega)) K5
def WgsOk (n : Nat) (e : Int) (r : Int → Int) (l : List Wg) : Prop := ∀ w ∈ l, (0 ≤ w.lot ∧ w.lot < n) ∧ (0 ≤ w.reads ∧ w.reads ≤ 10000) ∧ (0 ≤ w.lo ∧ w.lo ≤ w.hi ∧ w.hi ≤ 60) ∧ rightM e w (r w.lot) = true
structure RealM (m : Ml) (r : Int → Int) (D : Int) : Prop where
  good : Good m
  feas : FeasM m allC r
  lim : ∀ j : Int, 0 ≤ j → j < m.lots.length → 0 ≤ r j ∧ r j ≤ D
theorem realM_of {e D : Int} {l : List Lt} {wg : List Wg} {r : Int → Int} (he : 0 ≤ e ∧ e ≤ 50) (h1 : 1 ≤ l.length ∧ l.length ≤ 12) (hl : LotsOk l) (hD : 0 ≤ D ∧ D ≤ 300) (hr : RealI ⟨e, l, []⟩ D (-1) r) (hw : WgsOk l.length e r wg) (hn : wg.length ≤ 10) : RealM ⟨e, l, wg⟩ r 3600 := by
  have g0 := good_made he h1 hl
  obtain ⟨a1, a2⟩ := hr.last g0 hD.1
  have g : Good ⟨e, l, wg⟩ := ⟨h1, hn, he, fun w hm => by obtain ⟨_, b, c, _⟩ := hw w hm; exact ⟨b, ⟨c.1, by omega⟩, ⟨by omega, c.2.2⟩⟩, g0.kind, g0.frm, fun w hm => by obtain ⟨b, _⟩ := hw w hm; exact ⟨b.1, by have := b.2; simp only; omega⟩, fun w hm => (hw w hm).2.2.1.2.1⟩
  have bd : ∀ j : Int, 0 ≤ j → j < (l.length : Int) → 0 ≤ r j ∧ r j ≤ 3600 := fun j j0 j1 => by
    have := a1 j j0 j1; omega
  refine ⟨g, ⟨(own_iff g).2 ⟨fun i i0 i1 => by have := bd i i0 i1; omega, fun k hk _ => ?_⟩, fun i i0 i1 hp => a2 i i0 i1 hp⟩, bd⟩
  have hk' : k < wg.length := hk
  show sayLo ⟨e, l, wg⟩ wg[k] ≤ r wg[k].lot ∧ r wg[k].lot ≤ sayHi ⟨e, l, wg⟩ wg[k]
  obtain ⟨b1, b2, b3, b4⟩ := hw _ (List.getElem_mem hk')
  have := bd _ b1.1 b1.2
  have e5 := right_iff (m := ⟨e, l, wg⟩) (w := wg[k]) (k := r wg[k].lot) b3.1 (by omega) (by simp only; omega) (by omega)
  rw [show (Ml.mk e l wg).errs = e from rfl, b4] at e5
  exact of_decide_eq_true e5.symm
set_option maxRecDepth 4000 in
set_option maxHeartbeats 4000000 in
theorem Weighed_ev {h0 h : H} {p b : Nat} {x L : V} {bs : List Int} {T e : Int} {l : List Lt} {r : Int → Int} (hs : h0.Sub h) (hw0 : h0.wf) (hx : SlAt h0 x 1 (bs.map encU8)) (hp0 : h0.next ≤ p) (hp : SpAt h p x T) (hT : 0 ≤ T ∧ T ≤ 100000) (hl1 : L.one = true) (aL : SlAt h L 2 (l.map encL)) (hll : 1 ≤ l.length ∧ l.length ≤ 12) (he : 0 ≤ e ∧ e ≤ 50)
    (hbp : b ≠ p) (hLp : ∀ c, blkOf L c → c ≠ p) (hb : h.get b = some (.cells .rw (tab r l.length))) (hr : ∀ j : Int, 0 ≤ j → j < l.length → 0 ≤ r j ∧ r j ≤ 100000) {most : Int} (hm : 0 ≤ most ∧ most ≤ 100) (Q : V → H → Prop)
    (q : ∀ wg W h' T', WgsOk l.length e r wg → wg.length ≤ 10 ∧ (wg.length : Int) ≤ most → OwnSl h0 h' W 4 (wg.map encW) → (∀ c, blkOf W c → h.next ≤ c) → SpAt h' p x T' → (0 ≤ T' ∧ T' ≤ T + 600) → Keeps (fun c => c = p) h h' → Q (.agg [.int .i64 e, L, W]) h') :
    Ev fnG fastA (.fn 34 [] []) [.ptr p 0, .agg [.int .i64 e, L, .nils], .sl b 0 l.length (.fix l.length), .int .i64 most] h Q := by
  have hw := hs.wf
  have hlp := hw _ _ (spGet hp)
  have hlb := hw _ _ hb
  have hlenL := aL.lenE
  refine Ev_body (fd := c34) rfl rfl rfl ?_
  have sA := ((H.Sub.refl hw).add (.cells .rw [.int .i64 e, L, .nils])).add (.cells .rw [.int .i64 0, .nils, .nils])
  have gm : ((h.add (.cells .rw [.int .i64 e, L, .nils])).add (.cells .rw [.int .i64 0, .nils, .nils])).get h.next = some (.cells .rw [.int .i64 e, L, .nils]) := by simp -implicitDefEqProofs (maxSteps := 999999) (disch := first | with_reducible rfl | omega | (simp only [nA, nS, nD] <;> omega) | fail) only [go_sem]
  have gr : ((h.add (.cells .rw [.int .i64 e, L, .nils])).add (.cells .rw [.int .i64 0, .nils, .nils])).get (h.next + 1) = some (.cells .rw [.int .i64 0, .nils, .nils]) := by simp -implicitDefEqProofs (maxSteps := 999999) (disch := first | with_reducible rfl | omega | (simp only [nA, nS, nD] <;> omega) | fail) only [go_sem]
  have lA : ((h.add (.cells .rw [.int .i64 e, L, .nils])).add (.cells .rw [.int .i64 0, .nils, .nils])).next = h.next + 2 := by simp only [H.next_add]
  simp -implicitDefEqProofs (maxSteps := 999999) (disch := first | with_reducible rfl | omega | (simp only [nA, nS, nD] <;> omega) | fail) only [c34, go_sem, hl1, cells_one hl1]
  generalize ((h.add (.cells .rw [.int .i64 e, L, .nils])).add (.cells .rw [.int .i64 0, .nils, .nils])) = hA at sA gm gr lA ⊢
  have KA : Keeps (fun c => c = p ∨ h.next ≤ c) h hA := (Keeps.of sA (fun _ => False)).mono fun c hc => hc.elim
  refine Upto_ev (hs.trans sA) hw0 hx hp0 (hp.mono sA) (by omega) (by omega) _ fun N h1 N0 N1 s1 p1 k1 n1 => ?_
  obtain ⟨Nn, rfl⟩ := Int.eq_ofNat_of_zero_le N0
  have gm1 := k1.2 _ _ gm (by omega)
  have gr1 := k1.2 _ _ gr (by omega)
  have gb1 := k1.2 _ _ (sA.get hb) (by omega)
  have K1 : Keeps (fun c => c = p ∨ h.next ≤ c) h h1 := (KA.trans k1).mono fun c hc => hc.elim id .inl
  simp -implicitDefEqProofs (maxSteps := 999999) (disch := first | with_reducible rfl | omega | (simp only [nA, nS, nD] <;> omega) | fail) only [go_sem]
  refine W_count Nn (fun i s => ∃ (tm : Go.Ab.T V) (h' : H) (W : V) (wg : List Wg) (T' : Int), s = ⟨tm, h', []⟩ ∧ h0.Sub h' ∧ OwnSl h0 h' W 4 (wg.map encW) ∧ (∀ c, blkOf W c → h.next + 2 ≤ c) ∧ WgsOk l.length e r wg ∧ (wg.length ≤ 10 ∧ wg.length ≤ i) ∧ SpAt h' p x T' ∧ 0 ≤ T' ∧ T' ≤ T + 1 + 5 * (i : Int) ∧ Keeps (fun c => c = p ∨ h.next ≤ c) h h' ∧ h.next + 1 < h'.next ∧
      h'.get h.next = some (.cells .rw [.int .i64 e, L, W]) ∧ h'.get (h.next + 1) = some (.cells .rw [.int .i64 0, .nils, .nils]) ∧
      (Opd.t 0).ev tm = .ptr p 0 ∧ (Opd.t 2).ev tm = .sl b 0 l.length (.fix l.length) ∧ (Opd.t 5).ev tm = .ptr h.next 0 ∧ (Opd.t 8).ev tm = .ptr (h.next + 1) 0 ∧ (Opd.t 13).ev tm = .int .i64 (Nn : Int) ∧ (Opd.t 14).ev tm = .int .i64 (i : Int))
    ?_ ?_ (i := 0) (Nat.zero_le _) ⟨_, _, .nils, [], T + 1, rfl, s1, OwnSl.nil s1 4, fun c hc => (blkOf_nils hc).elim, fun w hw => by simp at hw, ⟨by simp, by simp⟩, p1, by omega, by omega, K1, by omega, gm1, gr1, (by simp [ev_c, ev_put] <;> rfl), (by simp [ev_c, ev_put] <;> rfl), (by simp [ev_c, ev_put] <;> rfl), (by simp [ev_c, ev_put] <;> rfl), (by simp [ev_c, ev_put] <;> rfl), (by simp [ev_c, ev_put] <;> rfl)⟩
  · rintro i s hi ⟨tm, h', W, wg, T', rfl, s', oW, nW, hok, hlen, p', T0, T1, K', lt, gm', gr', t0, t2, t5, t8, t13, t14⟩
    have hi' : (i : Int) < (Nn : Int) := by omega
    have W1 := OwnC.one oW.c
    simp -implicitDefEqProofs (maxSteps := 999999) (disch := first | with_reducible rfl | omega | (simp only [nA, nS, nD] <;> omega) | fail) only [go_sem, t0, t2, t5, t8, t13, t14, hi', cells_of gm', hlenL, wr_in]
    refine Upto_ev s' hw0 hx hp0 p' (by omega) (by omega) _ fun lt0 h2 a0 a1 s2 p2 k2 n2 => ?_
    obtain ⟨ln, rfl⟩ := Int.eq_ofNat_of_zero_le a0
    have hln : ln < l.length := by omega
    have gb2 := k2.2 _ _ (K'.2 _ _ hb (by omega)) (by omega)
    have gm2 := k2.2 _ _ gm' (by omega)
    have gr2 := k2.2 _ _ gr' (by omega)
    have oW2 := oW.keep k2 s2 fun c hc e => (oW.ne (spGet p')) (e ▸ hc)
    have hrl := hr (ln : Int) (by omega) (by omega)
    simp -implicitDefEqProofs (maxSteps := 999999) (disch := first | with_reducible rfl | omega | (simp only [nA, nS, nD] <;> omega) | fail) only [go_sem, t0, t2, t5, t8, t13, t14, cells_of gm2, q_iad_sl (nat_cst ln) hln, Nat.mul_one, cells_of gb2, tab_at2 hln]
    refine Read_ev s2 hw0 hx hp0 p2 (by omega) hl1 W1 he (ln : Int) hrl _ fun w h3 wl wr' wd s3 p3 k3 => ?_
    have gb3 := k3.2 _ _ gb2 (by omega)
    have gm3 := k3.2 _ _ gm2 (by omega)
    have gr3 := k3.2 _ _ gr2 (by omega)
    have oW3 := oW2.keep k3 s3 fun c hc e => (oW2.ne (spGet p2)) (e ▸ hc)
    have l3 := k3.1
    have sB := (H.Sub.refl s3.wf).add (.cells .rw [.int .i64 w.lot, .int .i64 w.reads, .int .i64 w.lo, .int .i64 w.hi])
    have gB : (h3.add (.cells .rw [.int .i64 w.lot, .int .i64 w.reads, .int .i64 w.lo, .int .i64 w.hi])).get h3.next = some (.cells .rw [.int .i64 w.lot, .int .i64 w.reads, .int .i64 w.lo, .int .i64 w.hi]) := get_add_new rfl
    have lB : (h3.add (.cells .rw [.int .i64 w.lot, .int .i64 w.reads, .int .i64 w.lo, .int .i64 w.hi])).next = h3.next + 1 := H.next_add _ _
    have hlt0 := lt
    have oWB := oW3.mono sB
    have pB := p3.mono sB
    have gbB := sB.get gb3
    have gmB := sB.get gm3
    have grB := sB.get gr3
    have KB : Keeps (fun c => c = p ∨ h.next ≤ c) h (h3.add (.cells .rw [.int .i64 w.lot, .int .i64 w.reads, .int .i64 w.lo, .int .i64 w.hi])) := (((K'.trans k2).trans k3).trans (Keeps.of sB (fun _ => False))).mono (by
      rintro c (((h | h) | h) | h)
      · exact h
      · exact .inl h
      · exact .inl h
      · exact h.elim)
    simp -implicitDefEqProofs (maxSteps := 999999) (disch := first | with_reducible rfl | omega | (simp only [nA, nS, nD] <;> omega) | fail) only [go_sem, t0, t2, t5, t8, t13, t14, cells_of gm2, cells_of gb2, encW]
    generalize h3.add (.cells .rw [.int .i64 w.lot, .int .i64 w.reads, .int .i64 w.lo, .int .i64 w.hi]) = h4 at sB gB lB oWB pB gbB gmB grB KB ⊢
    have w4 := H.Sub.wf sB
    have s4 := s3.trans sB
    have hrt := right_ev (h := h4) (L := L) (W := W) (e := e) (w := w) (n := r (ln : Int)) (by omega) (by omega) (by omega) (by omega) (by omega)
    simp only [encW] at hrt
    have s45 : h4.Sub ((h4.add (.cells .rw [.int .i64 e, L, W])).add (.cells .rw [.int .i64 w.lot, .int .i64 w.reads, .int .i64 w.lo, .int .i64 w.hi])) := ((H.Sub.refl w4).add _).add _
    have l45 := s45.next
    simp -implicitDefEqProofs (maxSteps := 999999) (disch := first | with_reducible rfl | omega | (simp only [nA, nS, nD] <;> omega) | fail) only [go_sem, t0, t2, t5, t8, t13, t14, cells_of gm2, cells_of gm3, cells_of gmB, cells_of gb2, cells_of gb3, cells_of gbB, cells_of gB, q_iad_sl (nat_cst ln) hln, Nat.mul_one, tab_at2 hln, hrt]
    generalize ((h4.add (.cells .rw [.int .i64 e, L, W])).add (.cells .rw [.int .i64 w.lot, .int .i64 w.reads, .int .i64 w.lo, .int .i64 w.hi])) = h5 at s45 l45 ⊢
    have s5 := s4.trans s45
    have gm5 := s45.get gmB
    have gr5 := s45.get grB
    have gb5 := s45.get gbB
    have gB5 := s45.get gB
    have p5 := pB.mono s45
    have oW5 := oWB.mono s45
    have K5 : Keeps (fun c => c = p ∨ h.next ≤ c) h h5 := (KB.trans (Keeps.of s45 (fun _ => False))).mono fun c hc => hc.elim id False.elim
    have hlW : q_len W = some (.int .i64 (wg.length : Int)) := (oW5.sl (by simp only [List.length_map]; omega)).lenE
    cases hri : rightM e w (r (ln : Int))
    · simp -implicitDefEqProofs (maxSteps := 999999) (disch := first | with_reducible rfl | omega | (simp only [nA, nS, nD] <;> omega) | fail) only [go_sem, t0, t2, t5, t8, t13, t14, cells_of gm3, cells_of gmB, cells_of gB, cells_of gbB, q_iad_sl (nat_cst ln) hln, Nat.mul_one, tab_at2 hln, wr_succ]
      exact ⟨_, _, W, wg, T' + 1 + 4, rfl, s5, oW5, nW, hok, ⟨hlen.1, by omega⟩, p5, by omega, by omega, K5, by omega, gm5, gr5, (by simp [ev_c, ev_put, t0] <;> rfl), (by simp [ev_c, ev_put, t2] <;> rfl), (by simp [ev_c, ev_put, t5] <;> rfl), (by simp [ev_c, ev_put, t8] <;> rfl), (by simp [ev_c, ev_put, t13] <;> rfl), (by simp [ev_c, ev_put] <;> rfl)⟩
    · by_cases h10 : (wg.length : Int) < 10
      · have sC := (H.Sub.refl s5.wf).add (.cells .rw [.int .i64 w.lot, .int .i64 w.reads, .int .i64 w.lo, .int .i64 w.hi])
        simp -implicitDefEqProofs (maxSteps := 999999) (disch := first | with_reducible rfl | omega | (simp only [nA, nS, nD] <;> omega) | fail) only [go_sem, t0, t2, t5, t8, t13, t14, cells_of gm3, cells_of gmB, cells_of gm5, cells_of gB, cells_of gB5, cells_of gbB, q_iad_sl (nat_cst ln) hln, Nat.mul_one, tab_at2 hln, hlW, h10]
        refine (oW5.mono sC).app1 (r := encW w) hw0 rfl (by omega) (SlAt.new _ rfl rfl (by simp [encW]) (by simp [encW]) (by simp)) rfl (by simp only [List.length_map]; omega) (by simp only [List.length_map]; omega) fun h6 o6 k6 n6 => ?_
        have gm6 := k6.2 _ _ (sC.get gm5) ((oW5.mono sC).ne (sC.get gm5))
        have gr6 := k6.2 _ _ (sC.get gr5) ((oW5.mono sC).ne (sC.get gr5))
        have p6 := (p5.mono sC).keep k6 ((oW5.mono sC).ne (spGet (p5.mono sC)))
        simp only [H.next_add] at n6 o6
        have K6 : Keeps (fun c => c = p ∨ h.next ≤ c) h (h6.set h.next (.cells .rw [.int .i64 e, L, .sl (h5.next + 1) 0 ((wg.map encW).length + 1) (.slk 0 0)])) := (((K5.trans (Keeps.of sC (fun _ => False))).trans k6).trans (Keeps.set _ _ _)).mono (by
          rintro c (((h | h) | h) | h)
          · exact h
          · exact h.elim
          · exact .inr (by have := nW c h; omega)
          · exact .inr (by omega))
        simp -implicitDefEqProofs (maxSteps := 999999) (disch := first | with_reducible rfl | omega | (simp only [nA, nS, nD] <;> omega) | fail) only [go_sem, t0, t2, t5, t8, t13, t14, cells_of gm6, gm6, wr_succ]
        refine ⟨_, _, .sl (h5.next + 1) 0 ((wg.map encW).length + 1) (.slk 0 0), wg ++ [w], T' + 1 + 4, rfl, o6.1.set (by have := hs.next; omega) (by omega) hw0 _, ?_, ?_, ?_, ⟨by simp; omega, by simp; omega⟩, p6.keep (Keeps.set _ _ _) (by omega), by omega, by omega, K6, by rw [H.next_set]; omega, get_set_same rfl, by rw [get_set_other (by omega)]; exact gr6, (by simp [ev_c, ev_put, t0] <;> rfl), (by simp [ev_c, ev_put, t2] <;> rfl), (by simp [ev_c, ev_put, t5] <;> rfl), (by simp [ev_c, ev_put, t8] <;> rfl), (by simp [ev_c, ev_put, t13] <;> rfl), (by simp [ev_c, ev_put] <;> rfl)⟩
        · rw [List.map_append]
          exact o6.keep (Keeps.set h6 h.next _) (o6.1.set (by have := hs.next; omega) (by omega) hw0 _) fun c hc e => (o6.ne gm6) (e ▸ hc)
        · rintro c ⟨_, _, _, e⟩; cases e; omega
        · intro w' hw'
          rw [List.mem_append, List.mem_singleton] at hw'
          rcases hw' with hw' | rfl
          · exact hok w' hw'
          · exact ⟨⟨by omega, by omega⟩, wr', wd, by rw [wl]; exact hri⟩
      · simp -implicitDefEqProofs (maxSteps := 999999) (disch := first | with_reducible rfl | omega | (simp only [nA, nS, nD] <;> omega) | fail) only [go_sem, t0, t2, t5, t8, t13, t14, cells_of gm3, cells_of gmB, cells_of gm5, cells_of gB, cells_of gbB, q_iad_sl (nat_cst ln) hln, Nat.mul_one, tab_at2 hln, hlW, h10, wr_succ]
        exact ⟨_, _, W, wg, T' + 1 + 4, rfl, s5, oW5, nW, hok, ⟨hlen.1, by omega⟩, p5, by omega, by omega, K5, by omega, gm5, gr5, (by simp [ev_c, ev_put, t0] <;> rfl), (by simp [ev_c, ev_put, t2] <;> rfl), (by simp [ev_c, ev_put, t5] <;> rfl), (by simp [ev_c, ev_put, t8] <;> rfl), (by simp [ev_c, ev_put, t13] <;> rfl), (by simp [ev_c, ev_put] <;> rfl)⟩
  · rintro s ⟨tm, h', W, wg, T', rfl, s', oW, nW, hok, hlen, p', T0, T1, K', lt, gm', gr', t0, t2, t5, t8, t13, t14⟩
    have W1 := OwnC.one oW.c
    simp -implicitDefEqProofs (maxSteps := 999999) (disch := first | with_reducible rfl | omega | (simp only [nA, nS, nD] <;> omega) | fail) only [go_sem, t0, t2, t5, t8, t13, t14, Int.lt_irrefl, cells_of gm', gr', hl1, W1, cells_one hl1, cells_one W1]
    have hb0 := hs.next
    have K3 : Keeps (fun c => c = p) h (h'.set (h.next + 1) (.cells .rw [.int .i64 e, L, W])) := Keeps.new hw ((K'.trans (Keeps.set _ _ _)).mono (by
      rintro c (h | h)
      · exact h
      · exact .inr (by omega)))
    exact q wg W _ T' hok ⟨hlen.1, by omega⟩ (oW.keep (Keeps.set _ _ _) (s'.set (by omega) (by omega) hw0 _) fun c hc e => by have := nW c hc; omega) (fun c hc => by have := nW c hc; omega) (p'.keep (Keeps.set _ _ _) (by omega)) ⟨T0, by omega⟩ K3
end Go.Ab.Try
set_option linter.unusedSimpArgs false
set_option linter.unusedVariables false
namespace Go.Ab.Try
open Go.Ab.Silk
end Go.Ab.Try
set_option linter.unusedSimpArgs false
set_option linter.unusedVariables false
namespace Go.Ab.Try
open Go.Ab.Silk
theorem where1_pure {h : H} {kind : Int} {b : Nat} (hb : h.cells b = some [.int .i64 kind]) (a : Int) : PureA h (.fn 81 [] [.ptr b 0]) [.int .i64 a] (.bool (pK kind a)) := fun h1 hs => by
  have hb1 := hs.cells hb
  refine Ev_body (fd := c81) rfl rfl rfl ?_
  simp -implicitDefEqProofs (maxSteps := 999999) (disch := first | with_reducible rfl | omega | (simp only [nA, nS, nD] <;> omega) | fail) only [c81, go_sem, hb1]
  exact ⟨rfl, H.Sub.refl hs.wf⟩
theorem where2_pure {h : H} {kind : Int} {b : Nat} (hb : h.cells b = some [.int .i64 kind]) (a : Int) : PureA h (.fn 82 [] [.ptr b 0]) [.int .i64 a] (.bool (nK kind a)) := fun h1 hs => by
  have hb1 := hs.cells hb
  refine Ev_body (fd := c82) rfl rfl rfl ?_
  simp -implicitDefEqProofs (maxSteps := 999999) (disch := first | with_reducible rfl | omega | (simp only [nA, nS, nD] <;> omega) | fail) only [c82, go_sem, hb1]
  exact ⟨rfl, H.Sub.refl hs.wf⟩
def whLo (m : Ml) (kind : Int) (ps : List Int) : Int := sumL (lo1 (sK m kind)) ps
def whHi (m : Ml) (kind : Int) (ps : List Int) : Int := sumL (hi1 (sN m kind)) ps
def WhereR (m : Ml) (kind lo hi e : Int) : Prop := (check m ≠ 0 ∧ e = check m ∧ lo = 0 ∧ hi = 0) ∨ (check m = 0 ∧ ((allowedK kind = false ∧ e = 3 ∧ lo = 0 ∧ hi = 0) ∨ (allowedK kind = true ∧
  (((¬ ∃ w, FeasM m allC w) ∧ e = 7 ∧ lo = 0 ∧ hi = 0) ∨ ((∃ w, FeasM m allC w) ∧ e = 0 ∧ lo = whLo m kind (parts m (-1)) ∧ hi = whHi m kind (parts m (-1)))))))
theorem roots {m : Ml} (g : Good m) : ∀ p ∈ parts m (-1), 0 ≤ p ∧ p < m.lots.length ∧ frmAt m p < 0 := fun p hp => by
  obtain ⟨p0, p1, pf⟩ := ((forest g).mem (-1) p).1 hp
  exact ⟨p0, p1, by omega⟩
theorem sK_bd {m : Ml} (g : Good m) (hag : ∃ w, FeasM m allC w) (kind : Int) {p : Int} (p0 : 0 ≤ p) (p1 : p < m.lots.length) : (0 ≤ (sK m kind p).1 ∧ (sK m kind p).1 ≤ 10000) ∧ (0 ≤ (sN m kind p).2 ∧ (sN m kind p).2 ≤ 10000) := by
  obtain ⟨a1, a2, a3, a4, a5⟩ := sK_quad (kind := kind) g hag p0 p1
  obtain ⟨b1, b2, b3, b4, b5⟩ := sN_quad (kind := kind) g hag p0 p1
  have := Um_bd g allC p0 p1
  unfold Ua at *
  omega
theorem wh_bd {m : Ml} (g : Good m) (hag : ∃ w, FeasM m allC w) (kind : Int) (j : Nat) : (0 ≤ whLo m kind ((parts m (-1)).take j) ∧ whLo m kind ((parts m (-1)).take j) ≤ 120000) ∧ (0 ≤ whHi m kind ((parts m (-1)).take j) ∧ whHi m kind ((parts m (-1)).take j) ≤ 120000) := by
  have hl : (((parts m (-1)).take j).length : Int) ≤ 12 := by have := parts_len m (-1); have := g.lots; simp only [List.length_take]; omega
  have hb : ∀ p ∈ (parts m (-1)).take j, (0 ≤ (sK m kind p).1 ∧ (sK m kind p).1 ≤ 10000) ∧ (0 ≤ (sN m kind p).2 ∧ (sN m kind p).2 ≤ 10000) := fun p hp => by
    obtain ⟨p0, p1, _⟩ := roots g p (List.mem_of_mem_take hp)
    exact sK_bd g hag kind p0 p1
  exact ⟨sum10k (fun p hp => (hb p hp).1) hl, sum10k (fun p hp => (hb p hp).2) hl⟩
set_option maxHeartbeats 2000000 in
theorem Where_ev {h : H} {v : V} {m : Ml} (hw : h.wf) (hm : MlIs h v m) (kind : Int) : Ev fnG fastA (.fn 25 [] []) [v, .int .i64 kind] h fun u h' => h.Sub h' ∧ ∃ lo hi e, u = .tup [.agg [.int .i64 lo, .int .i64 hi], .int .i64 e] ∧ WhereR m kind lo hi e := by
  refine Ev.gen fun Q q => ?_
  have hm0 := hm
  obtain ⟨L, W, rfl, aL, aW⟩ := hm
  refine Ev_body (fd := c25) rfl rfl rfl ?_
  have s1 : h.Sub (((h.add (.cells .rw [.int .i64 m.errs, L, W])).add (.cells .rw [.int .i64 kind])).add (.cells .rw [.int .i64 0, .int .i64 0])) := (by repeat (first | assumption | exact H.Sub.refl (by assumption) | refine H.Sub.add ?_ _ | refine H.Sub.set ?_ (by first | omega | (simp only [H.next_add, H.next_set, H.next_del] <;> omega)) (by first | omega | (simp only [H.next_add, H.next_set, H.next_del] <;> omega)) (by assumption) _))
  have g1 : (((h.add (.cells .rw [.int .i64 m.errs, L, W])).add (.cells .rw [.int .i64 kind])).add (.cells .rw [.int .i64 0, .int .i64 0])).cells h.next = some [.int .i64 m.errs, L, W] := by simp -implicitDefEqProofs (maxSteps := 999999) (disch := first | with_reducible rfl | omega | (simp only [nA, nS, nD] <;> omega) | fail) only [go_sem]
  have k1 : (((h.add (.cells .rw [.int .i64 m.errs, L, W])).add (.cells .rw [.int .i64 kind])).add (.cells .rw [.int .i64 0, .int .i64 0])).cells (h.next + 1) = some [.int .i64 kind] := by simp -implicitDefEqProofs (maxSteps := 999999) (disch := first | with_reducible rfl | omega | (simp only [nA, nS, nD] <;> omega) | fail) only [go_sem]
  have r1 : (((h.add (.cells .rw [.int .i64 m.errs, L, W])).add (.cells .rw [.int .i64 kind])).add (.cells .rw [.int .i64 0, .int .i64 0])).get (h.next + 1 + 1) = some (.cells .rw [.int .i64 0, .int .i64 0]) := by simp -implicitDefEqProofs (maxSteps := 999999) (disch := first | with_reducible rfl | omega | (simp only [nA, nS, nD] <;> omega) | fail) only [go_sem]
  have l1 : (((h.add (.cells .rw [.int .i64 m.errs, L, W])).add (.cells .rw [.int .i64 kind])).add (.cells .rw [.int .i64 0, .int .i64 0])).next = h.next + 3 := by simp only [H.next_add]
  simp -implicitDefEqProofs (maxSteps := 999999) (disch := first | with_reducible rfl | omega | (simp only [nA, nS, nD] <;> omega) | fail) only [c25, go_sem]
  generalize (((h.add (.cells .rw [.int .i64 m.errs, L, W])).add (.cells .rw [.int .i64 kind])).add (.cells .rw [.int .i64 0, .int .i64 0])) = h1 at s1 g1 k1 r1 l1 ⊢
  refine (check_ev s1.wf (hm0.mono s1)).mono fun u h2 hu => ?_
  obtain ⟨rfl, s12⟩ := hu
  have s2 := s1.trans s12
  have l2 := s12.next
  have r2 := s12.get r1
  by_cases c : check m = 0
  case neg =>
    simp -implicitDefEqProofs (maxSteps := 999999) (disch := first | with_reducible rfl | omega | (simp only [nA, nS, nD] <;> omega) | fail) only [go_sem, c, ne_eq, not_false_eq_true, r2, cells_of r2]
    exact q _ _ ⟨(by repeat (first | assumption | exact H.Sub.refl (by assumption) | refine H.Sub.add ?_ _ | refine H.Sub.set ?_ (by first | omega | (simp only [H.next_add, H.next_set, H.next_del] <;> omega)) (by first | omega | (simp only [H.next_add, H.next_set, H.next_del] <;> omega)) (by assumption) _)), 0, 0, check m, rfl, .inl ⟨c, rfl, rfl, rfl⟩⟩
  have g := good_of c
  cases hal : allowedK kind
  case false =>
    simp -implicitDefEqProofs (maxSteps := 999999) (disch := first | with_reducible rfl | omega | (simp only [nA, nS, nD] <;> omega) | fail) only [go_sem, c, ne_eq, not_true_eq_false, s12.cells k1, allowed_ev, hal, r2, cells_of r2]
    exact q _ _ ⟨(by repeat (first | assumption | exact H.Sub.refl (by assumption) | refine H.Sub.add ?_ _ | refine H.Sub.set ?_ (by first | omega | (simp only [H.next_add, H.next_set, H.next_del] <;> omega)) (by first | omega | (simp only [H.next_add, H.next_set, H.next_del] <;> omega)) (by assumption) _)), 0, 0, 3, rfl, .inr ⟨c, .inl ⟨hal, rfl, rfl, rfl⟩⟩⟩
  simp -implicitDefEqProofs (maxSteps := 999999) (disch := first | with_reducible rfl | omega | (simp only [nA, nS, nD] <;> omega) | fail) only [go_sem, c, ne_eq, not_true_eq_false, s12.cells k1, s12.cells g1, allowed_ev, hal]
  refine (told_ev s2.wf (hm0.mono s2)).mono fun u h3 hu => ?_
  obtain ⟨s23, hu⟩ := hu
  have s3 := s2.trans s23
  have l3 := s23.next
  have r3 := s23.get r2
  have gz : (h3.add (.cells .rw (encB zeroB))).get h3.next = some (.cells .rw (encB zeroB)) := get_add_new rfl
  rcases hu with ⟨c', _⟩ | ⟨_, hno, rfl⟩ | ⟨_, d, b, rfl, hd, hex, ht⟩
  · exact absurd c c'
  · have n70 : ¬ (7 : Int) = 0 := by omega
    simp -implicitDefEqProofs (maxSteps := 999999) (disch := first | with_reducible rfl | omega | (simp only [nA, nS, nD] <;> omega) | fail) only [go_sem, zerosB, lenB, put_B zeroB zeroB gz, r3, cells_of r3, ne_eq, n70, not_false_eq_true]
    exact q _ _ ⟨(by repeat (first | assumption | exact H.Sub.refl (by assumption) | refine H.Sub.add ?_ _ | refine H.Sub.set ?_ (by first | omega | (simp only [H.next_add, H.next_set, H.next_del] <;> omega)) (by first | omega | (simp only [H.next_add, H.next_set, H.next_del] <;> omega)) (by assumption) _)), 0, 0, 7, rfl, .inr ⟨c, .inr ⟨hal, .inl ⟨hno, rfl, rfl, rfl⟩⟩⟩⟩
  · have hag := hex.feas g
    have hd0 := hd
    obtain ⟨pm, l, L', W', d1, d2, dL, dW, dp⟩ := hd
    simp -implicitDefEqProofs (maxSteps := 999999) (disch := first | with_reducible rfl | omega | (simp only [nA, nS, nD] <;> omega) | fail) only [go_sem, zerosB, lenB, put_B b zeroB gz, ne_eq, eq_self, not_true_eq_false]
    have s34 : h3.Sub ((h3.add (.cells .rw (encB b))).add (.cells .rw [.int .i64 0, .int .i64 0])) := by
      have w3 := s3.wf
      exact (by repeat (first | assumption | exact H.Sub.refl (by assumption) | refine H.Sub.add ?_ _ | refine H.Sub.set ?_ (by first | omega | (simp only [H.next_add, H.next_set, H.next_del] <;> omega)) (by first | omega | (simp only [H.next_add, H.next_set, H.next_del] <;> omega)) (by assumption) _))
    have b4 : ((h3.add (.cells .rw (encB b))).add (.cells .rw [.int .i64 0, .int .i64 0])).cells h3.next = some (encB b) := by simp -implicitDefEqProofs (maxSteps := 999999) (disch := first | with_reducible rfl | omega | (simp only [nA, nS, nD] <;> omega) | fail) only [go_sem]
    have o4 : ((h3.add (.cells .rw (encB b))).add (.cells .rw [.int .i64 0, .int .i64 0])).get (h3.next + 1) = some (.cells .rw [.int .i64 0, .int .i64 0]) := by simp -implicitDefEqProofs (maxSteps := 999999) (disch := first | with_reducible rfl | omega | (simp only [nA, nS, nD] <;> omega) | fail) only [go_sem]
    have l4 : ((h3.add (.cells .rw (encB b))).add (.cells .rw [.int .i64 0, .int .i64 0])).next = h3.next + 2 := by simp only [H.next_add, H.next_set]
    generalize ((h3.add (.cells .rw (encB b))).add (.cells .rw [.int .i64 0, .int .i64 0])) = h4 at s34 b4 o4 l4 ⊢
    obtain ⟨X, eX⟩ : ∃ X, found .nils false (lkA (-1) l) = X := ⟨_, rfl⟩
    have hdp := (dp (-1)).mono s34
    rw [eX] at hdp
    have hlenP := hdp.lenE
    have s4 := s3.trans s34
    have w4 := s4.wf
    have kc4 := (s12.trans (s23.trans s34)).cells k1
    obtain ⟨ps, eps⟩ : ∃ ps, parts m (-1) = ps := ⟨_, rfl⟩
    have hro := roots g
    have hbd := wh_bd g hag kind
    rw [eps] at hdp hlenP hro hbd
    have hpl := parts_len m (-1)
    rw [eps] at hpl
    have gl := g.lots
    have cb := conB g hex ht
    have hb10 : ∀ i : Int, 0 ≤ i → i < m.lots.length → (b i).2 ≤ 10000 := fun i _ _ => (hex.bd g i).2.2.2
    simp -implicitDefEqProofs (maxSteps := 999999) (disch := first | with_reducible rfl | omega | (simp only [nA, nS, nD] <;> omega) | fail) only [go_sem, cells_of (s34.get d1), s34.get d2, eX, hlenP]
    refine W_count ps.length (fun j s => ∃ tm h', s = ⟨tm, h', []⟩ ∧ h3.Sub h' ∧ h3.next + 1 < h'.next ∧ h'.cells h3.next = some (encB b) ∧ h'.get (h3.next + 1) = some (.cells .rw [.int .i64 (whLo m kind (ps.take j)), .int .i64 (whHi m kind (ps.take j))]) ∧
        (Opd.t 3).ev tm = .ptr (h.next + 1) 0 ∧ (Opd.t 4).ev tm = .ptr (h.next + 1 + 1) 0 ∧ (Opd.t 7).ev tm = .ptr d 0 ∧ (Opd.t 8).ev tm = .ptr h3.next 0 ∧ (Opd.t 10).ev tm = .ptr (h3.next + 1) 0 ∧ (Opd.t 41).ev tm = X ∧ (Opd.t 42).ev tm = .int .i64 (ps.length : Int) ∧ (Opd.t 43).ev tm = .int .i64 (j : Int))
      ?_ ?_ (i := 0) (Nat.zero_le _) ⟨_, _, rfl, s34, by omega, b4, o4, (by simp [ev_c, ev_put] <;> rfl), (by simp [ev_c, ev_put] <;> rfl), (by simp [ev_c, ev_put] <;> rfl), (by simp [ev_c, ev_put] <;> rfl), (by simp [ev_c, ev_put] <;> rfl), (by simp [ev_c, ev_put] <;> rfl), (by simp [ev_c, ev_put] <;> rfl), (by simp [ev_c, ev_put] <;> rfl)⟩
    · rintro j s hj ⟨tm, h', rfl, hs, lt, gb, go, t3, t4, t7, t8, t10, t41, t42, t43⟩
      have hj' : (j : Int) < (ps.length : Int) := by omega
      have hdj := (dp (-1)).mono hs
      rw [eX, eps] at hdj
      obtain ⟨b2, o2, c2, cs2, eb, hcs2, hq2, hgg2, hn2, hn02⟩ := hdj.at hj
      subst eb
      obtain ⟨p0, p1, p2⟩ := hro _ (List.getElem_mem hj)
      obtain ⟨p, ep⟩ := Int.eq_ofNat_of_zero_le p0
      have e1 : whLo m kind (ps.take (j + 1)) = whLo m kind (ps.take j) + (sK m kind (p : Int)).1 := by
        unfold whLo; rw [sum_take _ hj, ep]; rfl
      have e2 : whHi m kind (ps.take (j + 1)) = whHi m kind (ps.take j) + (sN m kind (p : Int)).2 := by
        unfold whHi; rw [sum_take _ hj, ep]; rfl
      have bj := hbd j
      have bj1 := hbd (j + 1)
      rw [ep] at p0 p1 p2
      have sm1 := sh_same g hex ht (pK kind) p0 p1 p2
      have sm2 := sh_same g hex ht (nK kind) p0 p1 p2
      have kc := ((s12.trans (s23.trans hs))).cells k1
      simp -implicitDefEqProofs (maxSteps := 999999) (disch := first | with_reducible rfl | omega | (simp only [nA, nS, nD] <;> omega) | fail) only [go_sem, t3, t4, t7, t8, t10, t41, t42, t43, hj', hq2 (nat_cst j), hcs2, hn02 (by omega), encI, ep, gb, ld_B]
      refine shares_ev g cb hb10 (p := pK kind) (f := .fn 81 [] [.ptr (h.next + 1) 0]) (h0 := h') rfl (fun a => where1_pure kc a) m.lots.length p (by omega) (by omega) (H.Sub.refl hs.wf) (hd0.mono hs) _ fun h5 s5 => ?_
      simp -implicitDefEqProofs (maxSteps := 999999) (disch := first | with_reducible rfl | omega | (simp only [nA, nS, nD] <;> omega) | fail) only [go_sem, t3, t4, t7, t8, t10, t41, t42, t43, s5.cells gb, ld_B]
      refine shares_ev g cb hb10 (p := nK kind) (f := .fn 82 [] [.ptr (h.next + 1) 0]) (h0 := h') rfl (fun a => where2_pure kc a) m.lots.length p (by omega) (by omega) s5 (hd0.mono (hs.trans s5)) _ fun h6 s6 => ?_
      have s56 := s5.trans s6
      have go6 := s56.get go
      have lt6 := s56.next
      have w6 := (hs.trans s56).wf
      have f1 : (shM m b (pK kind) (p : Int)).1 = (sK m kind (p : Int)).1 := by rw [sm1]; rfl
      have f2 : (shM m b (nK kind) (p : Int)).2 = (sN m kind (p : Int)).2 := by rw [sm2]; rfl
      simp -implicitDefEqProofs (maxSteps := 999999) (disch := first | with_reducible rfl | omega | (simp only [nA, nS, nD] <;> omega) | fail) only [go_sem, t3, t4, t7, t8, t10, t41, t42, t43, cells_of go6, f1, f2, wr_in, wr_succ, go6]
      exact ⟨_, _, rfl, (hs.trans s56).set (by omega) (by omega) s3.wf _, by simp only [H.next_set]; omega, by rw [cells_set_other (by omega)]; exact s56.cells gb, by rw [get_set_same rfl, e1, e2], (by simp [ev_c, ev_put, t3] <;> rfl), (by simp [ev_c, ev_put, t4] <;> rfl), (by simp [ev_c, ev_put, t7] <;> rfl), (by simp [ev_c, ev_put, t8] <;> rfl), (by simp [ev_c, ev_put, t10] <;> rfl), (by simp [ev_c, ev_put, t41] <;> rfl), (by simp [ev_c, ev_put, t42] <;> rfl), (by simp [ev_c, ev_put] <;> rfl)⟩
    · rintro s ⟨tm, h', rfl, hs, lt, gb, go, t3, t4, t7, t8, t10, t41, t42, t43⟩
      rw [List.take_length] at go
      have r4 := hs.get r3
      simp -implicitDefEqProofs (maxSteps := 999999) (disch := first | with_reducible rfl | omega | (simp only [nA, nS, nD] <;> omega) | fail) only [go_sem, t3, t4, t7, t8, t10, t41, t42, t43, Int.lt_irrefl, cells_of go, r4]
      have h0h := s3.trans hs
      exact q _ _ ⟨(by repeat (first | assumption | exact H.Sub.refl (by assumption) | refine H.Sub.add ?_ _ | refine H.Sub.set ?_ (by first | omega | (simp only [H.next_add, H.next_set, H.next_del] <;> omega)) (by first | omega | (simp only [H.next_add, H.next_set, H.next_del] <;> omega)) (by assumption) _)), _, _, 0, rfl, .inr ⟨c, .inr ⟨hal, .inr ⟨hag, rfl, by rw [eps], by rw [eps]⟩⟩⟩⟩
end Go.Ab.Try
set_option linter.unusedSimpArgs false
set_option linter.unusedVariables false
namespace Go.Ab.Try
open Go.Ab.Silk
section
variable {m : Ml}
def csK (m : Ml) (k : Int) (w : Int → Int) : Int → Int := cs m.lots.length (parts m) (chK m (pK k)) w
theorem nK_not (k : Int) : chK m (nK k) = fun i => !chK m (pK k) i := by
  funext i
  unfold chK nK pK
  by_cases h : kindAt m i = k <;> simp [h]
theorem feas_adds {w : Int → Int} (f : Feas m.lots.length (parts m) (Ua m) w) : Adds m.lots.length (parts m) w := fun i i0 i1 h => f.2 i i0 i1 h
theorem csK_bd (g : Good m) {w : Int → Int} (f : Feas m.lots.length (parts m) (Ua m) w) (k : Int) {i : Int} (i0 : 0 ≤ i) (i1 : i < m.lots.length) : (sK m k i).1 ≤ csK m k w i ∧ csK m k w i ≤ (sN m k i).2 := by
  have F := forest g
  have h1 := sh_sound F (chK m (pK k)) f i i0 i1
  have h2 := sh_sound F (chK m (nK k)) f i i0 i1
  have h3 := cs_not F (chK m (pK k)) (feas_adds f) i i0 i1
  rw [nK_not] at h2
  rw [h3] at h2
  refine ⟨h1.1, ?_⟩
  unfold sN shM csK
  rw [nK_not]
  omega
def oth (f : Int → Int) (k : Int) : Nat → Int
  | 0 => 0
  | j + 1 => oth f k j + (if (j : Int) = k then 0 else f (j : Int))
end
end Go.Ab.Try
set_option linter.unusedSimpArgs false
set_option linter.unusedVariables false
namespace Go.Ab.Try
open Go.Ab.Silk
theorem check_good {m : Ml} (g : Good m) : check m = 0 := by
  have h1 := g.lots
  have h2 := g.wgs
  have h3 := g.errs
  have c4 : m.wgs.all boundedW = true := List.all_eq_true.2 fun w hw => by simpa [boundedW] using g.wg w hw
  have c5 : m.lots.all (fun l => allowedK l.kind) = true := List.all_eq_true.2 fun l hl => by simpa [allowedK] using g.kind l hl
  have c6 : fromsOk m.lots 0 = true := (fromsOk_iff _ _).2 fun i hi => by simpa using g.frm i hi
  have c7 : m.wgs.all (fun w => inB w.lot 0 ((m.lots.length : Int) - 1)) = true := List.all_eq_true.2 fun w hw => by simpa [inB] using g.lot w hw
  have c8 : m.wgs.all (fun w => decide (w.lo ≤ w.hi)) = true := List.all_eq_true.2 fun w hw => by simpa using g.ord w hw
  unfold check
  rw [if_neg (by omega), if_neg (by omega), if_neg (by omega), c4, c5, c6, c7, c8]
  rfl
theorem spans_at (b : Box) {n i : Nat} (h : i < (spansL b n).length) : (spansL b n)[i] = [(b (i : Int)).1, (b (i : Int)).2] := by simp [spansL]
end Go.Ab.Try
set_option linter.unusedSimpArgs false
set_option linter.unusedVariables false
namespace Go.Ab.Try
open Go.Ab.Silk
theorem wOfL_bd {ws : List Int} (h : ∀ i (hi : i < ws.length), 0 ≤ ws[i] ∧ ws[i] ≤ 10000) (p : Int) : 0 ≤ wOfL ws p ∧ wOfL ws p ≤ 10000 := by
  unfold wOfL
  rw [List.getD_eq_getElem?_getD]
  by_cases hp : p.toNat < ws.length
  · rw [List.getElem?_eq_getElem hp]; exact h _ hp
  · rw [List.getElem?_eq_none (by omega)]; simp
theorem sumW_bd {x : Int → Int} (h : ∀ p, 0 ≤ x p ∧ x p ≤ 10000) : ∀ l : List Int, 0 ≤ sumL x l ∧ sumL x l ≤ 10000 * (l.length : Int)
  | [] => by simp [sumL]
  | a :: l => by
    have ih := sumW_bd h l
    have := h a
    simp only [sumL, List.length_cons]; omega
theorem partsL_take {m : Ml} {k : Int} {i : Nat} (h : i < m.lots.length) : partsL k (m.lots.take (i + 1)) 0 = partsL k (m.lots.take i) 0 ++ (if m.lots[i].frm = k then [(i : Int)] else []) := by
  rw [List.take_succ_eq_append_getElem h, partsL_app]
  simp only [partsL, List.length_take, Nat.zero_add, Nat.min_eq_left (Nat.le_of_lt h)]
set_option maxHeartbeats 2000000 in
theorem dry_ev {h : H} {v K : V} {m : Ml} {ws : List Int} (hw : h.wf) (hm : MlIs h v m) (g : Good m) (hk : SlAt h K 1 (ws.map encI)) (hp : FitsP m ws) (Q : V → H → Prop) (q : ∀ h', h.Sub h' → Q (.bool true) h') : Ev fnG fastA (.fn 69 [] []) [v, K] h Q := by
  have hm0 := hm
  obtain ⟨L, W, rfl, aL, aW⟩ := hm
  have gl := g.lots
  obtain ⟨hlen, hrg, hnode, hsay⟩ := (fitsP_iff g).1 hp
  have hlenL := aL.lenE
  have hlenK := hk.lenE
  rw [hlen] at hlenK
  have K1 := hk.one
  have hz := tab_zero m.lots.length
  have F := forest g
  have hwb := wOfL_bd hrg
  refine Ev_body (fd := c69) rfl rfl rfl ?_
  have sA : h.Sub (((h.add (.cells .rw [.int .i64 m.errs, L, W])).add (.cells .rw [K])).add (.cells .rw (tab (fun _ => 0) m.lots.length))) := (by repeat (first | assumption | exact H.Sub.refl (by assumption) | refine H.Sub.add ?_ _ | refine H.Sub.set ?_ (by first | omega | (simp only [H.next_add, H.next_set, H.next_del] <;> omega)) (by first | omega | (simp only [H.next_add, H.next_set, H.next_del] <;> omega)) (by assumption) _))
  have g2 : (((h.add (.cells .rw [.int .i64 m.errs, L, W])).add (.cells .rw [K])).add (.cells .rw (tab (fun _ => 0) m.lots.length))).get h.next = some (.cells .rw [.int .i64 m.errs, L, W]) := by simp -implicitDefEqProofs (maxSteps := 999999) (disch := first | with_reducible rfl | omega | (simp only [nA, nS, nD] <;> omega) | fail) only [go_sem]
  have g3 : (((h.add (.cells .rw [.int .i64 m.errs, L, W])).add (.cells .rw [K])).add (.cells .rw (tab (fun _ => 0) m.lots.length))).get (h.next + 1) = some (.cells .rw [K]) := by simp -implicitDefEqProofs (maxSteps := 999999) (disch := first | with_reducible rfl | omega | (simp only [nA, nS, nD] <;> omega) | fail) only [go_sem]
  have g5 : (((h.add (.cells .rw [.int .i64 m.errs, L, W])).add (.cells .rw [K])).add (.cells .rw (tab (fun _ => 0) m.lots.length))).get (h.next + 2) = some (.cells .rw (tab (fun _ => 0) m.lots.length)) := get_add_new (by simp only [H.next_add])
  have lA : (((h.add (.cells .rw [.int .i64 m.errs, L, W])).add (.cells .rw [K])).add (.cells .rw (tab (fun _ => 0) m.lots.length))).next = h.next + 3 := by simp only [H.next_add]
  simp -implicitDefEqProofs (maxSteps := 999999) (disch := first | with_reducible rfl | omega | (simp only [nA, nS, nD] <;> omega) | fail) only [c69, go_sem, hlenK, hlenL, K1, cells_one K1, a_msl_nm, hz, ne_eq, not_true_eq_false]
  generalize (((h.add (.cells .rw [.int .i64 m.errs, L, W])).add (.cells .rw [K])).add (.cells .rw (tab (fun _ => 0) m.lots.length))) = hA at sA g2 g3 g5 lA ⊢
  refine W_count m.lots.length (fun i s => ∃ tm h', s = ⟨tm, h', []⟩ ∧ h.Sub h' ∧ h'.next = h.next + 3 ∧ h'.get h.next = some (.cells .rw [.int .i64 m.errs, L, W]) ∧ h'.get (h.next + 1) = some (.cells .rw [K]) ∧ h'.get (h.next + 2) = some (.cells .rw (tab (fun k => sumL (wOfL ws) (partsL k (m.lots.take i) 0)) m.lots.length)) ∧
      (Opd.t 2).ev tm = .ptr h.next 0 ∧ (Opd.t 3).ev tm = .ptr (h.next + 1) 0 ∧ (Opd.t 5).ev tm = .sl (h.next + 2) 0 m.lots.length (.fix m.lots.length) ∧ (Opd.t 20).ev tm = K ∧ (Opd.t 21).ev tm = .int .i64 (m.lots.length : Int) ∧ (Opd.t 22).ev tm = .int .i64 (i : Int))
    ?_ ?_ (i := 0) (Nat.zero_le _) ⟨_, _, rfl, sA, lA, g2, g3, by simpa [partsL, sumL] using g5, (by simp [ev_c, ev_put] <;> rfl), (by simp [ev_c, ev_put] <;> rfl), (by simp [ev_c, ev_put] <;> rfl), (by simp [ev_c, ev_put] <;> rfl), (by simp [ev_c, ev_put] <;> rfl), (by simp [ev_c, ev_put] <;> rfl)⟩
  · rintro i s hi ⟨tm, h', rfl, hs, ln, g2', g3', g5', t2, t3, t5, t20, t21, t22⟩
    have hi' : (i : Int) < (m.lots.length : Int) := by omega
    have hik : i < ws.length := by omega
    obtain ⟨bK, oK, cK, csK, eK, hcsK, hqK, hgK, hnK, hnK0⟩ := (hk.mono hs).at hik
    have vK : nth (oK + i) csK = some (.int .i64 ws[i]) := by have := hnK0 (by omega); rw [Nat.mul_one] at this; exact this
    rw [Nat.mul_one] at hqK
    obtain ⟨bL, oL, cL, csL, eL, hcsL, hqL, hgL, hnL, hnL0⟩ := (aL.mono hs).at hi
    have hr := hrg i hik
    have z1 : ¬ ws[i] < 0 := by omega
    have z2 : ¬ 10000 < ws[i] := by omega
    have hfr := g.frm i hi
    have hwi : wOfL ws (i : Int) = ws[i] := wOfL_at hik
    by_cases hf : m.lots[i].frm = -1
    · have e1 : tab (fun k => sumL (wOfL ws) (partsL k (m.lots.take i) 0)) m.lots.length = tab (fun k => sumL (wOfL ws) (partsL k (m.lots.take (i + 1)) 0)) m.lots.length := tab_congr fun k k0 k1 => by
        rw [partsL_take hi, if_neg (by omega), List.append_nil]
      rw [e1] at g5'
      simp -implicitDefEqProofs (maxSteps := 999999) (disch := first | with_reducible rfl | omega | (simp only [nA, nS, nD] <;> omega) | fail) only [go_sem, t2, t3, t5, t20, t21, t22, hi', hqK (nat_cst i), hcsK, vK, z1, z2, cells_of g2', hqL (nat_cst i), hcsL, hnL0 (by omega), encL, hf, ne_eq, not_true_eq_false, wr_succ]
      exact ⟨_, _, rfl, hs, ln, g2', g3', g5', (by simp [ev_c, ev_put, t2] <;> rfl), (by simp [ev_c, ev_put, t3] <;> rfl), (by simp [ev_c, ev_put, t5] <;> rfl), (by simp [ev_c, ev_put, t20] <;> rfl), (by simp [ev_c, ev_put, t21] <;> rfl), (by simp [ev_c, ev_put] <;> rfl)⟩
    · obtain ⟨ff, ef⟩ := Int.eq_ofNat_of_zero_le (show 0 ≤ m.lots[i].frm by omega)
      have hff : ff < m.lots.length := by omega
      have hf' : ¬ (ff : Int) = -1 := by omega
      have hb := sumW_bd hwb (partsL (ff : Int) (m.lots.take i) 0)
      have hpl := partsL_len (ff : Int) (m.lots.take i) 0
      rw [List.length_take] at hpl
      have e1 : tab (fset (fun k => sumL (wOfL ws) (partsL k (m.lots.take i) 0)) (ff : Int) (sumL (wOfL ws) (partsL (ff : Int) (m.lots.take i) 0) + ws[i])) m.lots.length = tab (fun k => sumL (wOfL ws) (partsL k (m.lots.take (i + 1)) 0)) m.lots.length := tab_congr fun k k0 k1 => by
        rw [partsL_take hi, ef]
        unfold fset
        by_cases e : k = (ff : Int)
        · rw [if_pos e, if_pos e.symm, sumL_append, e]; simp only [sumL, hwi]; omega
        · rw [if_neg e, if_neg (fun h => e h.symm), List.append_nil]
      simp -implicitDefEqProofs (maxSteps := 999999) (disch := first | with_reducible rfl | omega | (simp only [nA, nS, nD] <;> omega) | fail) only [go_sem, t2, t3, t5, t20, t21, t22, hi', hqK (nat_cst i), hcsK, vK, z1, z2, cells_of g2', hqL (nat_cst i), hcsL, hnL0 (by omega), encL, ef, hf', ne_eq, not_false_eq_true, q_iad_sl (nat_cst ff) hff, Nat.mul_one, cells_of g5', g5', tab_at2 hff, tab_st2 hff, wr_in, e1]
      have hs' := hs.set (b := h.next + 2) (by omega) (by omega) hw (.cells .rw (tab (fun k => sumL (wOfL ws) (partsL k (m.lots.take (i + 1)) 0)) m.lots.length))
      exact ⟨_, _, rfl, hs', by rw [H.next_set]; exact ln, by rw [get_set_other (by omega)]; exact g2', by rw [get_set_other (by omega)]; exact g3', get_set_same rfl, (by simp [ev_c, ev_put, t2] <;> rfl), (by simp [ev_c, ev_put, t3] <;> rfl), (by simp [ev_c, ev_put, t5] <;> rfl), (by simp [ev_c, ev_put, t20] <;> rfl), (by simp [ev_c, ev_put, t21] <;> rfl), (by simp [ev_c, ev_put] <;> rfl)⟩
  · rintro s ⟨tm, h', rfl, hs, ln, g2', g3', g5', t2, t3, t5, t20, t21, t22⟩
    rw [List.take_length] at g5'
    simp -implicitDefEqProofs (maxSteps := 999999) (disch := first | with_reducible rfl | omega | (simp only [nA, nS, nD] <;> omega) | fail) only [go_sem, t2, t3, t5, t20, t21, t22, Int.lt_irrefl, cells_of g3', hlenK]
    refine W_count m.lots.length (fun i s => ∃ tm h'', s = ⟨tm, h'', []⟩ ∧ h'.Sub h'' ∧ (Opd.t 2).ev tm = .ptr h.next 0 ∧ (Opd.t 3).ev tm = .ptr (h.next + 1) 0 ∧ (Opd.t 5).ev tm = .sl (h.next + 2) 0 m.lots.length (.fix m.lots.length) ∧ (Opd.t 49).ev tm = K ∧ (Opd.t 50).ev tm = .int .i64 (m.lots.length : Int) ∧ (Opd.t 51).ev tm = .int .i64 (i : Int))
      ?_ ?_ (i := 0) (Nat.zero_le _) ⟨_, _, rfl, H.Sub.refl hs.wf, (by simp [ev_c, ev_put, t2] <;> rfl), (by simp [ev_c, ev_put, t3] <;> rfl), (by simp [ev_c, ev_put, t5] <;> rfl), (by simp [ev_c, ev_put] <;> rfl), (by simp [ev_c, ev_put] <;> rfl), (by simp [ev_c, ev_put] <;> rfl)⟩ <;> clear t2 t3 t5 t20 t21 t22 tm
    · rintro i s hi ⟨tm, h'', rfl, hs2, t2, t3, t5, t49, t50, t51⟩
      have hi' : (i : Int) < (m.lots.length : Int) := by omega
      have hik : i < ws.length := by omega
      have hs3 := hs.trans hs2
      obtain ⟨bK, oK, cK, csK, eK, hcsK, hqK, hgK, hnK, hnK0⟩ := (hk.mono hs3).at hik
      have vK : nth (oK + i) csK = some (.int .i64 ws[i]) := by have := hnK0 (by omega); rw [Nat.mul_one] at this; exact this
      rw [Nat.mul_one] at hqK
      have g2'' := hs2.cells (cells_of g2')
      simp -implicitDefEqProofs (maxSteps := 999999) (disch := first | with_reducible rfl | omega | (simp only [nA, nS, nD] <;> omega) | fail) only [go_sem, t2, t3, t5, t49, t50, t51, hi', hqK (nat_cst i), hcsK, vK, g2'']
      refine whole_ev hs3.wf (hm0.mono hs3) (i : Int) _ fun h3 s3 => ?_
      have g5'' := (hs2.trans s3).cells (cells_of g5')
      by_cases hpi : parts m (i : Int) = []
      · have hd : decide (parts m (i : Int) = []) = true := decide_eq_true hpi
        simp -implicitDefEqProofs (maxSteps := 999999) (disch := first | with_reducible rfl | omega | (simp only [nA, nS, nD] <;> omega) | fail) only [go_sem, t2, t3, t5, t49, t50, t51, hd, wr_succ]
        exact ⟨_, _, rfl, hs2.trans s3, (by simp [ev_c, ev_put, t2] <;> rfl), (by simp [ev_c, ev_put, t3] <;> rfl), (by simp [ev_c, ev_put, t5] <;> rfl), (by simp [ev_c, ev_put, t49] <;> rfl), (by simp [ev_c, ev_put, t50] <;> rfl), (by simp [ev_c, ev_put] <;> rfl)⟩
      · have hd : decide (parts m (i : Int) = []) = false := decide_eq_false hpi
        have hsum : sumL (wOfL ws) (partsL (i : Int) m.lots 0) = ws[i] := (hnode i hik hpi).symm
        simp -implicitDefEqProofs (maxSteps := 999999) (disch := first | with_reducible rfl | omega | (simp only [nA, nS, nD] <;> omega) | fail) only [go_sem, t2, t3, t5, t49, t50, t51, hd, q_iad_sl (nat_cst i) hi, Nat.mul_one, g5'', tab_at2 hi, hsum, ne_eq, not_true_eq_false, wr_succ]
        exact ⟨_, _, rfl, hs2.trans s3, (by simp [ev_c, ev_put, t2] <;> rfl), (by simp [ev_c, ev_put, t3] <;> rfl), (by simp [ev_c, ev_put, t5] <;> rfl), (by simp [ev_c, ev_put, t49] <;> rfl), (by simp [ev_c, ev_put, t50] <;> rfl), (by simp [ev_c, ev_put] <;> rfl)⟩
    · rintro s ⟨tm, h'', rfl, hs2, t2, t3, t5, t49, t50, t51⟩
      have hs3 := hs.trans hs2
      have g2'' := hs2.cells (cells_of g2')
      have g3'' := hs2.cells (cells_of g3')
      simp -implicitDefEqProofs (maxSteps := 999999) (disch := first | with_reducible rfl | omega | (simp only [nA, nS, nD] <;> omega) | fail) only [go_sem, t2, t3, t5, t49, t50, t51, Int.lt_irrefl, g2'']
      refine (containsFuncWg_ev (p := fun w : Wg => !rightM m.errs w (wOfL ws w.lot)) hs3.wf (aW.mono hs3) fun a ha h4 hs4 => ?_).mono fun u h5 hu => ?_
      · refine Ev.gen fun Q2 q2 => ?_
        refine Ev_body (fd := c128) rfl rfl rfl ?_
        have hlot := g.lot a ha
        have hwg := g.wg a ha
        have ge := g.errs
        obtain ⟨al, eal⟩ := Int.eq_ofNat_of_zero_le hlot.1
        have hal : al < ws.length := by omega
        have hr := hrg al hal
        have e2 := hs4.cells g2''
        have e3 := hs4.cells g3''
        have s4' := hs3.trans hs4
        obtain ⟨bK, oK, cK, csK, eK, hcsK, hqK, hgK, hnK, hnK0⟩ := (hk.mono s4').at hal
        have hla := hs4.next
        have sX := (H.Sub.refl hs4.wf).add (.cells .rw (encW a))
        have hright := right_ev (h := h4.add (.cells .rw (encW a))) (L := L) (W := W) (e := m.errs) (w := a) (n := ws[al]) (by omega) (by omega) (by omega) (by omega) (by omega)
        have el2 : h.next < h4.next := by have := hs2.next; omega
        simp only [encW, eal] at hright sX
        simp -implicitDefEqProofs (maxSteps := 999999) (disch := first | with_reducible rfl | omega | (simp only [nA, nS, nD] <;> omega) | fail) only [c128, go_sem, encW, eal, e2, e3, sX.cells e2, sX.cells e3, sX.cells hcsK, hqK (nat_cst al), hcsK, hnK0 (by omega), encI, hright]
        refine q2 _ _ ⟨?_, ?_⟩
        · rw [show a.lot = ((al : Nat) : Int) from eal, wOfL_at hal]
        · exact ((H.Sub.refl hs4.wf).add _).add _ |>.add _
      · obtain ⟨rfl, s5⟩ := hu
        have hany : (m.wgs.any fun w => !rightM m.errs w (wOfL ws w.lot)) = false := by
          rw [List.any_eq_false]
          intro w hw'
          obtain ⟨k, hkk, rfl⟩ := List.getElem_of_mem hw'
          have h1 := hsay k hkk
          have h2 := g.wg _ hw'
          have h3 := hwb m.wgs[k].lot
          have ge := g.errs
          rw [right_iff (m := m) (by omega) (by omega) (by omega) h3, decide_eq_true h1]; simp
        simp -implicitDefEqProofs (maxSteps := 999999) (disch := first | with_reducible rfl | omega | (simp only [nA, nS, nD] <;> omega) | fail) only [go_sem, hany, Bool.not_false]
        exact q _ (hs3.trans s5)
end Go.Ab.Try
set_option linter.unusedSimpArgs false
set_option linter.unusedVariables false
namespace Go.Ab.Try
open Go.Ab.Silk
theorem allL_succ (n : Nat) : allL (n + 1) = allL n ++ [(n : Int)] := by simp [allL, List.range_succ]
theorem allL_mem {n : Nat} {i : Int} : i ∈ allL n ↔ 0 ≤ i ∧ i < n := by
  unfold allL
  rw [List.mem_map]
  constructor
  · rintro ⟨k, hk, rfl⟩
    have := List.mem_range.1 hk
    omega
  · rintro ⟨h0, h1⟩
    exact ⟨i.toNat, List.mem_range.2 (by omega), by omega⟩
theorem sum_delta2 {v f : Int} : ∀ n : Nat, sumL (fun i => if f = i then v else 0) (allL n) = if 0 ≤ f ∧ f < n then v else 0
  | 0 => by rw [if_neg (by omega)]; rfl
  | n + 1 => by
    rw [allL_succ, sumL_append, sum_delta2 n]
    simp only [sumL]
    by_cases h1 : 0 ≤ f ∧ f < n
    · rw [if_pos h1, if_neg (by omega), if_pos (by omega)]; omega
    · rw [if_neg h1]
      by_cases h2 : f = (n : Int)
      · rw [if_pos h2, if_pos (by omega)]; omega
      · rw [if_neg h2, if_neg (by omega)]; rfl
section
variable {m : Ml}
theorem parts_all (g : Good m) (x : Int → Int) : ∀ j, j ≤ m.lots.length → sumL (fun i => sumL x (partsL i (m.lots.take j) 0)) (allL m.lots.length) + sumL x (partsL (-1) (m.lots.take j) 0) = sumL x (allL j)
  | 0, _ => by
    simp only [List.take_zero, partsL, sumL]
    rw [show sumL (fun _ => 0) (allL m.lots.length) = 0 by
      induction allL m.lots.length with
      | nil => rfl
      | cons a l ih => simp only [sumL, ih]; rfl]
    rfl
  | j + 1, hj => by
    have ih := parts_all g x j (by omega)
    have hf := g.frm j (by omega)
    have e : (fun i => sumL x (partsL i (m.lots.take (j + 1)) 0)) = fun i => sumL x (partsL i (m.lots.take j) 0) + (if m.lots[j].frm = i then x (j : Int) else 0) := by
      funext i
      rw [partsL_take (by omega), sumL_append]
      split <;> simp [sumL]
    rw [e, sumL_add, sum_delta2, partsL_take (by omega), sumL_append, allL_succ, sumL_append, ← ih]
    by_cases h : m.lots[j].frm = -1
    · rw [if_neg (by omega), if_pos h]; simp only [sumL]; omega
    · rw [if_pos (by omega), if_neg h]; simp only [sumL]; omega
def lfK (m : Ml) (k : Int) (r : Int → Int) : Int → Int := fun i => if parts m i = [] ∧ kindAt m i = k then r i else 0
theorem lf_sum (g : Good m) (k : Int) (r : Int → Int) : sumL (lfK m k r) (allL m.lots.length) = sumL (csK m k r) (parts m (-1)) := by
  have F := forest g
  have h := parts_all g (csK m k r) m.lots.length (Nat.le_refl _)
  rw [List.take_length] at h
  have e : sumL (csK m k r) (allL m.lots.length) = sumL (fun i => lfK m k r i + sumL (csK m k r) (partsL i m.lots 0)) (allL m.lots.length) := sumL_congr fun i hi => by
    obtain ⟨i0, i1⟩ := allL_mem.1 hi
    have := cs_eq F (chK m (pK k)) r i0 i1
    show cs m.lots.length (parts m) (chK m (pK k)) r i = _ + sumL (cs m.lots.length (parts m) (chK m (pK k)) r) (parts m i)
    rw [this]
    unfold lfK
    by_cases hp : parts m i = []
    · rw [if_pos hp, hp]
      simp only [sumL, true_and, chK, pK, decide_eq_true_eq, Int.add_zero]
    · rw [if_neg hp, if_neg (fun h => hp h.1)]; omega
  rw [e, sumL_add] at h
  show _ = sumL (csK m k r) (partsL (-1) m.lots 0)
  omega
theorem lf_in (g : Good m) {r : Int → Int} (f : FeasM m allC r) (k : Int) : whLo m k (parts m (-1)) ≤ sumL (lfK m k r) (allL m.lots.length) ∧ sumL (lfK m k r) (allL m.lots.length) ≤ whHi m k (parts m (-1)) := by
  have f' : Feas m.lots.length (parts m) (Ua m) r := (feasU g r).2 f
  rw [lf_sum g]
  unfold whLo whHi
  constructor
  · refine sumL_mono fun p hp => ?_
    obtain ⟨p0, p1, _⟩ := roots g p hp
    have := csK_bd g f' k p0 p1
    simp only [lo1]; omega
  · refine sumL_mono fun p hp => ?_
    obtain ⟨p0, p1, _⟩ := roots g p hp
    have := csK_bd g f' k p0 p1
    simp only [hi1]; omega
theorem lf_step {k : Int} {r : Int → Int} (i : Nat) : sumL (lfK m k r) (allL (i + 1)) = sumL (lfK m k r) (allL i) + lfK m k r (i : Int) := by
  rw [allL_succ, sumL_append]; simp only [sumL]; omega
theorem lf_bd {k : Int} {r : Int → Int} : ∀ {i : Nat}, (∀ j : Int, 0 ≤ j → j < i → 0 ≤ r j ∧ r j ≤ 10000) → 0 ≤ sumL (lfK m k r) (allL i) ∧ sumL (lfK m k r) (allL i) ≤ 10000 * (i : Int)
  | 0, _ => by simp [allL, sumL]
  | i + 1, h => by
    have ih := lf_bd (k := k) (r := r) (i := i) fun j j0 j1 => h j j0 (by omega)
    have := h (i : Int) (by omega) (by omega)
    have hv : 0 ≤ lfK m k r (i : Int) ∧ lfK m k r (i : Int) ≤ 10000 := by unfold lfK; split <;> omega
    rw [lf_step]
    omega
end
end Go.Ab.Try
set_option linter.unusedSimpArgs false
set_option linter.unusedVariables false
namespace Go.Ab.Try
open Go.Ab.Silk
set_option maxRecDepth 20000 in
set_option maxHeartbeats 4000000 in
theorem SilkTold_ev {h : H} {x y : V} {bs cs : List Int} (hw : h.wf) (hx : SlAt h x 1 (bs.map encU8)) (hy : SlAt h y 1 (cs.map encU8)) : Ev fnG fastA (.fn 14 [] []) [x, y] h fun u h' => u = .bool true := by
  refine Ev.gen fun Q q => ?_
  refine Ev_body (fd := c14) rfl rfl rfl ?_
  simp -implicitDefEqProofs (maxSteps := 999999) (disch := first | with_reducible rfl | omega | (simp only [nA, nS, nD] <;> omega) | fail) only [c14, go_sem]
  refine Wound_ev hw hx _ fun h1 s1 p1 n1 => ?_
  simp -implicitDefEqProofs (maxSteps := 999999) (disch := first | with_reducible rfl | omega | (simp only [nA, nS, nD] <;> omega) | fail) only [go_sem]
  refine Wound_ev s1.wf (hy.mono s1) _ fun h2 s12 q2 n2 => ?_
  simp -implicitDefEqProofs (maxSteps := 999999) (disch := first | with_reducible rfl | omega | (simp only [nA, nS, nD] <;> omega) | fail) only [go_sem]
  refine Made_ev (s1.trans s12) hw hx (Nat.le_refl _) (p1.mono s12) (by omega) (lots := 12) (drams := 300) (by omega) (by omega) _ fun e l r L bb h3 T3 he hl hlo hreal s3 p3 hT3 k3 aL L1 hLp hb gb => ?_
  have q3 := q2.keep k3 (by omega)
  have w3 := s3.wf
  have lt3 := w3 _ _ gb
  have n3 := k3.1
  have hL3 : ∀ c, blkOf L c → c < h3.next := SlAt_lt w3 aL (by intro h; rw [List.map_eq_nil_iff] at h; rw [h] at hl; simp at hl)
  have hlp := w3 _ _ (spGet p3)
  have sA := (H.Sub.refl w3).add (.cells .rw [.int .i64 e, L, .nils])
  have gA : (h3.add (.cells .rw [.int .i64 e, L, .nils])).get h3.next = some (.cells .rw [.int .i64 e, L, .nils]) := get_add_new rfl
  have lA : (h3.add (.cells .rw [.int .i64 e, L, .nils])).next = h3.next + 1 := H.next_add _ _
  simp -implicitDefEqProofs (maxSteps := 999999) (disch := first | with_reducible rfl | omega | (simp only [nA, nS, nD] <;> omega) | fail) only [go_sem, L1, cells_one L1]
  generalize h3.add (.cells .rw [.int .i64 e, L, .nils]) = hA at sA gA lA ⊢
  have hrl : ∀ j : Int, 0 ≤ j → j < l.length → 0 ≤ r j ∧ r j ≤ 3600 := fun j j0 j1 => by
    have := (hreal.last (good_made (e := e) (by omega) (by omega) hlo) (by omega)).1 j j0 j1
    omega
  have hbp : bb ≠ h.next := fun e => by subst e; omega
  refine Weighed_ev (s3.trans sA) hw hx (Nat.le_refl _) (p3.mono sA) (by omega) L1 (aL.mono sA) (by omega) (by omega) hbp (fun c hc => (hLp c hc).1) (sA.get gb) (fun j j0 j1 => ⟨(hrl j j0 j1).1, by have := (hrl j j0 j1).2; omega⟩) (most := 9) (by omega) _ fun wg W h4 T4 hwg hwl oW nW p4 hT4 k4 => ?_
  have q4 := (q3.mono sA).keep k4 (by omega)
  have g4 := k4.2 _ _ gA (by omega)
  have l4 := k4.1
  have s4 := oW.1
  have a4 := SlAt_keep (aL.mono sA) k4 fun c hc => (hLp c hc).1
  have aW4 := oW.sl (by simp only [List.length_map]; omega)
  have W1 := OwnC.one oW.c
  have nW4 : ∀ c, blkOf W c → c < h4.next := fun c hc => (oW.blk hc).2.1
  have hm5 : MlIs (h4.set h3.next (.cells .rw [.int .i64 e, L, W])) (.agg [.int .i64 e, L, W]) ⟨e, l, wg⟩ := ⟨L, W, rfl, SlAt_keep a4 (Keeps.set _ _ _) fun c hc e => by have := hL3 c hc; omega, SlAt_keep aW4 (Keeps.set _ _ _) fun c hc e => by have := nW c hc; omega⟩
  have s5 : h.Sub (h4.set h3.next (.cells .rw [.int .i64 e, L, W])) := s4.set (by omega) (by omega) hw _
  have g5 : (h4.set h3.next (.cells .rw [.int .i64 e, L, W])).cells h3.next = some [.int .i64 e, L, W] := cells_set_same rfl
  have l5 : h3.next < (h4.set h3.next (.cells .rw [.int .i64 e, L, W])).next := by rw [H.next_set]; omega
  have q5 : SpAt (h4.set h3.next (.cells .rw [.int .i64 e, L, W])) h1.next y 0 := q4.keep (Keeps.set _ _ _) (by omega)
  have b5 : (h4.set h3.next (.cells .rw [.int .i64 e, L, W])).get bb = some (.cells .rw (tab r l.length)) := by rw [get_set_other (by omega)]; exact k4.2 _ _ (sA.get gb) hbp
  have hlL : q_len L = some (.int .i64 (l.length : Int)) := aL.lenE
  simp -implicitDefEqProofs (maxSteps := 999999) (disch := first | with_reducible rfl | omega | (simp only [nA, nS, nD] <;> omega) | fail) only [go_sem, g4, L1, W1, cells_one L1, cells_one W1, g5, hlL, wr_in]
  generalize h4.set h3.next (.cells .rw [.int .i64 e, L, W]) = h5 at hm5 s5 g5 l5 q5 b5 ⊢
  have R := realM_of (e := e) (D := 300) (by omega) (by omega) hlo (by omega) hreal hwg hwl.1
  obtain ⟨m, em⟩ : ∃ m : Ml, m = ⟨e, l, wg⟩ := ⟨_, rfl⟩
  rw [← em] at R hm5
  have em1 : m.lots = l := by rw [em]
  have em2 : m.wgs = wg := by rw [em]
  have em3 : m.errs = e := by rw [em]
  have g := R.good
  have c := check_good g
  have gl := g.lots
  have hf : ∃ w, FeasM m allC w := ⟨_, R.feas⟩
  have hoff : vOff (.agg [.int .i64 e, L, W]) (fun c => c = h1.next) := fun e' L' W' e2 => by
    cases e2
    exact ⟨fun c hc e => by have := (hLp c hc).2; omega, fun c hc e => by have := nW c hc; omega⟩
  refine (Bounds_own s5.wf hm5).mono fun u h6 hu => ?_
  obtain ⟨s56, X, rows, e5, rfl, oX, hXl, spec⟩ := hu
  rcases spec with ⟨a, _⟩ | ⟨_, a, _⟩ | ⟨_, b, hbx, rfl, rfl⟩
  · exact absurd c a
  · exact absurd hf a
  have s6 := s5.trans s56
  have g6 := s56.cells g5
  have m6 := hm5.mono s56
  simp -implicitDefEqProofs (maxSteps := 999999) (disch := first | with_reducible rfl | omega | (simp only [nA, nS, nD] <;> omega) | fail) only [go_sem, g6]
  refine (check_ev s6.wf m6).mono fun u h7 hu => ?_
  obtain ⟨rfl, s67⟩ := hu
  have s7 := s6.trans s67
  have g7 := s67.cells g6
  have m7 := m6.mono s67
  have q7 := (q5.mono s56).mono s67
  have b7 := s67.get (s56.get b5)
  have oX7 := oX.mono s67
  have aX := oX7.sl (by simp only [List.length_map, spansL_len]; omega)
  have hlX := aX.lenE
  rw [spansL_len] at hlX
  have hlL2 : q_len L = some (.int .i64 (m.lots.length : Int)) := by rw [em1]; exact hlL
  have hbX : ∀ c, blkOf X c → h5.next ≤ c := fun c hc => (oX7.blk hc).1
  have lt7 := (s56.trans s67).next
  have hreal2 := R.feas
  simp -implicitDefEqProofs (maxSteps := 999999) (disch := first | with_reducible rfl | omega | (simp only [nA, nS, nD] <;> omega) | fail) only [go_sem, c, ne_eq, not_true_eq_false, hlX, g7, hlL2]
  refine W_count m.lots.length (fun i s => ∃ tm h' T', s = ⟨tm, h', []⟩ ∧ h.Sub h' ∧ Keeps (fun c => c = h1.next) h7 h' ∧ SpAt h' h1.next y T' ∧ 0 ≤ T' ∧ T' ≤ (i : Int) ∧
      (Opd.t 6).ev tm = .ptr h1.next 0 ∧ (Opd.t 7).ev tm = .ptr h3.next 0 ∧ (Opd.t 8).ev tm = .sl bb 0 l.length (.fix l.length) ∧ (Opd.t 57).ev tm = X ∧ (Opd.t 58).ev tm = .int .i64 (m.lots.length : Int) ∧ (Opd.t 59).ev tm = .int .i64 (i : Int))
    ?_ ?_ (i := 0) (Nat.zero_le _) ⟨_, _, 0, rfl, s7, Keeps.refl _ _, q7, by omega, by omega, (by simp [ev_c, ev_put] <;> rfl), (by simp [ev_c, ev_put] <;> rfl), (by simp [ev_c, ev_put] <;> rfl), (by simp [ev_c, ev_put] <;> rfl), (by simp [ev_c, ev_put] <;> rfl), (by simp [ev_c, ev_put] <;> rfl)⟩
  · rintro i s hi ⟨tm, h', T', rfl, s', K', q', T0, T1, t6, t7, t8, t57, t58, t59⟩
    have hi' : (i : Int) < (m.lots.length : Int) := by omega
    have hil : i < l.length := by rw [← em1]; exact hi
    have gm := K'.cells g7 (by omega)
    have gb' := K'.2 _ _ b7 (by omega)
    have m' := m7.keep K' hoff
    have aX' := SlAt_keep aX K' fun c hc e => by have := hbX c hc; omega
    have lt' := K'.1
    have hix : i < (spansL b m.lots.length).length := by rw [spansL_len]; exact hi
    obtain ⟨bX, oX1, cX, csX, eX, hcsX, hqX, hgX, hnX, hnX0⟩ := aX'.at hix
    have hX0 : getN (oX1 + i * 2) 2 csX = some [.int .i64 (b (i : Int)).1, .int .i64 (b (i : Int)).2] := by rw [hgX, spans_at]; rfl
    have hbd := hbx.bd g (i : Int)
    have hne := hbx.1.ne (i : Int) (by omega) hi'
    have hsd := hbx.1.sound _ hreal2 (i : Int) (by omega) hi'
    have z1 : ¬ r (i : Int) < (b (i : Int)).1 := by omega
    have z2 : ¬ (b (i : Int)).2 < r (i : Int) := by omega
    have sA' := (H.Sub.refl s'.wf).add (.cells .rw [.int .i64 (b (i : Int)).1, .int .i64 (b (i : Int)).2])
    have f12 : (h'.add (.cells .rw [.int .i64 (b (i : Int)).1, .int .i64 (b (i : Int)).2])).get h'.next = some (.cells .rw [.int .i64 (b (i : Int)).1, .int .i64 (b (i : Int)).2]) := get_add_new rfl
    have lA' : (h'.add (.cells .rw [.int .i64 (b (i : Int)).1, .int .i64 (b (i : Int)).2])).next = h'.next + 1 := H.next_add _ _
    simp -implicitDefEqProofs (maxSteps := 999999) (disch := first | with_reducible rfl | omega | (simp only [nA, nS, nD] <;> omega) | fail) only [go_sem, t6, t7, t8, t57, t58, t59, hi', hqX (nat_cst i), hcsX, hX0, cells_of gb', q_iad_sl (nat_cst i) hil, Nat.mul_one, tab_at2 hil, z1, z2]
    generalize h'.add (.cells .rw [.int .i64 (b (i : Int)).1, .int .i64 (b (i : Int)).2]) = hA2 at sA' f12 lA' ⊢
    have sA2 := s'.trans sA'
    refine From_ev sA2 hw hy (by omega) (q'.mono sA') (by omega) (by omega) (by omega) _ fun d hB d0 d1 sB qB kB nB => ?_
    have f12B := kB.2 _ _ f12 (by omega)
    simp -implicitDefEqProofs (maxSteps := 999999) (disch := first | with_reducible rfl | omega | (simp only [nA, nS, nD] <;> omega) | fail) only [go_sem, t6, t7, t8, t57, t58, t59, cells_of f12, cells_of f12B, wr_in, zerosB]
    obtain ⟨lo, elo⟩ : ∃ lo, (b (i : Int)).1 = lo := ⟨_, rfl⟩
    obtain ⟨hi2, ehi⟩ : ∃ hi2, (b (i : Int)).2 = hi2 := ⟨_, rfl⟩
    rw [elo, ehi] at f12B f12 hbd hne
    rw [elo] at d0
    rw [elo, ehi] at d1
    rw [elo, ehi]
    have sC := (H.Sub.refl sB.wf).add (.cells .rw [.int .i64 lo, .int .i64 hi2, .int .i64 d, .int .i64 (lo - 1), .int .i64 (hi2 + 1)])
    have aK : SlAt (hB.add (.cells .rw [.int .i64 lo, .int .i64 hi2, .int .i64 d, .int .i64 (lo - 1), .int .i64 (hi2 + 1)])) (.sl hB.next 0 5 (.fix 5)) 1 (([lo, hi2, d, lo - 1, hi2 + 1] : List Int).map encI) :=
      SlAt.new _ rfl (by rfl) (by rfl) (by simp [encI]) (by simp)
    have f12C := sC.get f12B
    have qC := qB.mono sC
    have KC : Keeps (fun c => c = h1.next) h7 (hB.add (.cells .rw [.int .i64 lo, .int .i64 hi2, .int .i64 d, .int .i64 (lo - 1), .int .i64 (hi2 + 1)])) := Keeps.new s7.wf ((((K'.trans (Keeps.of sA' (fun _ => False))).trans kB).trans (Keeps.of sC (fun _ => False))).mono (by
      rintro c (((h | h) | h) | h)
      · exact .inl h
      · exact h.elim
      · exact .inl h
      · exact h.elim))
    generalize hB.add (.cells .rw [.int .i64 lo, .int .i64 hi2, .int .i64 d, .int .i64 (lo - 1), .int .i64 (hi2 + 1)]) = hC at sC aK f12C qC KC ⊢
    have sC2 := sB.trans sC
    have gmC := KC.cells g7 (by omega)
    have mC := m7.keep KC hoff
    refine W_count 5 (fun j s => ∃ tm h'', s = ⟨tm, h'', []⟩ ∧ hC.Sub h'' ∧
        (Opd.t 6).ev tm = .ptr h1.next 0 ∧ (Opd.t 7).ev tm = .ptr h3.next 0 ∧ (Opd.t 8).ev tm = .sl bb 0 l.length (.fix l.length) ∧ (Opd.t 11).ev tm = .int .i64 (i : Int) ∧ (Opd.t 12).ev tm = .ptr h'.next 0 ∧ (Opd.t 57).ev tm = X ∧ (Opd.t 58).ev tm = .int .i64 (m.lots.length : Int) ∧ (Opd.t 59).ev tm = .int .i64 (i : Int) ∧ (Opd.t 96).ev tm = .sl hB.next 0 5 (.fix 5) ∧ (Opd.t 97).ev tm = .int .i64 5 ∧ (Opd.t 98).ev tm = .int .i64 (j : Int))
      ?_ ?_ (i := 0) (Nat.zero_le _) ⟨_, _, rfl, H.Sub.refl sC2.wf, (by simp [ev_c, ev_put, t6] <;> rfl), (by simp [ev_c, ev_put, t7] <;> rfl), (by simp [ev_c, ev_put, t8] <;> rfl), (by simp [ev_c, ev_put] <;> rfl), (by simp [ev_c, ev_put] <;> rfl), (by simp [ev_c, ev_put, t57] <;> rfl), (by simp [ev_c, ev_put, t58] <;> rfl), (by simp [ev_c, ev_put, t59] <;> rfl), (by simp [ev_c, ev_put] <;> rfl), (by simp [ev_c, ev_put] <;> rfl), (by simp [ev_c, ev_put] <;> rfl)⟩ <;> clear t6 t7 t8 t57 t58 t59 tm
    · rintro j s hj ⟨tm, h'', rfl, hs, t6, t7, t8, t11, t12, t57, t58, t59, t96, t97, t98⟩
      have hj' : (j : Int) < 5 := by omega
      obtain ⟨bK, oK, cK, csK, eK, hcsK, hqK, hgK, hnK, hnK0⟩ := (aK.mono hs).at (k := j) hj
      obtain ⟨w, ew⟩ : ∃ w, ([lo, hi2, d, lo - 1, hi2 + 1] : List Int)[j] = w := ⟨_, rfl⟩
      have vK : nth (oK + j) csK = some (.int .i64 w) := by have := hnK0 (by omega); rw [Nat.mul_one, ew] at this; exact this
      rw [Nat.mul_one] at hqK
      have sD := sC2.trans hs
      have gmD := hs.cells gmC
      have f12D := hs.cells (cells_of f12C)
      simp -implicitDefEqProofs (maxSteps := 999999) (disch := first | with_reducible rfl | omega | (simp only [nA, nS, nD] <;> omega) | fail) only [go_sem, t6, t7, t8, t11, t12, t57, t58, t59, t96, t97, t98, hj', hqK (nat_cst j), hcsK, vK, gmD]
      refine (Weights_ev sD.wf (mC.mono hs) (i : Int) w).mono fun u hE hu => ?_
      obtain ⟨sE, x1, wl1, e1, rfl, aW1, spec⟩ := hu
      have sDE := hs.trans sE
      have f12E := sE.cells f12D
      by_cases hin : lo ≤ w ∧ w ≤ hi2
      · have hex : ∃ v, FeasM m allC v ∧ v (i : Int) = w := hbx.1.full (i : Int) w (by omega) hi' (by omega) (by omega)
        rcases spec with ⟨a, _⟩ | ⟨_, a, _⟩ | ⟨_, _, a, _⟩ | ⟨_, _, rfl, wl2, wf, wv⟩
        · exact absurd c a
        · exact absurd ⟨by omega, by omega⟩ a
        · exact absurd hex a
        have y1 : ¬ w < lo := by omega
        have y2 : ¬ hi2 < w := by omega
        simp -implicitDefEqProofs (maxSteps := 999999) (disch := first | with_reducible rfl | omega | (simp only [nA, nS, nD] <;> omega) | fail) only [go_sem, t6, t7, t8, t11, t12, t57, t58, t59, t96, t97, t98, f12E, y1, y2, ne_eq, not_true_eq_false, sDE.cells gmC]
        refine dry_ev (sD.trans sE).wf (mC.mono sDE) g aW1 ⟨wl2, wf⟩ _ fun hF sF => ?_
        have hiw : i < wl1.length := by rw [wl2]; exact hi
        rw [wOfL_at hiw] at wv
        obtain ⟨bV, oV, cV, csV, eV, hcsV, hqV, hgV, hnV, hnV0⟩ := (aW1.mono sF).at hiw
        have vV : nth (oV + i) csV = some (.int .i64 w) := by have := hnV0 (by omega); rw [Nat.mul_one, wv] at this; exact this
        rw [Nat.mul_one] at hqV
        simp -implicitDefEqProofs (maxSteps := 999999) (disch := first | with_reducible rfl | omega | (simp only [nA, nS, nD] <;> omega) | fail) only [go_sem, t6, t7, t8, t11, t12, t57, t58, t59, t96, t97, t98, hqV (nat_cst i), hcsV, vV, ne_eq, not_true_eq_false, wr_succ]
        exact ⟨_, _, rfl, sDE.trans sF, (by simp [ev_c, ev_put, t6] <;> rfl), (by simp [ev_c, ev_put, t7] <;> rfl), (by simp [ev_c, ev_put, t8] <;> rfl), (by simp [ev_c, ev_put, t11] <;> rfl), (by simp [ev_c, ev_put, t12] <;> rfl), (by simp [ev_c, ev_put, t57] <;> rfl), (by simp [ev_c, ev_put, t58] <;> rfl), (by simp [ev_c, ev_put, t59] <;> rfl), (by simp [ev_c, ev_put, t96] <;> rfl), (by simp [ev_c, ev_put, t97] <;> rfl), (by simp [ev_c, ev_put] <;> rfl)⟩
      · have hnex : ¬ ∃ v, FeasM m allC v ∧ v (i : Int) = w := by
          rintro ⟨v, f, ev⟩
          have := hbx.1.sound v f (i : Int) (by omega) hi'
          omega
        rcases spec with ⟨a, _⟩ | ⟨_, a, _⟩ | ⟨_, _, _, rfl, _⟩ | ⟨_, _, _, _, wf, wv⟩
        · exact absurd c a
        · exact absurd ⟨by omega, by omega⟩ a
        case inr.inr.inr => exact absurd ⟨_, wf, wv⟩ hnex
        by_cases y1 : w < lo
        · simp -implicitDefEqProofs (maxSteps := 999999) (disch := first | with_reducible rfl | omega | (simp only [nA, nS, nD] <;> omega) | fail) only [go_sem, t6, t7, t8, t11, t12, t57, t58, t59, t96, t97, t98, f12E, y1, ne_eq, not_true_eq_false, wr_succ]
          exact ⟨_, _, rfl, sDE, (by simp [ev_c, ev_put, t6] <;> rfl), (by simp [ev_c, ev_put, t7] <;> rfl), (by simp [ev_c, ev_put, t8] <;> rfl), (by simp [ev_c, ev_put, t11] <;> rfl), (by simp [ev_c, ev_put, t12] <;> rfl), (by simp [ev_c, ev_put, t57] <;> rfl), (by simp [ev_c, ev_put, t58] <;> rfl), (by simp [ev_c, ev_put, t59] <;> rfl), (by simp [ev_c, ev_put, t96] <;> rfl), (by simp [ev_c, ev_put, t97] <;> rfl), (by simp [ev_c, ev_put] <;> rfl)⟩
        · have y2 : hi2 < w := by omega
          simp -implicitDefEqProofs (maxSteps := 999999) (disch := first | with_reducible rfl | omega | (simp only [nA, nS, nD] <;> omega) | fail) only [go_sem, t6, t7, t8, t11, t12, t57, t58, t59, t96, t97, t98, f12E, y1, y2, ne_eq, not_true_eq_false, wr_succ]
          exact ⟨_, _, rfl, sDE, (by simp [ev_c, ev_put, t6] <;> rfl), (by simp [ev_c, ev_put, t7] <;> rfl), (by simp [ev_c, ev_put, t8] <;> rfl), (by simp [ev_c, ev_put, t11] <;> rfl), (by simp [ev_c, ev_put, t12] <;> rfl), (by simp [ev_c, ev_put, t57] <;> rfl), (by simp [ev_c, ev_put, t58] <;> rfl), (by simp [ev_c, ev_put, t59] <;> rfl), (by simp [ev_c, ev_put, t96] <;> rfl), (by simp [ev_c, ev_put, t97] <;> rfl), (by simp [ev_c, ev_put] <;> rfl)⟩
    · rintro s ⟨tm, h'', rfl, hs, t6, t7, t8, t11, t12, t57, t58, t59, t96, t97, t98⟩
      have hnl : ¬ ((5 : Nat) : Int) < 5 := by omega
      simp -implicitDefEqProofs (maxSteps := 999999) (disch := first | with_reducible rfl | omega | (simp only [nA, nS, nD] <;> omega) | fail) only [go_sem, t6, t7, t8, t11, t12, t57, t58, t59, t96, t97, t98, hnl, wr_succ]
      exact ⟨_, _, T' + 1, rfl, sC2.trans hs, (KC.trans (Keeps.of hs (fun _ => False))).mono fun c hc => hc.elim id False.elim, qC.mono hs, by omega, by omega, (by simp [ev_c, ev_put, t6] <;> rfl), (by simp [ev_c, ev_put, t7] <;> rfl), (by simp [ev_c, ev_put, t8] <;> rfl), (by simp [ev_c, ev_put, t57] <;> rfl), (by simp [ev_c, ev_put, t58] <;> rfl), (by simp [ev_c, ev_put] <;> rfl)⟩
  · rintro s ⟨tm, h8, T', rfl, s8, K', q', T0, T1, t6, t7, t8, t57, t58, t59⟩
    have g8 := K'.cells g7 (by omega)
    have b8 := K'.2 _ _ b7 (by omega)
    have m8 := m7.keep K' hoff
    simp -implicitDefEqProofs (maxSteps := 999999) (disch := first | with_reducible rfl | omega | (simp only [nA, nS, nD] <;> omega) | fail) only [go_sem, t6, t7, t8, t57, t58, t59, Int.lt_irrefl]
    have rbd : ∀ j : Int, 0 ≤ j → j < m.lots.length → 0 ≤ r j ∧ r j ≤ 10000 := fun j j0 j1 => by
      have := hrl j j0 (by rw [em1] at j1; exact j1); omega
    refine W_count 4 (fun k s => ∃ tm h', s = ⟨tm, h', []⟩ ∧ h8.Sub h' ∧ (Opd.t 7).ev tm = .ptr h3.next 0 ∧ (Opd.t 8).ev tm = .sl bb 0 l.length (.fix l.length) ∧ (Opd.t 139).ev tm = .int .i64 (k : Int))
      ?_ ?_ (i := 0) (Nat.zero_le _) ⟨_, _, rfl, H.Sub.refl s8.wf, (by simp [ev_c, ev_put, t7] <;> rfl), (by simp [ev_c, ev_put, t8] <;> rfl), (by simp [ev_c, ev_put] <;> rfl)⟩ <;> clear t6 t7 t8 t57 t58 t59 tm
    · rintro k s hk ⟨tm, h', rfl, hs, t7, t8, t139⟩
      have hk' : (k : Int) < 4 := by omega
      simp -implicitDefEqProofs (maxSteps := 999999) (disch := first | with_reducible rfl | omega | (simp only [nA, nS, nD] <;> omega) | fail) only [go_sem, t7, t8, t139, hk']
      refine W_count l.length (fun i s => ∃ tm h'', s = ⟨tm, h'', []⟩ ∧ h'.Sub h'' ∧ (Opd.t 7).ev tm = .ptr h3.next 0 ∧ (Opd.t 8).ev tm = .sl bb 0 l.length (.fix l.length) ∧ (Opd.t 17).ev tm = .int .i64 (k : Int) ∧ (Opd.t 18).ev tm = .int .i64 (sumL (lfK m (k : Int) r) (allL i)) ∧ (Opd.t 139).ev tm = .int .i64 (k : Int) ∧ (Opd.t 142).ev tm = .sl bb 0 l.length (.fix l.length) ∧ (Opd.t 143).ev tm = .int .i64 (l.length : Int) ∧ (Opd.t 144).ev tm = .int .i64 (i : Int))
        ?_ ?_ (i := 0) (Nat.zero_le _) ⟨_, _, rfl, H.Sub.refl (s8.trans hs).wf, (by simp [ev_c, ev_put, t7] <;> rfl), (by simp [ev_c, ev_put, t8] <;> rfl), (by simp [ev_c, ev_put] <;> rfl), (by simp [ev_c, ev_put] <;> rfl), (by simp [ev_c, ev_put, t139] <;> rfl), (by simp [ev_c, ev_put] <;> rfl), (by simp [ev_c, ev_put] <;> rfl), (by simp [ev_c, ev_put] <;> rfl)⟩ <;> clear t7 t8 t139 tm
      · rintro i s hi ⟨tm, h'', rfl, hs2, t7, t8, t17, t18, t139, t142, t143, t144⟩
        have hi' : (i : Int) < (l.length : Int) := by omega
        have him : i < m.lots.length := by rw [em1]; exact hi
        have hs3 := hs.trans hs2
        have s3' := s8.trans hs3
        have gb3 := hs3.cells (cells_of b8)
        have gm3 := hs3.cells g8
        simp -implicitDefEqProofs (maxSteps := 999999) (disch := first | with_reducible rfl | omega | (simp only [nA, nS, nD] <;> omega) | fail) only [go_sem, t7, t8, t17, t18, t139, t142, t143, t144, hi', q_iad_sl (nat_cst i) hi, Nat.mul_one, gb3, tab_at2 hi, gm3]
        refine whole_ev s3'.wf (m8.mono hs3) (i : Int) _ fun h4' s4' => ?_
        have gm4 := s4'.cells gm3
        have hsb := lf_bd (m := m) (k := (k : Int)) (r := r) (i := i) fun j j0 j1 => rbd j j0 (by omega)
        have hri := rbd (i : Int) (by omega) (by omega)
        have hst := lf_step (m := m) (k := (k : Int)) (r := r) i
        by_cases hpi : parts m (i : Int) = []
        · have hd : decide (parts m (i : Int) = []) = true := decide_eq_true hpi
          obtain ⟨L', W', e', aL', _⟩ := (m8.mono hs3).mono s4'
          cases e'
          obtain ⟨bL, oL, cL, csL, eL, hcsL, hqL, hgL, hnL, hnL0⟩ := aL'.at him
          have hkd : nth (oL + i * 2 + 1) csL = some (.int .i64 m.lots[i].kind) := by rw [hnL 1 (by omega)]; rfl
          have hka : kindAt m (i : Int) = m.lots[i].kind := kindAt_at him
          by_cases hkk : m.lots[i].kind = (k : Int)
          · have e1 : lfK m (k : Int) r (i : Int) = r (i : Int) := by unfold lfK; rw [if_pos ⟨hpi, by rw [hka]; exact hkk⟩]
            rw [e1] at hst
            simp -implicitDefEqProofs (maxSteps := 999999) (disch := first | with_reducible rfl | omega | (simp only [nA, nS, nD] <;> omega) | fail) only [go_sem, t7, t8, t17, t18, t139, t142, t143, t144, hd, gm4, hqL (nat_cst i), hcsL, hkd, hkk, wr_in, wr_succ]
            exact ⟨_, _, rfl, hs2.trans s4', (by simp [ev_c, ev_put, t7] <;> rfl), (by simp [ev_c, ev_put, t8] <;> rfl), (by simp [ev_c, ev_put, t17] <;> rfl), by rw [hst]; exact (by simp [ev_c, ev_put] <;> rfl), (by simp [ev_c, ev_put, t139] <;> rfl), (by simp [ev_c, ev_put, t142] <;> rfl), (by simp [ev_c, ev_put, t143] <;> rfl), (by simp [ev_c, ev_put] <;> rfl)⟩
          · have e1 : lfK m (k : Int) r (i : Int) = 0 := by unfold lfK; rw [if_neg (fun h => hkk (by rw [← hka]; exact h.2))]
            rw [e1, Int.add_zero] at hst
            simp -implicitDefEqProofs (maxSteps := 999999) (disch := first | with_reducible rfl | omega | (simp only [nA, nS, nD] <;> omega) | fail) only [go_sem, t7, t8, t17, t18, t139, t142, t143, t144, hd, gm4, hqL (nat_cst i), hcsL, hkd, hkk, wr_succ]
            exact ⟨_, _, rfl, hs2.trans s4', (by simp [ev_c, ev_put, t7] <;> rfl), (by simp [ev_c, ev_put, t8] <;> rfl), (by simp [ev_c, ev_put, t17] <;> rfl), by rw [hst]; exact (by simp [ev_c, ev_put, t18] <;> rfl), (by simp [ev_c, ev_put, t139] <;> rfl), (by simp [ev_c, ev_put, t142] <;> rfl), (by simp [ev_c, ev_put, t143] <;> rfl), (by simp [ev_c, ev_put] <;> rfl)⟩
        · have hd : decide (parts m (i : Int) = []) = false := decide_eq_false hpi
          have e1 : lfK m (k : Int) r (i : Int) = 0 := by unfold lfK; rw [if_neg (fun h => hpi h.1)]
          rw [e1, Int.add_zero] at hst
          simp -implicitDefEqProofs (maxSteps := 999999) (disch := first | with_reducible rfl | omega | (simp only [nA, nS, nD] <;> omega) | fail) only [go_sem, t7, t8, t17, t18, t139, t142, t143, t144, hd, wr_succ]
          exact ⟨_, _, rfl, hs2.trans s4', (by simp [ev_c, ev_put, t7] <;> rfl), (by simp [ev_c, ev_put, t8] <;> rfl), (by simp [ev_c, ev_put, t17] <;> rfl), by rw [hst]; exact (by simp [ev_c, ev_put, t18] <;> rfl), (by simp [ev_c, ev_put, t139] <;> rfl), (by simp [ev_c, ev_put, t142] <;> rfl), (by simp [ev_c, ev_put, t143] <;> rfl), (by simp [ev_c, ev_put] <;> rfl)⟩
      · rintro s ⟨tm, h'', rfl, hs2, t7, t8, t17, t18, t139, t142, t143, t144⟩
        have hs3 := hs.trans hs2
        have s3' := s8.trans hs3
        have gm3 := hs3.cells g8
        have hlf := lf_in g hreal2 (k : Int)
        rw [em1] at hlf
        simp -implicitDefEqProofs (maxSteps := 999999) (disch := first | with_reducible rfl | omega | (simp only [nA, nS, nD] <;> omega) | fail) only [go_sem, t7, t8, t17, t18, t139, t142, t143, t144, Int.lt_irrefl, gm3]
        refine (Where_ev s3'.wf (m8.mono hs3) (k : Int)).mono fun u hA1 hu => ?_
        obtain ⟨sA1, lo, hi, ee, rfl, spec⟩ := hu
        rcases spec with ⟨a, _⟩ | ⟨_, ⟨a, _⟩ | ⟨_, ⟨a, _⟩ | ⟨_, rfl, rfl, rfl⟩⟩⟩
        · exact absurd c a
        · exfalso; simp only [allowedK, decide_eq_false_iff_not] at a; omega
        · exact absurd hf a
        have z1 : ¬ sumL (lfK m (k : Int) r) (allL l.length) < whLo m (k : Int) (parts m (-1)) := by omega
        have z2 : ¬ whHi m (k : Int) (parts m (-1)) < sumL (lfK m (k : Int) r) (allL l.length) := by omega
        have sB1 := (H.Sub.refl (s3'.trans sA1).wf).add (.cells .rw [.int .i64 (whLo m (k : Int) (parts m (-1))), .int .i64 (whHi m (k : Int) (parts m (-1)))])
        simp -implicitDefEqProofs (maxSteps := 999999) (disch := first | with_reducible rfl | omega | (simp only [nA, nS, nD] <;> omega) | fail) only [go_sem, t7, t8, t17, t18, t139, ne_eq, not_true_eq_false, z1, z2, wr_succ]
        exact ⟨_, _, rfl, hs3.trans (sA1.trans sB1), (by simp [ev_c, ev_put, t7] <;> rfl), (by simp [ev_c, ev_put, t8] <;> rfl), (by simp [ev_c, ev_put] <;> rfl)⟩
    · rintro s ⟨tm, h', rfl, hs, t7, t8, t139⟩
      have hnl : ¬ ((4 : Nat) : Int) < 4 := by omega
      have gm := hs.cells g8
      have s' := s8.trans hs
      obtain ⟨ws, ews⟩ : ∃ ws : List Int, ws = (List.range l.length).map fun (k : Nat) => r (k : Int) := ⟨_, rfl⟩
      have hwl2 : ws.length = l.length := by rw [ews]; simp
      have hwat : ∀ i (hi : i < l.length), ws[i]'(by omega) = r (i : Int) := fun i hi => by simp [ews]
      have htab : tab r l.length = (ws.map encI).flatten := by
        rw [ews]
        unfold tab
        induction List.range l.length with
        | nil => rfl
        | cons a t ih => simp only [List.map_cons, List.flatten_cons, encI, iv] at ih ⊢; rw [ih]; rfl
      have aR : SlAt h' (.sl bb 0 l.length (.fix l.length)) 1 (ws.map encI) := by
        refine ⟨by simp [encI], by simp [hwl2]; omega, .inr ⟨bb, 0, .fix l.length, _, by simp [hwl2], .inr (hs.cells (cells_of b8)), ?_⟩⟩
        rw [htab]
        refine getN_full ?_
        have := flatten_len (sz := 1) (rows := ws.map encI) (by simp [encI])
        simpa using this
      have hfit : FitsP m ws := by
        refine ⟨by rw [hwl2, em1], ?_⟩
        refine Feas_congr (fun i p hp => ?_) hreal2 fun i i0 i1 => ?_
        · have := ((forest g).mem i p).1 hp; exact ⟨this.1, this.2.1⟩
        · obtain ⟨j, rfl⟩ := Int.eq_ofNat_of_zero_le i0
          have hj : j < l.length := by rw [← em1]; omega
          rw [wOfL_at (by omega), hwat j hj]
      simp -implicitDefEqProofs (maxSteps := 999999) (disch := first | with_reducible rfl | omega | (simp only [nA, nS, nD] <;> omega) | fail) only [go_sem, t7, t8, t139, hnl, gm]
      refine (Fits_ev s'.wf (m8.mono hs) aR).mono fun u h9 hu => ?_
      obtain ⟨s9, t, e9, rfl, spec⟩ := hu
      rcases spec with ⟨a, _⟩ | ⟨_, rfl, ht⟩
      · exact absurd c a
      obtain rfl : t = true := ht.2 hfit
      simp -implicitDefEqProofs (maxSteps := 999999) (disch := first | with_reducible rfl | omega | (simp only [nA, nS, nD] <;> omega) | fail) only [go_sem, awake_eq]
      exact q _ _ rfl
end Go.Ab.Try
