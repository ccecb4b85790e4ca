/- The reference's bounds: All, own, up, Agree, Bounds. Bounds of all lots, as narrow as can be: the contracts of narrow, tight. The bounds of all lots by the weighings that count: silk.bounds, told. Copies of a mill; one weighing more; a lot that is split. told, Bounds, Widest: contracts. Weights and Fits: contracts. Fits, of the program and of the reference: contracts. Fits of the reference: contract. -/
import Derived.Test.YthoghcpemmfebaaG2
import Derived.Test.YthoghcpemmfebaaGP
import Derived.Test.YthoghcpemmfebaaAc4
set_option linter.unusedSimpArgs false
set_option linter.unusedVariables false
namespace Go.Ab
theorem Keeps.sub {S : Nat → Prop} {h0 h h' : H} (k : Keeps S h h') (s : h0.Sub h) (hw0 : h0.wf) (hS : ∀ c, S c → h0.next ≤ c) (hw : h'.wf) : h0.Sub h' :=
  ⟨⟨Nat.le_trans s.next k.1, fun b x e => k.2 b x (s.get e) fun hs => by have := hS b hs; have := hw0 b x e; omega⟩, hw⟩
namespace Try
open Go.Ab.Silk
theorem mem_partsL {k : Int} : ∀ {l : List Lt} {i : Nat} {p : Int}, p ∈ partsL k l i ↔ ∃ j, ∃ hj : j < l.length, p = ((i + j : Nat) : Int) ∧ l[j].frm = k
  | [], i, p => by simp [partsL]
  | a :: l, i, p => by
    have ih := mem_partsL (k := k) (l := l) (i := i + 1) (p := p)
    have e : (∃ j, ∃ hj : j < (a :: l).length, p = ((i + j : Nat) : Int) ∧ (a :: l)[j].frm = k) ↔ (p = (i : Int) ∧ a.frm = k) ∨ ∃ j, ∃ hj : j < l.length, p = ((i + 1 + j : Nat) : Int) ∧ l[j].frm = k := by
      constructor
      · rintro ⟨j, hj, h1, h2⟩
        cases j with
        | zero => exact .inl ⟨by simpa using h1, h2⟩
        | succ j => exact .inr ⟨j, by simpa using hj, by omega, h2⟩
      · rintro (⟨h1, h2⟩ | ⟨j, hj, h1, h2⟩)
        · exact ⟨0, by simp, by simpa using h1, h2⟩
        · exact ⟨j + 1, by simpa using hj, by omega, h2⟩
    rw [e, ← ih]
    simp only [partsL]
    by_cases h : a.frm = k
    · simp [h]
    · simp [h]
theorem partsL_nodup {k : Int} : ∀ (l : List Lt) (i : Nat), (partsL k l i).Nodup
  | [], i => by simp [partsL]
  | a :: l, i => by
    have ih := partsL_nodup (k := k) l (i + 1)
    simp only [partsL]
    by_cases h : a.frm = k
    · rw [if_pos h, List.nodup_cons]
      refine ⟨fun hm => ?_, ih⟩
      obtain ⟨j, hj, e, _⟩ := mem_partsL.1 hm
      omega
    · rw [if_neg h]; exact ih
theorem forest {m : Ml} (g : Good m) : Forest m.lots.length (frmAt m) (parts m) := by
  refine ⟨fun i i0 i1 => ?_, fun i p => ?_, fun i => partsL_nodup _ _⟩
  · have := frmAt_lt g i0 i1; omega
  · unfold parts
    rw [mem_partsL]
    constructor
    · rintro ⟨j, hj, rfl, hf⟩
      simp only [Nat.zero_add]
      exact ⟨by omega, by omega, by rw [frmAt_nat hj]; exact hf⟩
    · rintro ⟨p0, p1, hf⟩
      obtain ⟨j, rfl⟩ := Int.eq_ofNat_of_zero_le p0
      exact ⟨j, by omega, by simp, by rw [← frmAt_nat (by omega)]; exact hf⟩
def Bd (C : Int) (b : Box) : Prop := ∀ k : Int, -C ≤ (b k).1 ∧ (b k).1 ≤ C ∧ -C ≤ (b k).2 ∧ (b k).2 ≤ C
theorem Bd.mono {C D : Int} {b : Box} (h : Bd C b) (hc : C ≤ D) : Bd D b := fun k => by have := h k; omega
theorem Bd.narrow {C : Int} {b : Box} (h : Bd C b) {i lo hi : Int} (h1 : -C ≤ lo ∧ lo ≤ C) (h2 : -C ≤ hi ∧ hi ≤ C) : Bd C (narrow b i lo hi) := fun k => by
  have hk := h k
  by_cases e : k = i
  · subst e; rw [narrow_same]; simp only; omega
  · rw [narrow_ne _ _ _ e]; exact hk
def InvB (b : Box) : Prop := ∀ k : Int, 0 ≤ (b k).1 ∧ (b k).1 ≤ 4000000 ∧ -4000000 ≤ (b k).2 ∧ (b k).2 ≤ 10000
theorem InvB.bd {b : Box} (h : InvB b) : Bd 4000000 b := fun k => by have := h k; omega
theorem sum_take (x : Int → Int) {l : List Int} {j : Nat} (hj : j < l.length) : sumL x (l.take (j + 1)) = sumL x (l.take j) + x l[j] := by
  rw [List.take_succ_eq_append_getElem hj, sumL_append]; simp [sumL]
end Try
end Go.Ab
set_option linter.unusedSimpArgs false
set_option linter.unusedVariables false
namespace Go.Ab.Try
open Go.Ab.Silk
def ownK (m : Ml) (c : Nat → Bool) (lot : Int) : Nat → Int × Int
  | 0 => (0, 10000)
  | k + 1 => match m.wgs[k]? with
    | none => ownK m c lot k
    | some w => if c k = true ∧ w.lot = lot then (max (ownK m c lot k).1 (sayLo m w), min (ownK m c lot k).2 (sayHi m w)) else ownK m c lot k
theorem ownK_hit {m : Ml} {c : Nat → Bool} {lot : Int} {k : Nat} (hk : k < m.wgs.length) (hc : c k = true) (hl : m.wgs[k].lot = lot) : ownK m c lot (k + 1) = (max (ownK m c lot k).1 (sayLo m m.wgs[k]), min (ownK m c lot k).2 (sayHi m m.wgs[k])) := by
  simp only [ownK]
  rw [List.getElem?_eq_getElem hk]
  simp [hc, hl]
theorem ownK_miss {m : Ml} {c : Nat → Bool} {lot : Int} {k : Nat} (hk : k < m.wgs.length) (h : c k = false ∨ m.wgs[k].lot ≠ lot) : ownK m c lot (k + 1) = ownK m c lot k := by
  simp only [ownK]
  rw [List.getElem?_eq_getElem hk]
  simp only
  rw [if_neg]
  rintro ⟨h1, h2⟩
  rcases h with h | h
  · rw [h] at h1; cases h1
  · exact h h2
theorem say_bd {m : Ml} (g : Good m) {k : Nat} (hk : k < m.wgs.length) : 0 ≤ sayLo m m.wgs[k] ∧ sayLo m m.wgs[k] ≤ 20000 ∧ 0 ≤ sayHi m m.wgs[k] ∧ sayHi m m.wgs[k] ≤ 10000 := by
  have w1 := g.wg _ (List.getElem_mem hk)
  have w2 := g.errs
  have q2 := tdiv_le (a := 100 * (m.wgs[k].reads + m.errs)) (b := 100 + m.wgs[k].lo) (by omega) (by omega)
  have h1 := sayLo_nonneg (m := m) (w := m.wgs[k]) (by omega)
  refine ⟨h1, ?_, ?_, ?_⟩
  · rw [sayLo_le (by omega) (by omega)]
    have := Int.mul_le_mul_of_nonneg_left (show (100 : Int) ≤ 100 + m.wgs[k].hi by omega) (show (0 : Int) ≤ 20000 by omega)
    omega
  · unfold sayHi; omega
  · unfold sayHi; omega
theorem ownK_bd {m : Ml} (g : Good m) (c : Nat → Bool) (lot : Int) : ∀ k, 0 ≤ (ownK m c lot k).1 ∧ (ownK m c lot k).1 ≤ 20000 ∧ 0 ≤ (ownK m c lot k).2 ∧ (ownK m c lot k).2 ≤ 10000
  | 0 => by simp [ownK]
  | k + 1 => by
    have ih := ownK_bd g c lot k
    by_cases hk : k < m.wgs.length
    · by_cases h : c k = true ∧ m.wgs[k].lot = lot
      · have := say_bd g hk
        rw [ownK_hit hk h.1 h.2]; simp only; omega
      · rw [ownK_miss hk (by
          by_cases h1 : c k = true
          · exact .inr fun h2 => h ⟨h1, h2⟩
          · exact .inl (by simpa using h1))]
        exact ih
    · simp only [ownK]
      rw [List.getElem?_eq_none (by omega)]
      exact ih
def boxK (m : Ml) (c : Nat → Bool) (k : Nat) : Box := fun lot => if 0 ≤ lot ∧ lot < m.lots.length then ownK m c lot k else (0, 0)
def ownB (m : Ml) (c : Nat → Bool) : Box := boxK m c m.wgs.length
theorem boxK_inv {m : Ml} (g : Good m) (c : Nat → Bool) (k : Nat) : InvB (boxK m c k) := fun j => by
  unfold boxK
  split
  · have := ownK_bd g c j k; omega
  · simp
end Go.Ab.Try
set_option linter.unusedSimpArgs false
set_option linter.unusedVariables false
namespace Go.Ab
theorem a_msl_nm {h : H} {by_ n m : Nat} {z : List V} (h0 : n ≤ m) (h1 : m * by_ ≤ 1099511627776) (h2 : m ≤ 1099511627776) :
    a_msl h by_ z (.int .i64 (n : Int)) (.int .i64 (m : Int)) = some (.sl h.next 0 n (.fix m), h.add (.cells .rw (repN m z))) := by
  have e1 : Nat.ble (m * by_) 1099511627776 = true := by simpa using h1
  have e2 : Nat.ble m 1099511627776 = true := by simpa using h2
  have e3 : Nat.ble n m = true := by simpa using h0
  simp only [a_msl, nat_cst, e1, e2, e3, og_true, lf_eq]
end Go.Ab
namespace Go.Ab.Try
theorem MlOwn.keep {h0 h h' : H} {S : Nat → Prop} {v : V} {m : Ml} (a : MlOwn h0 h v m) (k : Keeps S h h') (hs : h0.Sub h') (n : ∀ b, S b → ∀ kd cs, h.get b ≠ some (.cells kd cs) ∨ b < h0.next) : MlOwn h0 h' v m := by
  obtain ⟨L, W, e, a1, a2, a3⟩ := a
  refine ⟨L, W, e, a1.keep k hs fun b hb hS => ?_, a2.keep k hs fun b hb hS => ?_, a3⟩
  · obtain ⟨l1, _, kd, cs, hg, _⟩ := a1.blk hb
    rcases n b hS kd cs with h | h
    · exact h hg
    · omega
  · obtain ⟨l1, _, kd, cs, hg, _⟩ := a2.blk hb
    rcases n b hS kd cs with h | h
    · exact h hg
    · omega
end Go.Ab.Try
namespace Go.Ab
theorem H.Sub.lt {h h' : H} (s : h.Sub h') {n : Nat} (l : n < h.next) : n < h'.next := Nat.lt_of_lt_of_le l s.next
namespace Try
def vOff (v : V) (S : Nat → Prop) : Prop := ∀ e L W, v = .agg [e, L, W] → (∀ b, blkOf L b → ¬ S b) ∧ ∀ b, blkOf W b → ¬ S b
theorem MlIs.keep {h h' : H} {S : Nat → Prop} {v : V} {m : Ml} (a : MlIs h v m) (k : Keeps S h h') (n : vOff v S) : MlIs h' v m := by
  obtain ⟨L, W, rfl, a1, a2⟩ := a
  obtain ⟨n1, n2⟩ := n _ _ _ rfl
  exact ⟨L, W, rfl, SlAt_keep a1 k n1, SlAt_keep a2 k n2⟩
theorem MlOwn.off {h0 h : H} {v : V} {m : Ml} (a : MlOwn h0 h v m) {S : Nat → Prop} (n : ∀ b, h0.next ≤ b → ¬ S b) : vOff v S := by
  obtain ⟨L, W, rfl, a1, a2, _⟩ := a
  intro e L' W' e'
  cases e'
  exact ⟨fun b hb => n b (a1.blk hb).1, fun b hb => n b (a2.blk hb).1⟩
theorem Own_own {h : H} {v : V} {m : Ml} (hw : h.wf) (hm : MlIs h v m) (hl : m.lots.length ≤ 1000 ∧ m.wgs.length ≤ 1000) (Q : V → H → Prop) (q : ∀ L W h', h.Sub h' → MlOwn h h' (.agg [.int .i64 m.errs, L, W]) m → L.one = true → W.one = true → Q (.agg [.int .i64 m.errs, L, W]) h') : Ev fnG fastA (.fn 18 [] []) [v] h Q := by
  refine (own_ev hw hm hl).mono fun u h3 hu => ?_
  obtain ⟨s23, a, b, rfl, la1, la2, lb1, lb2, nab, ga, gb⟩ := hu
  refine q _ _ _ s23 ⟨_, _, rfl, ⟨s23, by simp [encL], .inr (.inr ⟨a, m.lots.length, [], by simp, la1, la2, by simpa using ga, by simp, by simp⟩)⟩, ⟨s23, by simp [encW], .inr (.inr ⟨b, m.wgs.length, [], by simp, lb1, lb2, by simpa using gb, by simp, by simp⟩)⟩, fun c ⟨_, _, _, e1⟩ ⟨_, _, _, e2⟩ => ?_⟩ rfl rfl
  cases e1; cases e2; exact nab rfl
end Try
end Go.Ab
set_option linter.unusedSimpArgs false
set_option linter.unusedVariables false
namespace Go.Ab
namespace Try
open Go.Ab.Silk
def allC : Nat → Bool := fun _ => true
def FeasM (m : Ml) (c : Nat → Bool) (w : Int → Int) : Prop := Feas m.lots.length (parts m) (ownB m c) w
theorem ownB_bd {m : Ml} (g : Good m) (c : Nat → Bool) (j : Int) : 0 ≤ (ownB m c j).1 ∧ (ownB m c j).2 ≤ 10000 := by
  have := boxK_inv g c m.wgs.length j
  exact ⟨this.1, this.2.2.2⟩
theorem SlAt_lt {h : H} {x : V} {sz : Nat} {rows : List (List V)} (hw : h.wf) (a : SlAt h x sz rows) (hr : rows ≠ []) : ∀ b, blkOf x b → b < h.next := by
  rintro b ⟨o', n', c', e⟩
  rcases a.2.2 with ⟨rfl, _⟩ | ⟨b', o, c, cs, e1, e2, e3⟩
  · cases e
  · rw [e1] at e; cases e
    obtain ⟨k, hk⟩ := H.cells_eq (e2.resolve_left hr)
    exact hw _ _ hk
end Try
end Go.Ab
set_option linter.unusedSimpArgs false
set_option linter.unusedVariables false
namespace Go.Ab.Try
open Go.Ab.Silk
theorem InvB.of {m : Ml} (g : Good m) {b : Box} (ht : Tight m.lots.length (parts m) b) (hn : Nrw (ownB m allC) b) (ho : ∀ j : Int, ¬ (0 ≤ j ∧ j < m.lots.length) → b j = (0, 0)) : ∀ j : Int, 0 ≤ (b j).1 ∧ (b j).1 ≤ 10000 ∧ 0 ≤ (b j).2 ∧ (b j).2 ≤ 10000 := fun j => by
  by_cases hj : 0 ≤ j ∧ j < m.lots.length
  · have h1 := ht.ne j hj.1 hj.2
    have h2 := hn j
    have h3 := ownB_bd g allC j
    omega
  · rw [ho j hj]; simp
end Go.Ab.Try
set_option linter.unusedSimpArgs false
set_option linter.unusedVariables false
namespace Go.Ab.Try
open Go.Ab.Silk
end Go.Ab.Try
set_option linter.unusedSimpArgs false
set_option linter.unusedVariables false
namespace Go.Ab.Try
open Go.Ab.Silk
end Go.Ab.Try
set_option linter.unusedSimpArgs false
set_option linter.unusedVariables false
namespace Go.Ab.Try
open Go.Ab.Silk
def encBo (b : Bool) : List V := [.bool b]
theorem bools_flat (l : List Bool) : (l.map encBo).flatten = l.map V.bool := by
  induction l with
  | nil => rfl
  | cons a l ih => simp [encBo, ih]
theorem bools_put : ∀ (l : List Bool) (i : Nat) (b : Bool), i < l.length → putN i [.bool b] (l.map V.bool) = some ((l.set i b).map V.bool)
  | [], i, b, h => by simp at h
  | a :: l, 0, b, _ => by simp [putN_0, over_s, over_0, consV_some]
  | a :: l, i + 1, b, h => by
    have ih := bools_put l i b (by simpa using h)
    simp only [List.map_cons, putN_s, ih, consV_some, List.set_cons_succ]
theorem repN_bools (n : Nat) (b : Bool) : repN n [V.bool b] = (List.replicate n b).map V.bool := by
  induction n with
  | zero => rfl
  | succ n ih => rw [repN, appN_eq, ih]; rfl
def cOf (l : List Bool) : Nat → Bool := fun k => l.getD k false
theorem cOf_at {l : List Bool} {k : Nat} (h : k < l.length) : cOf l k = l[k] := by
  unfold cOf
  rw [List.getD_eq_getElem?_getD, List.getElem?_eq_getElem h]; rfl
theorem bools_sl {h : H} {b n : Nat} {l : List Bool} (hb : h.cells b = some (l.map V.bool)) (hn : n = l.length) (hl : l.length ≤ 1000000) : SlAt h (.sl b 0 n (.fix n)) 1 (l.map encBo) := by
  subst hn
  refine ⟨fun r hr => by (obtain ⟨b, _, rfl⟩ := List.mem_map.1 hr; rfl), by simp; omega, .inr ⟨b, 0, .fix l.length, _, by simp, .inr hb, ?_⟩⟩
  rw [bools_flat]
  exact getN_full (by simp)
def upTo (n i : Nat) : List Bool := (List.range n).map fun j => decide (j < i)
theorem upTo_len (n i : Nat) : (upTo n i).length = n := by simp [upTo]
theorem upTo_zero (n : Nat) : upTo n 0 = List.replicate n false := by
  refine List.ext_getElem (by simp [upTo]) fun i h1 h2 => ?_
  simp [upTo]
theorem upTo_step {n i : Nat} (h : i < n) : (upTo n i).set i true = upTo n (i + 1) := by
  refine List.ext_getElem (by simp [upTo]) fun k h1 h2 => ?_
  rw [List.getElem_set]
  by_cases e : i = k
  · subst e; simp [upTo]
  · rw [if_neg e]
    simp only [upTo, List.getElem_map, List.getElem_range]
    rw [Bool.eq_iff_iff]; simp; omega
theorem upTo_all (n : Nat) : upTo n n = List.replicate n true := by
  refine List.ext_getElem (by simp [upTo]) fun i h1 h2 => ?_
  rw [upTo_len] at h1
  simp [upTo]; exact h1
theorem All_ev {h : H} {v : V} {m : Ml} (hw : h.wf) (hm : MlIs h v m) (hl : m.wgs.length ≤ 1000) (Q : V → H → Prop) (q : ∀ C h', h.Sub h' → SlAt h' C 1 ((List.replicate m.wgs.length true).map encBo) → Q C h') : Ev fnG fastA (.fn 22 [] []) [v] h Q := by
  obtain ⟨L, W, rfl, aL, aW⟩ := hm
  refine Ev_body (fd := c22) rfl rfl rfl ?_
  have hlenW := aW.lenE
  have s2 : h.Sub ((h.add (.cells .rw [.int .i64 m.errs, L, W])).add (.cells .rw (repN m.wgs.length [.bool false]))) := (by repeat (first | assumption | exact H.Sub.refl (by assumption) | refine H.Sub.add ?_ _ | refine H.Sub.set ?_ (by first | omega | (simp only [H.next_add, H.next_set, H.next_del] <;> omega)) (by first | omega | (simp only [H.next_add, H.next_set, H.next_del] <;> omega)) (by assumption) _))
  simp (maxSteps := 1000000) (implicitDefEqProofs := false) (disch := first | with_reducible rfl | omega | (simp only [nA, nS, nD] <;> omega) | fail) only [c22, go_sem, ↓reduceIte, Nat.reduceEqDiff, Nat.reduceAdd, Nat.reduceSub, Nat.reduceMul, reduceCtorEq, Nat.reduceLeDiff, hlenW, a_msl_nm]
  refine W_count m.wgs.length (fun i s => ∃ tm h', s = ⟨tm, h', []⟩ ∧ h.Sub h' ∧ h.next + 1 < h'.next ∧ h'.get (h.next + 1) = some (.cells .rw ((upTo m.wgs.length i).map V.bool)) ∧ (Opd.t 3).ev tm = .sl (h.next + 1) 0 m.wgs.length (.fix m.wgs.length) ∧ (Opd.t 4).ev tm = .int .i64 (i : Int))
    ?_ ?_ (i := 0) (Nat.zero_le _) ⟨_, _, rfl, s2, by simp only [H.next_add]; omega, by rw [get_add_new (by rw [H.next_add]), repN_bools, upTo_zero], (by simp [ev_c, ev_put] <;> rfl), (by simp [ev_c, ev_put] <;> rfl)⟩
  · rintro i s hi ⟨tm, h', rfl, hs, lt, gb, t3, t4⟩
    have hi' : (i : Int) < (m.wgs.length : Int) := by omega
    have hput := bools_put (upTo m.wgs.length i) i true (by rw [upTo_len]; exact hi)
    rw [upTo_step hi] at hput
    simp (maxSteps := 1000000) (implicitDefEqProofs := false) (disch := first | with_reducible rfl | omega | (simp only [nA, nS, nD] <;> omega) | fail) only [go_sem, ↓reduceIte, Nat.reduceEqDiff, Nat.reduceAdd, Nat.reduceSub, Nat.reduceMul, reduceCtorEq, Nat.reduceLeDiff, t3, t4, hi', q_iad_sl (nat_cst i) hi, Nat.mul_one, gb, hput, wr_succ]
    exact ⟨_, _, rfl, hs.set (by omega) lt hw _, by rw [H.next_set]; exact lt, get_set_same rfl, (by simp [ev_c, ev_put, t3] <;> rfl), (by simp [ev_c, ev_put] <;> rfl)⟩
  · rintro s ⟨tm, h', rfl, hs, lt, gb, t3, t4⟩
    simp (maxSteps := 1000000) (implicitDefEqProofs := false) (disch := first | with_reducible rfl | omega | (simp only [nA, nS, nD] <;> omega) | fail) only [go_sem, ↓reduceIte, Nat.reduceEqDiff, Nat.reduceAdd, Nat.reduceSub, Nat.reduceMul, reduceCtorEq, Nat.reduceLeDiff, t3, t4, Int.lt_irrefl]
    rw [upTo_all] at gb
    exact q _ _ hs (bools_sl (cells_of gb) (by simp) (by simp; omega))
theorem refOwn_ev {h : H} {v C : V} {m : Ml} {cl : List Bool} (hw : h.wf) (hm : MlIs h v m) (g : Good m) (hC : SlAt h C 1 (cl.map encBo)) (hcl : cl.length = m.wgs.length) (lot : Int) (Q : V → H → Prop)
    (q : ∀ h', h.Sub h' → Q (.tup [.int .i64 (ownK m (cOf cl) lot m.wgs.length).1, .int .i64 (ownK m (cOf cl) lot m.wgs.length).2]) h') : Ev fnG fastA (.fn 130 [] []) [v, C, .int .i64 lot] h Q := by
  have hm0 := hm
  obtain ⟨L, W, rfl, aL, aW⟩ := hm
  refine Ev_body (fd := c130) rfl rfl rfl ?_
  have hlenW := aW.lenE
  have gw := g.wgs
  have s2 : h.Sub (h.add (.cells .rw [.int .i64 m.errs, L, W])) := (by repeat (first | assumption | exact H.Sub.refl (by assumption) | refine H.Sub.add ?_ _ | refine H.Sub.set ?_ (by first | omega | (simp only [H.next_add, H.next_set, H.next_del] <;> omega)) (by first | omega | (simp only [H.next_add, H.next_set, H.next_del] <;> omega)) (by assumption) _))
  have g1 : (h.add (.cells .rw [.int .i64 m.errs, L, W])).cells h.next = some [.int .i64 m.errs, L, W] := cells_add_new rfl
  simp (maxSteps := 1000000) (implicitDefEqProofs := false) (disch := first | with_reducible rfl | omega | (simp only [nA, nS, nD] <;> omega) | fail) only [c130, go_sem, ↓reduceIte, Nat.reduceEqDiff, Nat.reduceAdd, Nat.reduceSub, Nat.reduceMul, reduceCtorEq, Nat.reduceLeDiff]
  refine W_count m.wgs.length (fun i s => ∃ tm h', s = ⟨tm, h', []⟩ ∧ (h.add (.cells .rw [.int .i64 m.errs, L, W])).Sub h' ∧ (Opd.t 1).ev tm = C ∧ (Opd.t 2).ev tm = .int .i64 lot ∧ (Opd.t 3).ev tm = .ptr h.next 0 ∧ (Opd.t 8).ev tm = .int .i64 (ownK m (cOf cl) lot i).1 ∧ (Opd.t 9).ev tm = .int .i64 (ownK m (cOf cl) lot i).2 ∧ (Opd.t 10).ev tm = .int .i64 (i : Int))
    ?_ ?_ (i := 0) (Nat.zero_le _) ⟨_, _, rfl, H.Sub.refl s2.wf, (by simp [ev_c, ev_put] <;> rfl), (by simp [ev_c, ev_put] <;> rfl), (by simp [ev_c, ev_put] <;> rfl), (by simp [ev_c, ev_put] <;> rfl), (by simp [ev_c, ev_put] <;> rfl), (by simp [ev_c, ev_put] <;> rfl)⟩
  · rintro i s hi ⟨tm, h', rfl, hs1, t1, t2, t3, t8, t9, t10⟩
    have hi' : (i : Int) < (m.wgs.length : Int) := by omega
    have hic : i < cl.length := by omega
    have hs := s2.trans hs1
    have gm := hs1.cells g1
    obtain ⟨b1, o1, c1, cs1, rfl, hcs1, hq1, hgg1, hn1, hn01⟩ := (hC.mono hs).at hic
    obtain ⟨bb, o, cc, cs, rfl, hcs, hq, hgg, hn, hn0⟩ := (aW.mono hs).at hi
    have hc0 := cOf_at hic
    cases hc : cl[i]
    · rw [hc] at hc0
      simp (maxSteps := 1000000) (implicitDefEqProofs := false) (disch := first | with_reducible rfl | omega | (simp only [nA, nS, nD] <;> omega) | fail) only [go_sem, ↓reduceIte, Nat.reduceEqDiff, Nat.reduceAdd, Nat.reduceSub, Nat.reduceMul, reduceCtorEq, Nat.reduceLeDiff, t1, t2, t3, t8, t9, t10, gm, hlenW, hi', hq1 (nat_cst i), hcs1, hn01 (by omega), encBo, hc, wr_succ]
      exact ⟨_, _, rfl, hs1, (by simp [ev_c, ev_put, t1] <;> rfl), (by simp [ev_c, ev_put, t2] <;> rfl), (by simp [ev_c, ev_put, t3] <;> rfl), by rw [ownK_miss hi (.inl hc0)]; exact (by simp [ev_c, ev_put, t8] <;> rfl), by rw [ownK_miss hi (.inl hc0)]; exact (by simp [ev_c, ev_put, t9] <;> rfl), (by simp [ev_c, ev_put] <;> rfl)⟩
    · rw [hc] at hc0
      by_cases hl : m.wgs[i].lot = lot
      · have hh := ownK_hit hi hc0 hl
        simp (maxSteps := 1000000) (implicitDefEqProofs := false) (disch := first | with_reducible rfl | omega | (simp only [nA, nS, nD] <;> omega) | fail) only [go_sem, ↓reduceIte, Nat.reduceEqDiff, Nat.reduceAdd, Nat.reduceSub, Nat.reduceMul, reduceCtorEq, Nat.reduceLeDiff, t1, t2, t3, t8, t9, t10, gm, hlenW, hi', hq1 (nat_cst i), hcs1, hn01 (by omega), encBo, hc, hq (nat_cst i), hcs, hn0 (by omega), encW, hl]
        refine refSays_ev hs.wf (hm0.mono hs) g hi _ fun h5 s15 => ?_
        simp (maxSteps := 1000000) (implicitDefEqProofs := false) (disch := first | with_reducible rfl | omega | (simp only [nA, nS, nD] <;> omega) | fail) only [go_sem, ↓reduceIte, Nat.reduceEqDiff, Nat.reduceAdd, Nat.reduceSub, Nat.reduceMul, reduceCtorEq, Nat.reduceLeDiff, t1, t2, t3, t8, t9, t10, wr_succ]
        exact ⟨_, _, rfl, hs1.trans s15, (by simp [ev_c, ev_put, t1] <;> rfl), (by simp [ev_c, ev_put, t2] <;> rfl), (by simp [ev_c, ev_put, t3] <;> rfl), by rw [hh]; exact (by simp [ev_c, ev_put] <;> rfl), by rw [hh]; exact (by simp [ev_c, ev_put] <;> rfl), (by simp [ev_c, ev_put] <;> rfl)⟩
      · simp (maxSteps := 1000000) (implicitDefEqProofs := false) (disch := first | with_reducible rfl | omega | (simp only [nA, nS, nD] <;> omega) | fail) only [go_sem, ↓reduceIte, Nat.reduceEqDiff, Nat.reduceAdd, Nat.reduceSub, Nat.reduceMul, reduceCtorEq, Nat.reduceLeDiff, t1, t2, t3, t8, t9, t10, gm, hlenW, hi', hq1 (nat_cst i), hcs1, hn01 (by omega), encBo, hc, hq (nat_cst i), hcs, hn0 (by omega), encW, hl, wr_succ]
        exact ⟨_, _, rfl, hs1, (by simp [ev_c, ev_put, t1] <;> rfl), (by simp [ev_c, ev_put, t2] <;> rfl), (by simp [ev_c, ev_put, t3] <;> rfl), by rw [ownK_miss hi (.inr hl)]; exact (by simp [ev_c, ev_put, t8] <;> rfl), by rw [ownK_miss hi (.inr hl)]; exact (by simp [ev_c, ev_put, t9] <;> rfl), (by simp [ev_c, ev_put] <;> rfl)⟩
  · rintro s ⟨tm, h', rfl, hs1, t1, t2, t3, t8, t9, t10⟩
    simp (maxSteps := 1000000) (implicitDefEqProofs := false) (disch := first | with_reducible rfl | omega | (simp only [nA, nS, nD] <;> omega) | fail) only [go_sem, ↓reduceIte, Nat.reduceEqDiff, Nat.reduceAdd, Nat.reduceSub, Nat.reduceMul, reduceCtorEq, Nat.reduceLeDiff, t1, t2, t3, t8, t9, t10, hs1.cells g1, hlenW, Int.lt_irrefl]
    exact q _ (s2.trans hs1)
def Um (m : Ml) (c : Nat → Bool) : Box := Uo m.lots.length (parts m) (ownB m c)
def OkB (m : Ml) (c : Nat → Bool) (lot : Int) : Prop := ∀ j : Int, 0 ≤ j → j < m.lots.length → Anc (frmAt m) j lot → (Um m c j).1 ≤ (Um m c j).2
theorem OkB_iff {m : Ml} (g : Good m) {c : Nat → Bool} {lot : Int} (l0 : 0 ≤ lot) (l1 : lot < m.lots.length) : OkB m c lot ↔ (Um m c lot).1 ≤ (Um m c lot).2 ∧ ∀ p ∈ parts m lot, OkB m c p := by
  have F := forest g
  constructor
  · intro h
    refine ⟨h lot l0 l1 .self, fun p hp j j0 j1 ha => h j j0 j1 ?_⟩
    obtain ⟨p0, p1, pf⟩ := (F.mem _ _).1 hp
    rw [← pf]; exact .up ha (by omega)
  · rintro ⟨h1, h2⟩ j j0 j1 ha
    cases ha with
    | self => exact h1
    | @up k hk h0 =>
      have hl := hk.le F j0 j1
      exact h2 k ((F.mem _ _).2 ⟨hl.1, by omega, rfl⟩) j j0 j1 hk
theorem Um_bd {m : Ml} (g : Good m) (c : Nat → Bool) {i : Int} (i0 : 0 ≤ i) (i1 : i < m.lots.length) : 0 ≤ (Um m c i).1 ∧ (Um m c i).2 ≤ 10000 := by
  have h1 := Uo_own (forest g) (ownB m c) i0 i1
  have h2 := ownB_bd g c i
  unfold Um; omega
theorem ownB_at {m : Ml} {c : Nat → Bool} {i : Int} (i0 : 0 ≤ i) (i1 : i < m.lots.length) : ownB m c i = ownK m c i m.wgs.length := by unfold ownB boxK; rw [if_pos ⟨i0, i1⟩]
set_option maxHeartbeats 2000000 in
theorem up_ev {m : Ml} (g : Good m) {cl : List Bool} (hcl : cl.length = m.wgs.length) : ∀ (k : Nat) {h : H} {v C : V} (lot : Nat), m.lots.length - lot ≤ k → lot < m.lots.length → h.wf → MlIs h v m → SlAt h C 1 (cl.map encBo) →
    Ev fnG fastA (.fn 76 [] []) [v, C, .int .i64 (lot : Int)] h fun u h' => h.Sub h' ∧ ∃ t lo hi, u = .tup [.int .i64 lo, .int .i64 hi, .bool t] ∧ (t = true ↔ OkB m (cOf cl) (lot : Int)) ∧ (t = true → lo = (Um m (cOf cl) (lot : Int)).1 ∧ hi = (Um m (cOf cl) (lot : Int)).2) := by
  intro k
  induction k with
  | zero => intro h v C lot h1 h2; omega
  | succ k ih =>
    intro h v C lot hk hlot hw hm hC
    refine Ev.gen fun Q q => ?_
    have F := forest g
    have gl := g.lots
    have hm0 := hm
    obtain ⟨L, W, rfl, aL, aW⟩ := hm
    have hl0 : (0 : Int) ≤ (lot : Int) := by omega
    have hl1 : (lot : Int) < (m.lots.length : Int) := by omega
    have hOk := OkB_iff g (c := cOf cl) hl0 hl1
    refine Ev_body (fd := c76) rfl rfl rfl ?_
    have s2 : h.Sub (h.add (.cells .rw [.int .i64 m.errs, L, W])) := (by repeat (first | assumption | exact H.Sub.refl (by assumption) | refine H.Sub.add ?_ _ | refine H.Sub.set ?_ (by first | omega | (simp only [H.next_add, H.next_set, H.next_del] <;> omega)) (by first | omega | (simp only [H.next_add, H.next_set, H.next_del] <;> omega)) (by assumption) _))
    have g1 : (h.add (.cells .rw [.int .i64 m.errs, L, W])).cells h.next = some [.int .i64 m.errs, L, W] := cells_add_new rfl
    simp (maxSteps := 1000000) (implicitDefEqProofs := false) (disch := first | with_reducible rfl | omega | (simp only [nA, nS, nD] <;> omega) | fail) only [c76, go_sem, ↓reduceIte, Nat.reduceEqDiff, Nat.reduceAdd, Nat.reduceSub, Nat.reduceMul, reduceCtorEq, Nat.reduceLeDiff]
    refine refOwn_ev s2.wf (hm0.mono s2) g (hC.mono s2) hcl _ _ fun h3 s23 => ?_
    have s3 := s2.trans s23
    simp (maxSteps := 1000000) (implicitDefEqProofs := false) (disch := first | with_reducible rfl | omega | (simp only [nA, nS, nD] <;> omega) | fail) only [go_sem, ↓reduceIte, Nat.reduceEqDiff, Nat.reduceAdd, Nat.reduceSub, Nat.reduceMul, reduceCtorEq, Nat.reduceLeDiff, s23.cells g1]
    refine refParts_ev s3.wf (hm0.mono s3) g hlot _ fun P h4 oP => ?_
    have s34 := oP.1
    have s4 := s3.trans s34
    have hpl := parts_len m (lot : Int)
    have aP := oP.sl (by simp only [List.length_map]; omega)
    have hlenP := aP.lenE
    obtain ⟨ps, eps⟩ : ∃ ps, parts m (lot : Int) = ps := ⟨_, rfl⟩
    have hps : ∀ p ∈ ps, 0 ≤ p ∧ p < m.lots.length ∧ (lot : Int) < p := fun p hp => by
      obtain ⟨p0, p1, pf⟩ := (F.mem (lot : Int) p).1 (by rw [eps]; exact hp)
      have := F.lt p p0 p1
      omega
    rw [eps] at aP hlenP hpl hOk
    have hown := ownB_at (c := cOf cl) hl0 hl1
    rw [← hown]
    have bdS : ∀ l : List Int, (∀ p ∈ l, p ∈ ps ∧ OkB m (cOf cl) p) → (l.length : Int) ≤ 12 → 0 ≤ sumL (lo1 (Um m (cOf cl))) l ∧ sumL (lo1 (Um m (cOf cl))) l ≤ 120000 ∧ 0 ≤ sumL (hi1 (Um m (cOf cl))) l ∧ sumL (hi1 (Um m (cOf cl))) l ≤ 120000 := fun l h1 h2 => by
      have hb : ∀ p ∈ l, 0 ≤ (Um m (cOf cl) p).1 ∧ (Um m (cOf cl) p).1 ≤ (Um m (cOf cl) p).2 ∧ (Um m (cOf cl) p).2 ≤ 10000 := fun p hp => by
        obtain ⟨p0, p1, _⟩ := hps p (h1 p hp).1
        have a := Um_bd g (cOf cl) p0 p1
        have b := (h1 p hp).2 p p0 p1 .self
        omega
      have e1 : ∀ (l : List Int), sumL (fun _ => (10000 : Int)) l = l.length * 10000 := fun l => by
        induction l with
        | nil => simp [sumL]
        | cons a l ih => simp only [sumL, ih, List.length_cons, Int.natCast_add]; omega
      have a1 := sumL_nonneg (x := lo1 (Um m (cOf cl))) (l := l) fun p hp => (hb p hp).1
      have a2 := sumL_mono (x := lo1 (Um m (cOf cl))) (y := fun _ => 10000) (l := l) fun p hp => by have := hb p hp; simp only [lo1]; omega
      have a3 := sumL_nonneg (x := hi1 (Um m (cOf cl))) (l := l) fun p hp => by have := hb p hp; simp only [hi1]; omega
      have a4 := sumL_mono (x := hi1 (Um m (cOf cl))) (y := fun _ => 10000) (l := l) fun p hp => (hb p hp).2.2
      rw [e1] at a2 a4
      omega
    simp (maxSteps := 1000000) (implicitDefEqProofs := false) (disch := first | with_reducible rfl | omega | (simp only [nA, nS, nD] <;> omega) | fail) only [go_sem, ↓reduceIte, Nat.reduceEqDiff, Nat.reduceAdd, Nat.reduceSub, Nat.reduceMul, reduceCtorEq, Nat.reduceLeDiff]
    refine W_count ps.length (fun j s => ∃ tm h', s = ⟨tm, h', []⟩ ∧ h4.Sub h' ∧ (∀ p ∈ ps.take j, OkB m (cOf cl) p) ∧ (Opd.t 1).ev tm = C ∧ (Opd.t 3).ev tm = .ptr h.next 0 ∧ (Opd.t 9).ev tm = .int .i64 (ownB m (cOf cl) (lot : Int)).1 ∧ (Opd.t 10).ev tm = .int .i64 (ownB m (cOf cl) (lot : Int)).2 ∧ (Opd.t 11).ev tm = P ∧
        (Opd.t 12).ev tm = .int .i64 (sumL (lo1 (Um m (cOf cl))) (ps.take j)) ∧ (Opd.t 13).ev tm = .int .i64 (sumL (hi1 (Um m (cOf cl))) (ps.take j)) ∧ (Opd.t 14).ev tm = .int .i64 (j : Int))
      ?_ ?_ (i := 0) (Nat.zero_le _) ⟨_, _, rfl, H.Sub.refl s4.wf, fun p hp => by simp at hp, (by simp [ev_c, ev_put] <;> rfl), (by simp [ev_c, ev_put] <;> rfl), (by simp [ev_c, ev_put] <;> rfl), (by simp [ev_c, ev_put] <;> rfl), (by simp [ev_c, ev_put] <;> rfl), (by simp [ev_c, ev_put] <;> rfl), (by simp [ev_c, ev_put] <;> rfl), (by simp [ev_c, ev_put] <;> rfl)⟩
    · rintro j s hj ⟨tm, h', rfl, hs, hok, t1, t3, t9, t10, t11, t12, t13, t14⟩
      have hj' : (j : Int) < (ps.length : Int) := by omega
      have hs4 := s4.trans hs
      have gm := (s23.trans (s34.trans hs)).cells g1
      obtain ⟨b2, o2, c2, cs2, rfl, hcs2, hq2, hgg2, hn2, hn02⟩ := (aP.mono hs).at hj
      obtain ⟨p0, p1, p2⟩ := hps _ (List.getElem_mem hj)
      obtain ⟨p, ep⟩ := Int.eq_ofNat_of_zero_le p0
      simp (maxSteps := 1000000) (implicitDefEqProofs := false) (disch := first | with_reducible rfl | omega | (simp only [nA, nS, nD] <;> omega) | fail) only [go_sem, ↓reduceIte, Nat.reduceEqDiff, Nat.reduceAdd, Nat.reduceSub, Nat.reduceMul, reduceCtorEq, Nat.reduceLeDiff, t1, t3, t9, t10, t11, t12, t13, t14, hlenP, hj', gm, hq2 (nat_cst j), hcs2, hn02 (by omega), encI, ep]
      refine (ih p (by omega) (by omega) hs4.wf (hm0.mono hs4) (hC.mono hs4)).mono fun u h5 hu => ?_
      obtain ⟨s45, t, lo, hi, rfl, hiff, hval⟩ := hu
      cases t
      · simp (maxSteps := 1000000) (implicitDefEqProofs := false) (disch := first | with_reducible rfl | omega | (simp only [nA, nS, nD] <;> omega) | fail) only [go_sem, ↓reduceIte, Nat.reduceEqDiff, Nat.reduceAdd, Nat.reduceSub, Nat.reduceMul, reduceCtorEq, Nat.reduceLeDiff, t1, t3, t9, t10, t11, t12, t13, t14, gm, hcs2, hn02 (by omega), encI, ep, Bool.not_false]
        refine q _ _ ⟨hs4.trans s45, false, 0, 0, rfl, ?_, fun h => by cases h⟩
        simp only [Bool.false_eq_true, false_iff]
        intro hb
        have h1 := (hOk.1 hb).2 _ (List.getElem_mem hj)
        rw [ep] at h1
        have := hiff.2 h1
        cases this
      · obtain ⟨rfl, rfl⟩ := hval rfl
        have hokp := hiff.1 rfl
        have hb1 := bdS (ps.take j) (fun p hp => ⟨List.mem_of_mem_take hp, hok p hp⟩) (by simp only [List.length_take]; omega)
        have hup := Um_bd g (cOf cl) (i := (p : Int)) (by omega) (by omega)
        have hup2 := hokp (p : Int) (by omega) (by omega) .self
        have e1 := sum_take (lo1 (Um m (cOf cl))) hj
        have e2 := sum_take (hi1 (Um m (cOf cl))) hj
        rw [ep] at e1 e2
        have f1 : lo1 (Um m (cOf cl)) (p : Int) = (Um m (cOf cl) (p : Int)).1 := rfl
        have f2 : hi1 (Um m (cOf cl)) (p : Int) = (Um m (cOf cl) (p : Int)).2 := rfl
        rw [f1] at e1
        rw [f2] at e2
        simp (maxSteps := 1000000) (implicitDefEqProofs := false) (disch := first | with_reducible rfl | omega | (simp only [nA, nS, nD] <;> omega) | fail) only [go_sem, ↓reduceIte, Nat.reduceEqDiff, Nat.reduceAdd, Nat.reduceSub, Nat.reduceMul, reduceCtorEq, Nat.reduceLeDiff, t1, t3, t9, t10, t11, t12, t13, t14, gm, hcs2, hn02 (by omega), encI, ep, Bool.not_true, wr_in, wr_succ]
        refine ⟨_, _, rfl, hs.trans s45, fun r hr => ?_, (by simp [ev_c, ev_put, t1] <;> rfl), (by simp [ev_c, ev_put, t3] <;> rfl), (by simp [ev_c, ev_put, t9] <;> rfl), (by simp [ev_c, ev_put, t10] <;> rfl), (by simp [ev_c, ev_put, t11] <;> rfl), by rw [e1]; exact (by simp [ev_c, ev_put] <;> rfl), by rw [e2]; exact (by simp [ev_c, ev_put] <;> rfl), (by simp [ev_c, ev_put] <;> rfl)⟩
        rw [List.take_succ_eq_append_getElem hj, List.mem_append, List.mem_singleton] at hr
        rcases hr with hr | rfl
        · exact hok r hr
        · rw [ep]; exact hokp
    · rintro s ⟨tm, h', rfl, hs, hok, t1, t3, t9, t10, t11, t12, t13, t14⟩
      rw [List.take_length] at t12 t13 hok
      have hs4 := s4.trans hs
      by_cases hne : ps = []
      · have h0 : (ps.length : Int) = 0 := by rw [hne]; rfl
        have hU : Um m (cOf cl) (lot : Int) = ownB m (cOf cl) (lot : Int) := Uo_leaf F _ hl0 hl1 (by rw [eps]; exact hne)
        have h00 : ¬ (0 : Int) < 0 := by omega
        have hiff : ((ownB m (cOf cl) (lot : Int)).1 ≤ (ownB m (cOf cl) (lot : Int)).2) ↔ OkB m (cOf cl) (lot : Int) := by
          rw [hOk, hU]; exact ⟨fun h => ⟨h, fun p hp => hok p hp⟩, fun h => h.1⟩
        have h0' : ¬ (0 : Int) < (ps.length : Int) := by omega
        simp (maxSteps := 1000000) (implicitDefEqProofs := false) (disch := first | with_reducible rfl | omega | (simp only [nA, nS, nD] <;> omega) | fail) only [go_sem, ↓reduceIte, Nat.reduceEqDiff, Nat.reduceAdd, Nat.reduceSub, Nat.reduceMul, reduceCtorEq, Nat.reduceLeDiff, t1, t3, t9, t10, t11, t12, t13, t14, hlenP, Int.lt_irrefl, h0', h0, h00]
        exact q _ _ ⟨hs4, _, _, _, rfl, by rw [decide_eq_true_eq]; exact hiff, fun _ => by rw [hU]; exact ⟨rfl, rfl⟩⟩
      · have h0 : (0 : Int) < (ps.length : Int) := by have := List.length_pos_iff.2 hne; omega
        have hU : Um m (cOf cl) (lot : Int) = (max (ownB m (cOf cl) (lot : Int)).1 (sumL (lo1 (Um m (cOf cl))) ps), min (ownB m (cOf cl) (lot : Int)).2 (sumL (hi1 (Um m (cOf cl))) ps)) := by
          have := Uo_node F (ownB m (cOf cl)) hl0 hl1 (by rw [eps]; exact hne)
          rw [eps] at this; exact this
        have hiff : (max (ownB m (cOf cl) (lot : Int)).1 (sumL (lo1 (Um m (cOf cl))) ps) ≤ min (ownB m (cOf cl) (lot : Int)).2 (sumL (hi1 (Um m (cOf cl))) ps)) ↔ OkB m (cOf cl) (lot : Int) := by
          rw [hOk, hU]; exact ⟨fun h => ⟨h, fun p hp => hok p hp⟩, fun h => h.1⟩
        simp (maxSteps := 1000000) (implicitDefEqProofs := false) (disch := first | with_reducible rfl | omega | (simp only [nA, nS, nD] <;> omega) | fail) only [go_sem, ↓reduceIte, Nat.reduceEqDiff, Nat.reduceAdd, Nat.reduceSub, Nat.reduceMul, reduceCtorEq, Nat.reduceLeDiff, t1, t3, t9, t10, t11, t12, t13, t14, hlenP, Int.lt_irrefl, h0]
        exact q _ _ ⟨hs4, _, _, _, rfl, by rw [decide_eq_true_eq]; exact hiff, fun _ => by rw [hU]; exact ⟨rfl, rfl⟩⟩
theorem OkB_all {m : Ml} {c : Nat → Bool} : (∀ i : Int, 0 ≤ i → i < m.lots.length → OkB m c i) ↔ ∀ i : Int, 0 ≤ i → i < m.lots.length → (Um m c i).1 ≤ (Um m c i).2 :=
  ⟨fun h i i0 i1 => h i i0 i1 i i0 i1 .self, fun h i _ _ j j0 j1 _ => h j j0 j1⟩
theorem agree_iff {m : Ml} (g : Good m) {c : Nat → Bool} : (∃ w, FeasM m c w) ↔ ∀ i : Int, 0 ≤ i → i < m.lots.length → (Um m c i).1 ≤ (Um m c i).2 := by
  have gl := g.lots
  exact feas_iff (forest g) (ownB m c) (by omega)
theorem refAgree_ev {h : H} {v C : V} {m : Ml} {cl : List Bool} (hw : h.wf) (hm : MlIs h v m) (g : Good m) (hC : SlAt h C 1 (cl.map encBo)) (hcl : cl.length = m.wgs.length) :
    Ev fnG fastA (.fn 21 [] []) [v, C] h fun u h' => h.Sub h' ∧ ∃ t, u = .bool t ∧ (t = true ↔ ∃ w, FeasM m (cOf cl) w) := by
  refine Ev.gen fun Q q => ?_
  have gl := g.lots
  have hm0 := hm
  obtain ⟨L, W, rfl, aL, aW⟩ := hm
  refine Ev_body (fd := c21) rfl rfl rfl ?_
  have hlenL := aL.lenE
  have s2 : h.Sub (h.add (.cells .rw [.int .i64 m.errs, L, W])) := (by repeat (first | assumption | exact H.Sub.refl (by assumption) | refine H.Sub.add ?_ _ | refine H.Sub.set ?_ (by first | omega | (simp only [H.next_add, H.next_set, H.next_del] <;> omega)) (by first | omega | (simp only [H.next_add, H.next_set, H.next_del] <;> omega)) (by assumption) _))
  have g1 : (h.add (.cells .rw [.int .i64 m.errs, L, W])).cells h.next = some [.int .i64 m.errs, L, W] := cells_add_new rfl
  simp (maxSteps := 1000000) (implicitDefEqProofs := false) (disch := first | with_reducible rfl | omega | (simp only [nA, nS, nD] <;> omega) | fail) only [c21, go_sem, ↓reduceIte, Nat.reduceEqDiff, Nat.reduceAdd, Nat.reduceSub, Nat.reduceMul, reduceCtorEq, Nat.reduceLeDiff]
  refine W_count m.lots.length (fun i s => ∃ tm h', s = ⟨tm, h', []⟩ ∧ (h.add (.cells .rw [.int .i64 m.errs, L, W])).Sub h' ∧ (∀ j : Int, 0 ≤ j → j < i → OkB m (cOf cl) j) ∧ (Opd.t 1).ev tm = C ∧ (Opd.t 2).ev tm = .ptr h.next 0 ∧ (Opd.t 5).ev tm = .int .i64 (i : Int))
    ?_ ?_ (i := 0) (Nat.zero_le _) ⟨_, _, rfl, H.Sub.refl s2.wf, fun j j0 j1 => by omega, (by simp [ev_c, ev_put] <;> rfl), (by simp [ev_c, ev_put] <;> rfl), (by simp [ev_c, ev_put] <;> rfl)⟩
  · rintro i s hi ⟨tm, h', rfl, hs1, hok, t1, t2, t5⟩
    have hi' : (i : Int) < (m.lots.length : Int) := by omega
    have hs := s2.trans hs1
    simp (maxSteps := 1000000) (implicitDefEqProofs := false) (disch := first | with_reducible rfl | omega | (simp only [nA, nS, nD] <;> omega) | fail) only [go_sem, ↓reduceIte, Nat.reduceEqDiff, Nat.reduceAdd, Nat.reduceSub, Nat.reduceMul, reduceCtorEq, Nat.reduceLeDiff, t1, t2, t5, hs1.cells g1, hlenL, hi']
    refine (up_ev g hcl _ i (Nat.le_refl _) hi hs.wf (hm0.mono hs) (hC.mono hs)).mono fun u h5 hu => ?_
    obtain ⟨s15, t, lo, hi2, rfl, hiff, hval⟩ := hu
    cases t
    · simp (maxSteps := 1000000) (implicitDefEqProofs := false) (disch := first | with_reducible rfl | omega | (simp only [nA, nS, nD] <;> omega) | fail) only [go_sem, ↓reduceIte, Nat.reduceEqDiff, Nat.reduceAdd, Nat.reduceSub, Nat.reduceMul, reduceCtorEq, Nat.reduceLeDiff, t1, t2, t5, Bool.not_false]
      refine q _ _ ⟨hs.trans s15, false, rfl, ?_⟩
      simp only [Bool.false_eq_true, false_iff, agree_iff g]
      intro hall
      have := hiff.2 (OkB_all.2 hall (i : Int) (by omega) hi')
      cases this
    · simp (maxSteps := 1000000) (implicitDefEqProofs := false) (disch := first | with_reducible rfl | omega | (simp only [nA, nS, nD] <;> omega) | fail) only [go_sem, ↓reduceIte, Nat.reduceEqDiff, Nat.reduceAdd, Nat.reduceSub, Nat.reduceMul, reduceCtorEq, Nat.reduceLeDiff, t1, t2, t5, Bool.not_true, wr_succ]
      refine ⟨_, _, rfl, hs1.trans s15, fun j j0 j1 => ?_, (by simp [ev_c, ev_put, t1] <;> rfl), (by simp [ev_c, ev_put, t2] <;> rfl), (by simp [ev_c, ev_put] <;> rfl)⟩
      by_cases e : j = (i : Int)
      · subst e; exact hiff.1 rfl
      · exact hok j j0 (by omega)
  · rintro s ⟨tm, h', rfl, hs1, hok, t1, t2, t5⟩
    simp (maxSteps := 1000000) (implicitDefEqProofs := false) (disch := first | with_reducible rfl | omega | (simp only [nA, nS, nD] <;> omega) | fail) only [go_sem, ↓reduceIte, Nat.reduceEqDiff, Nat.reduceAdd, Nat.reduceSub, Nat.reduceMul, reduceCtorEq, Nat.reduceLeDiff, t1, t2, t5, hs1.cells g1, hlenL, Int.lt_irrefl]
    refine q _ _ ⟨s2.trans hs1, true, rfl, ?_⟩
    simp only [true_iff, agree_iff g]
    exact OkB_all.1 hok
theorem cOf_all (m : Ml) {k : Nat} (hk : k < m.wgs.length) : cOf (List.replicate m.wgs.length true) k = true := by
  rw [cOf_at (by simpa using hk)]; simp
theorem ownK_congr {m : Ml} {c c' : Nat → Bool} {lot : Int} : ∀ k, k ≤ m.wgs.length → (∀ j, j < m.wgs.length → c j = c' j) → ownK m c lot k = ownK m c' lot k
  | 0, _, _ => rfl
  | k + 1, hk, h => by
    have ih := ownK_congr (lot := lot) k (by omega) h
    simp only [ownK]
    rw [List.getElem?_eq_getElem (by omega : k < m.wgs.length)]
    simp only
    rw [h k (by omega), ih]
theorem ownB_congr {m : Ml} {c c' : Nat → Bool} (h : ∀ j, j < m.wgs.length → c j = c' j) : ownB m c = ownB m c' := by
  funext lot
  unfold ownB boxK
  rw [ownK_congr m.wgs.length (Nat.le_refl _) h]
theorem own_all (m : Ml) : ownB m (cOf (List.replicate m.wgs.length true)) = ownB m allC := ownB_congr fun j hj => cOf_all m hj
end Go.Ab.Try
