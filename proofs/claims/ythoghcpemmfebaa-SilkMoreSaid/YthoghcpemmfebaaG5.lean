/- Proofs of a clash: proof, Proves. Proofs of a clash: the plain part. Proofs of a clash: added, most, fewest. Proofs of a clash: Prove, and Above, apart of the reference. Which weighings agree: Contains, agree, Agree, Listed. Proofs of a clash: whether a proof is one. Proofs of a clash: by how much one holds, by the reference. -/
import Derived.Test.YthoghcpemmfebaaGP
import Derived.Test.YthoghcpemmfebaaG4
import Derived.Test.YthoghcpemmfebaaAc8
set_option linter.unusedSimpArgs false
set_option linter.unusedVariables false
namespace Go.Ab.Try
open Go.Ab.Silk
section
variable {n : Nat} {frm : Int → Int} {parts : Int → List Int}
theorem anc_trans {w a b : Int} (h : Anc frm w a) (k : Anc frm a b) : Anc frm w b := by
  induction k with
  | self => exact h
  | up _ h0 ih => exact .up ih h0
end
theorem mem_line {m : Ml} (g : Good m) {j k : Int} (j0 : 0 ≤ j) (j1 : j < m.lots.length) : k ∈ line m j ↔ Anc (frmAt m) j k := by
  have : ∀ (f : Nat) (j : Int), j < f → 0 ≤ j → j < m.lots.length → (k ∈ line m j ↔ Anc (frmAt m) j k) := by
    intro f
    induction f with
    | zero => intro j h1 h2; omega
    | succ f ih =>
      intro j hj j0 j1
      have hf := frmAt_lt g j0 j1
      rw [line_cons g j0 j1, List.mem_cons]
      by_cases h : frmAt m j < 0
      · rw [line_neg m h]
        constructor
        · rintro (rfl | h')
          · exact .self
          · simp at h'
        · intro a
          rcases a.down with e | ⟨e, _⟩
          · exact .inl e
          · omega
      · rw [ih _ (by omega) (by omega) (by omega)]
        constructor
        · rintro (rfl | h')
          · exact .self
          · exact .of_up (by omega) h'
        · intro a
          rcases a.down with e | ⟨_, e⟩
          · exact .inl e
          · exact .inr e
  exact this m.lots.length j j1 j0 j1
def wl (m : Ml) (a : Int) : Int := if h : a.toNat < m.wgs.length then m.wgs[a.toNat].lot else 0
def wLo (m : Ml) (a : Int) : Int := if h : a.toNat < m.wgs.length then sayLo m m.wgs[a.toNat] else 0
def wHi (m : Ml) (a : Int) : Int := if h : a.toNat < m.wgs.length then sayHi m m.wgs[a.toNat] else 0
section
variable {m : Ml}
theorem wl_at {i : Nat} (h : i < m.wgs.length) : wl m (i : Int) = m.wgs[i].lot := by unfold wl; simp [h]
theorem wLo_at {i : Nat} (h : i < m.wgs.length) : wLo m (i : Int) = sayLo m m.wgs[i] := by unfold wLo; simp [h]
theorem wHi_at {i : Nat} (h : i < m.wgs.length) : wHi m (i : Int) = sayHi m m.wgs[i] := by unfold wHi; simp [h]
theorem wl_in (g : Good m) {a : Int} (a0 : 0 ≤ a) (a1 : a < m.wgs.length) : 0 ≤ wl m a ∧ wl m a < m.lots.length := by
  obtain ⟨i, rfl⟩ := Int.eq_ofNat_of_zero_le a0
  have hi : i < m.wgs.length := by omega
  have := g.lot _ (List.getElem_mem hi)
  rw [wl_at hi]; omega
def Apart (m : Ml) (a b : Int) : Prop := ¬ Anc (frmAt m) (wl m a) (wl m b) ∧ ¬ Anc (frmAt m) (wl m b) (wl m a)
structure Br (m : Ml) (lot : Int) (l : List Int) : Prop where
  inw : ∀ a ∈ l, 0 ≤ a ∧ a < m.wgs.length
  br : ∀ a ∈ l, Anc (frmAt m) (wl m a) lot
  ap : l.Pairwise (Apart m)
theorem Br.nil {lot : Int} : Br m lot [] := ⟨by simp, by simp, by simp⟩
theorem Br.single {lot : Int} {i : Nat} (h : i < m.wgs.length) (e : wl m (i : Int) = lot) : Br m lot [(i : Int)] :=
  ⟨fun a ha => by rw [List.mem_singleton] at ha; subst ha; omega, fun a ha => by rw [List.mem_singleton] at ha; subst ha; rw [e]; exact .self, by simp⟩
abbrev Sm := Int × List Int
def addL : List Sm → Sm
  | [] => (0, [])
  | s :: l => (s.1 + (addL l).1, s.2 ++ (addL l).2)
theorem addL_snoc (s : Sm) : ∀ l : List Sm, addL (l ++ [s]) = ((addL l).1 + s.1, (addL l).2 ++ s.2)
  | [] => by simp [addL]
  | a :: l => by
    have ih := addL_snoc s l
    simp only [List.cons_append, addL, ih, List.append_assoc]
    rw [Int.add_assoc]
theorem addL_sum (f : Int → Sm) : ∀ l : List Int, (addL (l.map f)).1 = sumL (fun p => (f p).1) l
  | [] => rfl
  | a :: l => by simp only [List.map_cons, addL, sumL, addL_sum f l]
theorem addL_mem (f : Int → Sm) {a : Int} : ∀ {l : List Int}, a ∈ (addL (l.map f)).2 ↔ ∃ p ∈ l, a ∈ (f p).2
  | [] => by simp [addL]
  | b :: l => by
    simp only [List.map_cons, addL, List.mem_append, addL_mem f (l := l)]
    simp
theorem addL_of (x : Int → Int) (f : Int → Sm) : ∀ {l : List Int}, (∀ p ∈ l, (f p).1 = sumL x (f p).2) → (addL (l.map f)).1 = sumL x (addL (l.map f)).2
  | [], _ => rfl
  | b :: l, h => by
    simp only [List.map_cons, addL]
    rw [sumL_append, addL_of x f (l := l) fun p hp => h p (by simp [hp]), h b (by simp)]
theorem add_br (g : Good m) {lot : Int} (l0 : 0 ≤ lot) {f : Int → Sm} : ∀ {ps : List Int}, ps.Nodup → (∀ p ∈ ps, frmAt m p = lot ∧ Br m p (f p).2) → Br m lot (addL (ps.map f)).2
  | [], _, _ => Br.nil
  | p :: ps, hn, h => by
    rw [List.nodup_cons] at hn
    have ih := add_br g l0 (f := f) (ps := ps) hn.2 fun q hq => h q (by simp [hq])
    obtain ⟨e, b⟩ := h p (by simp)
    simp only [List.map_cons, addL]
    refine ⟨fun a ha => ?_, fun a ha => ?_, ?_⟩
    · rw [List.mem_append] at ha
      rcases ha with ha | ha
      · exact b.inw a ha
      · exact ih.inw a ha
    · rw [List.mem_append] at ha
      rcases ha with ha | ha
      · have := b.br a ha
        rw [← e]; exact .up this (by omega)
      · exact ih.br a ha
    · rw [List.pairwise_append]
      refine ⟨b.ap, ih.ap, fun a ha c hc => ?_⟩
      obtain ⟨q, hq, hcq⟩ := (addL_mem f).1 hc
      obtain ⟨e', b'⟩ := h q (by simp [hq])
      have hpq : p ≠ q := fun h => hn.1 (h ▸ hq)
      have wa := wl_in g (b.inw a ha).1 (b.inw a ha).2
      have wc := wl_in g (b'.inw c hcq).1 (b'.inw c hcq).2
      have F := forest g
      exact ⟨fun k => hpq (Anc.one F wa.1 wa.2 (b.br a ha) (anc_trans k (b'.br c hcq)) (by rw [e, e'])), fun k => hpq (Anc.one F wc.1 wc.2 (anc_trans k (b.br a ha)) (b'.br c hcq) (by rw [e, e']))⟩
def mostW (m : Ml) (lot : Int) : Nat → Sm → Sm
  | 0, s => s
  | j + 1, s => if wl m (j : Int) = lot ∧ (mostW m lot j s).1 < wLo m (j : Int) then (wLo m (j : Int), [(j : Int)]) else mostW m lot j s
def mostF (m : Ml) : Nat → Int → Sm
  | 0, _ => (0, [])
  | k + 1, i => mostW m i m.wgs.length (addL ((parts m i).map (mostF m k)))
theorem mostF_any (g : Good m) : ∀ (k j : Nat) (i : Int), 0 ≤ i → i < m.lots.length → (m.lots.length : Int) - i ≤ k → (m.lots.length : Int) - i ≤ j → mostF m k i = mostF m j i
  | 0, _, i, h0, h1, h, _ => by omega
  | _ + 1, 0, i, h0, h1, _, h => by omega
  | k + 1, j + 1, i, h0, h1, h2, h3 => by
    simp only [mostF]
    rw [List.map_congr_left (g := mostF m j) fun p hp => by
      obtain ⟨p0, p1, pf⟩ := ((forest g).mem _ _).1 hp
      have := (forest g).lt p p0 p1
      exact mostF_any g k j p p0 p1 (by omega) (by omega)]
def mostP (m : Ml) : Int → Sm := mostF m m.lots.length
theorem mostP_eq (g : Good m) {i : Int} (i0 : 0 ≤ i) (i1 : i < m.lots.length) : mostP m i = mostW m i m.wgs.length (addL ((parts m i).map (mostP m))) := by
  have e := mostF_any g m.lots.length (m.lots.length + 1) i i0 i1 (by omega) (by omega)
  unfold mostP
  rw [e]; rfl
theorem own_step {lot : Int} {j : Nat} (hj : j < m.wgs.length) : ownK m allC lot (j + 1) = if wl m (j : Int) = lot then (max (ownK m allC lot j).1 (wLo m (j : Int)), min (ownK m allC lot j).2 (wHi m (j : Int))) else ownK m allC lot j := by
  rw [wl_at hj, wLo_at hj, wHi_at hj]
  by_cases h : m.wgs[j].lot = lot
  · rw [if_pos h, ownK_hit hj rfl h]
  · rw [if_neg h, ownK_miss hj (.inr h)]
theorem mostW_val {lot : Int} {s : Sm} (h0 : 0 ≤ s.1) : ∀ j, j ≤ m.wgs.length → (mostW m lot j s).1 = max s.1 (ownK m allC lot j).1
  | 0, _ => by simp only [mostW, ownK]; omega
  | j + 1, h => by
    have ih := mostW_val (lot := lot) h0 j (by omega)
    rw [own_step (by omega)]
    simp only [mostW]
    by_cases e : wl m (j : Int) = lot
    · by_cases c : (mostW m lot j s).1 < wLo m (j : Int)
      · rw [if_pos ⟨e, c⟩, if_pos e]; simp only; omega
      · rw [if_neg (fun h => c h.2), if_pos e]; simp only; omega
    · rw [if_neg (fun h => e h.1), if_neg e]; exact ih
theorem mostW_br {lot : Int} {s : Sm} (hb : Br m lot s.2) (hs : s.1 = sumL (wLo m) s.2) : ∀ j, j ≤ m.wgs.length → Br m lot (mostW m lot j s).2 ∧ (mostW m lot j s).1 = sumL (wLo m) (mostW m lot j s).2
  | 0, _ => ⟨hb, hs⟩
  | j + 1, h => by
    simp only [mostW]
    by_cases c : wl m (j : Int) = lot ∧ (mostW m lot j s).1 < wLo m (j : Int)
    · rw [if_pos c]
      exact ⟨Br.single (by omega) c.1, by simp [sumL]⟩
    · rw [if_neg c]; exact mostW_br hb hs j (by omega)
theorem most_ok (g : Good m) : ∀ i : Int, 0 ≤ i → i < m.lots.length → (mostP m i).1 = (Um m allC i).1 ∧ (mostP m i).1 = sumL (wLo m) (mostP m i).2 ∧ Br m i (mostP m i).2 := by
  have F := forest g
  refine up_ind F fun i i0 i1 ih => ?_
  have hpm : ∀ p ∈ parts m i, 0 ≤ p ∧ p < m.lots.length ∧ frmAt m p = i := fun p hp => (F.mem _ _).1 hp
  have hsum : (addL ((parts m i).map (mostP m))).1 = sumL (lo1 (Um m allC)) (parts m i) := by
    rw [addL_sum]; exact sumL_congr fun p hp => (ih p hp).1
  have hnn : 0 ≤ (addL ((parts m i).map (mostP m))).1 := by
    rw [hsum]
    exact sumL_nonneg fun p hp => (Um_bd g allC (hpm p hp).1 (hpm p hp).2.1).1
  have hv := mostW_val (m := m) (lot := i) hnn m.wgs.length (Nat.le_refl _)
  have hb := mostW_br (m := m) (lot := i) (add_br g i0 (F.nodup i) fun p hp => ⟨(hpm p hp).2.2, (ih p hp).2.2⟩) (addL_of (wLo m) _ fun p hp => (ih p hp).2.1) m.wgs.length (Nat.le_refl _)
  rw [mostP_eq g i0 i1]
  refine ⟨?_, hb.2, hb.1⟩
  have hown := ownB_at (c := allC) i0 i1
  have hbd := ownB_bd g allC i
  rw [hv, ← hown]
  by_cases hp : parts m i = []
  · have hU : Um m allC i = ownB m allC i := Uo_leaf F _ i0 i1 hp
    rw [hU, hp]; simp only [List.map_nil, addL]; omega
  · have hU : Um m allC i = (max (ownB m allC i).1 (sumL (lo1 (Um m allC)) (parts m i)), min (ownB m allC i).2 (sumL (hi1 (Um m allC)) (parts m i))) := Uo_node F (ownB m allC) i0 i1 hp
    rw [hsum, hU]; simp only; omega
def fewW (m : Ml) (lot : Int) : Nat → Sm → Sm
  | 0, s => s
  | j + 1, s => if wl m (j : Int) = lot ∧ wHi m (j : Int) < (fewW m lot j s).1 then (wHi m (j : Int), [(j : Int)]) else fewW m lot j s
def few0 (l : List Sm) : Sm := if l ≠ [] ∧ (∀ s ∈ l, s.2 ≠ []) ∧ (addL l).1 < 10000 then addL l else (10000, [])
def fewF (m : Ml) : Nat → Int → Sm
  | 0, _ => (0, [])
  | k + 1, i => fewW m i m.wgs.length (few0 ((parts m i).map (fewF m k)))
theorem fewF_any (g : Good m) : ∀ (k j : Nat) (i : Int), 0 ≤ i → i < m.lots.length → (m.lots.length : Int) - i ≤ k → (m.lots.length : Int) - i ≤ j → fewF m k i = fewF m j i
  | 0, _, i, h0, h1, h, _ => by omega
  | _ + 1, 0, i, h0, h1, _, h => by omega
  | k + 1, j + 1, i, h0, h1, h2, h3 => by
    simp only [fewF]
    rw [List.map_congr_left (g := fewF m j) fun p hp => by
      obtain ⟨p0, p1, pf⟩ := ((forest g).mem _ _).1 hp
      have := (forest g).lt p p0 p1
      exact fewF_any g k j p p0 p1 (by omega) (by omega)]
def fewP (m : Ml) : Int → Sm := fewF m m.lots.length
theorem fewP_eq (g : Good m) {i : Int} (i0 : 0 ≤ i) (i1 : i < m.lots.length) : fewP m i = fewW m i m.wgs.length (few0 ((parts m i).map (fewP m))) := by
  have e := fewF_any g m.lots.length (m.lots.length + 1) i i0 i1 (by omega) (by omega)
  unfold fewP
  rw [e]; rfl
theorem fewW_val {lot : Int} {s : Sm} (h0 : s.1 ≤ 10000) : ∀ j, j ≤ m.wgs.length → (fewW m lot j s).1 = min s.1 (ownK m allC lot j).2
  | 0, _ => by simp only [fewW, ownK]; omega
  | j + 1, h => by
    have ih := fewW_val (lot := lot) h0 j (by omega)
    rw [own_step (by omega)]
    simp only [fewW]
    by_cases e : wl m (j : Int) = lot
    · by_cases c : wHi m (j : Int) < (fewW m lot j s).1
      · rw [if_pos ⟨e, c⟩, if_pos e]; simp only; omega
      · rw [if_neg (fun h => c h.2), if_pos e]; simp only; omega
    · rw [if_neg (fun h => e h.1), if_neg e]; exact ih
structure Few (m : Ml) (lot : Int) (s : Sm) : Prop where
  br : Br m lot s.2
  none : s.2 = [] → s.1 = 10000
  sum : s.2 ≠ [] → s.1 = sumL (wHi m) s.2
  all : s.2 ≠ [] → ∀ w : Int, 0 ≤ w → w < m.lots.length → parts m w = [] → Anc (frmAt m) w lot → ∃ a ∈ s.2, Anc (frmAt m) w (wl m a)
theorem Few.nil {lot : Int} : Few m lot (10000, []) := ⟨Br.nil, fun _ => rfl, fun h => absurd rfl h, fun h => absurd rfl h⟩
theorem Few.single {lot : Int} {i : Nat} (h : i < m.wgs.length) (e : wl m (i : Int) = lot) : Few m lot (wHi m (i : Int), [(i : Int)]) :=
  ⟨Br.single h e, fun h => by simp at h, fun _ => by simp [sumL], fun _ w _ _ _ a => ⟨(i : Int), by simp, by rw [e]; exact a⟩⟩
theorem fewW_few {lot : Int} {s : Sm} (hb : Few m lot s) : ∀ j, j ≤ m.wgs.length → Few m lot (fewW m lot j s)
  | 0, _ => hb
  | j + 1, h => by
    simp only [fewW]
    by_cases c : wl m (j : Int) = lot ∧ wHi m (j : Int) < (fewW m lot j s).1
    · rw [if_pos c]
      exact Few.single (by omega) c.1
    · rw [if_neg c]; exact fewW_few hb j (by omega)
theorem sumL_ge {x : Int → Int} {p : Int} {l : List Int} (h : ∀ p ∈ l, 0 ≤ x p) (hp : p ∈ l) : x p ≤ sumL x l := by
  induction l with
  | nil => simp at hp
  | cons a l ih =>
    have h0 := h a (by simp)
    have h1 := sumL_nonneg (x := x) (l := l) fun p hp => h p (by simp [hp])
    simp only [sumL]
    rcases List.mem_cons.1 hp with rfl | hp
    · omega
    · have := ih (fun p hp => h p (by simp [hp])) hp; omega
theorem few_ok (g : Good m) : ∀ i : Int, 0 ≤ i → i < m.lots.length → (fewP m i).1 = (Um m allC i).2 ∧ 0 ≤ (fewP m i).1 ∧ Few m i (fewP m i) := by
  have F := forest g
  refine up_ind F fun i i0 i1 ih => ?_
  have hpm : ∀ p ∈ parts m i, 0 ≤ p ∧ p < m.lots.length ∧ frmAt m p = i := fun p hp => (F.mem _ _).1 hp
  have hsum : (addL ((parts m i).map (fewP m))).1 = sumL (hi1 (Um m allC)) (parts m i) := by
    rw [addL_sum]; exact sumL_congr fun p hp => (ih p hp).1
  have hnn : ∀ p ∈ parts m i, 0 ≤ hi1 (Um m allC) p := fun p hp => by have := ih p hp; simp only [hi1]; omega
  have hown := ownB_at (c := allC) i0 i1
  have hbd := ownB_bd g allC i
  have hbk := ownK_bd g allC i m.wgs.length
  have h0 : (few0 ((parts m i).map (fewP m))).1 ≤ 10000 ∧ 0 ≤ (few0 ((parts m i).map (fewP m))).1 ∧ Few m i (few0 ((parts m i).map (fewP m))) ∧ (min (few0 ((parts m i).map (fewP m))).1 (ownB m allC i).2 = (Um m allC i).2) := by
    by_cases hp : parts m i = []
    · have hU : Um m allC i = ownB m allC i := Uo_leaf F _ i0 i1 hp
      rw [hU, hp]
      simp only [List.map_nil, few0, ne_eq, not_true_eq_false, false_and, if_false]
      exact ⟨by omega, by omega, Few.nil, by omega⟩
    · have hU : Um m allC i = (max (ownB m allC i).1 (sumL (lo1 (Um m allC)) (parts m i)), min (ownB m allC i).2 (sumL (hi1 (Um m allC)) (parts m i))) := Uo_node F (ownB m allC) i0 i1 hp
      have hs0 := sumL_nonneg hnn
      by_cases c : (parts m i).map (fewP m) ≠ [] ∧ (∀ s ∈ (parts m i).map (fewP m), s.2 ≠ []) ∧ (addL ((parts m i).map (fewP m))).1 < 10000
      · unfold few0
        rw [if_pos c, hsum, hU]
        have hall : ∀ p ∈ parts m i, (fewP m p).2 ≠ [] := fun p hp => c.2.1 _ (List.mem_map.2 ⟨p, hp, rfl⟩)
        have c3 := c.2.2
        rw [hsum] at c3
        refine ⟨by omega, hs0, ⟨add_br g i0 (F.nodup i) fun p hp => ⟨(hpm p hp).2.2, (ih p hp).2.2.br⟩, fun h => ?_, fun _ => addL_of (wHi m) _ fun p hp => (ih p hp).2.2.sum (hall p hp), fun _ w w0 w1 hw ha => ?_⟩, by simp only; omega⟩
        · obtain ⟨p, hp'⟩ := List.exists_mem_of_ne_nil _ hp
          obtain ⟨a, ha⟩ := List.exists_mem_of_ne_nil _ (hall p hp')
          have : a ∈ (addL ((parts m i).map (fewP m))).2 := (addL_mem _).2 ⟨p, hp', ha⟩
          rw [h] at this; simp at this
        · have hwi : ∃ p ∈ parts m i, Anc (frmAt m) w p := by
            cases ha with
            | self => exact absurd hw hp
            | @up k hk h0 =>
              have hl := hk.le F w0 w1
              exact ⟨k, (F.mem _ _).2 ⟨hl.1, by omega, rfl⟩, hk⟩
          obtain ⟨p, hp', hwp⟩ := hwi
          obtain ⟨a, ha1, ha2⟩ := (ih p hp').2.2.all (hall p hp') w w0 w1 hw hwp
          exact ⟨a, (addL_mem _).2 ⟨p, hp', ha1⟩, ha2⟩
      · unfold few0
        rw [if_neg c, hU]
        refine ⟨by simp, by simp, Few.nil, ?_⟩
        have hge : 10000 ≤ sumL (hi1 (Um m allC)) (parts m i) := by
          by_cases k : ∀ s ∈ (parts m i).map (fewP m), s.2 ≠ []
          · have : ¬ (addL ((parts m i).map (fewP m))).1 < 10000 := fun h => c ⟨by simpa using hp, k, h⟩
            rw [hsum] at this; omega
          · obtain ⟨p, hp', hs⟩ : ∃ p ∈ parts m i, (fewP m p).2 = [] := Classical.byContradiction fun hno => k fun s hs => by
              obtain ⟨p, hp', rfl⟩ := List.mem_map.1 hs
              exact fun e => hno ⟨p, hp', e⟩
            have h1 := (ih p hp').2.2.none hs
            have h2 := (ih p hp').1
            have h3 := sumL_ge hnn hp'
            simp only [hi1] at h3
            have e : sumL (hi1 (Um m allC)) (parts m i) = sumL (fun p => (Um m allC p).2) (parts m i) := rfl
            rw [e]; omega
        simp only; omega
  have hv := fewW_val (m := m) (lot := i) h0.1 m.wgs.length (Nat.le_refl _)
  rw [fewP_eq g i0 i1]
  refine ⟨by rw [hv, ← hown]; exact h0.2.2.2, by rw [hv]; omega, fewW_few h0.2.2.1 _ (Nat.le_refl _)⟩
theorem nodup_len : ∀ (k : Nat) {l : List Int}, l.Nodup → (∀ a ∈ l, 0 ≤ a ∧ a < k) → l.length ≤ k
  | 0, l, _, h => by
    cases l with
    | nil => simp
    | cons a l => have := h a (by simp); omega
  | k + 1, l, hn, h => by
    have ih := nodup_len k (l := l.erase (k : Int)) (hn.erase _) fun a ha => by
      rw [hn.mem_erase_iff] at ha
      have := h a ha.2
      have := ha.1
      omega
    have := List.length_erase (a := (k : Int)) (l := l)
    split at this <;> omega
theorem Br.len {lot : Int} {l : List Int} (b : Br m lot l) : l.length ≤ m.wgs.length := by
  refine nodup_len _ ?_ b.inw
  have := b.ap
  unfold List.Nodup
  exact this.imp fun h e => by subst e; exact h.1 .self
def Cover (m : Ml) (lot : Int) (high : List Int) : Prop := high = [] ∨ ∀ w : Int, 0 ≤ w → w < m.lots.length → parts m w = [] → Anc (frmAt m) w lot → ∃ a ∈ high, Anc (frmAt m) w (wl m a)
def Within (m : Ml) (lot : Int) (l : List Int) : Prop := ∀ a ∈ l, Anc (frmAt m) (wl m a) lot
def InW (m : Ml) (l : List Int) : Prop := ∀ a ∈ l, 0 ≤ a ∧ a < m.wgs.length
def sumLow (m : Ml) (low : List Int) : Int := sumL (wLo m) low
def sumHigh (m : Ml) (high : List Int) : Int := if high = [] then 10000 else sumL (wHi m) high
def Proof (m : Ml) (lot : Int) (low high : List Int) : Prop := (Within m lot low ∧ Within m lot high) ∧ (low.Pairwise (Apart m) ∧ high.Pairwise (Apart m)) ∧ Cover m lot high
def ProofR (m : Ml) (lot : Int) (low high : List Int) (n e : Int) : Prop :=
  (¬ ((0 ≤ lot ∧ lot < m.lots.length) ∧ InW m low ∧ InW m high) ∧ n = 0 ∧ e = 1) ∨
  (((0 ≤ lot ∧ lot < m.lots.length) ∧ InW m low ∧ InW m high) ∧
    ((¬ Proof m lot low high ∧ n = 0 ∧ e = 8) ∨ (Proof m lot low high ∧
      ((sumLow m low ≤ sumHigh m high ∧ n = 0 ∧ e = 6) ∨ (sumHigh m high < sumLow m low ∧ n = sumLow m low - sumHigh m high ∧ e = 0)))))
theorem found_holds (g : Good m) {lot : Int} (l0 : 0 ≤ lot) (l1 : lot < m.lots.length) (h : (fewP m lot).1 < (mostP m lot).1) {n e : Int} (r : ProofR m lot (mostP m lot).2 (fewP m lot).2 n e) : e = 0 ∧ 1 ≤ n := by
  obtain ⟨_, m2, m3⟩ := most_ok g lot l0 l1
  obtain ⟨_, _, f⟩ := few_ok g lot l0 l1
  have hc : Cover m lot (fewP m lot).2 := by
    by_cases e : (fewP m lot).2 = []
    · exact .inl e
    · exact .inr (f.all e)
  have hp : Proof m lot (mostP m lot).2 (fewP m lot).2 := ⟨⟨m3.br, f.br.br⟩, ⟨m3.ap, f.br.ap⟩, hc⟩
  have hs : sumHigh m (fewP m lot).2 = (fewP m lot).1 := by
    unfold sumHigh
    by_cases e : (fewP m lot).2 = []
    · rw [if_pos e, f.none e]
    · rw [if_neg e, f.sum e]
  have hl : sumLow m (mostP m lot).2 = (mostP m lot).1 := m2.symm
  rcases r with ⟨a, _⟩ | ⟨a, ⟨b, _⟩ | ⟨b, ⟨c, _⟩ | ⟨c, d1, d2⟩⟩⟩
  · exact absurd ⟨⟨l0, l1⟩, m3.inw, f.br.inw⟩ a
  · exact absurd hp b
  · omega
  · omega
end
end Go.Ab.Try
set_option linter.unusedSimpArgs false
set_option linter.unusedVariables false
namespace Go.Ab
theorem OwnSl.appn {h0 h : H} {x y : V} {sz by_ : Nat} {rows new : List (List V)} {Q : V → H → Prop} (a : OwnSl h0 h x sz rows) (hw0 : h0.wf) (hsz : ∀ r ∈ new, r.length = sz)
    (he : elems h sz y = some new.flatten) (hl : lenV y = some new.length) (ho : allOne new.flatten = true) (h1 : (rows.length + new.length) * by_ ≤ 1099511627776) (h2 : rows.length + new.length ≤ 1099511627776)
    (q : ∀ x' h', OwnSl h0 h' x' sz (rows ++ new) → Keeps (blkOf x) h h' → h.next ≤ h'.next → Q x' h') : P2 (e_app' h sz by_ x y) Q := by
  by_cases hn : new = []
  · subst hn
    have q' := q x h (by rw [List.append_nil]; exact a) (Keeps.refl _ _) (Nat.le_refl _)
    have e : e_app' h sz by_ x y = some (x, h) := by
      rw [e_app_eq, he, hl]
      simp only [ob_some, List.length_nil]
      rcases a.2.2 with ⟨rfl, _⟩ | ⟨b, rfl, _, _, hb⟩
      · rfl
      · have hlen := flatten_len a.2.1
        simp only [e_app, slkOk, hb]
        have e1 : Nat.beq sz sz = true := by simp
        have e2 : Nat.beq 0 (0 * sz) = true := by simp
        have e3 : Nat.ble (0 + rows.length * sz) (lenN rows.flatten) = true := by rw [lenN_eq, hlen]; simp
        rw [e1]; simp only
        rw [e2]; simp only
        rw [e3]; rfl
    rw [e, P2_some]; exact q'
  · exact a.app hw0 hn hsz he hl ho h1 h2 fun h' o k n => q _ _ o k (by omega)
namespace Try
open Go.Ab.Silk
def encS (e : Sm × V) : List V := [.int .i64 e.1.1, e.2]
def SmsAt (h0 h : H) (l : List (Sm × V)) : Prop := ∀ e ∈ l, OwnC h0 h e.2 1 (e.1.2.map encI)
theorem SmsAt.mono {h0 h h' : H} {l : List (Sm × V)} (a : SmsAt h0 h l) (hs : h.Sub h') : SmsAt h0 h' l := fun e he => (a e he).mono hs
theorem allOne_ints : ∀ l : List Int, allOne ((l.map encI).flatten) = true
  | [] => rfl
  | a :: l => by simp only [List.map_cons, List.flatten_cons, encI, List.cons_append, List.nil_append]; rw [allOne_cons, allOne_ints l]; rfl
theorem addL_bd {C : Int} : ∀ {l : List Sm}, (∀ s ∈ l, 0 ≤ s.1 ∧ s.1 ≤ C) → 0 ≤ (addL l).1 ∧ (addL l).1 ≤ (l.length : Int) * C
  | [], _ => by simp [addL]
  | s :: l, h => by
    have ih := addL_bd (C := C) (l := l) fun s hs => h s (by simp [hs])
    have := h s (by simp)
    simp only [addL, List.length_cons, Int.natCast_add]
    rw [Int.add_mul]; omega
theorem addL_len {k : Nat} : ∀ {l : List Sm}, (∀ s ∈ l, s.2.length ≤ k) → (addL l).2.length ≤ l.length * k
  | [], _ => by simp [addL]
  | s :: l, h => by
    have ih := addL_len (k := k) (l := l) fun s hs => h s (by simp [hs])
    have := h s (by simp)
    simp only [addL, List.length_append, List.length_cons]
    rw [Nat.add_mul]; omega
theorem addL_take {l : List Sm} {j : Nat} (hj : j < l.length) : addL (l.take (j + 1)) = ((addL (l.take j)).1 + l[j].1, (addL (l.take j)).2 ++ l[j].2) := by
  rw [List.take_succ_eq_append_getElem hj, addL_snoc]
set_option maxHeartbeats 2000000 in
theorem added_ev {h hb0 : H} {x : V} {l : List (Sm × V)} (hw : h.wf) (hx : SlAt h x 2 (l.map encS)) (ha : SmsAt hb0 h l) (hl : l.length ≤ 12) (hb : ∀ e ∈ l, 0 ≤ e.1.1 ∧ e.1.1 ≤ 200000000000000000) (hn : ∀ e ∈ l, e.1.2.length ≤ 10) (Q : V → H → Prop)
    (q : ∀ h' y, OwnSl h h' y 1 ((addL (l.map Prod.fst)).2.map encI) → Q (.agg [.int .i64 (addL (l.map Prod.fst)).1, y]) h') : Ev fnG fastA (.fn 134 [] []) [x] h Q := by
  have hlen := hx.lenE
  refine Ev_body (fd := c134) rfl rfl rfl ?_
  have s2 : h.Sub ((h.add (.cells .rw [.int .i64 0, .nils])).add (.cells .rw [.int .i64 0, .nils])) := (by repeat (first | assumption | exact H.Sub.refl (by assumption) | refine H.Sub.add ?_ _ | refine H.Sub.set ?_ (by first | omega | (simp only [H.next_add, H.next_set, H.next_del] <;> omega)) (by first | omega | (simp only [H.next_add, H.next_set, H.next_del] <;> omega)) (by assumption) _))
  obtain ⟨r, er⟩ : ∃ r, l.map Prod.fst = r := ⟨_, rfl⟩
  have hr : r.length = l.length := by rw [← er]; simp
  have hri : ∀ j (hj : j < l.length), (r[j]'(by omega)) = l[j].1 := fun j hj => by subst er; simp
  have hb' : ∀ s ∈ r, 0 ≤ s.1 ∧ s.1 ≤ 200000000000000000 := fun s hs => by
    rw [← er] at hs
    obtain ⟨e, he, rfl⟩ := List.mem_map.1 hs
    exact hb e he
  have hn' : ∀ s ∈ r, s.2.length ≤ 10 := fun s hs => by
    rw [← er] at hs
    obtain ⟨e, he, rfl⟩ := List.mem_map.1 hs
    exact hn e he
  have bds : ∀ j, j ≤ l.length → 0 ≤ (addL (r.take j)).1 ∧ (addL (r.take j)).1 ≤ 12 * 200000000000000000 ∧ (addL (r.take j)).2.length ≤ 120 := fun j hj => by
    have a1 := addL_bd (l := r.take j) (C := 200000000000000000) fun s hs => hb' s (List.mem_of_mem_take hs)
    have a2 := addL_len (l := r.take j) (k := 10) fun s hs => hn' s (List.mem_of_mem_take hs)
    rw [List.length_take] at a1 a2
    omega
  rw [er] at q
  simp -implicitDefEqProofs (maxSteps := 999999) (disch := first | with_reducible rfl | omega | (simp only [nA, nS, nD] <;> omega) | fail) only [c134, go_sem, hlen]
  refine W_count l.length (fun j s => ∃ tm h' y, s = ⟨tm, h', []⟩ ∧ OwnSl h h' y 1 ((addL (r.take j)).2.map encI) ∧ h.next + 1 < h'.next ∧ h'.get h.next = some (.cells .rw [.int .i64 0, .nils]) ∧ h'.get (h.next + 1) = some (.cells .rw [.int .i64 (addL (r.take j)).1, y]) ∧
      (Opd.t 2).ev tm = .ptr h.next 0 ∧ (Opd.t 3).ev tm = .ptr (h.next + 1) 0 ∧ (Opd.t 6).ev tm = x ∧ (Opd.t 7).ev tm = .int .i64 (l.length : Int) ∧ (Opd.t 8).ev tm = .int .i64 (j : Int))
    ?_ ?_ (i := 0) (Nat.zero_le _) ⟨_, _, .nils, rfl, OwnSl.nil s2 1, by simp only [H.next_add]; omega, by simp -implicitDefEqProofs (maxSteps := 999999) (disch := first | with_reducible rfl | omega | (simp only [nA, nS, nD] <;> omega) | fail) only [go_sem], by simp -implicitDefEqProofs (maxSteps := 999999) (disch := first | with_reducible rfl | omega | (simp only [nA, nS, nD] <;> omega) | fail) only [go_sem, List.take_zero, addL], (by simp [ev_c, ev_put] <;> rfl), (by simp [ev_c, ev_put] <;> rfl), (by simp [ev_c, ev_put] <;> rfl), (by simp [ev_c, ev_put] <;> rfl), (by simp [ev_c, ev_put] <;> rfl)⟩
  · rintro j s hj ⟨tm, h', y, rfl, oy, lt, g2, g3, t2, t3, t6, t7, t8⟩
    have hj' : (j : Int) < (l.length : Int) := by omega
    have hs := oy.1
    have oe := (ha _ (List.getElem_mem hj)).mono hs
    have o1 := oe.one
    have ay := oy.sl (by have := (bds j (by omega)).2.2; simp only [List.length_map]; omega)
    have y1 := ay.one
    obtain ⟨b2, o2, c2, cs2, eb, hcs2, hq2, hgg2, hn2, hn02⟩ := (hx.mono hs).at hj
    subst eb
    have hbb : b2 < h'.next := SlAt_lt hs.wf (hx.mono hs) (by intro e; rw [List.map_eq_nil_iff] at e; rw [e] at hj; simp at hj) b2 ⟨_, _, _, rfl⟩
    have sA : h'.Sub (h'.add (.cells .rw [.int .i64 l[j].1.1, l[j].2])) := (H.Sub.refl hs.wf).add _
    have bj := bds j (by omega)
    have bj1 := bds (j + 1) (by omega)
    have e1 := addL_take (l := r) (j := j) (by omega)
    rw [hri j hj] at e1
    rw [e1] at bj1
    simp only [List.length_append] at bj1
    have ae := (oe.mono sA).sl (by have := hn _ (List.getElem_mem hj); simp only [List.length_map]; omega)
    obtain ⟨ae1, ae2⟩ := ae.elems
    simp -implicitDefEqProofs (maxSteps := 999999) (disch := first | with_reducible rfl | omega | (simp only [nA, nS, nD] <;> omega) | fail) only [go_sem, t2, t3, t6, t7, t8, hj', hq2 (nat_cst j), hcs2, hgg2, encS, o1, cells_one o1, cells_of g3, g3, wr_in]
    refine (oy.mono sA).appn hw (new := l[j].1.2.map encI) (fun r hr => by (obtain ⟨a, _, rfl⟩ := List.mem_map.1 hr; rfl)) ae1 ae2 (allOne_ints _) (by simp only [List.length_map]; omega) (by simp only [List.length_map]; omega) fun y' h5 o5 k5 n5 => ?_
    have hg3 := k5.2 _ _ (sA.get g3) ((oy.mono sA).ne (sA.get g3))
    have hg2 := k5.2 _ _ (sA.get g2) ((oy.mono sA).ne (sA.get g2))
    have hgn : (h'.add (.cells .rw [.int .i64 l[j].1.1, l[j].2])).get h'.next = some (.cells .rw [.int .i64 l[j].1.1, l[j].2]) := get_add_new rfl
    have hgA := k5.2 _ _ hgn ((oy.mono sA).ne hgn)
    have y1' := OwnC.one o5.c
    simp only [H.next_add] at n5
    have lt5 : h.next + 1 < h5.next := by omega
    simp -implicitDefEqProofs (maxSteps := 999999) (disch := first | with_reducible rfl | omega | (simp only [nA, nS, nD] <;> omega) | fail) only [go_sem, t2, t3, t6, t7, t8, cells_of g3, cells_of hg3, cells_of hgA, hg3, y1', cells_one y1', wr_succ]
    exact ⟨_, _, y', rfl, by rw [e1, List.map_append]; exact o5.keep (Keeps.set h5 (h.next + 1) _) (o5.1.set (by omega) lt5 hw _) fun b hb e => (o5.ne hg3) (e ▸ hb), by rw [H.next_set]; exact lt5, by rw [get_set_other (by omega)]; exact hg2, by rw [get_set_same rfl, e1], (by simp [ev_c, ev_put, t2] <;> rfl), (by simp [ev_c, ev_put, t3] <;> rfl), (by simp [ev_c, ev_put, t6] <;> rfl), (by simp [ev_c, ev_put, t7] <;> rfl), (by simp [ev_c, ev_put] <;> rfl)⟩
  · rintro s ⟨tm, h', y, rfl, oy, lt, g2, g3, t2, t3, t6, t7, t8⟩
    rw [← hr, List.take_length] at oy g3
    have y1 := OwnC.one oy.c
    simp -implicitDefEqProofs (maxSteps := 999999) (disch := first | with_reducible rfl | omega | (simp only [nA, nS, nD] <;> omega) | fail) only [go_sem, t2, t3, t6, t7, t8, Int.lt_irrefl, cells_of g3, g2, y1, cells_one y1]
    exact q _ y (oy.keep (Keeps.set h' h.next _) (oy.1.set (Nat.le_refl _) (by omega) hw _) fun b hb e => (oy.ne g2) (e ▸ hb))
def bigN : Nat → Int
  | 0 => 20000
  | k + 1 => 12 * bigN k
theorem bigN_ge : ∀ k, 20000 ≤ bigN k
  | 0 => Int.le_refl _
  | k + 1 => by have := bigN_ge k; simp only [bigN]; omega
theorem sum_const (C : Int) : ∀ l : List Int, sumL (fun _ => C) l = (l.length : Int) * C
  | [] => by simp [sumL]
  | a :: l => by simp only [sumL, sum_const C l, List.length_cons, Int.natCast_add]; rw [Int.add_mul]; omega
theorem um_bigN {m : Ml} (g : Good m) : ∀ (k : Nat) (i : Int), (m.lots.length : Int) - i ≤ k → 0 ≤ i → i < m.lots.length → (Um m allC i).1 ≤ bigN k := by
  intro k
  induction k with
  | zero => intro i h1 h2 h3; omega
  | succ k ih =>
    intro i hk i0 i1
    have F := forest g
    have hown := ownB_at (c := allC) i0 i1
    have hbk := ownK_bd g allC i m.wgs.length
    have hge := bigN_ge (k + 1)
    by_cases hp : parts m i = []
    · have hU : Um m allC i = ownB m allC i := Uo_leaf F _ i0 i1 hp
      rw [hU, hown]; omega
    · have hU : Um m allC i = (max (ownB m allC i).1 (sumL (lo1 (Um m allC)) (parts m i)), min (ownB m allC i).2 (sumL (hi1 (Um m allC)) (parts m i))) := Uo_node F (ownB m allC) i0 i1 hp
      have h1 : sumL (lo1 (Um m allC)) (parts m i) ≤ sumL (fun _ => bigN k) (parts m i) := sumL_mono fun p hp => by
        obtain ⟨p0, p1, pf⟩ := (F.mem _ _).1 hp
        have := F.lt p p0 p1
        exact ih p (by omega) p0 p1
      rw [sum_const] at h1
      have h2 := bigN_ge k
      have h3 : ((parts m i).length : Int) * bigN k ≤ 12 * bigN k := Int.mul_le_mul_of_nonneg_right (by have := parts_len m i; have := g.lots; omega) (by omega)
      have h4 : bigN (k + 1) = 12 * bigN k := rfl
      rw [hU, hown]; simp only; omega
theorem most_bd {m : Ml} (g : Good m) {i : Int} (i0 : 0 ≤ i) (i1 : i < m.lots.length) : 0 ≤ (mostP m i).1 ∧ (mostP m i).1 ≤ 200000000000000000 ∧ (mostP m i).2.length ≤ 10 := by
  obtain ⟨h1, _, h3⟩ := most_ok g i i0 i1
  have h4 := um_bigN g 12 i (by have := g.lots; omega) i0 i1
  have h5 : bigN 12 = 178322008965120000 := by decide
  have h6 := Um_bd g allC i0 i1
  have h7 := h3.len
  have h8 := g.wgs
  rw [h1]; omega
theorem few_bd {m : Ml} (g : Good m) {i : Int} (i0 : 0 ≤ i) (i1 : i < m.lots.length) : 0 ≤ (fewP m i).1 ∧ (fewP m i).1 ≤ 200000000000000000 ∧ (fewP m i).2.length ≤ 10 := by
  obtain ⟨h1, h2, h3⟩ := few_ok g i i0 i1
  have h6 := Um_bd g allC i0 i1
  have h7 := h3.br.len
  have h8 := g.wgs
  omega
theorem bsl1_own {h0 h : H} (hs : h0.Sub h) (i : Int) : OwnC h0 (h.add (.cells .rw [.int .i64 i])) (.sl h.next 0 1 (.fix 1)) 1 ([i].map encI) :=
  ⟨hs.add _, fun r hr => by (obtain ⟨a, _, rfl⟩ := List.mem_map.1 hr; rfl), .inr (.inr ⟨h.next, 1, [], rfl, hs.next, by rw [H.next_add]; omega, get_add_new rfl, rfl, Nat.le_refl _⟩)⟩
set_option maxHeartbeats 4000000 in
theorem most_ev {m : Ml} (g : Good m) : ∀ (k : Nat) {h : H} {d : Nat} (lot : Nat), m.lots.length - lot ≤ k → lot < m.lots.length → h.wf → DkAt h d m → ∀ (Q : V → H → Prop),
    (∀ h' x, OwnC h h' x 1 ((mostP m (lot : Int)).2.map encI) → Q (.agg [.int .i64 (mostP m (lot : Int)).1, x]) h') → Ev fnG fastA (.fn 88 [] []) [.ptr d 0, .int .i64 (lot : Int)] h Q := by
  intro k
  induction k with
  | zero => intro h d lot h1 h2; omega
  | succ k ih =>
    intro h d lot hk hlot hw hd Q q
    have F := forest g
    have gl := g.lots
    have gw := g.wgs
    have hd0 := hd
    obtain ⟨pm, l, L, W, g1, g2, aL, aW, ap⟩ := hd
    have hl0 : (0 : Int) ≤ (lot : Int) := by omega
    have hl1 : (lot : Int) < (m.lots.length : Int) := by omega
    refine Ev_body (fd := c88) rfl rfl rfl ?_
    have s1 : h.Sub (h.add (.cells .rw [.int .i64 0, .nils])) := (by repeat (first | assumption | exact H.Sub.refl (by assumption) | refine H.Sub.add ?_ _ | refine H.Sub.set ?_ (by first | omega | (simp only [H.next_add, H.next_set, H.next_del] <;> omega)) (by first | omega | (simp only [H.next_add, H.next_set, H.next_del] <;> omega)) (by assumption) _))
    have hap := ap (lot : Int)
    have hlp := parts_len m (lot : Int)
    have hlenP := hap.lenE
    obtain ⟨ps, eps⟩ : ∃ ps, parts m (lot : Int) = ps := ⟨_, rfl⟩
    obtain ⟨X, eX⟩ : ∃ X, found .nils false (lkA (lot : Int) l) = X := ⟨_, rfl⟩
    rw [eX] at hlenP hap
    rw [eps] at hlp hlenP hap
    have hpsm : ∀ p ∈ ps, 0 ≤ p ∧ p < m.lots.length ∧ (lot : Int) < p := fun p hp => by
      obtain ⟨p0, p1, pf⟩ := (F.mem (lot : Int) p).1 (by rw [eps]; exact hp)
      have := F.lt p p0 p1
      omega
    simp -implicitDefEqProofs (maxSteps := 999999) (disch := first | with_reducible rfl | omega | (simp only [nA, nS, nD] <;> omega) | fail) only [c88, go_sem, cells_of (s1.get g1), s1.get g2, eX, hlenP]
    refine W_count ps.length (fun j s => ∃ tm h' lv ls, s = ⟨tm, h', []⟩ ∧ OwnSl h h' lv 2 (ls.map encS) ∧ SmsAt h h' ls ∧ ls.map Prod.fst = (ps.take j).map (mostP m) ∧ h.next < h'.next ∧ h'.get h.next = some (.cells .rw [.int .i64 0, .nils]) ∧
        (Opd.t 0).ev tm = .ptr d 0 ∧ (Opd.t 1).ev tm = .int .i64 (lot : Int) ∧ (Opd.t 4).ev tm = .ptr h.next 0 ∧ (Opd.t 5).ev tm = lv ∧ (Opd.t 17).ev tm = X ∧ (Opd.t 18).ev tm = .int .i64 (ps.length : Int) ∧ (Opd.t 19).ev tm = .int .i64 (j : Int))
      ?_ ?_ (i := 0) (Nat.zero_le _) ⟨_, _, .nils, [], rfl, OwnSl.nil s1 2, fun e he => by simp at he, rfl, by simp only [H.next_add]; omega, by simp -implicitDefEqProofs (maxSteps := 999999) (disch := first | with_reducible rfl | omega | (simp only [nA, nS, nD] <;> omega) | fail) only [go_sem], (by simp [ev_c, ev_put] <;> rfl), (by simp [ev_c, ev_put] <;> rfl), (by simp [ev_c, ev_put] <;> rfl), (by simp [ev_c, ev_put] <;> rfl), (by simp [ev_c, ev_put] <;> rfl), (by simp [ev_c, ev_put] <;> rfl), (by simp [ev_c, ev_put] <;> rfl)⟩
    · rintro j s hj ⟨tm, h', lv, ls, rfl, olv, sms, els, lt, g4, t0, t1, t4, t5, t17, t18, t19⟩
      have hj' : (j : Int) < (ps.length : Int) := by omega
      have hs := olv.1
      have hll : ls.length = j := by have := congrArg List.length els; simp only [List.length_map, List.length_take] at this; omega
      obtain ⟨b2, o2, c2, cs2, eb, hcs2, hq2, hgg2, hn2, hn02⟩ := (hap.mono hs).at hj
      subst eb
      obtain ⟨p0, p1, p2⟩ := hpsm _ (List.getElem_mem hj)
      obtain ⟨p, ep⟩ := Int.eq_ofNat_of_zero_le p0
      simp -implicitDefEqProofs (maxSteps := 999999) (disch := first | with_reducible rfl | omega | (simp only [nA, nS, nD] <;> omega) | fail) only [go_sem, t0, t1, t4, t5, t17, t18, t19, hj', hq2 (nat_cst j), hcs2, hn02 (by omega), encI, ep]
      refine ih p (by omega) (by omega) hs.wf (hd0.mono hs) _ fun h5 x o5 => ?_
      have s5 := o5.1
      have l5 := s5.next
      have x1 := o5.one
      have sA := (H.Sub.refl s5.wf).add (.cells .rw [.int .i64 (mostP m (p : Int)).1, x])
      have sB := s5.trans sA
      have ws : ∀ b, blkOf lv b → ∀ e ∈ ls, ¬ blkOf e.2 b := fun b hb e he he2 => by
        obtain ⟨_, _, kd, cs, hg, hk⟩ := (sms e he).blk he2
        have hg2 := (olv.blk hb).2.2
        rw [hg2] at hg
        injection hg with hg; injection hg with hg3 _
        rcases hk with rfl | rfl <;> cases hg3
      have wx : ∀ b, blkOf lv b → ¬ blkOf x b := fun b hb hb2 => by
        have a1 := (olv.blk hb).2.1
        have a2 := (o5.blk hb2).1
        omega
      simp -implicitDefEqProofs (maxSteps := 999999) (disch := first | with_reducible rfl | omega | (simp only [nA, nS, nD] <;> omega) | fail) only [go_sem, x1, cells_one x1]
      refine (olv.mono sB).app1 (r := encS (mostP m (p : Int), x)) hw rfl (by omega) (SlAt.new _ rfl rfl (by simp [encS]) (by simp [encS]) (by simp)) (by simp only [encS]; rw [allOne_cons, allOne_cons, x1]; rfl) (by simp only [List.length_map]; omega) (by simp only [List.length_map]; omega) fun h6 o6 k6 n6 => ?_
      have g46 := k6.2 _ _ (sB.get g4) ((olv.mono sB).ne (sB.get g4))
      simp -implicitDefEqProofs (maxSteps := 999999) (disch := first | with_reducible rfl | omega | (simp only [nA, nS, nD] <;> omega) | fail) only [go_sem, t0, t1, t4, t5, t17, t18, t19, wr_succ]
      simp only [H.next_add] at n6 o6
      refine ⟨_, _, _, ls ++ [(mostP m (p : Int), x)], rfl, by rw [List.map_append]; exact o6, ?_, ?_, by omega, g46, (by simp [ev_c, ev_put, t0] <;> rfl), (by simp [ev_c, ev_put, t1] <;> rfl), (by simp [ev_c, ev_put, t4] <;> rfl), (by simp [ev_c, ev_put] <;> rfl), (by simp [ev_c, ev_put, t17] <;> rfl), (by simp [ev_c, ev_put, t18] <;> rfl), (by simp [ev_c, ev_put] <;> rfl)⟩
      · intro e he
        rw [List.mem_append, List.mem_singleton] at he
        rcases he with he | rfl
        · exact ((sms e he).mono sB).keep k6 o6.1 fun b hb hb2 => ws b hb2 e he hb
        · exact ((o5.base hs).mono sA).keep k6 o6.1 fun b hb hb2 => wx b hb2 hb
      · rw [List.map_append, els, List.take_succ_eq_append_getElem hj, List.map_append, ep]; rfl
    · rintro s ⟨tm, h', lv, ls, rfl, olv, sms, els, lt, g4, t0, t1, t4, t5, t17, t18, t19⟩
      rw [List.take_length] at els
      have hs := olv.1
      have hll : ls.length = ps.length := by have := congrArg List.length els; simpa using this
      have hmem : ∀ e ∈ ls, ∃ p ∈ ps, mostP m p = e.1 := fun e he => by
        have : e.1 ∈ ls.map Prod.fst := List.mem_map_of_mem he
        rw [els] at this
        obtain ⟨p, hp, e'⟩ := List.mem_map.1 this
        exact ⟨p, hp, e'⟩
      have bd : ∀ e ∈ ls, 0 ≤ e.1.1 ∧ e.1.1 ≤ 200000000000000000 ∧ e.1.2.length ≤ 10 := fun e he => by
        obtain ⟨p, hp, e'⟩ := hmem e he
        rw [← e']; exact most_bd g (hpsm p hp).1 (hpsm p hp).2.1
      simp -implicitDefEqProofs (maxSteps := 999999) (disch := first | with_reducible rfl | omega | (simp only [nA, nS, nD] <;> omega) | fail) only [go_sem, t0, t1, t4, t5, t17, t18, t19, Int.lt_irrefl]
      refine added_ev hs.wf (olv.sl (by simp only [List.length_map]; omega)) sms (by omega) (fun e he => ⟨(bd e he).1, (bd e he).2.1⟩) (fun e he => (bd e he).2.2) _ fun h5 y o5 => ?_
      rw [els]
      rw [els] at o5
      have s5 := o5.1
      have hs5 := hs.trans s5
      have l5 := s5.next
      have g45 := s5.get g4
      have y1 := OwnC.one o5.c
      have hP : mostP m (lot : Int) = mostW m (lot : Int) m.wgs.length (addL (ps.map (mostP m))) := by rw [mostP_eq g hl0 hl1, eps]
      obtain ⟨S0, eS⟩ : ∃ S0, addL (ps.map (mostP m)) = S0 := ⟨_, rfl⟩
      rw [eS] at o5 hP
      rw [eS]
      have s6 : h5.Sub (h5.add (.cells .rw [.int .i64 S0.1, y])) := (H.Sub.refl s5.wf).add _
      have sW := hs5.trans s6
      simp -implicitDefEqProofs (maxSteps := 999999) (disch := first | with_reducible rfl | omega | (simp only [nA, nS, nD] <;> omega) | fail) only [go_sem, t0, t1, t4, y1, cells_one y1, cells_of (sW.get g1), aW.lenE]
      refine W_count m.wgs.length (fun j s => ∃ tm h' y, s = ⟨tm, h', []⟩ ∧ OwnC h h' y 1 ((mostW m (lot : Int) j S0).2.map encI) ∧ (∀ b, blkOf y b → b ≠ h5.next ∧ h.next < b) ∧ h5.next < h'.next ∧ h'.get h.next = some (.cells .rw [.int .i64 0, .nils]) ∧ h'.get h5.next = some (.cells .rw [.int .i64 (mostW m (lot : Int) j S0).1, y]) ∧
          (Opd.t 0).ev tm = .ptr d 0 ∧ (Opd.t 1).ev tm = .int .i64 (lot : Int) ∧ (Opd.t 4).ev tm = .ptr h.next 0 ∧ (Opd.t 8).ev tm = .ptr h5.next 0 ∧ (Opd.t 36).ev tm = W ∧ (Opd.t 37).ev tm = .int .i64 (m.wgs.length : Int) ∧ (Opd.t 38).ev tm = .int .i64 (j : Int))
        ?_ ?_ (i := 0) (Nat.zero_le _) ⟨_, _, y, rfl, (o5.c.base hs).mono s6, fun b hb => by have := o5.blk hb; omega, by simp only [H.next_add]; omega, s6.get g45, by rw [get_add_new rfl]; rfl, (by simp [ev_c, ev_put, t0] <;> rfl), (by simp [ev_c, ev_put, t1] <;> rfl), (by simp [ev_c, ev_put, t4] <;> rfl), (by simp [ev_c, ev_put] <;> rfl), (by simp [ev_c, ev_put] <;> rfl), (by simp [ev_c, ev_put] <;> rfl), (by simp [ev_c, ev_put] <;> rfl)⟩
      · clear t0 t1 t4 t5 t17 t18 t19
        rintro j s hj ⟨tm, h', y, rfl, oy, ny, lt', g4', g8, t0, t1, t4, t8, t36, t37, t38⟩
        have hj' : (j : Int) < (m.wgs.length : Int) := by omega
        have hs' := oy.1
        have y1 := oy.one
        obtain ⟨b2, o2, c2, cs2, eb, hcs2, hq2, hgg2, hn2, hn02⟩ := (aW.mono hs').at hj
        subst eb
        have hbb : b2 < h'.next := SlAt_lt hs'.wf (aW.mono hs') (by intro e; rw [List.map_eq_nil_iff] at e; rw [e] at hj; simp at hj) b2 ⟨_, _, _, rfl⟩
        have est : mostW m (lot : Int) (j + 1) S0 = if wl m (j : Int) = (lot : Int) ∧ (mostW m (lot : Int) j S0).1 < wLo m (j : Int) then (wLo m (j : Int), [(j : Int)]) else mostW m (lot : Int) j S0 := rfl
        rw [wl_at hj, wLo_at hj] at est
        have sA : h'.Sub (h'.add (.cells .rw [.int .i64 m.wgs[j].lot, .int .i64 m.wgs[j].reads, .int .i64 m.wgs[j].lo, .int .i64 m.wgs[j].hi])) := (H.Sub.refl hs'.wf).add _
        have gA : (h'.add (.cells .rw [.int .i64 m.wgs[j].lot, .int .i64 m.wgs[j].reads, .int .i64 m.wgs[j].lo, .int .i64 m.wgs[j].hi])).cells h'.next = some [.int .i64 m.wgs[j].lot, .int .i64 m.wgs[j].reads, .int .i64 m.wgs[j].lo, .int .i64 m.wgs[j].hi] := cells_add_new rfl
        simp -implicitDefEqProofs (maxSteps := 999999) (disch := first | with_reducible rfl | omega | (simp only [nA, nS, nD] <;> omega) | fail) only [go_sem, t0, t1, t4, t8, t36, t37, t38, hj', hq2 (nat_cst j), hcs2, hgg2, encW]
        refine (says_ev (hs'.trans sA).wf (hd0.mono (hs'.trans sA)) g hj).mono fun u h6 hu => ?_
        obtain ⟨rfl, s6'⟩ := hu
        have sB := sA.trans s6'
        have l6 := sB.next
        have l6' := s6'.next
        simp only [H.next_add] at l6'
        have gA6 := s6'.cells gA
        have g86 := sB.get g8
        have g46 := sB.get g4'
        have sC : h6.Sub (h6.add (.cells .rw [.int .i64 (sayLo m m.wgs[j]), .int .i64 (sayHi m m.wgs[j])])) := (H.Sub.refl (hs'.trans sB).wf).add _
        by_cases c1 : m.wgs[j].lot = (lot : Int)
        · by_cases c2 : (mostW m (lot : Int) j S0).1 < sayLo m m.wgs[j]
          · rw [if_pos ⟨c1, c2⟩] at est
            have w6 := (hs'.trans sB).wf
            have sD := (sC.add (.cells .rw [.int .i64 (j : Int)]))
            have hsD := (hs'.trans sB).trans sD
            simp -implicitDefEqProofs (maxSteps := 999999) (disch := first | with_reducible rfl | omega | (simp only [nA, nS, nD] <;> omega) | fail) only [go_sem, t0, t1, t4, t8, t36, t37, t38, gA6, c1, c2, cells_of g86, g86, wr_succ]
            refine ⟨_, _, .sl (h6.next + 1) 0 1 (.fix 1), rfl, ?_, ?_, by simp only [H.next_set, H.next_add]; omega, by rw [get_set_other (by omega)]; exact sD.get g46, by rw [est, get_set_same rfl], (by simp [ev_c, ev_put, t0] <;> rfl), (by simp [ev_c, ev_put, t1] <;> rfl), (by simp [ev_c, ev_put, t4] <;> rfl), (by simp [ev_c, ev_put, t8] <;> rfl), (by simp [ev_c, ev_put, t36] <;> rfl), (by simp [ev_c, ev_put, t37] <;> rfl), (by simp [ev_c, ev_put] <;> rfl)⟩
            · rw [est]
              have := (bsl1_own ((hs'.trans sB).trans sC) (j : Int)).keep (Keeps.set _ h5.next (.cells .rw [.int .i64 (sayLo m m.wgs[j]), .sl (h6.next + 1) 0 1 (.fix 1)])) (H.Sub.set hsD (by omega) (by simp only [H.next_add]; omega) hw _) (fun b hb e => by obtain ⟨_, _, _, e2⟩ := hb; cases e2; simp only [H.next_add] at e; omega)
              rw [H.next_add] at this
              exact this
            · intro b hb; obtain ⟨_, _, _, e2⟩ := hb; cases e2; have := hs5.next; omega
          · rw [if_neg (fun h => c2 h.2)] at est
            simp -implicitDefEqProofs (maxSteps := 999999) (disch := first | with_reducible rfl | omega | (simp only [nA, nS, nD] <;> omega) | fail) only [go_sem, t0, t1, t4, t8, t36, t37, t38, gA6, c1, c2, cells_of g86, wr_succ]
            exact ⟨_, _, y, rfl, by rw [est]; exact oy.mono (sB.trans sC), ny, by simp only [H.next_add]; omega, (sB.trans sC).get g4', by rw [est]; exact (sB.trans sC).get g8, (by simp [ev_c, ev_put, t0] <;> rfl), (by simp [ev_c, ev_put, t1] <;> rfl), (by simp [ev_c, ev_put, t4] <;> rfl), (by simp [ev_c, ev_put, t8] <;> rfl), (by simp [ev_c, ev_put, t36] <;> rfl), (by simp [ev_c, ev_put, t37] <;> rfl), (by simp [ev_c, ev_put] <;> rfl)⟩
        · rw [if_neg (fun h => c1 h.1)] at est
          simp -implicitDefEqProofs (maxSteps := 999999) (disch := first | with_reducible rfl | omega | (simp only [nA, nS, nD] <;> omega) | fail) only [go_sem, t0, t1, t4, t8, t36, t37, t38, gA6, c1, wr_succ]
          exact ⟨_, _, y, rfl, by rw [est]; exact oy.mono (sB.trans sC), ny, by simp only [H.next_add]; omega, (sB.trans sC).get g4', by rw [est]; exact (sB.trans sC).get g8, (by simp [ev_c, ev_put, t0] <;> rfl), (by simp [ev_c, ev_put, t1] <;> rfl), (by simp [ev_c, ev_put, t4] <;> rfl), (by simp [ev_c, ev_put, t8] <;> rfl), (by simp [ev_c, ev_put, t36] <;> rfl), (by simp [ev_c, ev_put, t37] <;> rfl), (by simp [ev_c, ev_put] <;> rfl)⟩
      · clear t0 t1 t4 t5 t17 t18 t19
        rintro s ⟨tm, h', y, rfl, oy, ny, lt', g4', g8, t0, t1, t4, t8, t36, t37, t38⟩
        have y1 := oy.one
        rw [← hP] at oy g8
        simp -implicitDefEqProofs (maxSteps := 999999) (disch := first | with_reducible rfl | omega | (simp only [nA, nS, nD] <;> omega) | fail) only [go_sem, t0, t1, t4, t8, t36, t37, t38, Int.lt_irrefl, cells_of g8, g4', y1, cells_one y1]
        refine q _ y (oy.keep (Keeps.set h' h.next _) (oy.1.set (Nat.le_refl _) (by have := hs5.next; omega) hw _) fun b hb e => by have := (ny b hb).2; omega)
theorem few1_pure {h : H} {h1 h2 : H} {e : Sm × V} (o : OwnC h1 h2 e.2 1 (e.1.2.map encI)) (hl : e.1.2.length ≤ 10) : PureA h (.fn 136 [] []) [.agg (encS e)] (.bool (decide (0 < (e.1.2.length : Int)))) := fun hA hs => by
  have hlen := (o.sl (by simp only [List.length_map]; omega)).lenE
  refine Ev_body (fd := c136) rfl rfl rfl ?_
  simp -implicitDefEqProofs (maxSteps := 999999) (disch := first | with_reducible rfl | omega | (simp only [nA, nS, nD] <;> omega) | fail) only [c136, go_sem, encS, hlen]
  exact (H.Sub.refl hs.wf).add _
set_option maxHeartbeats 4000000 in
theorem few_ev {m : Ml} (g : Good m) : ∀ (k : Nat) {h : H} {d : Nat} (lot : Nat), m.lots.length - lot ≤ k → lot < m.lots.length → h.wf → DkAt h d m → ∀ (Q : V → H → Prop),
    (∀ h' x, OwnC h h' x 1 ((fewP m (lot : Int)).2.map encI) → Q (.agg [.int .i64 (fewP m (lot : Int)).1, x]) h') → Ev fnG fastA (.fn 89 [] []) [.ptr d 0, .int .i64 (lot : Int)] h Q := by
  intro k
  induction k with
  | zero => intro h d lot h1 h2; omega
  | succ k ih =>
    intro h d lot hk hlot hw hd Q q
    have F := forest g
    have gl := g.lots
    have gw := g.wgs
    have hd0 := hd
    obtain ⟨pm, l, L, W, g1, g2, aL, aW, ap⟩ := hd
    have hl0 : (0 : Int) ≤ (lot : Int) := by omega
    have hl1 : (lot : Int) < (m.lots.length : Int) := by omega
    refine Ev_body (fd := c89) rfl rfl rfl ?_
    have s1 : h.Sub ((h.add (.cells .rw [.int .i64 0, .nils])).add (.cells .rw [.int .i64 10000, .nils])) := (by repeat (first | assumption | exact H.Sub.refl (by assumption) | refine H.Sub.add ?_ _ | refine H.Sub.set ?_ (by first | omega | (simp only [H.next_add, H.next_set, H.next_del] <;> omega)) (by first | omega | (simp only [H.next_add, H.next_set, H.next_del] <;> omega)) (by assumption) _))
    have hap := ap (lot : Int)
    have hlp := parts_len m (lot : Int)
    have hlenP := hap.lenE
    obtain ⟨ps, eps⟩ : ∃ ps, parts m (lot : Int) = ps := ⟨_, rfl⟩
    obtain ⟨X, eX⟩ : ∃ X, found .nils false (lkA (lot : Int) l) = X := ⟨_, rfl⟩
    rw [eX] at hlenP hap
    rw [eps] at hlp hlenP hap
    have hpsm : ∀ p ∈ ps, 0 ≤ p ∧ p < m.lots.length ∧ (lot : Int) < p := fun p hp => by
      obtain ⟨p0, p1, pf⟩ := (F.mem (lot : Int) p).1 (by rw [eps]; exact hp)
      have := F.lt p p0 p1
      omega
    obtain ⟨J, hJ⟩ : ∃ J : St → Prop, ∀ s, J s ↔ ∃ tm h' y, s = ⟨tm, h', []⟩ ∧ OwnC h h' y 1 ((few0 (ps.map (fewP m))).2.map encI) ∧ (∀ b, blkOf y b → b ≠ h.next + 1 ∧ h.next < b) ∧ h.next + 1 < h'.next ∧ h'.get h.next = some (.cells .rw [.int .i64 0, .nils]) ∧ h'.get (h.next + 1) = some (.cells .rw [.int .i64 (few0 (ps.map (fewP m))).1, y]) ∧
        (Opd.t 0).ev tm = .ptr d 0 ∧ (Opd.t 1).ev tm = .int .i64 (lot : Int) ∧ (Opd.t 4).ev tm = .ptr h.next 0 ∧ (Opd.t 5).ev tm = .ptr (h.next + 1) 0 := ⟨_, fun s => Iff.rfl⟩
    simp only [c89]
    rw [W_assoc, W_assoc, W_assoc, W_assoc, W_seq]
    refine W_cut J ?_ ?_
    · simp -implicitDefEqProofs (maxSteps := 999999) (disch := first | with_reducible rfl | omega | (simp only [nA, nS, nD] <;> omega) | fail) only [go_sem, cells_of (s1.get g1), s1.get g2, eX, hlenP]
      refine W_count ps.length (fun j s => ∃ tm h' lv ls, s = ⟨tm, h', []⟩ ∧ OwnSl h h' lv 2 (ls.map encS) ∧ SmsAt h h' ls ∧ ls.map Prod.fst = (ps.take j).map (fewP m) ∧ h.next + 1 < h'.next ∧ h'.get h.next = some (.cells .rw [.int .i64 0, .nils]) ∧ h'.get (h.next + 1) = some (.cells .rw [.int .i64 10000, .nils]) ∧
          (Opd.t 0).ev tm = .ptr d 0 ∧ (Opd.t 1).ev tm = .int .i64 (lot : Int) ∧ (Opd.t 4).ev tm = .ptr h.next 0 ∧ (Opd.t 5).ev tm = .ptr (h.next + 1) 0 ∧ (Opd.t 6).ev tm = lv ∧ (Opd.t 19).ev tm = X ∧ (Opd.t 20).ev tm = .int .i64 (ps.length : Int) ∧ (Opd.t 21).ev tm = .int .i64 (j : Int))
        ?_ ?_ (i := 0) (Nat.zero_le _) ⟨_, _, .nils, [], rfl, OwnSl.nil s1 2, fun e he => by simp at he, rfl, by simp only [H.next_add]; omega, by simp -implicitDefEqProofs (maxSteps := 999999) (disch := first | with_reducible rfl | omega | (simp only [nA, nS, nD] <;> omega) | fail) only [go_sem], by simp -implicitDefEqProofs (maxSteps := 999999) (disch := first | with_reducible rfl | omega | (simp only [nA, nS, nD] <;> omega) | fail) only [go_sem], (by simp [ev_c, ev_put] <;> rfl), (by simp [ev_c, ev_put] <;> rfl), (by simp [ev_c, ev_put] <;> rfl), (by simp [ev_c, ev_put] <;> rfl), (by simp [ev_c, ev_put] <;> rfl), (by simp [ev_c, ev_put] <;> rfl), (by simp [ev_c, ev_put] <;> rfl), (by simp [ev_c, ev_put] <;> rfl)⟩
      · rintro j s hj ⟨tm, h', lv, ls, rfl, olv, sms, els, lt, g4, g5, t0, t1, t4, t5, t6, t19, t20, t21⟩
        have hj' : (j : Int) < (ps.length : Int) := by omega
        have hs := olv.1
        have hll : ls.length = j := by have := congrArg List.length els; simp only [List.length_map, List.length_take] at this; omega
        obtain ⟨b2, o2, c2, cs2, eb, hcs2, hq2, hgg2, hn2, hn02⟩ := (hap.mono hs).at hj
        subst eb
        obtain ⟨p0, p1, p2⟩ := hpsm _ (List.getElem_mem hj)
        obtain ⟨p, ep⟩ := Int.eq_ofNat_of_zero_le p0
        simp -implicitDefEqProofs (maxSteps := 999999) (disch := first | with_reducible rfl | omega | (simp only [nA, nS, nD] <;> omega) | fail) only [go_sem, t0, t1, t4, t5, t6, t19, t20, t21, hj', hq2 (nat_cst j), hcs2, hn02 (by omega), encI, ep]
        refine ih p (by omega) (by omega) hs.wf (hd0.mono hs) _ fun h5 x o5 => ?_
        have s5 := o5.1
        have l5 := s5.next
        have x1 := o5.one
        have sA := (H.Sub.refl s5.wf).add (.cells .rw [.int .i64 (fewP m (p : Int)).1, x])
        have sB := s5.trans sA
        have ws : ∀ b, blkOf lv b → ∀ e ∈ ls, ¬ blkOf e.2 b := fun b hb e he he2 => by
          obtain ⟨_, _, kd, cs, hg, hk⟩ := (sms e he).blk he2
          have hg2 := (olv.blk hb).2.2
          rw [hg2] at hg
          injection hg with hg; injection hg with hg3 _
          rcases hk with rfl | rfl <;> cases hg3
        have wx : ∀ b, blkOf lv b → ¬ blkOf x b := fun b hb hb2 => by
          have a1 := (olv.blk hb).2.1
          have a2 := (o5.blk hb2).1
          omega
        simp -implicitDefEqProofs (maxSteps := 999999) (disch := first | with_reducible rfl | omega | (simp only [nA, nS, nD] <;> omega) | fail) only [go_sem, x1, cells_one x1]
        refine (olv.mono sB).app1 (r := encS (fewP m (p : Int), x)) hw rfl (by omega) (SlAt.new _ rfl rfl (by simp [encS]) (by simp [encS]) (by simp)) (by simp only [encS]; rw [allOne_cons, allOne_cons, x1]; rfl) (by simp only [List.length_map]; omega) (by simp only [List.length_map]; omega) fun h6 o6 k6 n6 => ?_
        have g46 := k6.2 _ _ (sB.get g4) ((olv.mono sB).ne (sB.get g4))
        have g56 := k6.2 _ _ (sB.get g5) ((olv.mono sB).ne (sB.get g5))
        simp -implicitDefEqProofs (maxSteps := 999999) (disch := first | with_reducible rfl | omega | (simp only [nA, nS, nD] <;> omega) | fail) only [go_sem, t0, t1, t4, t5, t6, t19, t20, t21, wr_succ]
        simp only [H.next_add] at n6 o6
        refine ⟨_, _, _, ls ++ [(fewP m (p : Int), x)], rfl, by rw [List.map_append]; exact o6, ?_, ?_, by omega, g46, g56, (by simp [ev_c, ev_put, t0] <;> rfl), (by simp [ev_c, ev_put, t1] <;> rfl), (by simp [ev_c, ev_put, t4] <;> rfl), (by simp [ev_c, ev_put, t5] <;> rfl), (by simp [ev_c, ev_put] <;> rfl), (by simp [ev_c, ev_put, t19] <;> rfl), (by simp [ev_c, ev_put, t20] <;> rfl), (by simp [ev_c, ev_put] <;> rfl)⟩
        · intro e he
          rw [List.mem_append, List.mem_singleton] at he
          rcases he with he | rfl
          · exact ((sms e he).mono sB).keep k6 o6.1 fun b hb hb2 => ws b hb2 e he hb
          · exact ((o5.base hs).mono sA).keep k6 o6.1 fun b hb hb2 => wx b hb2 hb
        · rw [List.map_append, els, List.take_succ_eq_append_getElem hj, List.map_append, ep]; rfl
      · rintro s ⟨tm, h', lv, ls, rfl, olv, sms, els, lt, g4, g5, t0, t1, t4, t5, t6, t19, t20, t21⟩
        rw [List.take_length] at els
        have hs := olv.1
        have hll : ls.length = ps.length := by have := congrArg List.length els; simpa using this
        have hmem : ∀ e ∈ ls, ∃ p ∈ ps, fewP m p = e.1 := fun e he => by
          have : e.1 ∈ ls.map Prod.fst := List.mem_map_of_mem he
          rw [els] at this
          obtain ⟨p, hp, e'⟩ := List.mem_map.1 this
          exact ⟨p, hp, e'⟩
        have bd : ∀ e ∈ ls, 0 ≤ e.1.1 ∧ e.1.1 ≤ 200000000000000000 ∧ e.1.2.length ≤ 10 := fun e he => by
          obtain ⟨p, hp, e'⟩ := hmem e he
          rw [← e']; exact few_bd g (hpsm p hp).1 (hpsm p hp).2.1
        have alv := olv.sl (by simp only [List.length_map]; omega)
        have hlenV := alv.lenE
        simp -implicitDefEqProofs (maxSteps := 999999) (disch := first | with_reducible rfl | omega | (simp only [nA, nS, nD] <;> omega) | fail) only [go_sem, t0, t1, t4, t5, t6, t19, t20, t21, Int.lt_irrefl]
        refine added_ev hs.wf alv sms (by omega) (fun e he => ⟨(bd e he).1, (bd e he).2.1⟩) (fun e he => (bd e he).2.2) _ fun h5 y o5 => ?_
        rw [els]
        rw [els] at o5
        have s5 := o5.1
        have hs5 := hs.trans s5
        have l5 := s5.next
        have y1 := OwnC.one o5.c
        obtain ⟨S0, eS⟩ : ∃ S0, addL (ps.map (fewP m)) = S0 := ⟨_, rfl⟩
        rw [eS] at o5
        rw [eS]
        have s6 : h5.Sub (h5.add (.cells .rw [.int .i64 S0.1, y])) := (H.Sub.refl s5.wf).add _
        have g9 : (h5.add (.cells .rw [.int .i64 S0.1, y])).get h5.next = some (.cells .rw [.int .i64 S0.1, y]) := get_add_new rfl
        have hne : ps.map (fewP m) ≠ [] ↔ 0 < (ls.length : Int) := by
          rw [hll]
          constructor
          · intro h
            have : ps ≠ [] := fun e => h (by rw [e]; rfl)
            have := List.length_pos_iff.2 this; omega
          · intro h e
            rw [List.map_eq_nil_iff] at e; rw [e] at h; simp at h
        have hall : (ls.all fun e => decide (0 < (e.1.2.length : Int))) = true ↔ ∀ s ∈ ps.map (fewP m), s.2 ≠ [] := by
          rw [← els, List.all_eq_true]
          constructor
          · intro h s hs
            obtain ⟨e, he, rfl⟩ := List.mem_map.1 hs
            have := h e he
            rw [decide_eq_true_eq] at this
            intro e0; rw [e0] at this; simp at this
          · intro h e he
            rw [decide_eq_true_eq]
            have := List.length_pos_iff.2 (h e.1 (List.mem_map_of_mem he)); omega
        by_cases c1 : 0 < (ls.length : Int)
        · simp -implicitDefEqProofs (maxSteps := 999999) (disch := first | with_reducible rfl | omega | (simp only [nA, nS, nD] <;> omega) | fail) only [go_sem, t0, t1, t4, t5, t6, y1, cells_one y1, hlenV, c1]
          refine (everySum_ev (p := fun e => decide (0 < (e.1.2.length : Int))) (s5.trans s6).wf (alv.mono (s5.trans s6)) fun e he => few1_pure (sms e he) (bd e he).2.2).mono fun u h7 hu => ?_
          obtain ⟨rfl, s67⟩ := hu
          have s57 := s6.trans s67
          have s7 := hs5.trans s57
          have l7 := s57.next
          have l67 := s67.next
          simp only [H.next_add] at l67
          have g97 := s67.get g9
          have g57 := (s5.trans s57).get g5
          have g47 := (s5.trans s57).get g4
          cases c2 : (ls.all fun e => decide (0 < (e.1.2.length : Int)))
          · have hn : few0 (ps.map (fewP m)) = (10000, []) := by
              unfold few0; rw [if_neg fun h => by rw [hall.2 h.2.1] at c2; cases c2]
            simp -implicitDefEqProofs (maxSteps := 999999) (disch := first | with_reducible rfl | omega | (simp only [nA, nS, nD] <;> omega) | fail) only [go_sem, t0, t1, t4, t5, t6]
            exact ⟨rfl, (hJ _).2 ⟨_, _, .nils, rfl, by rw [hn]; exact (OwnSl.nil s7 1).c, fun b hb => (blkOf_nils hb).elim, by omega, g47, by rw [hn]; exact g57, (by simp [ev_c, ev_put, t0] <;> rfl), (by simp [ev_c, ev_put, t1] <;> rfl), (by simp [ev_c, ev_put, t4] <;> rfl), (by simp [ev_c, ev_put, t5] <;> rfl)⟩⟩
          · by_cases c3 : S0.1 < 10000
            · have hn : few0 (ps.map (fewP m)) = S0 := by
                unfold few0; rw [if_pos ⟨hne.2 c1, hall.1 c2, by rw [eS]; exact c3⟩, eS]
              simp -implicitDefEqProofs (maxSteps := 999999) (disch := first | with_reducible rfl | omega | (simp only [nA, nS, nD] <;> omega) | fail) only [go_sem, t0, t1, t4, t5, t6, cells_of g97, cells_of g57, c3, y1, cells_one y1, g57]
              have o7 := (o5.c.base hs).mono s57
              have ny : ∀ b, blkOf y b → b ≠ h.next + 1 ∧ h.next < b := fun b hb => by have := (o5.blk hb).1; omega
              exact ⟨rfl, (hJ _).2 ⟨_, _, y, rfl, by rw [hn]; exact o7.keep (Keeps.set h7 (h.next + 1) _) (s7.set (by omega) (by omega) hw _) fun b hb e => (ny b hb).1 e, ny, by rw [H.next_set]; omega, by rw [get_set_other (by omega)]; exact g47, by rw [hn, get_set_same rfl], (by simp [ev_c, ev_put, t0] <;> rfl), (by simp [ev_c, ev_put, t1] <;> rfl), (by simp [ev_c, ev_put, t4] <;> rfl), (by simp [ev_c, ev_put, t5] <;> rfl)⟩⟩
            · have hn : few0 (ps.map (fewP m)) = (10000, []) := by
                unfold few0; rw [if_neg fun h => c3 (by rw [← eS]; exact h.2.2)]
              simp -implicitDefEqProofs (maxSteps := 999999) (disch := first | with_reducible rfl | omega | (simp only [nA, nS, nD] <;> omega) | fail) only [go_sem, t0, t1, t4, t5, t6, cells_of g97, cells_of g57, c3]
              exact ⟨rfl, (hJ _).2 ⟨_, _, .nils, rfl, by rw [hn]; exact (OwnSl.nil s7 1).c, fun b hb => (blkOf_nils hb).elim, by omega, g47, by rw [hn]; exact g57, (by simp [ev_c, ev_put, t0] <;> rfl), (by simp [ev_c, ev_put, t1] <;> rfl), (by simp [ev_c, ev_put, t4] <;> rfl), (by simp [ev_c, ev_put, t5] <;> rfl)⟩⟩
        · have hn : few0 (ps.map (fewP m)) = (10000, []) := by
            unfold few0; rw [if_neg fun h => c1 (hne.1 h.1)]
          simp -implicitDefEqProofs (maxSteps := 999999) (disch := first | with_reducible rfl | omega | (simp only [nA, nS, nD] <;> omega) | fail) only [go_sem, t0, t1, t4, t5, t6, y1, cells_one y1, hlenV, c1]
          exact ⟨rfl, (hJ _).2 ⟨_, _, .nils, rfl, by rw [hn]; exact (OwnSl.nil (hs5.trans s6) 1).c, fun b hb => (blkOf_nils hb).elim, by simp only [H.next_add]; omega, (s5.trans s6).get g4, by rw [hn]; exact (s5.trans s6).get g5, (by simp [ev_c, ev_put, t0] <;> rfl), (by simp [ev_c, ev_put, t1] <;> rfl), (by simp [ev_c, ev_put, t4] <;> rfl), (by simp [ev_c, ev_put, t5] <;> rfl)⟩⟩
    · intro s hs
      obtain ⟨tm, h5, y, rfl, oy, ny, lt, g4, g5, t0, t1, t4, t5⟩ := (hJ s).1 hs
      have hP : fewP m (lot : Int) = fewW m (lot : Int) m.wgs.length (few0 (ps.map (fewP m))) := by rw [fewP_eq g hl0 hl1, eps]
      obtain ⟨S0, eS⟩ : ∃ S0, few0 (ps.map (fewP m)) = S0 := ⟨_, rfl⟩
      rw [eS] at oy g5 hP
      have hs5 := oy.1
      simp -implicitDefEqProofs (maxSteps := 999999) (disch := first | with_reducible rfl | omega | (simp only [nA, nS, nD] <;> omega) | fail) only [go_sem, t0, t1, t4, t5, cells_of (hs5.get g1), aW.lenE]
      refine W_count m.wgs.length (fun j s => ∃ tm h' y, s = ⟨tm, h', []⟩ ∧ OwnC h h' y 1 ((fewW m (lot : Int) j S0).2.map encI) ∧ (∀ b, blkOf y b → b ≠ h.next + 1 ∧ h.next < b) ∧ h.next + 1 < h'.next ∧ h'.get h.next = some (.cells .rw [.int .i64 0, .nils]) ∧ h'.get (h.next + 1) = some (.cells .rw [.int .i64 (fewW m (lot : Int) j S0).1, y]) ∧
          (Opd.t 0).ev tm = .ptr d 0 ∧ (Opd.t 1).ev tm = .int .i64 (lot : Int) ∧ (Opd.t 4).ev tm = .ptr h.next 0 ∧ (Opd.t 5).ev tm = .ptr (h.next + 1) 0 ∧ (Opd.t 53).ev tm = W ∧ (Opd.t 54).ev tm = .int .i64 (m.wgs.length : Int) ∧ (Opd.t 55).ev tm = .int .i64 (j : Int))
        ?_ ?_ (i := 0) (Nat.zero_le _) ⟨_, _, y, rfl, oy, ny, lt, g4, g5, (by simp [ev_c, ev_put, t0] <;> rfl), (by simp [ev_c, ev_put, t1] <;> rfl), (by simp [ev_c, ev_put, t4] <;> rfl), (by simp [ev_c, ev_put, t5] <;> rfl), (by simp [ev_c, ev_put] <;> rfl), (by simp [ev_c, ev_put] <;> rfl), (by simp [ev_c, ev_put] <;> rfl)⟩
      · clear t0 t1 t4 t5 oy ny lt g4 g5
        rintro j s hj ⟨tm, h', y, rfl, oy, ny, lt', g4', g8, t0, t1, t4, t8, t36, t37, t38⟩
        have hj' : (j : Int) < (m.wgs.length : Int) := by omega
        have hs' := oy.1
        have y1 := oy.one
        obtain ⟨b2, o2, c2, cs2, eb, hcs2, hq2, hgg2, hn2, hn02⟩ := (aW.mono hs').at hj
        subst eb
        have hbb : b2 < h'.next := SlAt_lt hs'.wf (aW.mono hs') (by intro e; rw [List.map_eq_nil_iff] at e; rw [e] at hj; simp at hj) b2 ⟨_, _, _, rfl⟩
        have est : fewW m (lot : Int) (j + 1) S0 = if wl m (j : Int) = (lot : Int) ∧ wHi m (j : Int) < (fewW m (lot : Int) j S0).1 then (wHi m (j : Int), [(j : Int)]) else fewW m (lot : Int) j S0 := rfl
        rw [wl_at hj, wHi_at hj] at est
        have sA : h'.Sub (h'.add (.cells .rw [.int .i64 m.wgs[j].lot, .int .i64 m.wgs[j].reads, .int .i64 m.wgs[j].lo, .int .i64 m.wgs[j].hi])) := (H.Sub.refl hs'.wf).add _
        have gA : (h'.add (.cells .rw [.int .i64 m.wgs[j].lot, .int .i64 m.wgs[j].reads, .int .i64 m.wgs[j].lo, .int .i64 m.wgs[j].hi])).cells h'.next = some [.int .i64 m.wgs[j].lot, .int .i64 m.wgs[j].reads, .int .i64 m.wgs[j].lo, .int .i64 m.wgs[j].hi] := cells_add_new rfl
        simp -implicitDefEqProofs (maxSteps := 999999) (disch := first | with_reducible rfl | omega | (simp only [nA, nS, nD] <;> omega) | fail) only [go_sem, t0, t1, t4, t8, t36, t37, t38, hj', hq2 (nat_cst j), hcs2, hgg2, encW]
        refine (says_ev (hs'.trans sA).wf (hd0.mono (hs'.trans sA)) g hj).mono fun u h6 hu => ?_
        obtain ⟨rfl, s6'⟩ := hu
        have sB := sA.trans s6'
        have l6 := sB.next
        have l6' := s6'.next
        simp only [H.next_add] at l6'
        have gA6 := s6'.cells gA
        have g86 := sB.get g8
        have g46 := sB.get g4'
        have sC : h6.Sub (h6.add (.cells .rw [.int .i64 (sayLo m m.wgs[j]), .int .i64 (sayHi m m.wgs[j])])) := (H.Sub.refl (hs'.trans sB).wf).add _
        by_cases c1 : m.wgs[j].lot = (lot : Int)
        · by_cases c2 : sayHi m m.wgs[j] < (fewW m (lot : Int) j S0).1
          · rw [if_pos ⟨c1, c2⟩] at est
            have w6 := (hs'.trans sB).wf
            have sD := (sC.add (.cells .rw [.int .i64 (j : Int)]))
            have hsD := (hs'.trans sB).trans sD
            simp -implicitDefEqProofs (maxSteps := 999999) (disch := first | with_reducible rfl | omega | (simp only [nA, nS, nD] <;> omega) | fail) only [go_sem, t0, t1, t4, t8, t36, t37, t38, gA6, c1, c2, cells_of g86, g86, wr_succ]
            refine ⟨_, _, .sl (h6.next + 1) 0 1 (.fix 1), rfl, ?_, ?_, by simp only [H.next_set, H.next_add]; omega, by rw [get_set_other (by omega)]; exact sD.get g46, by rw [est, get_set_same rfl], (by simp [ev_c, ev_put, t0] <;> rfl), (by simp [ev_c, ev_put, t1] <;> rfl), (by simp [ev_c, ev_put, t4] <;> rfl), (by simp [ev_c, ev_put, t8] <;> rfl), (by simp [ev_c, ev_put, t36] <;> rfl), (by simp [ev_c, ev_put, t37] <;> rfl), (by simp [ev_c, ev_put] <;> rfl)⟩
            · rw [est]
              have := (bsl1_own ((hs'.trans sB).trans sC) (j : Int)).keep (Keeps.set _ (h.next + 1) (.cells .rw [.int .i64 (sayHi m m.wgs[j]), .sl (h6.next + 1) 0 1 (.fix 1)])) (H.Sub.set hsD (by omega) (by simp only [H.next_add]; omega) hw _) (fun b hb e => by obtain ⟨_, _, _, e2⟩ := hb; cases e2; simp only [H.next_add] at e; omega)
              rw [H.next_add] at this
              exact this
            · intro b hb; obtain ⟨_, _, _, e2⟩ := hb; cases e2; omega
          · rw [if_neg (fun h => c2 h.2)] at est
            simp -implicitDefEqProofs (maxSteps := 999999) (disch := first | with_reducible rfl | omega | (simp only [nA, nS, nD] <;> omega) | fail) only [go_sem, t0, t1, t4, t8, t36, t37, t38, gA6, c1, c2, cells_of g86, wr_succ]
            exact ⟨_, _, y, rfl, by rw [est]; exact oy.mono (sB.trans sC), ny, by simp only [H.next_add]; omega, (sB.trans sC).get g4', by rw [est]; exact (sB.trans sC).get g8, (by simp [ev_c, ev_put, t0] <;> rfl), (by simp [ev_c, ev_put, t1] <;> rfl), (by simp [ev_c, ev_put, t4] <;> rfl), (by simp [ev_c, ev_put, t8] <;> rfl), (by simp [ev_c, ev_put, t36] <;> rfl), (by simp [ev_c, ev_put, t37] <;> rfl), (by simp [ev_c, ev_put] <;> rfl)⟩
        · rw [if_neg (fun h => c1 h.1)] at est
          simp -implicitDefEqProofs (maxSteps := 999999) (disch := first | with_reducible rfl | omega | (simp only [nA, nS, nD] <;> omega) | fail) only [go_sem, t0, t1, t4, t8, t36, t37, t38, gA6, c1, wr_succ]
          exact ⟨_, _, y, rfl, by rw [est]; exact oy.mono (sB.trans sC), ny, by simp only [H.next_add]; omega, (sB.trans sC).get g4', by rw [est]; exact (sB.trans sC).get g8, (by simp [ev_c, ev_put, t0] <;> rfl), (by simp [ev_c, ev_put, t1] <;> rfl), (by simp [ev_c, ev_put, t4] <;> rfl), (by simp [ev_c, ev_put, t8] <;> rfl), (by simp [ev_c, ev_put, t36] <;> rfl), (by simp [ev_c, ev_put, t37] <;> rfl), (by simp [ev_c, ev_put] <;> rfl)⟩
      · clear t0 t1 t4 t5 oy ny lt g4 g5
        rintro s ⟨tm, h', y, rfl, oy, ny, lt', g4', g8, t0, t1, t4, t8, t36, t37, t38⟩
        have y1 := oy.one
        rw [← hP] at oy g8
        simp -implicitDefEqProofs (maxSteps := 999999) (disch := first | with_reducible rfl | omega | (simp only [nA, nS, nD] <;> omega) | fail) only [go_sem, t0, t1, t4, t8, t36, t37, t38, Int.lt_irrefl, cells_of g8, g4', y1, cells_one y1]
        exact q _ y (oy.keep (Keeps.set h' h.next _) (oy.1.set (Nat.le_refl _) (by omega) hw _) fun b hb e => by have := (ny b hb).2; omega)
end Go.Ab.Try
set_option linter.unusedSimpArgs false
set_option linter.unusedVariables false
namespace Go.Ab.Try
open Go.Ab.Silk
def ProveR (m : Ml) (lot : Int) (low high : List Int) (e : Int) : Prop :=
  (check m ≠ 0 ∧ e = check m ∧ lot = 0 ∧ low = [] ∧ high = []) ∨ (check m = 0 ∧
    (((∃ w, FeasM m allC w) ∧ e = 6 ∧ lot = 0 ∧ low = [] ∧ high = []) ∨ ((¬ ∃ w, FeasM m allC w) ∧ e = 0 ∧ (0 ≤ lot ∧ lot < m.lots.length) ∧ (fewP m lot).1 < (mostP m lot).1 ∧ low = (mostP m lot).2 ∧ high = (fewP m lot).2)))
set_option maxHeartbeats 2000000 in
theorem Prove_own {h : H} {v : V} {m : Ml} (hw : h.wf) (hm : MlIs h v m) : Ev fnG fastA (.fn 29 [] []) [v] h fun u h' => h.Sub h' ∧ ∃ lot x y low high e, u = .tup [.agg [.int .i64 lot, x, y], .int .i64 e] ∧ OwnC h h' x 1 (low.map encI) ∧ OwnC h h' y 1 (high.map encI) ∧ (low.length ≤ 1000 ∧ high.length ≤ 1000) ∧ ProveR m lot low high e := by
  refine Ev.gen fun Q q => ?_
  have hm0 := hm
  obtain ⟨L, W, rfl, aL, aW⟩ := hm
  have hlenL := aL.lenE
  refine Ev_body (fd := c29) rfl rfl rfl ?_
  have s1 : h.Sub ((h.add (.cells .rw [.int .i64 m.errs, L, W])).add (.cells .rw [.int .i64 0, .nils, .nils])) := (by repeat (first | assumption | exact H.Sub.refl (by assumption) | refine H.Sub.add ?_ _ | refine H.Sub.set ?_ (by first | omega | (simp only [H.next_add, H.next_set, H.next_del] <;> omega)) (by first | omega | (simp only [H.next_add, H.next_set, H.next_del] <;> omega)) (by assumption) _))
  have g1 : ((h.add (.cells .rw [.int .i64 m.errs, L, W])).add (.cells .rw [.int .i64 0, .nils, .nils])).cells h.next = some [.int .i64 m.errs, L, W] := by simp -implicitDefEqProofs (maxSteps := 999999) (disch := first | with_reducible rfl | omega | (simp only [nA, nS, nD] <;> omega) | fail) only [go_sem]
  have r1 : ((h.add (.cells .rw [.int .i64 m.errs, L, W])).add (.cells .rw [.int .i64 0, .nils, .nils])).get (h.next + 1) = some (.cells .rw [.int .i64 0, .nils, .nils]) := by simp -implicitDefEqProofs (maxSteps := 999999) (disch := first | with_reducible rfl | omega | (simp only [nA, nS, nD] <;> omega) | fail) only [go_sem]
  have l1 : ((h.add (.cells .rw [.int .i64 m.errs, L, W])).add (.cells .rw [.int .i64 0, .nils, .nils])).next = h.next + 2 := by simp only [H.next_add]
  simp -implicitDefEqProofs (maxSteps := 999999) (disch := first | with_reducible rfl | omega | (simp only [nA, nS, nD] <;> omega) | fail) only [c29, go_sem]
  generalize ((h.add (.cells .rw [.int .i64 m.errs, L, W])).add (.cells .rw [.int .i64 0, .nils, .nils])) = h1 at s1 g1 r1 l1 ⊢
  refine (opened_dk s1.wf (hm0.mono s1)).mono fun u h2 hu => ?_
  obtain ⟨s12, hu⟩ := hu
  have s2 := s1.trans s12
  have l2 := s12.next
  have r2 := s12.get r1
  have nl : ∀ hh : H, h.Sub hh → OwnC h hh .nils 1 (([] : List Int).map encI) := fun hh w => (OwnSl.nil w 1).c
  rcases hu with ⟨c, rfl⟩ | ⟨c, d, rfl, hd⟩
  · simp -implicitDefEqProofs (maxSteps := 999999) (disch := first | with_reducible rfl | omega | (simp only [nA, nS, nD] <;> omega) | fail) only [go_sem, c, ne_eq, not_false_eq_true, r2, cells_of r2]
    have s3 : h.Sub (h2.set (h.next + 1) (.cells .rw [.int .i64 0, .nils, .nils])) := (by repeat (first | assumption | exact H.Sub.refl (by assumption) | refine H.Sub.add ?_ _ | refine H.Sub.set ?_ (by first | omega | (simp only [H.next_add, H.next_set, H.next_del] <;> omega)) (by first | omega | (simp only [H.next_add, H.next_set, H.next_del] <;> omega)) (by assumption) _))
    exact q _ _ ⟨s3, 0, .nils, .nils, [], [], check m, rfl, nl _ s3, nl _ s3, by simp, .inl ⟨c, rfl, rfl, rfl, rfl⟩⟩
  · have g := good_of c
    have gl := g.lots
    simp -implicitDefEqProofs (maxSteps := 999999) (disch := first | with_reducible rfl | omega | (simp only [nA, nS, nD] <;> omega) | fail) only [go_sem, ne_eq, eq_self, not_true_eq_false, s12.cells g1, hlenL]
    refine W_count m.lots.length (fun i s => ∃ tm h', s = ⟨tm, h', []⟩ ∧ h2.Sub h' ∧ (∀ k : Int, 0 ≤ k → k < (i : Int) → (mostP m k).1 ≤ (fewP m k).1) ∧ (Opd.t 2).ev tm = .ptr (h.next + 1) 0 ∧ (Opd.t 4).ev tm = .ptr d 0 ∧ (Opd.t 20).ev tm = .int .i64 (m.lots.length : Int) ∧ (Opd.t 21).ev tm = .int .i64 (i : Int))
      ?_ ?_ (i := 0) (Nat.zero_le _) ⟨_, _, rfl, H.Sub.refl s2.wf, fun k k0 k1 => by omega, (by simp [ev_c, ev_put] <;> rfl), (by simp [ev_c, ev_put] <;> rfl), (by simp [ev_c, ev_put] <;> rfl), (by simp [ev_c, ev_put] <;> rfl)⟩
    · rintro i s hi ⟨tm, h', rfl, hs, hno, t2, t4, t20, t21⟩
      have hi' : (i : Int) < (m.lots.length : Int) := by omega
      have i0 : (0 : Int) ≤ (i : Int) := by omega
      have hs2 := s2.trans hs
      simp -implicitDefEqProofs (maxSteps := 999999) (disch := first | with_reducible rfl | omega | (simp only [nA, nS, nD] <;> omega) | fail) only [go_sem, t2, t4, t20, t21, hi']
      refine most_ev g m.lots.length i (by omega) hi hs2.wf (hd.mono hs) _ fun h5 x o5 => ?_
      have s5 := o5.1
      have x1 := o5.one
      simp -implicitDefEqProofs (maxSteps := 999999) (disch := first | with_reducible rfl | omega | (simp only [nA, nS, nD] <;> omega) | fail) only [go_sem, t2, t4, t20, t21]
      refine few_ev g m.lots.length i (by omega) hi (hs2.trans s5).wf (hd.mono (hs.trans s5)) _ fun h6 y o6 => ?_
      have s6 := o6.1
      have y1 := o6.one
      have s26 := (hs.trans s5).trans s6
      have w6 := s26.wf
      have l6 := s26.next
      have s68 : h6.Sub ((((h6.add (.cells .rw [.int .i64 0, .nils])).add (.cells .rw [.int .i64 0, .nils])).set h6.next (.cells .rw [.int .i64 (mostP m (i : Int)).1, x])).set (h6.next + 1) (.cells .rw [.int .i64 (fewP m (i : Int)).1, y])) := (by repeat (first | assumption | exact H.Sub.refl (by assumption) | refine H.Sub.add ?_ _ | refine H.Sub.set ?_ (by first | omega | (simp only [H.next_add, H.next_set, H.next_del] <;> omega)) (by first | omega | (simp only [H.next_add, H.next_set, H.next_del] <;> omega)) (by assumption) _))
      have ga : ((((h6.add (.cells .rw [.int .i64 0, .nils])).add (.cells .rw [.int .i64 0, .nils])).set h6.next (.cells .rw [.int .i64 (mostP m (i : Int)).1, x])).set (h6.next + 1) (.cells .rw [.int .i64 (fewP m (i : Int)).1, y])).cells h6.next = some [.int .i64 (mostP m (i : Int)).1, x] := by simp -implicitDefEqProofs (maxSteps := 999999) (disch := first | with_reducible rfl | omega | (simp only [nA, nS, nD] <;> omega) | fail) only [go_sem]
      have gb : ((((h6.add (.cells .rw [.int .i64 0, .nils])).add (.cells .rw [.int .i64 0, .nils])).set h6.next (.cells .rw [.int .i64 (mostP m (i : Int)).1, x])).set (h6.next + 1) (.cells .rw [.int .i64 (fewP m (i : Int)).1, y])).cells (h6.next + 1) = some [.int .i64 (fewP m (i : Int)).1, y] := by simp -implicitDefEqProofs (maxSteps := 999999) (disch := first | with_reducible rfl | omega | (simp only [nA, nS, nD] <;> omega) | fail) only [go_sem]
      simp -implicitDefEqProofs (maxSteps := 999999) (disch := first | with_reducible rfl | omega | (simp only [nA, nS, nD] <;> omega) | fail) only [go_sem, t2, t4, t20, t21, x1, y1, cells_one x1, cells_one y1]
      generalize ((((h6.add (.cells .rw [.int .i64 0, .nils])).add (.cells .rw [.int .i64 0, .nils])).set h6.next (.cells .rw [.int .i64 (mostP m (i : Int)).1, x])).set (h6.next + 1) (.cells .rw [.int .i64 (fewP m (i : Int)).1, y])) = h8 at s68 ga gb ⊢
      have r8 := (s26.trans s68).get r2
      have l8 := (s26.trans s68).next
      have bd1 := most_bd g i0 hi'
      have bd2 := few_bd g i0 hi'
      by_cases hc : (fewP m (i : Int)).1 < (mostP m (i : Int)).1
      · simp -implicitDefEqProofs (maxSteps := 999999) (disch := first | with_reducible rfl | omega | (simp only [nA, nS, nD] <;> omega) | fail) only [go_sem, t2, t4, t20, t21, x1, y1, cells_one x1, cells_one y1, hc, r8, cells_of r8, ga, gb]
        have s28 := s2.trans (s26.trans s68)
        have s9 : h.Sub (h8.set (h.next + 1) (.cells .rw [.int .i64 (i : Int), x, y])) := H.Sub.set s28 (by omega) (by omega) hw _
        have l' := hs.next
        have ox := ((o5.base hs2).mono (s6.trans s68)).keep (Keeps.set h8 (h.next + 1) (.cells .rw [.int .i64 (i : Int), x, y])) s9 fun b hb e => by have := (o5.blk hb).1; omega
        have oy := ((o6.base (hs2.trans s5)).mono s68).keep (Keeps.set h8 (h.next + 1) (.cells .rw [.int .i64 (i : Int), x, y])) s9 fun b hb e => by have := (o6.blk hb).1; have := s5.next; omega
        refine q _ _ ⟨s9, (i : Int), x, y, _, _, 0, rfl, ox, oy, ⟨by omega, by omega⟩, .inr ⟨c, .inr ⟨fun hf => ?_, rfl, ⟨i0, hi'⟩, hc, rfl, rfl⟩⟩⟩
        have := (agree_iff g).1 hf (i : Int) i0 hi'
        rw [← (most_ok g _ i0 hi').1, ← (few_ok g _ i0 hi').1] at this
        omega
      · have hno' : ∀ k : Int, 0 ≤ k → k < ((i + 1 : Nat) : Int) → (mostP m k).1 ≤ (fewP m k).1 := fun k k0 k1 => by
          by_cases e : k = (i : Int)
          · rw [e]; omega
          · exact hno k k0 (by omega)
        simp -implicitDefEqProofs (maxSteps := 999999) (disch := first | with_reducible rfl | omega | (simp only [nA, nS, nD] <;> omega) | fail) only [go_sem, t2, t4, t20, t21, ga, gb, hc, wr_succ]
        exact ⟨_, _, rfl, s26.trans s68, hno', (by simp [ev_c, ev_put, t2] <;> rfl), (by simp [ev_c, ev_put, t4] <;> rfl), (by simp [ev_c, ev_put, t20] <;> rfl), (by simp [ev_c, ev_put] <;> rfl)⟩
    · rintro s ⟨tm, h', rfl, hs, hno, t2, t4, t20, t21⟩
      have r3 := hs.get r2
      have l3 := hs.next
      have s3 : h.Sub (h'.set (h.next + 1) (.cells .rw [.int .i64 0, .nils, .nils])) := (s2.trans hs).set (by omega) (by omega) hw _
      simp -implicitDefEqProofs (maxSteps := 999999) (disch := first | with_reducible rfl | omega | (simp only [nA, nS, nD] <;> omega) | fail) only [go_sem, t2, t4, t20, t21, Int.lt_irrefl, r3, cells_of r3]
      refine q _ _ ⟨s3, 0, .nils, .nils, [], [], 6, rfl, nl _ s3, nl _ s3, by simp, .inr ⟨c, .inl ⟨(agree_iff g).2 fun i i0 i1 => ?_, rfl, rfl, rfl, rfl⟩⟩⟩
      have := hno i i0 i1
      rw [(most_ok g i i0 i1).1, (few_ok g i i0 i1).1] at this
      exact this
theorem lineF_le (m : Ml) : ∀ (k : Nat) (n : Int), (lineF m k n).length ≤ k
  | 0, _ => by simp [lineF]
  | k + 1, n => by
    have := lineF_le m k (frmAt m n)
    simp only [lineF]
    split <;> simp <;> omega
theorem line_le (m : Ml) (n : Int) : (line m n).length ≤ 13 := lineF_le m 13 n
theorem mem_take_succ {l : List Int} {i : Nat} (h : i < l.length) {a : Int} : a ∈ l.take (i + 1) ↔ a ∈ l.take i ∨ a = l[i] := by
  rw [List.take_succ_eq_append_getElem h, List.mem_append, List.mem_singleton]
end Go.Ab.Try
set_option linter.unusedSimpArgs false
set_option linter.unusedVariables false
namespace Go.Ab
theorem subO_to {b o sz n c k : Nat} {tm : T V} {x : Opd} (hx : x.ev tm = .int .i64 (k : Int)) (hk : k ≤ n) (hc : n ≤ c) : subO b o sz (bnd3 tm n c none (some x) none) = some (.sl b (bsel (Nat.beq c 0) o (o + 0 * sz)) k (.fix c)) := by
  have e1 : Nat.ble 0 k = true := by simp
  have e2 : Nat.ble k c = true := by simp; omega
  have e3 : Nat.ble c c = true := by simp
  simp only [bnd3, natO, hx, nat_cst, bnds, e1, e2, e3, og_true, subO, sub, Nat.sub_zero]
noncomputable def slcTo (h : H) (sz : Nat) (x k : V) : Option V := q_slc .nil h sz x none (some (.c k)) none
theorem q_slc_to (tm : T V) (h : H) (sz : Nat) (x : V) (y : Opd) : q_slc tm h sz x none (some y) none = slcTo h sz x (y.ev tm) := rfl
theorem OwnC.to {h0 h : H} {x : V} {sz k : Nat} {rows : List (List V)} (a : OwnC h0 h x sz rows) (hl : rows.length ≤ 1000000) (hk : k ≤ rows.length) (hk0 : 0 < rows.length) :
    ∃ y, slcTo h sz x (.int .i64 (k : Int)) = some y ∧ SlAt h y sz (rows.take k) := by
  have hi : ∀ tm, (Opd.c (.int .i64 (k : Int))).ev tm = .int .i64 (k : Int) := fun _ => rfl
  obtain ⟨a0, a1, a2⟩ := a
  have hr : ∀ r ∈ rows.take k, r.length = sz := fun r hr => a1 r (List.mem_of_mem_take hr)
  have hlt : (rows.take k).length = k := by rw [List.length_take]; omega
  have hfl : (rows.take k).flatten = rows.flatten.take (k * sz) := by
    have h1 := flatten_len hr
    rw [hlt] at h1
    have e : rows.flatten = (rows.take k).flatten ++ (rows.drop k).flatten := by rw [← List.flatten_append, List.take_append_drop]
    rw [e, List.take_left' h1]
  rcases a2 with ⟨rfl, rfl⟩ | ⟨b, rfl, l1, l2, hb⟩ | ⟨b, c, rest, rfl, l1, l2, hb, hc, hlc⟩
  · simp at hk0
  · have fl := flatten_len a1
    have e1 : Nat.ble 0 k = true := by simp
    have e2 : Nat.ble k rows.length = true := by simpa using hk
    have e3 : Nat.ble rows.length rows.length = true := by simp
    have e4 : Nat.blt 0 rows.length = true := by simpa using hk0
    have e5 : Nat.beq sz sz = true := by simp
    have e6 : Nat.beq 0 (0 * sz) = true := by simp
    have e7 : Nat.ble (0 + rows.length * sz) rows.flatten.length = true := by rw [fl]; simp
    refine ⟨.sl b (0 + 0 * sz) k (.slk (0 + 0) 0), ?_, ?_⟩
    · simp only [slcTo, q_slc, slkOk, hb, e5, e6, lenN_eq, e7, og_true, bnd3, natO, hi, nat_cst, bnds, e1, e2, e3, subS, e4, Nat.sub_zero]
    · refine ⟨hr, by rw [hlt]; omega, .inr ⟨b, 0 + 0 * sz, _, _, by rw [hlt], .inr (cells_of hb), ?_⟩⟩
      refine getN_eq.2 ⟨by rw [hlt]; simp [hfl], ?_⟩
      rw [hlt, fl]
      have := Nat.mul_le_mul_right sz hk; omega
  · have fl := flatten_len a1
    have hz : bsel (Nat.beq c 0) 0 (0 + 0 * sz) = 0 := by cases Nat.beq c 0 <;> simp [bsel]
    refine ⟨.sl b 0 k (.fix c), ?_, ?_⟩
    · simp only [slcTo, q_slc]
      rw [subO_to (hi _) hk hlc, hz]
    · refine ⟨hr, by rw [hlt]; omega, .inr ⟨b, 0, _, _, by rw [hlt], .inr (cells_of hb), ?_⟩⟩
      have := Nat.mul_le_mul_right sz hk
      refine getN_eq.2 ⟨?_, by rw [hlt, List.length_append, fl]; omega⟩
      rw [hlt, List.drop_zero, hfl, List.take_append_of_le_length (by rw [fl]; omega)]
namespace Try
open Go.Ab.Silk
theorem index_ev {h : H} {x : V} {l : List Int} (hx : SlAt h x 1 (l.map encI)) (n : Int) : Ev fnG fastA (.fn 121 [] []) [x, .int .i64 n] h fun v h' => v = .int .i64 (fidx (fun a => decide (n = a)) l 0) ∧ h' = h := by
  have hb := hx.boundE
  refine Ev_body (fd := c121) rfl rfl rfl ?_
  simp -implicitDefEqProofs (maxSteps := 999999) (disch := first | with_reducible rfl | omega | (simp only [nA, nS, nD] <;> omega) | fail) only [c121, go_sem, hx.lenE]
  refine W_count l.length (fun i s => ∃ tm, s = ⟨tm, h, []⟩ ∧ (Opd.t 0).ev tm = x ∧ (Opd.t 1).ev tm = .int .i64 n ∧ (Opd.t 7).ev tm = .int .i64 (l.length : Int) ∧ (Opd.t 8).ev tm = .int .i64 (i : Int) ∧ fidx (fun a => decide (n = a)) l 0 = fidx (fun a => decide (n = a)) (l.drop i) i)
    ?_ ?_ (i := 0) (Nat.zero_le _) ⟨_, rfl, (by simp [ev_c, ev_put] <;> rfl), (by simp [ev_c, ev_put] <;> rfl), (by simp [ev_c, ev_put] <;> rfl), (by simp [ev_c, ev_put] <;> rfl), rfl⟩
  · rintro i s hi ⟨tm, rfl, t0, t1, t7, t8, e9⟩
    have hi' : (i : Int) < (l.length : Int) := by omega
    obtain ⟨b, o, c, cs, rfl, hc, hq, hg, hn, hn0⟩ := hx.at hi
    by_cases he : n = l[i]
    · simp -implicitDefEqProofs (maxSteps := 999999) (disch := first | with_reducible rfl | omega | (simp only [nA, nS, nD] <;> omega) | fail) only [go_sem, t0, t1, t7, t8, hi', hq (nat_cst i), hc, hn0 (by omega), encI, he]
      rw [fidx_hit (p := fun a => decide (n = a)) hi (by simp [he])] at e9
      rw [← he, e9]
    · simp -implicitDefEqProofs (maxSteps := 999999) (disch := first | with_reducible rfl | omega | (simp only [nA, nS, nD] <;> omega) | fail) only [go_sem, t0, t1, t7, t8, hi', hq (nat_cst i), hc, hn0 (by omega), encI, he, wr_succ]
      exact ⟨_, rfl, (by simp [ev_c, ev_put, t0] <;> rfl), (by simp [ev_c, ev_put, t1] <;> rfl), (by simp [ev_c, ev_put, t7] <;> rfl), (by simp [ev_c, ev_put] <;> rfl), by rw [e9, fidx_miss hi (by simp [he])]⟩
  · rintro s ⟨tm, rfl, t0, t1, t7, t8, e9⟩
    simp -implicitDefEqProofs (maxSteps := 999999) (disch := first | with_reducible rfl | omega | (simp only [nA, nS, nD] <;> omega) | fail) only [go_sem, t0, t1, t7, t8, Int.lt_irrefl]
    rw [e9]; simp [fidx]
theorem contains_ev {h : H} {x : V} {l : List Int} (hx : SlAt h x 1 (l.map encI)) (n : Int) (Q : V → H → Prop) : Ev fnG fastA (.fn 61 [] []) [x, .int .i64 n] h Q = Q (.bool (decide (n ∈ l))) h := by
  refine Ev.det (Ev_body (fd := c61) rfl rfl rfl ?_) Q
  simp -implicitDefEqProofs (maxSteps := 999999) (disch := first | with_reducible rfl | omega | (simp only [nA, nS, nD] <;> omega) | fail) only [c61, go_sem]
  refine (index_ev hx n).mono fun v h' hv => ?_
  obtain ⟨rfl, rfl⟩ := hv
  simp -implicitDefEqProofs (maxSteps := 999999) (disch := first | with_reducible rfl | omega | (simp only [nA, nS, nD] <;> omega) | fail) only [go_sem]
  congr 1
  rw [fidx_any, Bool.eq_iff_iff, List.any_eq_true, decide_eq_true_eq]
  exact ⟨fun ⟨a, ha, e⟩ => by (have := of_decide_eq_true e; subst this; exact ha), fun ha => ⟨n, ha, by simp⟩⟩
end Try
end Go.Ab
set_option linter.unusedSimpArgs false
set_option linter.unusedVariables false
namespace Go.Ab.Try
open Go.Ab.Silk
structure GenEnv (h0 : H) (l : Nat) (I : H → Prop) : Prop where
  sub : ∀ h, I h → h0.Sub h
  mono : ∀ h h', I h → h.Sub h' → I h'
  lt : ∀ h, I h → l < h.next
abbrev Kl (l : Nat) (h h' : H) : Prop := Keeps (fun b => b = l) h h'
theorem Kl.trans {l : Nat} {h h' h'' : H} (a : Kl l h h') (b : Kl l h' h'') : Kl l h h'' := (Keeps.trans a b).mono fun c hc => hc.elim id id
def GenE (l : Nat) (I S : H → Prop) (f : V) (a : Int) (p : Prop) (h : H) : Prop := Ev fnG fastA f [.int .i64 a] h fun u h' => (p ∧ u = .bool true ∧ I h' ∧ Kl l h h') ∨ (¬ p ∧ u = .bool false ∧ S h')
def GenN (l : Nat) (I S : H → Prop) (f : V) (a : Int) (p : Prop) (h : H) : Prop := Ev fnG fastA f [.int .i64 a] h fun u h' => (p ∧ u = .bool false ∧ I h' ∧ Kl l h h') ∨ (¬ p ∧ u = .bool true ∧ S h')
section
variable {h0 : H} {l : Nat} {I S : H → Prop}
theorem index_gen (g : GenEnv h0 l I) {L : List Int} {x f : V} {p : Int → Prop} (hx : SlAt h0 x 1 (L.map encI)) {h : H} (hI : I h) (hp : ∀ a ∈ L, ∀ h', I h' → Kl l h h' → GenN l I S f a (p a) h') :
    Ev fnG fastA (.fn 122 [] []) [x, f] h fun v h' => ((∀ a ∈ L, p a) ∧ v = .int .i64 (-1) ∧ I h' ∧ Kl l h h') ∨ ((¬ ∀ a ∈ L, p a) ∧ (∃ k : Nat, v = .int .i64 (k : Int)) ∧ S h') := by
  have hb := hx.boundE
  refine Ev.gen fun Q q => ?_
  refine Ev_body (fd := c122) rfl rfl rfl ?_
  simp -implicitDefEqProofs (maxSteps := 999999) (disch := first | with_reducible rfl | omega | (simp only [nA, nS, nD] <;> omega) | fail) only [c122, go_sem, hx.lenE]
  refine W_count L.length (fun i s => ∃ tm h', s = ⟨tm, h', []⟩ ∧ I h' ∧ Kl l h h' ∧ (∀ a ∈ L.take i, p a) ∧ (Opd.t 0).ev tm = x ∧ (Opd.t 1).ev tm = f ∧ (Opd.t 7).ev tm = .int .i64 (L.length : Int) ∧ (Opd.t 8).ev tm = .int .i64 (i : Int))
    ?_ ?_ (i := 0) (Nat.zero_le _) ⟨_, _, rfl, hI, Keeps.refl _ _, fun a ha => by simp at ha, (by simp [ev_c, ev_put] <;> rfl), (by simp [ev_c, ev_put] <;> rfl), (by simp [ev_c, ev_put] <;> rfl), (by simp [ev_c, ev_put] <;> rfl)⟩
  · rintro i s hi ⟨tm, h', rfl, hI', hk, hall, t0, t1, t7, t8⟩
    have hi' : (i : Int) < (L.length : Int) := by omega
    obtain ⟨b2, o2, c2, cs2, e2, hcs2, hq2, hgg2, hn2, hn02⟩ := (hx.mono (g.sub _ hI')).at hi
    simp -implicitDefEqProofs (maxSteps := 999999) (disch := first | with_reducible rfl | omega | (simp only [nA, nS, nD] <;> omega) | fail) only [go_sem, t0, t1, t7, t8, hi', hq2 (nat_cst i), hcs2, hn02 (by omega), encI]
    refine (hp _ (List.getElem_mem hi) h' hI' hk).mono fun u h2 hu => ?_
    rcases hu with ⟨hpa, rfl, hI2, hk2⟩ | ⟨hpa, rfl, hS⟩
    · simp -implicitDefEqProofs (maxSteps := 999999) (disch := first | with_reducible rfl | omega | (simp only [nA, nS, nD] <;> omega) | fail) only [go_sem, t0, t1, t7, t8, wr_succ]
      refine ⟨_, _, rfl, hI2, hk.trans hk2, fun a ha => ?_, (by simp [ev_c, ev_put, t0] <;> rfl), (by simp [ev_c, ev_put, t1] <;> rfl), (by simp [ev_c, ev_put, t7] <;> rfl), (by simp [ev_c, ev_put] <;> rfl)⟩
      rcases (mem_take_succ hi).1 ha with ha | rfl
      · exact hall a ha
      · exact hpa
    · simp -implicitDefEqProofs (maxSteps := 999999) (disch := first | with_reducible rfl | omega | (simp only [nA, nS, nD] <;> omega) | fail) only [go_sem, t0, t1, t7, t8]
      exact q _ _ (.inr ⟨fun h => hpa (h _ (List.getElem_mem hi)), ⟨i, rfl⟩, hS⟩)
  · rintro s ⟨tm, h', rfl, hI', hk, hall, t0, t1, t7, t8⟩
    rw [List.take_length] at hall
    simp -implicitDefEqProofs (maxSteps := 999999) (disch := first | with_reducible rfl | omega | (simp only [nA, nS, nD] <;> omega) | fail) only [go_sem, t0, t1, t7, t8, Int.lt_irrefl]
    exact q _ _ (.inl ⟨hall, rfl, hI', hk⟩)
theorem contains_gen (g : GenEnv h0 l I) {L : List Int} {x f : V} {p : Int → Prop} (hx : SlAt h0 x 1 (L.map encI)) {h : H} (hI : I h) (hp : ∀ a ∈ L, ∀ h', I h' → Kl l h h' → GenN l I S f a (p a) h') :
    Ev fnG fastA (.fn 64 [] []) [x, f] h fun v h' => ((∀ a ∈ L, p a) ∧ v = .bool false ∧ I h' ∧ Kl l h h') ∨ ((¬ ∀ a ∈ L, p a) ∧ v = .bool true ∧ S h') := by
  refine Ev.gen fun Q q => ?_
  refine Ev_body (fd := c64) rfl rfl rfl ?_
  simp -implicitDefEqProofs (maxSteps := 999999) (disch := first | with_reducible rfl | omega | (simp only [nA, nS, nD] <;> omega) | fail) only [c64, go_sem]
  refine (index_gen g hx hI hp).mono fun v h' hv => ?_
  have n1 : ¬ (0 : Int) ≤ -1 := by omega
  rcases hv with ⟨ha, rfl, hI', hk⟩ | ⟨ha, ⟨k, rfl⟩, hS⟩
  · simp -implicitDefEqProofs (maxSteps := 999999) (disch := first | with_reducible rfl | omega | (simp only [nA, nS, nD] <;> omega) | fail) only [go_sem, n1]
    exact q _ _ (.inl ⟨ha, rfl, hI', hk⟩)
  · have k0 : (0 : Int) ≤ (k : Int) := by omega
    simp -implicitDefEqProofs (maxSteps := 999999) (disch := first | with_reducible rfl | omega | (simp only [nA, nS, nD] <;> omega) | fail) only [go_sem, k0]
    exact q _ _ (.inr ⟨ha, rfl, hS⟩)
theorem every_gen (g : GenEnv h0 l I) {L : List Int} {x : V} {f : FuncId} {u w : List V} {p : Int → Prop} (hx : SlAt h0 x 1 (L.map encI)) {h : H} (hI : I h) (hp : ∀ a ∈ L, ∀ h', I h' → Kl l h h' → GenE l I S (.fn f u w) a (p a) h') (Q : V → H → Prop)
    (q : ∀ t h', ((∀ a ∈ L, p a) ∧ t = true ∧ I h' ∧ Kl l h h') ∨ ((¬ ∀ a ∈ L, p a) ∧ t = false ∧ S h') → Q (.bool t) h') : Ev fnG fastA (.fn 92 [] []) [x, .fn f u w] h Q := by
  refine Ev_body (fd := c92) rfl rfl rfl ?_
  simp -implicitDefEqProofs (maxSteps := 999999) (disch := first | with_reducible rfl | omega | (simp only [nA, nS, nD] <;> omega) | fail) only [c92, go_sem]
  have s1 : h.Sub (h.add (.cells .rw [.fn f u w])) := (H.Sub.refl (g.sub _ hI).wf).add _
  have hl := g.lt _ hI
  refine (contains_gen g hx (g.mono _ _ hI s1) (p := p) (S := S) fun a ha h2 hI2 hk2 => ?_).mono fun v h' hv => ?_
  · have hc : h2.cells h.next = some [.fn f u w] := hk2.cells (cells_add_new rfl) (by omega)
    have hlt : h.next < h2.next := by have := hk2.1; rw [H.next_add] at this; omega
    unfold GenN
    refine Ev.gen fun Q2 q2 => ?_
    refine Ev_body (fd := c137) rfl rfl rfl ?_
    simp -implicitDefEqProofs (maxSteps := 999999) (disch := first | with_reducible rfl | omega | (simp only [nA, nS, nD] <;> omega) | fail) only [c137, go_sem, hc]
    refine (hp a ha h2 hI2 (Kl.trans (Keeps.of s1 _) hk2)).mono fun u h3 hu => ?_
    rcases hu with ⟨hpa, rfl, hI3, hk3⟩ | ⟨hpa, rfl, hS⟩
    · simp -implicitDefEqProofs (maxSteps := 999999) (disch := first | with_reducible rfl | omega | (simp only [nA, nS, nD] <;> omega) | fail) only [go_sem]
      exact q2 _ _ (.inl ⟨hpa, rfl, hI3, hk3⟩)
    · simp -implicitDefEqProofs (maxSteps := 999999) (disch := first | with_reducible rfl | omega | (simp only [nA, nS, nD] <;> omega) | fail) only [go_sem]
      exact q2 _ _ (.inr ⟨hpa, rfl, hS⟩)
  · rcases hv with ⟨ha, rfl, hI', hk⟩ | ⟨ha, rfl, hS⟩
    · simp -implicitDefEqProofs (maxSteps := 999999) (disch := first | with_reducible rfl | omega | (simp only [nA, nS, nD] <;> omega) | fail) only [go_sem]
      exact q true _ (.inl ⟨ha, rfl, hI', Kl.trans (Keeps.of s1 _) hk⟩)
    · simp -implicitDefEqProofs (maxSteps := 999999) (disch := first | with_reducible rfl | omega | (simp only [nA, nS, nD] <;> omega) | fail) only [go_sem]
      exact q false _ (.inr ⟨ha, rfl, hS⟩)
def AllOk (m : Ml) (ok : Int → Prop) (p : Int) : Prop := ∀ w : Int, 0 ≤ w → w < m.lots.length → parts m w = [] → Anc (frmAt m) w p → ok w
theorem AllOk_leaf {m : Ml} (g : Good m) {ok : Int → Prop} {p : Int} (p0 : 0 ≤ p) (p1 : p < m.lots.length) (hp : parts m p = []) : AllOk m ok p ↔ ok p := by
  constructor
  · exact fun h => h p p0 p1 hp .self
  · intro h w w0 w1 _ ha
    cases ha with
    | self => exact h
    | @up k hk h0 =>
      have hl := hk.le (forest g) w0 w1
      have : k ∈ parts m (frmAt m k) := ((forest g).mem _ _).2 ⟨hl.1, by omega, rfl⟩
      rw [hp] at this; simp at this
theorem AllOk_node {m : Ml} (g : Good m) {ok : Int → Prop} {p : Int} (p0 : 0 ≤ p) (hp : parts m p ≠ []) : AllOk m ok p ↔ ∀ q ∈ parts m p, AllOk m ok q := by
  constructor
  · intro h q hq w w0 w1 hw ha
    obtain ⟨q0, q1, qf⟩ := ((forest g).mem _ _).1 hq
    refine h w w0 w1 hw ?_
    rw [← qf]; exact .up ha (by omega)
  · intro h w w0 w1 hw ha
    cases ha with
    | self => exact absurd hw hp
    | @up k hk h0 =>
      have hl := hk.le (forest g) w0 w1
      exact h k (((forest g).mem _ _).2 ⟨hl.1, by omega, rfl⟩) w w0 w1 hw hk
theorem down_gen (e : GenEnv h0 l I) {m : Ml} (g : Good m) {d : Nat} (hd : DkAt h0 d m) {y : V} {ok : Int → Prop} (hy : ∀ w : Int, 0 ≤ w → w < m.lots.length → parts m w = [] → ∀ h', I h' → GenE l I S y w (ok w) h')
    {c1 c3 c4 : Nat} (n1 : c1 ≠ l) (n3 : c3 ≠ l) (n4 : c4 ≠ l) : ∀ (k : Nat) (lot : Nat) {h : H}, m.lots.length - lot ≤ k → lot < m.lots.length → I h → h.cells c1 = some [.ptr d 0] → h.cells c3 = some [y] → h.cells c4 = some [.fn 157 [] [.ptr c1 0, .ptr c3 0, .ptr c4 0]] →
    GenE l I S (.fn 157 [] [.ptr c1 0, .ptr c3 0, .ptr c4 0]) (lot : Int) (AllOk m ok (lot : Int)) h := by
  intro k
  induction k with
  | zero => intro lot h h1 h2; omega
  | succ k ih =>
    intro lot h hk hlot hI e1 e3 e4
    have F := forest g
    have hl0 : (0 : Int) ≤ (lot : Int) := by omega
    have hl1 : (lot : Int) < (m.lots.length : Int) := by omega
    have hs := e.sub _ hI
    obtain ⟨pm, al, L, W, g1, g2, aL, aW, ap⟩ := hd
    have hap := ap (lot : Int)
    have hlenP := hap.lenE
    obtain ⟨X, eX⟩ : ∃ X, found .nils false (lkA (lot : Int) al) = X := ⟨_, rfl⟩
    rw [eX] at hlenP hap
    unfold GenE
    refine Ev.gen fun Q q => ?_
    refine Ev_body (fd := c157) rfl rfl rfl ?_
    by_cases hp : parts m (lot : Int) = []
    · have h00 : ((parts m (lot : Int)).length : Int) = 0 := by rw [hp]; rfl
      simp -implicitDefEqProofs (maxSteps := 999999) (disch := first | with_reducible rfl | omega | (simp only [nA, nS, nD] <;> omega) | fail) only [c157, go_sem, e1, e3, cells_of (hs.get g1), hs.get g2, eX, hlenP, h00]
      refine (hy (lot : Int) hl0 hl1 hp h hI).mono fun u h' hu => ?_
      have hA := AllOk_leaf g (ok := ok) hl0 hl1 hp
      simp -implicitDefEqProofs (maxSteps := 999999) (disch := first | with_reducible rfl | omega | (simp only [nA, nS, nD] <;> omega) | fail) only [go_sem]
      rcases hu with ⟨h1, h2, h3, h4⟩ | ⟨h1, h2, h3⟩
      · exact q _ _ (.inl ⟨hA.2 h1, h2, h3, h4⟩)
      · exact q _ _ (.inr ⟨fun h => h1 (hA.1 h), h2, h3⟩)
    · have h00 : ¬ ((parts m (lot : Int)).length : Int) = 0 := by have := List.length_pos_iff.2 hp; omega
      simp -implicitDefEqProofs (maxSteps := 999999) (disch := first | with_reducible rfl | omega | (simp only [nA, nS, nD] <;> omega) | fail) only [c157, go_sem, e1, e3, e4, cells_of (hs.get g1), hs.get g2, eX, hlenP, h00]
      have hA := AllOk_node g (ok := ok) hl0 hp
      refine every_gen e hap hI (p := AllOk m ok) (S := S) (fun a ha h' hI' hk' => ?_) _ fun t h' ht => ?_
      · obtain ⟨a0, a1, af⟩ := (F.mem _ _).1 ha
        have hlt := F.lt a a0 a1
        obtain ⟨p, rfl⟩ := Int.eq_ofNat_of_zero_le a0
        exact ih p (by omega) (by omega) hI' (hk'.cells e1 n1) (hk'.cells e3 n3) (hk'.cells e4 n4)
      · simp -implicitDefEqProofs (maxSteps := 999999) (disch := first | with_reducible rfl | omega | (simp only [nA, nS, nD] <;> omega) | fail) only [go_sem, e1, e4, cells_of (hs.get g1), hs.get g2, eX]
        rcases ht with ⟨h1, rfl, h3, h4⟩ | ⟨h1, rfl, h3⟩
        · exact q _ _ (.inl ⟨hA.2 h1, rfl, h3, h4⟩)
        · exact q _ _ (.inr ⟨fun h => h1 (hA.1 h), rfl, h3⟩)
theorem whole1_gen (e : GenEnv h0 l I) {m : Ml} (g : Good m) {d : Nat} (hd : DkAt h0 d m) {y : V} (hy1 : y.one = true) {ok : Int → Prop} (hy : ∀ w : Int, 0 ≤ w → w < m.lots.length → parts m w = [] → ∀ h', I h' → GenE l I S y w (ok w) h')
    {c1 c2 : Nat} (n1 : c1 ≠ l) {lot : Nat} (hlot : lot < m.lots.length) {h : H} (hI : I h) (e1 : h.cells c1 = some [.ptr d 0]) (e2 : h.cells c2 = some [.int .i64 (lot : Int)]) (Q : V → H → Prop)
    (q : ∀ u h', ((AllOk m ok (lot : Int) ∧ I h') ∨ (¬ AllOk m ok (lot : Int) ∧ S h')) → Q u h') : Ev fnG fastA (.fn 156 [] [.ptr c1 0, .ptr c2 0]) [y] h Q := by
  have hw := (e.sub _ hI).wf
  have hl := e.lt _ hI
  obtain ⟨_, b1⟩ := H.cells_eq e1
  obtain ⟨_, b2⟩ := H.cells_eq e2
  have l1 := hw _ _ b1
  have l2 := hw _ _ b2
  refine Ev_body (fd := c156) rfl rfl rfl ?_
  have sA : h.Sub ((h.add (.cells .rw [y])).add (.cells .rw [.fn 157 [] [.ptr c1 0, .ptr h.next 0, .ptr (h.next + 1) 0]])) := ((H.Sub.refl hw).add _).add _
  simp -implicitDefEqProofs (maxSteps := 999999) (disch := first | with_reducible rfl | omega | (simp only [nA, nS, nD] <;> omega) | fail) only [c156, go_sem, hy1, cells_one hy1, e1, e2]
  refine (down_gen e g hd hy (c1 := c1) (c3 := h.next) (c4 := h.next + 1) n1 (by omega) (by omega) m.lots.length lot (by omega) hlot (e.mono _ _ hI sA) (sA.cells e1) (by simp -implicitDefEqProofs (maxSteps := 999999) (disch := first | with_reducible rfl | omega | (simp only [nA, nS, nD] <;> omega) | fail) only [go_sem]) (by simp -implicitDefEqProofs (maxSteps := 999999) (disch := first | with_reducible rfl | omega | (simp only [nA, nS, nD] <;> omega) | fail) only [go_sem])).mono fun u h' hu => ?_
  simp -implicitDefEqProofs (maxSteps := 999999) (disch := first | with_reducible rfl | omega | (simp only [nA, nS, nD] <;> omega) | fail) only [go_sem]
  rcases hu with ⟨h1, h2, h3, h4⟩ | ⟨h1, h2, h3⟩
  · exact q _ _ (.inl ⟨h1, h3⟩)
  · exact q _ _ (.inr ⟨h1, h3⟩)
end
end Go.Ab.Try
set_option linter.unusedSimpArgs false
set_option linter.unusedVariables false
namespace Go.Ab
namespace Try
open Go.Ab.Silk
theorem sumL_bd {x : Int → Int} {C : Int} {l : List Int} (h : ∀ p ∈ l, 0 ≤ x p ∧ x p ≤ C) (hl : l.length ≤ 1000) (hC : 0 ≤ C) : 0 ≤ sumL x l ∧ sumL x l ≤ 1000 * C := by
  have a1 := sumL_nonneg (x := x) (l := l) fun p hp => (h p hp).1
  have a2 := sumL_mono (x := x) (y := fun _ => C) (l := l) fun p hp => (h p hp).2
  rw [sum_const] at a2
  have a3 : (l.length : Int) * C ≤ 1000 * C := Int.mul_le_mul_of_nonneg_right (by omega) hC
  omega
theorem wLo_bd {m : Ml} (g : Good m) {a : Int} (a0 : 0 ≤ a) (a1 : a < m.wgs.length) : (0 ≤ wLo m a ∧ wLo m a ≤ 20000) ∧ (0 ≤ wHi m a ∧ wHi m a ≤ 10000) := by
  obtain ⟨i, rfl⟩ := Int.eq_ofNat_of_zero_le a0
  have hi : i < m.wgs.length := by omega
  have := say_bd g hi
  rw [wLo_at hi, wHi_at hi]; omega
end Go.Ab.Try
set_option linter.unusedSimpArgs false
set_option linter.unusedVariables false
namespace Go.Ab.Try
open Go.Ab.Silk
theorem apart_lt {m : Ml} (g : Good m) {l : List Int} (hin : InW m l) : l.Pairwise (Apart m) ↔ ∀ i k (hi : i < l.length) (hk : k < i), ¬ wl m (l[k]'(by omega)) ∈ line m (wl m l[i]) ∧ ¬ wl m l[i] ∈ line m (wl m (l[k]'(by omega))) := by
  have e : ∀ i j (hi : i < l.length) (hj : j < l.length), wl m l[i] ∈ line m (wl m l[j]) ↔ Anc (frmAt m) (wl m l[j]) (wl m l[i]) := fun i j hi hj => by
    have := hin _ (List.getElem_mem hj)
    have w := wl_in g this.1 this.2
    exact mem_line g w.1 w.2
  rw [List.pairwise_iff_getElem]
  constructor
  · intro h i k hi hk
    have := h k i (by omega) hi hk
    exact ⟨fun a => this.2 ((e k i (by omega) hi).1 a), fun a => this.1 ((e i k hi (by omega)).1 a)⟩
  · intro h i j hi hj hij
    have := h j i hj hij
    exact ⟨fun a => this.2 ((e j i hj hi).2 a), fun a => this.1 ((e i j hi hj).2 a)⟩
set_option maxHeartbeats 1000000 in
theorem beside_ev {h hb : H} {d : Nat} {x : V} {m : Ml} {l : List Int} (hw : h.wf) (hd : DkAt h d m) (g : Good m) (hx : OwnC hb h x 1 (l.map encI)) (hl : l.length ≤ 1000) (hin : InW m l) (Q : V → H → Prop) (q : ∀ t h', h.Sub h' → (t = true ↔ l.Pairwise (Apart m)) → Q (.bool t) h') : Ev fnG fastA (.fn 139 [] []) [.ptr d 0, x] h Q := by
  have hd0 := hd
  obtain ⟨pm, al, L, W, g1, g2, aL, aW, ap⟩ := hd
  have aX := hx.sl (by simp only [List.length_map]; omega)
  have hlen := aX.lenE
  have gl := g.lots
  refine Ev_body (fd := c139) rfl rfl rfl ?_
  have hap := apart_lt g hin
  simp -implicitDefEqProofs (maxSteps := 999999) (disch := first | with_reducible rfl | omega | (simp only [nA, nS, nD] <;> omega) | fail) only [c139, go_sem, hlen]
  refine W_count l.length (fun i s => ∃ tm h', s = ⟨tm, h', []⟩ ∧ h.Sub h' ∧ (∀ i' k (hi : i' < l.length) (hk : k < i'), i' < i → ¬ wl m (l[k]'(by omega)) ∈ line m (wl m l[i']) ∧ ¬ wl m l[i'] ∈ line m (wl m (l[k]'(by omega)))) ∧
      (Opd.t 0).ev tm = .ptr d 0 ∧ (Opd.t 1).ev tm = x ∧ (Opd.t 11).ev tm = x ∧ (Opd.t 12).ev tm = .int .i64 (l.length : Int) ∧ (Opd.t 13).ev tm = .int .i64 (i : Int))
    ?_ ?_ (i := 0) (Nat.zero_le _) ⟨_, _, rfl, H.Sub.refl hw, fun i' k _ _ h => by omega, (by simp [ev_c, ev_put] <;> rfl), (by simp [ev_c, ev_put] <;> rfl), (by simp [ev_c, ev_put] <;> rfl), (by simp [ev_c, ev_put] <;> rfl), (by simp [ev_c, ev_put] <;> rfl)⟩
  · rintro i s hi ⟨tm, h', rfl, hs, hno, t0, t1, t11, t12, t13⟩
    have hi' : (i : Int) < (l.length : Int) := by omega
    obtain ⟨b1, o1, c1, cs1, e1, hcs1, hq1, hgg1, hn1, hn01⟩ := (aX.mono hs).at hi
    have v1 := hn01 (by omega)
    obtain ⟨p0, p1⟩ := hin _ (List.getElem_mem hi)
    obtain ⟨p, ep⟩ := Int.eq_ofNat_of_zero_le p0
    have hp : p < m.wgs.length := by omega
    have w1 : wl m l[i] = m.wgs[p].lot := by rw [ep, wl_at hp]
    have r1 := wl_in g p0 p1
    rw [w1] at r1
    simp only [encI, ep] at v1
    obtain ⟨y, hy, aY⟩ := (hx.mono hs).to (k := i) (by simp only [List.length_map]; omega) (by simp only [List.length_map]; omega) (by simp only [List.length_map]; omega)
    rw [← List.map_take] at aY
    have hlenY := aY.lenE
    rw [List.length_take, Nat.min_eq_left (by omega)] at hlenY
    simp -implicitDefEqProofs (maxSteps := 999999) (disch := first | with_reducible rfl | omega | (simp only [nA, nS, nD] <;> omega) | fail) only [go_sem, t0, t1, t11, t12, t13, hi', hq1 (nat_cst i), hcs1, v1, q_slc_to, hy, hlenY]
    refine W_count i (fun k s => ∃ tm h2, s = ⟨tm, h2, []⟩ ∧ h'.Sub h2 ∧ (∀ k' (hk : k' < i), k' < k → ¬ wl m (l[k']'(by omega)) ∈ line m (wl m l[i]) ∧ ¬ wl m l[i] ∈ line m (wl m (l[k']'(by omega)))) ∧
        (Opd.t 0).ev tm = .ptr d 0 ∧ (Opd.t 1).ev tm = x ∧ (Opd.t 6).ev tm = .int .i64 (p : Int) ∧ (Opd.t 11).ev tm = x ∧ (Opd.t 12).ev tm = .int .i64 (l.length : Int) ∧ (Opd.t 13).ev tm = .int .i64 (i : Int) ∧ (Opd.t 20).ev tm = y ∧ (Opd.t 21).ev tm = .int .i64 (i : Int) ∧ (Opd.t 22).ev tm = .int .i64 (k : Int))
      ?_ ?_ (i := 0) (Nat.zero_le _) ⟨_, _, rfl, H.Sub.refl hs.wf, fun k' _ h => by omega, (by simp [ev_c, ev_put, t0] <;> rfl), (by simp [ev_c, ev_put, t1] <;> rfl), (by simp [ev_c, ev_put] <;> rfl), (by simp [ev_c, ev_put, t11] <;> rfl), (by simp [ev_c, ev_put, t12] <;> rfl), (by simp [ev_c, ev_put, t13] <;> rfl), (by simp [ev_c, ev_put] <;> rfl), (by simp [ev_c, ev_put] <;> rfl), (by simp [ev_c, ev_put] <;> rfl)⟩
    · clear t0 t1 t11 t12 t13
      rintro k s hk ⟨tm, h2, rfl, hs2, hnk, t0, t1, t6, t11, t12, t13, t20, t21, t22⟩
      have hk' : (k : Int) < (i : Int) := by omega
      have hkl : k < l.length := by omega
      have hS := hs.trans hs2
      have hkt : k < (l.take i).length := by rw [List.length_take]; omega
      obtain ⟨b2, o2, c2, cs2, e2, hcs2, hq2, hgg2, hn2, hn02⟩ := (aY.mono hs2).at hkt
      have v2 := hn02 (by omega)
      rw [List.getElem_take] at v2
      obtain ⟨r0, r1'⟩ := hin _ (List.getElem_mem hkl)
      obtain ⟨r, er⟩ := Int.eq_ofNat_of_zero_le r0
      have hr : r < m.wgs.length := by omega
      have w2 : wl m l[k] = m.wgs[r].lot := by rw [er, wl_at hr]
      have r2 := wl_in g r0 r1'
      rw [w2] at r2
      simp only [encI, er] at v2
      obtain ⟨b3, o3, c3, cs3, e3, hcs3, hq3, hgg3, hn3, hn03⟩ := (aW.mono hS).at hp
      obtain ⟨b4, o4, c4, cs4, e4, hcs4, hq4, hgg4, hn4, hn04⟩ := (aW.mono hS).at hr
      simp -implicitDefEqProofs (maxSteps := 999999) (disch := first | with_reducible rfl | omega | (simp only [nA, nS, nD] <;> omega) | fail) only [go_sem, t0, t1, t6, t11, t12, t13, t20, t21, t22, hk', hq2 (nat_cst k), hcs2, v2, cells_of (hS.get g1), hq3 (nat_cst p), hq4 (nat_cst r), hcs3, hcs4, hn03 (by omega), hn04 (by omega), encW]
      refine deskLine_ev hS.wf (hd0.mono hS) g (by omega) r1.2 _ fun y1 h5 o5 => ?_
      have a5 := o5.sl (by have := line_le m m.wgs[p].lot; simp only [List.length_map]; omega)
      have s5 := o5.1
      have nx : (¬ m.wgs[r].lot ∈ line m m.wgs[p].lot ∧ ¬ m.wgs[p].lot ∈ line m m.wgs[r].lot) → ∀ k' (hk : k' < i), k' < k + 1 → ¬ wl m (l[k']'(by omega)) ∈ line m (wl m l[i]) ∧ ¬ wl m l[i] ∈ line m (wl m (l[k']'(by omega))) := fun hn k' hk' hlt => by
        by_cases e : k' = k
        · subst e; rw [w1, w2]; exact hn
        · exact hnk k' hk' (by omega)
      have fail : ¬ (¬ m.wgs[r].lot ∈ line m m.wgs[p].lot ∧ ¬ m.wgs[p].lot ∈ line m m.wgs[r].lot) → ¬ l.Pairwise (Apart m) := fun hn hp2 => hn (by
        have := hap.1 hp2 i k hi hk
        rw [w1, w2] at this; exact this)
      by_cases h1 : m.wgs[r].lot ∈ line m m.wgs[p].lot
      · simp -implicitDefEqProofs (maxSteps := 999999) (disch := first | with_reducible rfl | omega | (simp only [nA, nS, nD] <;> omega) | fail) only [go_sem, t0, t1, t6, t11, t12, t13, t20, t21, t22, contains_ev a5, h1, decide_true]
        exact q false _ (hS.trans s5) ⟨fun h => (by cases h), fun h => absurd h (fail fun h => h.1 h1)⟩
      · simp -implicitDefEqProofs (maxSteps := 999999) (disch := first | with_reducible rfl | omega | (simp only [nA, nS, nD] <;> omega) | fail) only [go_sem, t0, t1, t6, t11, t12, t13, t20, t21, t22, contains_ev a5, h1, decide_false]
        refine deskLine_ev (hS.trans s5).wf (hd0.mono (hS.trans s5)) g (by omega) r2.2 _ fun y2 h6 o6 => ?_
        have a6 := o6.sl (by have := line_le m m.wgs[r].lot; simp only [List.length_map]; omega)
        have s6 := o6.1
        by_cases h2 : m.wgs[p].lot ∈ line m m.wgs[r].lot
        · simp -implicitDefEqProofs (maxSteps := 999999) (disch := first | with_reducible rfl | omega | (simp only [nA, nS, nD] <;> omega) | fail) only [go_sem, t0, t1, t6, t11, t12, t13, t20, t21, t22, contains_ev a6, h2, decide_true]
          exact q false _ (hS.trans (s5.trans s6)) ⟨fun h => (by cases h), fun h => absurd h (fail fun h => h.2 h2)⟩
        · simp -implicitDefEqProofs (maxSteps := 999999) (disch := first | with_reducible rfl | omega | (simp only [nA, nS, nD] <;> omega) | fail) only [go_sem, t0, t1, t6, t11, t12, t13, t20, t21, t22, contains_ev a6, h2, decide_false, wr_succ]
          exact ⟨_, _, rfl, hs2.trans (s5.trans s6), nx ⟨h1, h2⟩, (by simp [ev_c, ev_put, t0] <;> rfl), (by simp [ev_c, ev_put, t1] <;> rfl), (by simp [ev_c, ev_put, t6] <;> rfl), (by simp [ev_c, ev_put, t11] <;> rfl), (by simp [ev_c, ev_put, t12] <;> rfl), (by simp [ev_c, ev_put, t13] <;> rfl), (by simp [ev_c, ev_put, t20] <;> rfl), (by simp [ev_c, ev_put, t21] <;> rfl), (by simp [ev_c, ev_put] <;> rfl)⟩
    · clear t0 t1 t11 t12 t13
      rintro s ⟨tm, h2, rfl, hs2, hnk, t0, t1, t6, t11, t12, t13, t20, t21, t22⟩
      simp -implicitDefEqProofs (maxSteps := 999999) (disch := first | with_reducible rfl | omega | (simp only [nA, nS, nD] <;> omega) | fail) only [go_sem, t0, t1, t6, t11, t12, t13, t20, t21, t22, Int.lt_irrefl, wr_succ]
      refine ⟨_, _, rfl, hs.trans hs2, fun i' k hi2 hk2 hlt => ?_, (by simp [ev_c, ev_put, t0] <;> rfl), (by simp [ev_c, ev_put, t1] <;> rfl), (by simp [ev_c, ev_put, t11] <;> rfl), (by simp [ev_c, ev_put, t12] <;> rfl), (by simp [ev_c, ev_put] <;> rfl)⟩
      by_cases e : i' = i
      · subst e; exact hnk k hk2 hk2
      · exact hno i' k hi2 hk2 (by omega)
  · rintro s ⟨tm, h', rfl, hs, hno, t0, t1, t11, t12, t13⟩
    simp -implicitDefEqProofs (maxSteps := 999999) (disch := first | with_reducible rfl | omega | (simp only [nA, nS, nD] <;> omega) | fail) only [go_sem, t0, t1, t11, t12, t13, Int.lt_irrefl]
    exact q true _ hs ⟨fun _ => hap.2 fun i k hi hk => hno i k hi hk hi, fun _ => rfl⟩
theorem within_pure {h : H} {d cd cp : Nat} {m : Ml} {lot : Int} {X Y : V} (hd : DkAt h d m) (g : Good m) (e1 : h.cells cd = some [.ptr d 0]) (e2 : h.cells cp = some [.int .i64 lot, X, Y]) {a : Int} (a0 : 0 ≤ a) (a1 : a < m.wgs.length) :
    PureA h (.fn 138 [] [.ptr cd 0, .ptr cp 0]) [.int .i64 a] (.bool (decide (lot ∈ line m (wl m a)))) := fun h1 hs => by
  obtain ⟨p, rfl⟩ := Int.eq_ofNat_of_zero_le a0
  have hp : p < m.wgs.length := by omega
  have r := wl_in g a0 a1
  rw [wl_at hp] at r ⊢
  have hd1 := hd.mono hs
  have hd0 := hd1
  obtain ⟨pm, al, L, W, g1, g2, aL, aW, ap⟩ := hd1
  obtain ⟨b3, o3, c3, cs3, e3, hcs3, hq3, hgg3, hn3, hn03⟩ := aW.at hp
  refine Ev.gen fun Q q => ?_
  refine Ev_body (fd := c138) rfl rfl rfl ?_
  simp -implicitDefEqProofs (maxSteps := 999999) (disch := first | with_reducible rfl | omega | (simp only [nA, nS, nD] <;> omega) | fail) only [c138, go_sem, hs.cells e1, cells_of g1, hq3 (nat_cst p), hcs3, hn03 (by omega), encW]
  refine deskLine_ev hs.wf hd0 g (by omega) r.2 _ fun y1 h5 o5 => ?_
  have a5 := o5.sl (by have := line_le m m.wgs[p].lot; simp only [List.length_map]; omega)
  have s5 := o5.1
  simp -implicitDefEqProofs (maxSteps := 999999) (disch := first | with_reducible rfl | omega | (simp only [nA, nS, nD] <;> omega) | fail) only [go_sem, hs.cells e1, s5.cells (hs.cells e1), cells_of g1, cells_of (s5.get g1), hcs3, s5.cells hcs3, hn03 (by omega), encW, hs.cells e2, s5.cells (hs.cells e2), contains_ev a5]
  exact q _ _ ⟨rfl, s5⟩
theorem other_pure {h : H} {d cd cw : Nat} {m : Ml} {w : Int} (hd : DkAt h d m) (g : Good m) (e1 : h.cells cd = some [.ptr d 0]) (e2 : h.cells cw = some [.int .i64 w]) (w0 : 0 ≤ w) (w1 : w < m.lots.length) {a : Int} (a0 : 0 ≤ a) (a1 : a < m.wgs.length) :
    PureA h (.fn 141 [] [.ptr cd 0, .ptr cw 0]) [.int .i64 a] (.bool (!decide (wl m a ∈ line m w))) := fun h1 hs => by
  obtain ⟨p, rfl⟩ := Int.eq_ofNat_of_zero_le a0
  have hp : p < m.wgs.length := by omega
  rw [wl_at hp]
  have hd1 := hd.mono hs
  have hd0 := hd1
  obtain ⟨pm, al, L, W, g1, g2, aL, aW, ap⟩ := hd1
  obtain ⟨b3, o3, c3, cs3, e3, hcs3, hq3, hgg3, hn3, hn03⟩ := aW.at hp
  refine Ev.gen fun Q q => ?_
  refine Ev_body (fd := c141) rfl rfl rfl ?_
  simp -implicitDefEqProofs (maxSteps := 999999) (disch := first | with_reducible rfl | omega | (simp only [nA, nS, nD] <;> omega) | fail) only [c141, go_sem, hs.cells e1, hs.cells e2]
  refine deskLine_ev hs.wf hd0 g (by omega) w1 _ fun y1 h5 o5 => ?_
  have a5 := o5.sl (by have := line_le m w; simp only [List.length_map]; omega)
  have s5 := o5.1
  simp -implicitDefEqProofs (maxSteps := 999999) (disch := first | with_reducible rfl | omega | (simp only [nA, nS, nD] <;> omega) | fail) only [go_sem, hs.cells e1, hs.cells e2, s5.cells (hs.cells e1), s5.cells (hs.cells e2), cells_of g1, cells_of (s5.get g1), hq3 (nat_cst p), hcs3, s5.cells hcs3, hn03 (by omega), encW, contains_ev a5]
  exact q _ _ ⟨rfl, s5⟩
theorem cover_all {m : Ml} (g : Good m) {lot : Int} {high : List Int} (hin : InW m high) : Cover m lot high ↔ AllOk m (fun w => high = [] ∨ ∃ a ∈ high, wl m a ∈ line m w) lot := by
  constructor
  · rintro (h | h) w w0 w1 hw ha
    · exact .inl h
    · obtain ⟨a, h1, h2⟩ := h w w0 w1 hw ha
      exact .inr ⟨a, h1, (mem_line g w0 w1).2 h2⟩
  · intro h
    by_cases e : high = []
    · exact .inl e
    · refine .inr fun w w0 w1 hw ha => ?_
      rcases h w w0 w1 hw ha with h | ⟨a, h1, h2⟩
      · exact absurd h e
      · exact ⟨a, h1, (mem_line g w0 w1).1 h2⟩
set_option maxRecDepth 4000 in
set_option maxHeartbeats 4000000 in
theorem proof_ev {h hb : H} {d : Nat} {X Y : V} {m : Ml} {low high : List Int} {lot : Nat} (hw : h.wf) (hd : DkAt h d m) (g : Good m) (hlot : lot < m.lots.length) (hX : OwnC hb h X 1 (low.map encI)) (hY : OwnC hb h Y 1 (high.map encI)) (hl : low.length ≤ 1000) (hh : high.length ≤ 1000)
    (hi1 : InW m low) (hi2 : InW m high) (Q : V → H → Prop) (q : ∀ t h', h.Sub h' → (t = true ↔ Proof m (lot : Int) low high) → Q (.bool t) h') : Ev fnG fastA (.fn 93 [] []) [.ptr d 0, .agg [.int .i64 (lot : Int), X, Y]] h Q := by
  have X1 := hX.one
  have Y1 := hY.one
  have aX := hX.sl (by simp only [List.length_map]; omega)
  have aY := hY.sl (by simp only [List.length_map]; omega)
  have hlenY := aY.lenE
  have hl0 : (0 : Int) ≤ (lot : Int) := by omega
  have hl1 : (lot : Int) < (m.lots.length : Int) := by omega
  refine Ev_body (fd := c93) rfl rfl rfl ?_
  have s1 : h.Sub (((h.add (.cells .rw [.ptr d 0])).add (.cells .rw [.int .i64 (lot : Int), X, Y])).add (.cells .rw [.bool false])) := (by repeat (first | assumption | exact H.Sub.refl (by assumption) | refine H.Sub.add ?_ _ | refine H.Sub.set ?_ (by first | omega | (simp only [H.next_add, H.next_set, H.next_del] <;> omega)) (by first | omega | (simp only [H.next_add, H.next_set, H.next_del] <;> omega)) (by assumption) _))
  have e1 : (((h.add (.cells .rw [.ptr d 0])).add (.cells .rw [.int .i64 (lot : Int), X, Y])).add (.cells .rw [.bool false])).cells h.next = some [.ptr d 0] := by simp -implicitDefEqProofs (maxSteps := 999999) (disch := first | with_reducible rfl | omega | (simp only [nA, nS, nD] <;> omega) | fail) only [go_sem]
  have e2 : (((h.add (.cells .rw [.ptr d 0])).add (.cells .rw [.int .i64 (lot : Int), X, Y])).add (.cells .rw [.bool false])).cells (h.next + 1) = some [.int .i64 (lot : Int), X, Y] := by simp -implicitDefEqProofs (maxSteps := 999999) (disch := first | with_reducible rfl | omega | (simp only [nA, nS, nD] <;> omega) | fail) only [go_sem]
  have e3 : (((h.add (.cells .rw [.ptr d 0])).add (.cells .rw [.int .i64 (lot : Int), X, Y])).add (.cells .rw [.bool false])).get (h.next + 1 + 1) = some (.cells .rw [.bool false]) := by simp -implicitDefEqProofs (maxSteps := 999999) (disch := first | with_reducible rfl | omega | (simp only [nA, nS, nD] <;> omega) | fail) only [go_sem]
  have l1 : (((h.add (.cells .rw [.ptr d 0])).add (.cells .rw [.int .i64 (lot : Int), X, Y])).add (.cells .rw [.bool false])).next = h.next + 3 := by simp only [H.next_add]
  simp -implicitDefEqProofs (maxSteps := 999999) (disch := first | with_reducible rfl | omega | (simp only [nA, nS, nD] <;> omega) | fail) only [c93, go_sem, X1, Y1, cells_one X1, cells_one Y1]
  generalize (((h.add (.cells .rw [.ptr d 0])).add (.cells .rw [.int .i64 (lot : Int), X, Y])).add (.cells .rw [.bool false])) = h1 at s1 e1 e2 e3 l1 ⊢
  have hd1 := hd.mono s1
  have wiff : ∀ l : List Int, InW m l → ((l.all fun a => decide ((lot : Int) ∈ line m (wl m a))) = true ↔ Within m (lot : Int) l) := fun l hi => by
    rw [List.all_eq_true]
    constructor
    · intro h a ha
      have := h a ha
      rw [decide_eq_true_eq] at this
      have r := wl_in g (hi a ha).1 (hi a ha).2
      exact (mem_line g r.1 r.2).1 this
    · intro h a ha
      rw [decide_eq_true_eq]
      have r := wl_in g (hi a ha).1 (hi a ha).2
      exact (mem_line g r.1 r.2).2 (h a ha)
  refine (everyInt_ev (p := fun a => decide ((lot : Int) ∈ line m (wl m a))) s1.wf (aX.mono s1) fun a ha => within_pure hd1 g e1 e2 (hi1 a ha).1 (hi1 a ha).2).mono fun u h2 hu => ?_
  obtain ⟨rfl, s12⟩ := hu
  have s2 := s1.trans s12
  have r2 := s12.get e3
  have l2 := s12.next
  cases c1 : low.all fun a => decide ((lot : Int) ∈ line m (wl m a))
  · have hno : ¬ Proof m (lot : Int) low high := fun hp => by rw [(wiff low hi1).2 hp.1.1] at c1; cases c1
    simp -implicitDefEqProofs (maxSteps := 999999) (disch := first | with_reducible rfl | omega | (simp only [nA, nS, nD] <;> omega) | fail) only [go_sem, Bool.not_false, r2, cells_of r2]
    exact q false _ (s2.set (by omega) (by omega) hw _) ⟨fun h => (by cases h), fun h => absurd h hno⟩
  have hW1 := (wiff low hi1).1 c1
  simp -implicitDefEqProofs (maxSteps := 999999) (disch := first | with_reducible rfl | omega | (simp only [nA, nS, nD] <;> omega) | fail) only [go_sem, Bool.not_true, s12.cells e2]
  refine (everyInt_ev (p := fun a => decide ((lot : Int) ∈ line m (wl m a))) s2.wf (aY.mono s2) fun a ha => within_pure (hd1.mono s12) g (s12.cells e1) (s12.cells e2) (hi2 a ha).1 (hi2 a ha).2).mono fun u h3 hu => ?_
  obtain ⟨rfl, s23⟩ := hu
  have s3 := s2.trans s23
  have r3 := s23.get r2
  have l3 := s23.next
  cases c2 : high.all fun a => decide ((lot : Int) ∈ line m (wl m a))
  · have hno : ¬ Proof m (lot : Int) low high := fun hp => by rw [(wiff high hi2).2 hp.1.2] at c2; cases c2
    simp -implicitDefEqProofs (maxSteps := 999999) (disch := first | with_reducible rfl | omega | (simp only [nA, nS, nD] <;> omega) | fail) only [go_sem, Bool.not_false, r3, cells_of r3]
    exact q false _ (s3.set (by omega) (by omega) hw _) ⟨fun h => (by cases h), fun h => absurd h hno⟩
  have hW2 := (wiff high hi2).1 c2
  have s13 := s12.trans s23
  simp -implicitDefEqProofs (maxSteps := 999999) (disch := first | with_reducible rfl | omega | (simp only [nA, nS, nD] <;> omega) | fail) only [go_sem, Bool.not_true, s13.cells e1, s13.cells e2]
  refine beside_ev s3.wf (hd1.mono s13) g (hX.mono s3) hl hi1 _ fun ta h4 s34 hta => ?_
  have s4 := s3.trans s34
  have r4 := s34.get r3
  have l4 := s34.next
  cases ta
  · have hno : ¬ Proof m (lot : Int) low high := fun hp => by have := hta.2 hp.2.1.1; cases this
    simp -implicitDefEqProofs (maxSteps := 999999) (disch := first | with_reducible rfl | omega | (simp only [nA, nS, nD] <;> omega) | fail) only [go_sem, Bool.not_false, r4, cells_of r4]
    exact q false _ (s4.set (by omega) (by omega) hw _) ⟨fun h => (by cases h), fun h => absurd h hno⟩
  have hA1 := hta.1 rfl
  have s14 := s13.trans s34
  simp -implicitDefEqProofs (maxSteps := 999999) (disch := first | with_reducible rfl | omega | (simp only [nA, nS, nD] <;> omega) | fail) only [go_sem, Bool.not_true, s14.cells e1, s14.cells e2]
  refine beside_ev s4.wf (hd1.mono s14) g (hY.mono s4) hh hi2 _ fun tb h5 s45 htb => ?_
  have s5 := s4.trans s45
  have r5 := s45.get r4
  have l5 := s45.next
  cases tb
  · have hno : ¬ Proof m (lot : Int) low high := fun hp => by have := htb.2 hp.2.1.2; cases this
    simp -implicitDefEqProofs (maxSteps := 999999) (disch := first | with_reducible rfl | omega | (simp only [nA, nS, nD] <;> omega) | fail) only [go_sem, Bool.not_false, r5, cells_of r5]
    exact q false _ (s5.set (by omega) (by omega) hw _) ⟨fun h => (by cases h), fun h => absurd h hno⟩
  have hA2 := htb.1 rfl
  have s15 := s14.trans s45
  simp -implicitDefEqProofs (maxSteps := 999999) (disch := first | with_reducible rfl | omega | (simp only [nA, nS, nD] <;> omega) | fail) only [go_sem, Bool.not_true, s15.cells e1, s15.cells e2]
  refine Ev_body (fd := c140) rfl rfl rfl ?_
  have s56 : h5.Sub ((h5.add (.cells .rw [.ptr d 0])).add (.cells .rw [.int .i64 (lot : Int)])) := ((H.Sub.refl s5.wf).add _).add _
  have k1 : ((h5.add (.cells .rw [.ptr d 0])).add (.cells .rw [.int .i64 (lot : Int)])).cells h5.next = some [.ptr d 0] := by simp -implicitDefEqProofs (maxSteps := 999999) (disch := first | with_reducible rfl | omega | (simp only [nA, nS, nD] <;> omega) | fail) only [go_sem]
  have k2 : ((h5.add (.cells .rw [.ptr d 0])).add (.cells .rw [.int .i64 (lot : Int)])).cells (h5.next + 1) = some [.int .i64 (lot : Int)] := by simp -implicitDefEqProofs (maxSteps := 999999) (disch := first | with_reducible rfl | omega | (simp only [nA, nS, nD] <;> omega) | fail) only [go_sem]
  have l56 : ((h5.add (.cells .rw [.ptr d 0])).add (.cells .rw [.int .i64 (lot : Int)])).next = h5.next + 2 := by simp only [H.next_add]
  simp -implicitDefEqProofs (maxSteps := 999999) (disch := first | with_reducible rfl | omega | (simp only [nA, nS, nD] <;> omega) | fail) only [c140, go_sem]
  generalize ((h5.add (.cells .rw [.ptr d 0])).add (.cells .rw [.int .i64 (lot : Int)])) = h6 at s56 k1 k2 l56 ⊢
  refine W_gen (P := fun tm => (Opd.t 2).ev tm = .ptr h.next 0 ∧ (Opd.t 3).ev tm = .ptr (h.next + 1) 0 ∧ (Opd.t 4).ev tm = .ptr (h.next + 1 + 1) 0 ∧ (Opd.t 37).ev tm = .fn 156 [] [.ptr h5.next 0, .ptr (h5.next + 1) 0]) ⟨(by simp [ev_c, ev_put] <;> rfl), (by simp [ev_c, ev_put] <;> rfl), (by simp [ev_c, ev_put] <;> rfl), (by simp [ev_c, ev_put] <;> rfl)⟩ fun tm ⟨t2, t3, t4, t37⟩ => ?_
  refine W_rf t37 ?_
  generalize hr : LoopR.mk _ _ _ _ _ _ _ _ _ = r0
  have w6 := (s5.trans s56).wf
  have w1 := s1.wf
  have s6B : h6.Sub (h6.add .dfr) := (H.Sub.refl w6).add _
  have s16 := s15.trans s56
  have l6 := s16.next
  have lB : (h6.add .dfr).next = h6.next + 1 := H.next_add _ _
  have s1B := s16.trans s6B
  have gB : (h6.add .dfr).get h6.next = some .dfr := get_add_new rfl
  have hdB := hd1.mono s1B
  have fB := congrArg LoopR.body hr
  have fA := congrArg LoopR.assign hr
  have fN := congrArg LoopR.n hr
  have fF := congrArg LoopR.fn hr
  have fP := congrArg LoopR.ps hr
  have fT := congrArg LoopR.tm hr
  dsimp only at fB fA fN fF fP fT
  have hrs : r0.st = .ready := by rw [← hr]
  have hrp : r0.pend = none := by rw [← hr]
  obtain ⟨I, hI⟩ : ∃ I : H → Prop, ∀ x, I x ↔ (h6.add .dfr).Sub x ∧ x.get (h6.next + 1) = some (.loop r0) := ⟨_, fun _ => Iff.rfl⟩
  obtain ⟨S, hS⟩ : ∃ S : H → Prop, ∀ x, S x ↔ h.Sub x ∧ x.get (h.next + 1 + 1) = some (.cells .rw [.bool false]) ∧ x.get h6.next = some .dfr ∧ h6.next + 1 < x.next ∧ ∃ r, x.get (h6.next + 1) = some (.loop r) ∧ r.st = .done ∧ r.pend = some .ret := ⟨_, fun _ => Iff.rfl⟩
  have env : GenEnv (h6.add .dfr) (h6.next + 1) I := ⟨fun x hx => ((hI x).1 hx).1, fun x y hx hs => (hI y).2 ⟨((hI x).1 hx).1.trans hs, hs.get ((hI x).1 hx).2⟩, fun x hx => ((hI x).1 hx).1.wf _ _ ((hI x).1 hx).2⟩
  have hcv := cover_all (lot := (lot : Int)) g hi2
  have hY5 := hY.mono (s1.trans s1B)
  refine whole1_gen (S := S) (ok := fun w => high = [] ∨ ∃ a ∈ high, wl m a ∈ line m w) env g hdB rfl (fun w w0' w1' hleaf hx hIx => ?_) (by omega) hlot ((hI _).2 ⟨(H.Sub.refl (H.wf_add w6 _)).add _, get_add_new (by rw [lB])⟩) (by rw [cells_add_old (by omega), cells_add_old (by omega)]; exact k1) (by rw [cells_add_old (by omega), cells_add_old (by omega)]; exact k2) _ fun u h7 hu => ?_
  · obtain ⟨sx, gx⟩ := (hI _).1 hIx
    have lx := sx.next
    have gxd := sx.get gB
    have wx := sx.wf
    have hlx := wx _ _ gx
    unfold GenE
    refine Ev.gen fun Q2 q2 => ?_
    refine Ev_yld (tm := tm.put (some (.int .i64 w)) 38) gx (by rw [← fP, ← fT]; rfl) ?_
    rw [← fA, ← fN, ← fF]
    have sx2 : hx.Sub (hx.add (.cells .rw [.int .i64 w])) := (H.Sub.refl wx).add _
    have gw : (hx.add (.cells .rw [.int .i64 w])).cells hx.next = some [.int .i64 w] := cells_add_new rfl
    have lw : (hx.add (.cells .rw [.int .i64 w])).next = hx.next + 1 := H.next_add _ _
    simp -implicitDefEqProofs (maxSteps := 999999) (disch := first | with_reducible rfl | omega | (simp only [nA, nS, nD] <;> omega) | fail) only [go_sem, t2, t3, t4]
    unfold Kasg
    refine ⟨rfl, r0, sx2.get gx, hrs, ?_⟩
    obtain ⟨rb, hrb⟩ : ∃ rb : LoopR, rb = { r0 with st := .busy } := ⟨_, rfl⟩
    have hrb1 : ({ rb with st := .ready, pend := none } : LoopR) = r0 := by rw [hrb]; cases r0; simp_all
    rw [← hrb, ← fB, ← fN, ← fF]
    generalize hx.add (.cells .rw [.int .i64 w]) = hy at sx2 gw lw ⊢
    have sB3 : (h6.add .dfr).Sub (hy.set (h6.next + 1) (.loop rb)) := (sx.trans sx2).set (by omega) (by omega) (H.wf_add w6 _) _
    have s13x := s1B.trans sB3
    have k3 : Kl (h6.next + 1) hx (hy.set (h6.next + 1) (.loop rb)) := Kl.trans (Keeps.of sx2 _) (Keeps.set _ _ _)
    have g3 : (hy.set (h6.next + 1) (.loop rb)).get (h6.next + 1) = some (.loop rb) := get_set_same rfl
    have c3 : (hy.set (h6.next + 1) (.loop rb)).cells hx.next = some [.int .i64 w] := by rw [cells_set_other (by omega)]; exact gw
    have l3' : (hy.set (h6.next + 1) (.loop rb)).next = hx.next + 1 := by rw [H.next_set]; exact lw
    generalize hy.set (h6.next + 1) (.loop rb) = h3y at sB3 s13x k3 g3 c3 l3' ⊢
    have wy := sB3.wf
    have fin : ∀ h4 : H, h3y.Sub h4 → I (h4.set (h6.next + 1) (.loop { rb with st := .ready, pend := none })) ∧ Kl (h6.next + 1) hx (h4.set (h6.next + 1) (.loop { rb with st := .ready, pend := none })) := fun h4 s4 => by
      have := s4.next
      exact ⟨(hI _).2 ⟨(sB3.trans s4).set (by omega) (by omega) (H.wf_add w6 _) _, by rw [get_set_same rfl, hrb1]⟩, Kl.trans (Kl.trans k3 (Keeps.of s4 _)) (Keeps.set _ _ _)⟩
    by_cases hh0 : high = []
    · have hl0' : ¬ 0 < (high.length : Int) := by rw [hh0]; simp
      simp -implicitDefEqProofs (maxSteps := 999999) (disch := first | with_reducible rfl | omega | (simp only [nA, nS, nD] <;> omega) | fail) only [go_sem, t2, t3, t4, s13x.cells e2, hlenY, hl0']
      unfold Kround
      exact ⟨rb, g3, q2 _ _ (.inl ⟨.inl hh0, rfl, (fin _ (H.Sub.refl wy)).1, (fin _ (H.Sub.refl wy)).2⟩)⟩
    · have hl0' : 0 < (high.length : Int) := by have := List.length_pos_iff.2 hh0; omega
      simp -implicitDefEqProofs (maxSteps := 999999) (disch := first | with_reducible rfl | omega | (simp only [nA, nS, nD] <;> omega) | fail) only [go_sem, t2, t3, t4, s13x.cells e2, hlenY, hl0']
      refine (everyInt_ev (p := fun a => !decide (wl m a ∈ line m w)) wy ((hY5.mono sB3).sl (by simp only [List.length_map]; omega)) fun a ha => other_pure (hdB.mono sB3) g (s13x.cells e1) c3 w0' w1' (hi2 a ha).1 (hi2 a ha).2).mono fun u h4 hu => ?_
      obtain ⟨rfl, s34y⟩ := hu
      cases call : high.all fun a => !decide (wl m a ∈ line m w)
      · have hok : ∃ a ∈ high, wl m a ∈ line m w := by
          rw [List.all_eq_false] at call
          obtain ⟨a, ha, hn⟩ := call
          refine ⟨a, ha, ?_⟩
          simpa using hn
        simp -implicitDefEqProofs (maxSteps := 999999) (disch := first | with_reducible rfl | omega | (simp only [nA, nS, nD] <;> omega) | fail) only [go_sem, t2, t3, t4]
        unfold Kround
        exact ⟨rb, s34y.get g3, q2 _ _ (.inl ⟨.inr hok, rfl, (fin _ s34y).1, (fin _ s34y).2⟩)⟩
      · have hno : ¬ (high = [] ∨ ∃ a ∈ high, wl m a ∈ line m w) := fun h => by
          rcases h with h | ⟨a, ha, h2⟩
          · exact hh0 h
          · rw [List.all_eq_true] at call
            have := call a ha
            simp [h2] at this
        have r4y := (s13x.trans s34y).get e3
        have l4y := s34y.next
        have gd4 := (sB3.trans s34y).get gB
        simp -implicitDefEqProofs (maxSteps := 999999) (disch := first | with_reducible rfl | omega | (simp only [nA, nS, nD] <;> omega) | fail) only [go_sem, t2, t3, t4, r4y, cells_of r4y]
        unfold Kround
        refine ⟨rb, by rw [get_set_other (by omega)]; exact s34y.get g3, q2 _ _ (.inr ⟨hno, rfl, (hS _).2 ⟨?_, ?_, ?_, ?_, _, get_set_same rfl, rfl, rfl⟩⟩)⟩
        · exact (((s1.trans s13x).trans s34y).set (by omega) (by omega) hw _).set (by omega) (by rw [H.next_set]; omega) hw _
        · rw [get_set_other (by omega), get_set_same rfl]
        · rw [get_set_other (by omega), get_set_other (by omega)]; exact gd4
        · rw [H.next_set, H.next_set]; omega
  · rcases hu with ⟨hall, hI7⟩ | ⟨hall, hS7⟩
    · obtain ⟨s7, g7⟩ := (hI _).1 hI7
      have hP : Proof m (lot : Int) low high := ⟨⟨hW1, hW2⟩, ⟨hA1, hA2⟩, hcv.2 hall⟩
      have l7 := s7.next
      have lt7 := s7.wf _ _ g7
      have gd7 := s7.get gB
      have r7 := (s1B.trans s7).get e3
      refine ⟨r0, g7, by rw [hrs]; simp, ?_⟩
      rw [hrp]
      have s77 : h.Sub (h7.set (h6.next + 1) (.loop { r0 with st := .exhausted })) := ((s1.trans s1B).trans s7).set (by omega) (by omega) hw _
      have r77 : (h7.set (h6.next + 1) (.loop { r0 with st := .exhausted })).get (h.next + 1 + 1) = some (.cells .rw [.bool false]) := by rw [get_set_other (by omega)]; exact r7
      have d77 : (h7.set (h6.next + 1) (.loop { r0 with st := .exhausted })).get h6.next = some .dfr := by rw [get_set_other (by omega)]; exact gd7
      have l77 : (h7.set (h6.next + 1) (.loop { r0 with st := .exhausted })).next = h7.next := H.next_set _ _ _
      rw [hrp] at s77 r77 d77 l77
      generalize h7.set (h6.next + 1) _ = h8 at s77 r77 d77 l77 ⊢
      have d8 : (h8.set (h.next + 1 + 1) (.cells .rw [.bool true])).get h6.next = some .dfr := by rw [get_set_other (by omega)]; exact d77
      simp -implicitDefEqProofs (maxSteps := 999999) (disch := first | with_reducible rfl | omega | (simp only [nA, nS, nD] <;> omega) | fail) only [go_sem, t2, t3, t4, r77, cells_of r77, Kfin_ret1 _ _ _ d8]
      exact q true _ (H.Sub.del (b := h6.next) (s77.set (b := h.next + 1 + 1) (by omega) (by omega) hw (.cells .rw [.bool true])) (by omega) hw) ⟨fun _ => hP, fun _ => rfl⟩
    · obtain ⟨s7, r7, d7, l7, r, g7, hst, hpd⟩ := (hS _).1 hS7
      have hP : ¬ Proof m (lot : Int) low high := fun hp => hall (hcv.1 hp.2.2)
      refine ⟨r, g7, by rw [hst]; simp, ?_⟩
      rw [hpd]
      have s77 : h.Sub (h7.set (h6.next + 1) (.loop { r with st := .exhausted })) := s7.set (by omega) (by omega) hw _
      have r77 : (h7.set (h6.next + 1) (.loop { r with st := .exhausted })).get (h.next + 1 + 1) = some (.cells .rw [.bool false]) := by rw [get_set_other (by omega)]; exact r7
      have d77 : (h7.set (h6.next + 1) (.loop { r with st := .exhausted })).get h6.next = some .dfr := by rw [get_set_other (by omega)]; exact d7
      rw [hpd] at s77 r77 d77
      generalize h7.set (h6.next + 1) _ = h8 at s77 r77 d77 ⊢
      simp -implicitDefEqProofs (maxSteps := 999999) (disch := first | with_reducible rfl | omega | (simp only [nA, nS, nD] <;> omega) | fail) only [go_sem, t2, t3, t4, r77, cells_of r77, Kfin_ret1 _ _ _ d77]
      exact q false _ (H.Sub.del (b := h6.next) s77 (by omega) hw) ⟨fun h => (by cases h), fun h => absurd h hP⟩
theorem fld_0 (a b : Int) : q_fld false 1 0 (.agg [.int .i64 a, .int .i64 b]) = some (.int .i64 a) := rfl
theorem fld_1 (a b : Int) : q_fld false 1 1 (.agg [.int .i64 a, .int .i64 b]) = some (.int .i64 b) := rfl
set_option maxHeartbeats 4000000 in
theorem Proves_ev {h hb : H} {v X Y : V} {m : Ml} {low high : List Int} (hw : h.wf) (hm : MlIs h v m) (lot : Int) (hX : OwnC hb h X 1 (low.map encI)) (hY : OwnC hb h Y 1 (high.map encI)) (hl : low.length ≤ 1000) (hh : high.length ≤ 1000) :
    Ev fnG fastA (.fn 30 [] []) [v, .agg [.int .i64 lot, X, Y]] h fun u h' => h.Sub h' ∧ ∃ n e, u = .tup [.int .i64 n, .int .i64 e] ∧ ((check m ≠ 0 ∧ n = 0 ∧ e = check m) ∨ (check m = 0 ∧ ProofR m lot low high n e)) := by
  refine Ev.gen fun Q q => ?_
  have hm0 := hm
  obtain ⟨L, W, rfl, aL, aW⟩ := hm
  have X1 := hX.one
  have Y1 := hY.one
  have aX := hX.sl (by simp only [List.length_map]; omega)
  have aY := hY.sl (by simp only [List.length_map]; omega)
  have hlenX := aX.lenE
  have hlenY := aY.lenE
  refine Ev_body (fd := c30) rfl rfl rfl ?_
  have s1 : h.Sub ((h.add (.cells .rw [.int .i64 m.errs, L, W])).add (.cells .rw [.int .i64 lot, X, Y])) := (by repeat (first | assumption | exact H.Sub.refl (by assumption) | refine H.Sub.add ?_ _ | refine H.Sub.set ?_ (by first | omega | (simp only [H.next_add, H.next_set, H.next_del] <;> omega)) (by first | omega | (simp only [H.next_add, H.next_set, H.next_del] <;> omega)) (by assumption) _))
  have e1 : ((h.add (.cells .rw [.int .i64 m.errs, L, W])).add (.cells .rw [.int .i64 lot, X, Y])).cells h.next = some [.int .i64 m.errs, L, W] := by simp -implicitDefEqProofs (maxSteps := 999999) (disch := first | with_reducible rfl | omega | (simp only [nA, nS, nD] <;> omega) | fail) only [go_sem]
  have e2 : ((h.add (.cells .rw [.int .i64 m.errs, L, W])).add (.cells .rw [.int .i64 lot, X, Y])).cells (h.next + 1) = some [.int .i64 lot, X, Y] := by simp -implicitDefEqProofs (maxSteps := 999999) (disch := first | with_reducible rfl | omega | (simp only [nA, nS, nD] <;> omega) | fail) only [go_sem]
  simp -implicitDefEqProofs (maxSteps := 999999) (disch := first | with_reducible rfl | omega | (simp only [nA, nS, nD] <;> omega) | fail) only [c30, go_sem, X1, Y1, cells_one X1, cells_one Y1]
  generalize ((h.add (.cells .rw [.int .i64 m.errs, L, W])).add (.cells .rw [.int .i64 lot, X, Y])) = h1 at s1 e1 e2 ⊢
  refine (opened_dk s1.wf (hm0.mono s1)).mono fun u h2 hu => ?_
  obtain ⟨s12, hu⟩ := hu
  have s2 := s1.trans s12
  rcases hu with ⟨c, rfl⟩ | ⟨c, d, rfl, hd⟩
  · simp -implicitDefEqProofs (maxSteps := 999999) (disch := first | with_reducible rfl | omega | (simp only [nA, nS, nD] <;> omega) | fail) only [go_sem, c, ne_eq, not_false_eq_true, s12.cells e1]
    exact q _ _ ⟨s2, 0, check m, rfl, .inl ⟨c, rfl, rfl⟩⟩
  have g := good_of c
  have gl := g.lots
  have gw := g.wgs
  have hib : ∀ n k : Int, inB n 0 (k - 1) = true ↔ 0 ≤ n ∧ n < k := fun n k => by unfold inB; rw [decide_eq_true_eq]; omega
  have wiff : ∀ l : List Int, (l.all fun a => inB a 0 ((m.wgs.length : Int) - 1)) = true ↔ InW m l := fun l => by
    rw [List.all_eq_true]
    exact ⟨fun h a ha => (hib _ _).1 (h a ha), fun h a ha => (hib _ _).2 (h a ha)⟩
  have pw : ∀ (hh : H), h.Sub hh → ∀ n : Int, PureA hh (.fn 90 [.agg [.int .i64 m.errs, L, W]] []) [.int .i64 n] (.bool (inB n 0 ((m.wgs.length : Int) - 1))) := fun hh hs n h1 hs1 => by
    rw [Ev_fn]
    exact weighing_ev ((hm0.mono hs).mono hs1) n _ (fun h' s => ⟨rfl, s⟩) hs1.wf
  simp -implicitDefEqProofs (maxSteps := 999999) (disch := first | with_reducible rfl | omega | (simp only [nA, nS, nD] <;> omega) | fail) only [go_sem, ne_eq, eq_self, not_true_eq_false, s12.cells e1, s12.cells e2]
  refine lot_ev (hm0.mono s2) lot _ (fun h3 s23 => ?_) s2.wf
  have s3 := s2.trans s23
  have s13 := s12.trans s23
  cases c0 : inB lot 0 ((m.lots.length : Int) - 1)
  · have hno : ¬ (0 ≤ lot ∧ lot < m.lots.length) := fun h => by rw [(hib _ _).2 h] at c0; cases c0
    simp -implicitDefEqProofs (maxSteps := 999999) (disch := first | with_reducible rfl | omega | (simp only [nA, nS, nD] <;> omega) | fail) only [go_sem, Bool.not_false]
    exact q _ _ ⟨s3, 0, 1, rfl, .inr ⟨c, .inl ⟨fun h => hno h.1, rfl, rfl⟩⟩⟩
  have hlot := (hib _ _).1 c0
  simp -implicitDefEqProofs (maxSteps := 999999) (disch := first | with_reducible rfl | omega | (simp only [nA, nS, nD] <;> omega) | fail) only [go_sem, Bool.not_true, s13.cells e2]
  refine (everyInt_ev (p := fun a => inB a 0 ((m.wgs.length : Int) - 1)) s3.wf (aX.mono s3) fun a _ => pw _ s3 a).mono fun u h4 hu => ?_
  obtain ⟨rfl, s34⟩ := hu
  have s4 := s3.trans s34
  have s14 := s13.trans s34
  cases c1 : low.all fun a => inB a 0 ((m.wgs.length : Int) - 1)
  · have hno : ¬ InW m low := fun h => by rw [(wiff low).2 h] at c1; cases c1
    simp -implicitDefEqProofs (maxSteps := 999999) (disch := first | with_reducible rfl | omega | (simp only [nA, nS, nD] <;> omega) | fail) only [go_sem, Bool.not_false]
    exact q _ _ ⟨s4, 0, 1, rfl, .inr ⟨c, .inl ⟨fun h => hno h.2.1, rfl, rfl⟩⟩⟩
  have hi1 := (wiff low).1 c1
  simp -implicitDefEqProofs (maxSteps := 999999) (disch := first | with_reducible rfl | omega | (simp only [nA, nS, nD] <;> omega) | fail) only [go_sem, Bool.not_true, s14.cells e2]
  refine (everyInt_ev (p := fun a => inB a 0 ((m.wgs.length : Int) - 1)) s4.wf (aY.mono s4) fun a _ => pw _ s4 a).mono fun u h5 hu => ?_
  obtain ⟨rfl, s45⟩ := hu
  have s5 := s4.trans s45
  have s15 := s14.trans s45
  cases c2 : high.all fun a => inB a 0 ((m.wgs.length : Int) - 1)
  · have hno : ¬ InW m high := fun h => by rw [(wiff high).2 h] at c2; cases c2
    simp -implicitDefEqProofs (maxSteps := 999999) (disch := first | with_reducible rfl | omega | (simp only [nA, nS, nD] <;> omega) | fail) only [go_sem, Bool.not_false]
    exact q _ _ ⟨s5, 0, 1, rfl, .inr ⟨c, .inl ⟨fun h => hno h.2.2, rfl, rfl⟩⟩⟩
  have hi2 := (wiff high).1 c2
  have hBase : (0 ≤ lot ∧ lot < m.lots.length) ∧ InW m low ∧ InW m high := ⟨hlot, hi1, hi2⟩
  obtain ⟨lo, rfl⟩ := Int.eq_ofNat_of_zero_le hlot.1
  simp -implicitDefEqProofs (maxSteps := 999999) (disch := first | with_reducible rfl | omega | (simp only [nA, nS, nD] <;> omega) | fail) only [go_sem, Bool.not_true, s15.cells e2]
  refine proof_ev s5.wf (hd.mono ((s23.trans s34).trans s45)) g (by omega) (hX.mono s5) (hY.mono s5) hl hh hi1 hi2 _ fun t h6 s56 ht => ?_
  have s6 := s5.trans s56
  have s16 := s15.trans s56
  have hd6 := hd.mono (((s23.trans s34).trans s45).trans s56)
  cases t
  · have hno : ¬ Proof m (lo : Int) low high := fun h => by have := ht.2 h; cases this
    simp -implicitDefEqProofs (maxSteps := 999999) (disch := first | with_reducible rfl | omega | (simp only [nA, nS, nD] <;> omega) | fail) only [go_sem, Bool.not_false]
    exact q _ _ ⟨s6, 0, 8, rfl, .inr ⟨c, .inr ⟨hBase, .inl ⟨hno, rfl, rfl⟩⟩⟩⟩
  have hP := ht.1 rfl
  have bL : ∀ k, 0 ≤ sumL (wLo m) (low.take k) ∧ sumL (wLo m) (low.take k) ≤ 1000 * 20000 := fun k => sumL_bd (fun p hp => (wLo_bd g (hi1 p (List.mem_of_mem_take hp)).1 (hi1 p (List.mem_of_mem_take hp)).2).1) (by rw [List.length_take]; omega) (by omega)
  have bH : ∀ k, 0 ≤ sumL (wHi m) (high.take k) ∧ sumL (wHi m) (high.take k) ≤ 1000 * 10000 := fun k => sumL_bd (fun p hp => (wLo_bd g (hi2 p (List.mem_of_mem_take hp)).1 (hi2 p (List.mem_of_mem_take hp)).2).2) (by rw [List.length_take]; omega) (by omega)
  simp -implicitDefEqProofs (maxSteps := 999999) (disch := first | with_reducible rfl | omega | (simp only [nA, nS, nD] <;> omega) | fail) only [go_sem, Bool.not_true, s16.cells e2, hlenX]
  refine W_count low.length (fun k s => ∃ tm h', s = ⟨tm, h', []⟩ ∧ h6.Sub h' ∧ (Opd.t 3).ev tm = .ptr (h.next + 1) 0 ∧ (Opd.t 6).ev tm = .ptr d 0 ∧ (Opd.t 9).ev tm = .int .i64 (sumL (wLo m) (low.take k)) ∧ (Opd.t 10).ev tm = .int .i64 10000 ∧ (Opd.t 52).ev tm = X ∧ (Opd.t 53).ev tm = .int .i64 (low.length : Int) ∧ (Opd.t 54).ev tm = .int .i64 (k : Int))
    ?_ ?_ (i := 0) (Nat.zero_le _) ⟨_, _, rfl, H.Sub.refl s6.wf, (by simp [ev_c, ev_put] <;> rfl), (by simp [ev_c, ev_put] <;> rfl), (by simp [ev_c, ev_put] <;> rfl), (by simp [ev_c, ev_put] <;> rfl), (by simp [ev_c, ev_put] <;> rfl), (by simp [ev_c, ev_put] <;> rfl), (by simp [ev_c, ev_put] <;> rfl)⟩
  · rintro k s hk ⟨tm, h', rfl, hsk, t3, t6, t9, t10, t52, t53, t54⟩
    have hk' : (k : Int) < (low.length : Int) := by omega
    have hs2 := s6.trans hsk
    obtain ⟨b2, o2, c2, cs2, e2', hcs2, hq2, hgg2, hn2, hn02⟩ := (aX.mono hs2).at hk
    have v2 := hn02 (by omega)
    obtain ⟨p0, p1⟩ := hi1 _ (List.getElem_mem hk)
    obtain ⟨p, ep⟩ := Int.eq_ofNat_of_zero_le p0
    have hp : p < m.wgs.length := by omega
    simp only [encI, ep] at v2
    have es := sum_take (wLo m) hk
    rw [ep, wLo_at hp] at es
    have bk := bL k
    have bk1 := bL (k + 1)
    simp -implicitDefEqProofs (maxSteps := 999999) (disch := first | with_reducible rfl | omega | (simp only [nA, nS, nD] <;> omega) | fail) only [go_sem, t3, t6, t9, t10, t52, t53, t54, hk', hq2 (nat_cst k), hcs2, v2]
    refine (says_ev hs2.wf (hd6.mono hsk) g hp).mono fun u hB hu => ?_
    obtain ⟨rfl, sB⟩ := hu
    simp -implicitDefEqProofs (maxSteps := 999999) (disch := first | with_reducible rfl | omega | (simp only [nA, nS, nD] <;> omega) | fail) only [go_sem, t3, t6, t9, t10, t52, t53, t54, fld_0, wr_in, wr_succ]
    exact ⟨_, _, rfl, hsk.trans sB, (by simp [ev_c, ev_put, t3] <;> rfl), (by simp [ev_c, ev_put, t6] <;> rfl), by rw [es]; exact (by simp [ev_c, ev_put] <;> rfl), (by simp [ev_c, ev_put, t10] <;> rfl), (by simp [ev_c, ev_put, t52] <;> rfl), (by simp [ev_c, ev_put, t53] <;> rfl), (by simp [ev_c, ev_put] <;> rfl)⟩
  · rintro s ⟨tm, h7, rfl, s67, t3, t6, t9, t10, t52, t53, t54⟩
    rw [List.take_length] at t9
    have bLl := bL low.length
    rw [List.take_length] at bLl
    have s7 := s6.trans s67
    have s17 := s16.trans s67
    have hd7 := hd6.mono s67
    obtain ⟨B0, hB0⟩ : ∃ B0 : Int, B0 = if high = [] then 10000 else 0 := ⟨_, rfl⟩
    obtain ⟨J, hJ⟩ : ∃ J : St → Prop, ∀ s, J s ↔ ∃ tm, s = ⟨tm, h7, []⟩ ∧ (Opd.t 3).ev tm = .ptr (h.next + 1) 0 ∧ (Opd.t 6).ev tm = .ptr d 0 ∧ (Opd.t 9).ev tm = .int .i64 (sumL (wLo m) low) ∧ (Opd.t 10).ev tm = .int .i64 B0 := ⟨_, fun _ => Iff.rfl⟩
    simp -implicitDefEqProofs (maxSteps := 999999) (disch := first | with_reducible rfl | omega | (simp only [nA, nS, nD] <;> omega) | fail) only [go_sem, t3, t6, t9, t10, t52, t53, t54, Int.lt_irrefl, s17.cells e2, hlenY]
    refine PB_cut (p := 0 < (high.length : Int)) J ?_ ?_ ?_
    · intro c
      have hh0 : ¬ high = [] := fun e => by rw [e] at c; simp at c
      rw [if_neg hh0] at hB0
      subst hB0
      simp -implicitDefEqProofs (maxSteps := 999999) (disch := first | with_reducible rfl | omega | (simp only [nA, nS, nD] <;> omega) | fail) only [go_sem]
      exact ⟨rfl, (hJ _).2 ⟨_, rfl, (by simp [ev_c, ev_put, t3] <;> rfl), (by simp [ev_c, ev_put, t6] <;> rfl), (by simp [ev_c, ev_put, t9] <;> rfl), (by simp [ev_c, ev_put] <;> rfl)⟩⟩
    · intro c
      have hh0 : high = [] := List.length_eq_zero_iff.1 (by omega)
      rw [if_pos hh0] at hB0
      subst hB0
      simp -implicitDefEqProofs (maxSteps := 999999) (disch := first | with_reducible rfl | omega | (simp only [nA, nS, nD] <;> omega) | fail) only [go_sem]
      exact ⟨rfl, (hJ _).2 ⟨_, rfl, (by simp [ev_c, ev_put, t3] <;> rfl), (by simp [ev_c, ev_put, t6] <;> rfl), (by simp [ev_c, ev_put, t9] <;> rfl), (by simp [ev_c, ev_put, t10] <;> rfl)⟩⟩
    clear t3 t6 t9 t10 t52 t53 t54
    intro s hs
    obtain ⟨tm, rfl, t3, t6, t9, t10⟩ := (hJ s).1 hs
    have hB1 : 0 ≤ B0 ∧ B0 ≤ 10000 := by rw [hB0]; split <;> omega
    simp -implicitDefEqProofs (maxSteps := 999999) (disch := first | with_reducible rfl | omega | (simp only [nA, nS, nD] <;> omega) | fail) only [go_sem, t3, t6, t9, t10, s17.cells e2, hlenY]
    refine W_count high.length (fun k s => ∃ tm h', s = ⟨tm, h', []⟩ ∧ h7.Sub h' ∧ (Opd.t 3).ev tm = .ptr (h.next + 1) 0 ∧ (Opd.t 6).ev tm = .ptr d 0 ∧ (Opd.t 9).ev tm = .int .i64 (sumL (wLo m) low) ∧ (Opd.t 10).ev tm = .int .i64 (B0 + sumL (wHi m) (high.take k)) ∧ (Opd.t 70).ev tm = Y ∧ (Opd.t 71).ev tm = .int .i64 (high.length : Int) ∧ (Opd.t 72).ev tm = .int .i64 (k : Int))
      ?_ ?_ (i := 0) (Nat.zero_le _) ⟨_, _, rfl, H.Sub.refl s7.wf, (by simp [ev_c, ev_put, t3] <;> rfl), (by simp [ev_c, ev_put, t6] <;> rfl), (by simp [ev_c, ev_put, t9] <;> rfl), by rw [List.take_zero, sumL, Int.add_zero]; exact (by simp [ev_c, ev_put, t10] <;> rfl), (by simp [ev_c, ev_put] <;> rfl), (by simp [ev_c, ev_put] <;> rfl), (by simp [ev_c, ev_put] <;> rfl)⟩
    · clear t3 t6 t9 t10
      rintro k s hk ⟨tm, h', rfl, hsk, t3, t6, t9, t10, t70, t71, t72⟩
      have hk' : (k : Int) < (high.length : Int) := by omega
      have hs2 := s7.trans hsk
      obtain ⟨b2, o2, c2, cs2, e2', hcs2, hq2, hgg2, hn2, hn02⟩ := (aY.mono hs2).at hk
      have v2 := hn02 (by omega)
      obtain ⟨p0, p1⟩ := hi2 _ (List.getElem_mem hk)
      obtain ⟨p, ep⟩ := Int.eq_ofNat_of_zero_le p0
      have hp : p < m.wgs.length := by omega
      simp only [encI, ep] at v2
      have es := sum_take (wHi m) hk
      rw [ep, wHi_at hp] at es
      have bk := bH k
      have bk1 := bH (k + 1)
      simp -implicitDefEqProofs (maxSteps := 999999) (disch := first | with_reducible rfl | omega | (simp only [nA, nS, nD] <;> omega) | fail) only [go_sem, t3, t6, t9, t10, t70, t71, t72, hk', hq2 (nat_cst k), hcs2, v2]
      refine (says_ev hs2.wf (hd7.mono hsk) g hp).mono fun u hB hu => ?_
      obtain ⟨rfl, sB⟩ := hu
      simp -implicitDefEqProofs (maxSteps := 999999) (disch := first | with_reducible rfl | omega | (simp only [nA, nS, nD] <;> omega) | fail) only [go_sem, t3, t6, t9, t10, t70, t71, t72, fld_1, wr_in, wr_succ]
      exact ⟨_, _, rfl, hsk.trans sB, (by simp [ev_c, ev_put, t3] <;> rfl), (by simp [ev_c, ev_put, t6] <;> rfl), (by simp [ev_c, ev_put, t9] <;> rfl), by rw [es, ← Int.add_assoc]; exact (by simp [ev_c, ev_put] <;> rfl), (by simp [ev_c, ev_put, t70] <;> rfl), (by simp [ev_c, ev_put, t71] <;> rfl), (by simp [ev_c, ev_put] <;> rfl)⟩
    · clear t3 t6 t9 t10
      rintro s ⟨tm, h8, rfl, s78, t3, t6, t9, t10, t70, t71, t72⟩
      rw [List.take_length] at t10
      have bHl := bH high.length
      rw [List.take_length] at bHl
      have s8 := s7.trans s78
      have eH : sumHigh m high = B0 + sumL (wHi m) high := by
        unfold sumHigh; rw [hB0]
        by_cases hh0 : high = []
        · rw [if_pos hh0, if_pos hh0, hh0]; rfl
        · rw [if_neg hh0, if_neg hh0]; omega
      by_cases hc : sumL (wLo m) low ≤ B0 + sumL (wHi m) high
      · simp -implicitDefEqProofs (maxSteps := 999999) (disch := first | with_reducible rfl | omega | (simp only [nA, nS, nD] <;> omega) | fail) only [go_sem, t3, t6, t9, t10, t70, t71, t72, Int.lt_irrefl, hc]
        exact q _ _ ⟨s8, 0, 6, rfl, .inr ⟨c, .inr ⟨hBase, .inr ⟨hP, .inl ⟨by rw [eH]; exact hc, rfl, rfl⟩⟩⟩⟩⟩
      · simp -implicitDefEqProofs (maxSteps := 999999) (disch := first | with_reducible rfl | omega | (simp only [nA, nS, nD] <;> omega) | fail) only [go_sem, t3, t6, t9, t10, t70, t71, t72, Int.lt_irrefl, hc, wr_in]
        exact q _ _ ⟨s8, _, 0, rfl, .inr ⟨c, .inr ⟨hBase, .inr ⟨hP, .inr ⟨by rw [eH]; unfold sumLow; omega, by rw [eH]; rfl, rfl⟩⟩⟩⟩⟩
end Go.Ab.Try
