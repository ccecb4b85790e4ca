/- EyeNamed. Some eyes, as the law tries them; which lists rise; slices.Compare. slices.Compact, rising, Enough. Witness, Needed. slices.Delete of an eye; tables without an eye (plain). Eyes that are needed. Plain. The law's own enough, and sorting. Other numbers of pieces and eyes, other orders of lights. Plain. Order of a spool; rows that are stored. -/
import Derived.Test.YtkjbamlcgojkmaaG6
import Derived.Test.YtkjbamlcgojkmaaG5
import Derived.Test.YtkjbamlcgojkmaaG7
set_option linter.unusedSimpArgs false
set_option linter.unusedVariables false
namespace Go.Ab.Try
open Go.Ab.Silk (Inc lexlt)
end Go.Ab.Try
set_option linter.unusedSimpArgs false
set_option linter.unusedVariables false
namespace Go.Ab
namespace Try
open Go.Ab.Silk (Inc lexlt)
end Try
end Go.Ab
set_option linter.unusedSimpArgs false
set_option linter.unusedVariables false
namespace Go.Ab.Try
open Go.Ab.Silk (Inc lexlt IsMin)
end Go.Ab.Try
set_option linter.unusedSimpArgs false
set_option linter.unusedVariables false
namespace Go.Ab
namespace Try
open Go.Ab.Silk (Inc lexlt IsMin)
end Try
end Go.Ab
set_option linter.unusedSimpArgs false
set_option linter.unusedVariables false
namespace Go.Ab.Try
open Go.Ab.Silk (Inc lexlt IsMin)
theorem mem_tellK {t : Tb} {a b : Sd} {x : Int} : ∀ {n : Nat}, x ∈ tellK t a b n ↔ ∃ j : Nat, j < n ∧ x = (j : Int) ∧ tellsE t j a b = true
  | 0 => by simp [tellK]
  | n + 1 => by
    simp only [tellK, List.mem_append, mem_tellK (n := n)]
    by_cases c : tellsE t n a b = true
    · rw [if_pos c, List.mem_singleton]
      constructor
      · rintro (⟨j, h1, h2, h3⟩ | rfl)
        · exact ⟨j, by omega, h2, h3⟩
        · exact ⟨n, by omega, rfl, c⟩
      · rintro ⟨j, h1, rfl, h3⟩
        by_cases e : j = n
        · exact .inr (by rw [e])
        · exact .inl ⟨j, by omega, rfl, h3⟩
    · rw [if_neg c]
      constructor
      · rintro (⟨j, h1, h2, h3⟩ | h)
        · exact ⟨j, by omega, h2, h3⟩
        · cases h
      · rintro ⟨j, h1, rfl, h3⟩
        by_cases e : j = n
        · subst e; exact absurd h3 c
        · exact .inl ⟨j, by omega, rfl, h3⟩
end Go.Ab.Try
set_option linter.unusedSimpArgs false
set_option linter.unusedVariables false
namespace Go.Ab.Try
open Go.Ab.Silk (Inc lexlt IsMin)
theorem tellP_at {t : Tb} {r p : Nat} (hr : r < t.pieces.length) (hp : p < t.pieces.length) : tellP t r p = tellK t t.pieces[r] t.pieces[p] t.eyes.length := by
  unfold tellP; rw [List.getElem?_eq_getElem hr, List.getElem?_eq_getElem hp]
end Go.Ab.Try
set_option linter.unusedSimpArgs false
set_option linter.unusedVariables false
namespace Go.Ab.Try
open Go.Ab.Silk (comb Inc lexlt IsMin before)
theorem nodup_sub {α : Type} [DecidableEq α] : ∀ (a b : List α), a.Nodup → (∀ x ∈ a, x ∈ b) → a.length ≤ b.length
  | [], _, _, _ => Nat.zero_le _
  | x :: a, b, nd, h => by
    rw [List.nodup_cons] at nd
    have hx := h x (by simp)
    have := nodup_sub a (b.erase x) nd.2 fun y hy => (List.mem_erase_of_ne (by rintro rfl; exact nd.1 hy)).2 (h y (by simp [hy]))
    rw [List.length_erase_of_mem hx] at this
    have := List.length_pos_of_mem hx
    simp only [List.length_cons]; omega
theorem dedup {α : Type} [DecidableEq α] : ∀ l : List α, ∃ l' : List α, l'.Nodup ∧ l'.length ≤ l.length ∧ ∀ x, x ∈ l' ↔ x ∈ l
  | [] => ⟨[], List.nodup_nil, Nat.le_refl _, fun _ => Iff.rfl⟩
  | a :: l => by
    obtain ⟨l', nd, hl, hm⟩ := dedup l
    by_cases ha : a ∈ l
    · exact ⟨l', nd, by simp only [List.length_cons]; omega, fun x => by
        rw [hm, List.mem_cons]
        exact ⟨.inr, fun h => h.elim (fun e => e ▸ ha) id⟩⟩
    · exact ⟨a :: l', List.nodup_cons.2 ⟨fun h => ha ((hm a).1 h), nd⟩, by simp only [List.length_cons]; omega, fun x => by rw [List.mem_cons, List.mem_cons, hm]⟩
def told (ls : List Sd) (x : Ey) (a b : Sd) : Bool := ls.any fun l => decide (x.frm ≤ seesN x.s l a b)
theorem told_comm (ls : List Sd) (x : Ey) (a b : Sd) : told ls x a b = told ls x b a := by
  unfold told; simp only [seesN_comm x.s _ a b]
theorem tellsE_at {t : Tb} {i : Nat} (hi : i < t.eyes.length) (a b : Sd) : tellsE t i a b = told t.lights t.eyes[i] a b := by
  unfold tellsE told
  rw [Bool.eq_iff_iff, List.any_eq_true, List.any_eq_true]
  constructor
  · rintro ⟨k, hk, e⟩
    have hk := List.mem_range.1 hk
    rw [tellsAt_eq hi hk] at e
    exact ⟨_, List.getElem_mem hk, e⟩
  · rintro ⟨l, hl, e⟩
    obtain ⟨k, hk, rfl⟩ := List.getElem_of_mem hl
    exact ⟨k, List.mem_range.2 hk, by rw [tellsAt_eq hi hk]; exact e⟩
theorem alike_told {t : Tb} (g : Good t) {a b : Sd} : alike t a b = true ↔ ∀ x ∈ t.eyes, told t.lights x a b = false := by
  rw [← tellK_alike g, decide_eq_true_eq, List.length_eq_zero_iff, tellK_nil]
  constructor
  · intro h x hx
    obtain ⟨i, hi, rfl⟩ := List.getElem_of_mem hx
    rw [← tellsE_at hi]; exact h i hi
  · intro h i hi
    rw [tellsE_at hi]; exact h _ (List.getElem_mem hi)
structure Nam (t o : Tb) (f : Nat → Nat) : Prop where
  lt : ∀ i, i < t.pieces.length → f i < o.pieces.length
  pc : ∀ i, i < t.pieces.length → o.pieces[f i]? = t.pieces[i]?
  inj : ∀ i j, i < t.pieces.length → j < t.pieces.length → f i = f j → i = j
  eyes : ∀ e, e ∈ o.eyes ↔ e ∈ t.eyes
  lights : ∀ l, l ∈ o.lights ↔ l ∈ t.lights
theorem Nam.told {t o : Tb} {f : Nat → Nat} (n : Nam t o f) (x : Ey) (a b : Sd) : told o.lights x a b = told t.lights x a b := by
  unfold Go.Ab.Try.told
  rw [Bool.eq_iff_iff, List.any_eq_true, List.any_eq_true]
  exact ⟨fun ⟨l, h, e⟩ => ⟨l, (n.lights l).1 h, e⟩, fun ⟨l, h, e⟩ => ⟨l, (n.lights l).2 h, e⟩⟩
theorem Nam.alike {t o : Tb} {f : Nat → Nat} (n : Nam t o f) (gt : Good t) (go : Good o) (a b : Sd) : alike o a b = alike t a b := by
  rw [Bool.eq_iff_iff, alike_told go, alike_told gt]
  constructor
  · intro h x hx; rw [← n.told]; exact h x ((n.eyes x).2 hx)
  · intro h x hx; rw [n.told]; exact h x ((n.eyes x).1 hx)
theorem Nam.mm {t o : Tb} {f : Nat → Nat} (n : Nam t o f) (gt : Good t) (go : Good o) {i j : Nat} (hi : i < t.pieces.length) (hj : j < t.pieces.length) : matchB o (f i) (f j) = matchB t i j := by
  unfold matchB
  rw [n.pc i hi, n.pc j hj, List.getElem?_eq_getElem hi, List.getElem?_eq_getElem hj]
  exact n.alike gt go _ _
theorem inj_surj {n : Nat} {f : Nat → Nat} (lt : ∀ i, i < n → f i < n) (inj : ∀ i j, i < n → j < n → f i = f j → i = j) {k : Nat} (hk : k < n) : ∃ i, i < n ∧ f i = k := by
  refine Classical.byContradiction fun hc => ?_
  have nd : (k :: (List.range n).map f).Nodup := by
    rw [List.nodup_cons]
    refine ⟨fun h => ?_, ?_⟩
    · obtain ⟨i, hi, e⟩ := List.mem_map.1 h
      exact hc ⟨i, List.mem_range.1 hi, e⟩
    · rw [List.Nodup, List.pairwise_map]
      exact List.nodup_range.imp_of_mem fun {a b} ha hb hne e => hne (inj a b (List.mem_range.1 ha) (List.mem_range.1 hb) e)
  have := nodup_le n _ nd fun x hx => by
    rcases List.mem_cons.1 hx with rfl | hx
    · exact hk
    · obtain ⟨i, hi, rfl⟩ := List.mem_map.1 hx
      exact lt i (List.mem_range.1 hi)
  rw [List.length_cons, List.length_map, List.length_range] at this
  omega
theorem Nam.rev {t o : Tb} {f : Nat → Nat} (n : Nam t o f) (hl : o.pieces.length = t.pieces.length) : ∃ g, Nam o t g ∧ ∀ i, i < t.pieces.length → g (f i) = i := by
  have sj : ∀ k, k < t.pieces.length → ∃ i, i < t.pieces.length ∧ f i = k := fun k hk => inj_surj (fun i hi => by have := n.lt i hi; omega) n.inj hk
  obtain ⟨g, hg⟩ : ∃ g : Nat → Nat, ∀ k, k < t.pieces.length → g k < t.pieces.length ∧ f (g k) = k := by
    refine ⟨fun k => if h : k < t.pieces.length then (sj k h).choose else 0, fun k hk => ?_⟩
    dsimp only
    rw [dif_pos hk]
    exact (sj k hk).choose_spec
  refine ⟨g, ⟨fun i hi => (hg i (by omega)).1, fun i hi => ?_, fun i j hi hj e => ?_, fun e => (n.eyes e).symm, fun l => (n.lights l).symm⟩, fun i hi => ?_⟩
  · obtain ⟨h1, h2⟩ := hg i (by omega)
    have := n.pc (g i) h1
    rw [h2] at this; exact this.symm
  · have h1 := (hg i (by omega)).2
    have h2 := (hg j (by omega)).2
    rw [← h1, ← h2, e]
  · have hf := n.lt i hi
    obtain ⟨h1, h2⟩ := hg (f i) (by omega)
    exact n.inj _ _ h1 hi h2
theorem enoughB_told {t : Tb} {l : List Int} : enoughB t l = true ↔ ∀ p r : Nat, p ≠ r → ∀ a b : Sd, t.pieces[p]? = some a → t.pieces[r]? = some b → (∃ x ∈ t.eyes, told t.lights x a b = true) → ∃ i, ∃ hi : i < t.eyes.length, (i : Int) ∈ l ∧ told t.lights t.eyes[i] a b = true := by
  have key : ∀ p r : Nat, p < t.pieces.length → r < p → ∀ a b : Sd, t.pieces[r]? = some a → t.pieces[p]? = some b → enoughB t l = true → (∃ x ∈ t.eyes, told t.lights x a b = true) → ∃ i, ∃ hi : i < t.eyes.length, (i : Int) ∈ l ∧ told t.lights t.eyes[i] a b = true := by
    intro p r hp hr a b ha hb h hx
    obtain ⟨hr', rfl⟩ := List.getElem?_eq_some_iff.1 ha
    obtain ⟨hp', rfl⟩ := List.getElem?_eq_some_iff.1 hb
    obtain ⟨x, hx, hx2⟩ := hx
    obtain ⟨j, hj, rfl⟩ := List.getElem_of_mem hx
    have hm : (j : Int) ∈ tellP t r p := by rw [tellP_at hr' hp', mem_tellK]; exact ⟨j, hj, rfl, by rw [tellsE_at hj]; exact hx2⟩
    obtain ⟨e, he, hl⟩ := enoughB_iff.1 h p r hp hr (fun h => by rw [h] at hm; cases hm)
    rw [tellP_at hr' hp', mem_tellK] at he
    obtain ⟨i, hi, rfl, h2⟩ := he
    exact ⟨i, hi, hl, by rw [← tellsE_at hi]; exact h2⟩
  constructor
  · intro h p r hne a b ha hb hx
    obtain ⟨hp', _⟩ := List.getElem?_eq_some_iff.1 ha
    obtain ⟨hr', _⟩ := List.getElem?_eq_some_iff.1 hb
    by_cases c : p < r
    · exact key r p hr' c a b ha hb h hx
    · obtain ⟨i, hi, h1, h2⟩ := key p r hp' (by omega) b a hb ha h (by obtain ⟨x, h1, h2⟩ := hx; exact ⟨x, h1, by rw [told_comm]; exact h2⟩)
      exact ⟨i, hi, h1, by rw [told_comm]; exact h2⟩
  · intro h
    refine enoughB_iff.2 fun p r hp hr hne => ?_
    have hr' : r < t.pieces.length := by omega
    rw [tellP_at hr' hp] at hne ⊢
    obtain ⟨e, he⟩ := List.exists_mem_of_ne_nil _ hne
    obtain ⟨j, hj, rfl, hj2⟩ := mem_tellK.1 he
    obtain ⟨i, hi, h1, h2⟩ := h r p (by omega) _ _ (List.getElem?_eq_getElem hr') (List.getElem?_eq_getElem hp) ⟨_, List.getElem_mem hj, by rw [← tellsE_at hj]; exact hj2⟩
    exact ⟨_, mem_tellK.2 ⟨i, hi, rfl, by rw [tellsE_at hi]; exact h2⟩, h1⟩
theorem Nam.few_le {t o : Tb} {f : Nat → Nat} (n : Nam t o f) {c d : List Int} (hc : few t = some c) (hd : few o = some d) : c.length ≤ d.length := by
  obtain ⟨d', e, md⟩ := few_some o
  rw [hd] at e; cases e
  obtain ⟨l', nd, hl, hm⟩ := dedup (d.map fun j => ((t.eyes.idxOf (o.eyes.getD j.toNat ⟨⟨0, 0, 0⟩, 0⟩) : Nat) : Int))
  have hin : ∀ x ∈ l', ∃ j, ∃ hj : j < o.eyes.length, ∃ hi : t.eyes.idxOf o.eyes[j] < t.eyes.length, (j : Int) ∈ d ∧ x = ((t.eyes.idxOf o.eyes[j] : Nat) : Int) := fun x hx => by
    obtain ⟨y, hy, rfl⟩ := List.mem_map.1 ((hm x).1 hx)
    have hy' := md.inc.mem y hy
    obtain ⟨j, rfl⟩ := Int.eq_ofNat_of_zero_le hy'.1
    have hj : j < o.eyes.length := by omega
    refine ⟨j, hj, List.idxOf_lt_length_of_mem ((n.eyes _).1 (List.getElem_mem hj)), hy, ?_⟩
    rw [Int.toNat_natCast, List.getD_eq_getElem?_getD, List.getElem?_eq_getElem hj, Option.getD_some]
  have := Go.Ab.Try.few_le hc nd (fun x hx => by obtain ⟨j, hj, hi, _, rfl⟩ := hin x hx; omega) (enoughB_told.2 fun p r hne a b ha hb hx => ?_)
  · rw [List.length_map] at hl; omega
  · obtain ⟨x, hx1, hx2⟩ := hx
    obtain ⟨hp, _⟩ := List.getElem?_eq_some_iff.1 ha
    obtain ⟨hr, _⟩ := List.getElem?_eq_some_iff.1 hb
    obtain ⟨j, hj, h1, h2⟩ := enoughB_told.1 md.holds (f p) (f r) (fun e => hne (n.inj p r hp hr e)) a b (by rw [n.pc p hp]; exact ha) (by rw [n.pc r hr]; exact hb) ⟨x, (n.eyes x).2 hx1, by rw [n.told]; exact hx2⟩
    have hi := List.idxOf_lt_length_of_mem ((n.eyes _).1 (List.getElem_mem hj))
    refine ⟨t.eyes.idxOf o.eyes[j], hi, (hm _).2 (List.mem_map.2 ⟨_, h1, ?_⟩), ?_⟩
    · rw [Int.toNat_natCast, List.getD_eq_getElem?_getD, List.getElem?_eq_getElem hj, Option.getD_some]
    · rw [List.getElem_idxOf, ← n.told]; exact h2
theorem chi_mono {T U : Int → Int → Bool} {n m : Nat} {f : Nat → Nat} (sy : ∀ x y, U x y = U y x) (lt : ∀ i, i < n → f i < m) (inj : ∀ i j, i < n → j < n → f i = f j → i = j) (eq : ∀ i j : Nat, i < n → j < n → U (f i : Int) (f j : Int) = T (i : Int) (j : Int)) : chi T n ≤ chi U m := by
  obtain ⟨g, g1, g2⟩ := chi_col sy m
  refine chi_le (g := fun x => g (f x.toNat : Nat)) ⟨fun x h0 h1 => ?_, fun x y a0 a1 b0 b1 hne he => ?_⟩
  · have := lt x.toNat (by omega)
    exact g1 _ (by omega) (by omega)
  · have hx := lt x.toNat (by omega)
    have hy := lt y.toNat (by omega)
    have := g2 (f x.toNat : Nat) (f y.toNat : Nat) (by omega) (by omega) (by omega) (by omega) (fun e => by have := inj x.toNat y.toNat (by omega) (by omega) (by omega); omega) he
    rw [eq _ _ (by omega) (by omega)] at this
    rw [show x = ((x.toNat : Nat) : Int) by omega, show y = ((y.toNat : Nat) : Int) by omega]; exact this
theorem alpha_mono {T U : Int → Int → Bool} {n m : Nat} {f : Nat → Nat} (lt : ∀ i, i < n → f i < m) (inj : ∀ i j, i < n → j < n → f i = f j → i = j) (eq : ∀ i j : Nat, i < n → j < n → U (f i : Int) (f j : Int) = T (i : Int) (j : Int)) : alpha T n ≤ alpha U m := by
  obtain ⟨d, inc, hc, hl⟩ := alpha_at T n
  have hin := fun x hx => inc.mem x hx
  have := alpha_ge (T := U) (n := m) (d := d.map fun x => ((f x.toNat : Nat) : Int)) (by
      rw [List.Nodup, List.pairwise_map]
      refine (Inc.nd inc).imp_of_mem fun {x y} hx hy hne he => ?_
      have h1 := hin x hx
      have h2 := hin y hy
      have := inj x.toNat y.toNat (by omega) (by omega) (by omega)
      omega) (fun x hx => by
      obtain ⟨y, hy, rfl⟩ := List.mem_map.1 hx
      have h1 := hin y hy
      have := lt y.toNat (by omega)
      omega) (fun x hx y hy hne => by
      obtain ⟨a, ha, rfl⟩ := List.mem_map.1 hx
      obtain ⟨b, hb, rfl⟩ := List.mem_map.1 hy
      have h1 := hin a ha
      have h2 := hin b hb
      rw [eq _ _ (by omega) (by omega), show ((a.toNat : Nat) : Int) = a by omega, show ((b.toNat : Nat) : Int) = b by omega]
      exact hc a ha b hb fun e => hne (by rw [e]))
  rw [List.length_map] at this; omega
theorem Wk.map {t o : Tb} {f : Nat → Nat} (n : Nam t o f) (gt : Good t) (go : Good o) {p : Nat} : ∀ {k q}, p < t.pieces.length → q < t.pieces.length → Wk t.pieces.length (MM t) k p q → Wk o.pieces.length (MM o) k (f p) (f q)
  | 0, q, _, _, h => by have h : p = q := h; subst h; rfl
  | k + 1, q, hp, hq, ⟨r, hr, h1, h2⟩ => ⟨f r, n.lt r hr, Wk.map n gt go hp hr h1, by
      unfold MM at h2 ⊢; rw [n.mm gt go hq hr]; exact h2⟩
theorem Nam.rch {t o : Tb} {f g : Nat → Nat} (n : Nam t o f) (m : Nam o t g) (e : ∀ i, i < t.pieces.length → g (f i) = i) (gt : Good t) (go : Good o) {p q : Nat} (hp : p < t.pieces.length) (hq : q < t.pieces.length) : rch o (f p) (f q) = rch t p q := by
  rw [Bool.eq_iff_iff, rch_iff, rch_iff]
  constructor
  · rintro ⟨k, h⟩
    have := Wk.map m go gt (n.lt p hp) (n.lt q hq) h
    rw [e p hp, e q hq] at this
    exact ⟨k, this⟩
  · rintro ⟨k, h⟩
    exact ⟨k, Wk.map n gt go hp hq h⟩
theorem rep_ex {t : Tb} : ∀ k, ∃ p, p ≤ k ∧ rch t p k = true ∧ before t p = false := by
  intro k
  induction k using Nat.strongRecOn with
  | _ k ih =>
    cases hb : before t k with
    | false => exact ⟨k, Nat.le_refl _, rch_refl t k, hb⟩
    | true =>
      unfold before at hb
      obtain ⟨p, hp, h⟩ := List.any_eq_true.1 hb
      have hp := List.mem_range.1 hp
      obtain ⟨q, h1, h2, h3⟩ := ih p hp
      exact ⟨q, by omega, rch_trans h2 h, h3⟩
theorem rep_one {t : Tb} (g : Good t) {p q : Nat} (hp : p < t.pieces.length) (hq : q < t.pieces.length) (bp : before t p = false) (bq : before t q = false) (h : rch t p q = true) : p = q := by
  unfold before at bp bq
  rw [List.any_eq_false] at bp bq
  rcases Nat.lt_trichotomy p q with c | c | c
  · exact absurd h (bq p (List.mem_range.2 c))
  · exact c
  · exact absurd (rch_symm g hq h) (bp q (List.mem_range.2 c))
theorem kinK_cnt (t : Tb) : ∀ n, (kinK t n).length = ((List.range n).filter fun c => !before t c).length
  | 0 => rfl
  | n + 1 => by
    rw [List.range_succ, List.filter_append, List.length_append, ← kinK_cnt t n]
    simp only [kinK, List.length_append]
    cases h : before t n <;> simp [h]
theorem Nam.kin_le {t o : Tb} {f g : Nat → Nat} (n : Nam t o f) (m : Nam o t g) (e : ∀ i, i < t.pieces.length → g (f i) = i) (gt : Good t) (go : Good o) : (kinK t t.pieces.length).length ≤ (kinK o o.pieces.length).length := by
  rw [kinK_cnt, kinK_cnt]
  have hr : ∀ k, ∃ p, p ≤ f k ∧ Go.Ab.Try.rch o p (f k) = true ∧ before o p = false := fun k => rep_ex (f k)
  have := nodup_sub (((List.range t.pieces.length).filter fun c => !before t c).map fun k => (hr k).choose) ((List.range o.pieces.length).filter fun c => !before o c) (by
      rw [List.Nodup, List.pairwise_map]
      refine (List.Pairwise.filter _ List.nodup_range).imp_of_mem fun {a b} ha hb hne he => hne ?_
      obtain ⟨a1, a2⟩ := List.mem_filter.1 ha
      obtain ⟨b1, b2⟩ := List.mem_filter.1 hb
      have a1 := List.mem_range.1 a1
      have b1 := List.mem_range.1 b1
      have ha := (hr a).choose_spec
      have hb := (hr b).choose_spec
      rw [← he] at hb
      refine rep_one gt a1 b1 (by simpa using a2) (by simpa using b2) ?_
      rw [← n.rch m e gt go a1 b1]
      exact rch_trans (rch_symm go (n.lt a a1) ha.2.1) hb.2.1) (fun x hx => by
      obtain ⟨k, hk, rfl⟩ := List.mem_map.1 hx
      have hk := List.mem_range.1 (List.mem_filter.1 hk).1
      have h := (hr k).choose_spec
      have := n.lt k hk
      exact List.mem_filter.2 ⟨List.mem_range.2 (by omega), by simp only [h.2.2, Bool.not_false]⟩)
  rw [List.length_map] at this
  exact this
theorem Nam.same {t o : Tb} {f : Nat → Nat} (n : Nam t o f) (hl : o.pieces.length = t.pieces.length) (gt : Good t) (go : Good o) :
    (∀ c d, few t = some c → few o = some d → c.length = d.length) ∧ chi (mT t) t.pieces.length = chi (mT o) o.pieces.length ∧ alpha (fun a b => !mT t a b) t.pieces.length = alpha (fun a b => !mT o a b) o.pieces.length ∧ (kinK t t.pieces.length).length = (kinK o o.pieces.length).length := by
  obtain ⟨g, m, e⟩ := n.rev hl
  have e2 : ∀ i, i < o.pieces.length → f (g i) = i := fun i hi => by
    have h := e (g i) (m.lt i hi)
    exact m.inj _ _ (n.lt _ (m.lt i hi)) hi h
  have q1 : ∀ i j : Nat, i < t.pieces.length → j < t.pieces.length → mT o (f i : Int) (f j : Int) = mT t (i : Int) (j : Int) := fun i j hi hj => by
    unfold mT; simp only [Int.toNat_natCast]; exact n.mm gt go hi hj
  have q2 : ∀ i j : Nat, i < o.pieces.length → j < o.pieces.length → mT t (g i : Int) (g j : Int) = mT o (i : Int) (j : Int) := fun i j hi hj => by
    unfold mT; simp only [Int.toNat_natCast]; exact m.mm go gt hi hj
  refine ⟨fun c d hc hd => Nat.le_antisymm (n.few_le hc hd) (m.few_le hd hc), Nat.le_antisymm (chi_mono (mT_comm go) n.lt n.inj q1) (chi_mono (mT_comm gt) m.lt m.inj q2),
    Nat.le_antisymm (alpha_mono n.lt n.inj fun i j hi hj => by simp only [q1 i j hi hj]) (alpha_mono m.lt m.inj fun i j hi hj => by simp only [q2 i j hi hj]),
    Nat.le_antisymm (n.kin_le m e gt go) (m.kin_le n e2 go gt)⟩
end Go.Ab.Try
set_option linter.unusedSimpArgs false
set_option linter.unusedVariables false
namespace Go.Ab
theorem a_msl_nm {h : H} {by_ n m : Nat} {z : List V} (h0 : n ≤ m) (h1 : m * by_ ≤ 1099511627776) (h2 : m ≤ 1099511627776) :
    a_msl h by_ z (.int .i64 (n : Int)) (.int .i64 (m : Int)) = some (.sl h.next 0 n (.fix m), h.add (.cells .rw (repN m z))) := by
  have e1 : Nat.ble (m * by_) 1099511627776 = true := by simpa using h1
  have e2 : Nat.ble m 1099511627776 = true := by simpa using h2
  have e3 : Nat.ble n m = true := by simpa using h0
  simp only [a_msl, nat_cst, e1, e2, e3, og_true, lf_eq]
theorem rows_put {α : Type} {enc : α → List V} {sz : Nat} (hsz : ∀ a, (enc a).length = sz) (l : List α) {k : Nat} (hk : k < l.length) (a : α) : putN (k * sz) (enc a) (l.map enc).flatten = some ((l.set k a).map enc).flatten := by
  have e : l = l.take k ++ l[k] :: l.drop (k + 1) := by rw [List.getElem_cons_drop, List.take_append_drop]
  have e2 : l.set k a = l.take k ++ a :: l.drop (k + 1) := by rw [List.set_eq_take_append_cons_drop, if_pos hk]
  have hl : ((l.take k).map enc).flatten.length = k * sz := by
    have h1 := flatten_len (sz := sz) (rows := (l.take k).map enc) fun r hr => by obtain ⟨x, _, rfl⟩ := List.mem_map.1 hr; exact hsz x
    rw [h1, List.length_map, List.length_take, Nat.min_eq_left (by omega)]
  have f1 := congrArg (fun t => (t.map enc).flatten) e
  have f2 := congrArg (fun t => (t.map enc).flatten) e2
  simp only [List.map_append, List.map_cons, List.flatten_append, List.flatten_cons, ← List.append_assoc] at f1 f2
  rw [f1, f2, ← hl]
  exact putN_app (by rw [hsz, hsz])
namespace Try
def tab (f : Int → Int) (n : Nat) : List V := (List.range n).map fun (i : Nat) => iv (f (i : Int))
def fset (f : Int → Int) (i x : Int) : Int → Int := fun k => if k = i then x else f k
theorem tab_len (f : Int → Int) (n : Nat) : (tab f n).length = n := by simp [tab]
theorem tab_nth (f : Int → Int) {n i : Nat} (h : i < n) : nth i (tab f n) = some (.int .i64 (f (i : Int))) := by
  rw [nth_get, List.getElem?_eq_getElem (by rw [tab_len]; exact h)]
  simp [tab, iv]
theorem ints_put : ∀ (l : List Int) (i : Nat) (x : Int), i < l.length → putN i [.int .i64 x] (l.map iv) = some ((l.set i x).map iv)
  | [], i, b, h => by simp at h
  | a :: l, 0, b, _ => by simp [putN_0, over_s, over_0, consV_some, iv]
  | a :: l, i + 1, b, h => by
    have ih := ints_put l i b (by simpa using h)
    simp only [List.map_cons, putN_s, ih, consV_some, List.set_cons_succ]
theorem tab_put (f : Int → Int) {n i : Nat} (h : i < n) (x : Int) : putN i [.int .i64 x] (tab f n) = some (tab (fset f (i : Int) x) n) := by
  have e : ∀ g : Int → Int, tab g n = ((List.range n).map fun (i : Nat) => g (i : Int)).map iv := fun g => by simp [tab]
  rw [e, e, ints_put _ _ _ (by simpa using h)]
  congr 2
  refine List.ext_getElem (by simp) fun k h1 h2 => ?_
  rw [List.getElem_set]
  simp only [List.getElem_map, List.getElem_range, fset]
  by_cases c : i = k
  · subst c; simp
  · rw [if_neg c, if_neg (by omega)]
theorem tab_zero : ∀ n : Nat, repN n [V.int .i64 0] = tab (fun _ => 0) n := fun n => by
  have : ∀ n, repN n [V.int .i64 0] = List.replicate n (iv 0) := fun n => by
    induction n with
    | zero => rfl
    | succ n ih => rw [repN, appN_eq, ih]; rfl
  rw [this]
  refine List.ext_getElem (by simp [tab]) fun k h1 h2 => ?_
  simp [tab]
theorem tab_at2 {n i : Nat} (h : i < n) (f : Int → Int) : nth i (tab f n) = some (.int .i64 (f (i : Int))) := tab_nth f h
theorem tab_st2 {n i : Nat} (h : i < n) (f : Int → Int) (x : Int) : putN i [.int .i64 x] (tab f n) = some (tab (fset f (i : Int) x) n) := tab_put f h x
def PermI (f : Int → Int) (n : Int) : Prop := (∀ a : Int, 0 ≤ a → a < n → 0 ≤ f a ∧ f a < n) ∧ ∀ a b : Int, 0 ≤ a → a < n → 0 ≤ b → b < n → f a = f b → a = b
theorem PermI.step {f : Int → Int} {i j : Int} (h : PermI f i) (i0 : 0 ≤ i) (j0 : 0 ≤ j) (j1 : j ≤ i) : PermI (fset (fset f i (f j)) j i) (i + 1) := by
  obtain ⟨h1, h2⟩ := h
  have hf : ∀ a : Int, 0 ≤ a → a < i + 1 → fset (fset f i (f j)) j i a = i ∧ a = j ∨ fset (fset f i (f j)) j i a = f j ∧ a = i ∧ j < i ∨ fset (fset f i (f j)) j i a = f a ∧ a ≠ j ∧ a < i := fun a a0 a1 => by
    unfold fset
    by_cases e : a = j
    · exact .inl ⟨if_pos e, e⟩
    · by_cases e2 : a = i
      · exact .inr (.inl ⟨by rw [if_neg e, if_pos e2], e2, by omega⟩)
      · exact .inr (.inr ⟨by rw [if_neg e, if_neg e2], e, by omega⟩)
  refine ⟨fun a a0 a1 => ?_, fun a b a0 a1 b0 b1 e => ?_⟩
  · rcases hf a a0 a1 with ⟨e, _⟩ | ⟨e, _, hj⟩ | ⟨e, _, ha⟩
    · omega
    · have := h1 j j0 hj; omega
    · have := h1 a a0 ha; omega
  · rcases hf a a0 a1 with ⟨ea, ha⟩ | ⟨ea, ha, hj⟩ | ⟨ea, ha, hai⟩ <;> rcases hf b b0 b1 with ⟨eb, hb⟩ | ⟨eb, hb, hj'⟩ | ⟨eb, hb, hbi⟩
    · omega
    · have := h1 j j0 hj'; omega
    · have := h1 b b0 hbi; omega
    · have := h1 j j0 hj; omega
    · omega
    · have := h2 j b j0 hj b0 hbi (by omega); omega
    · have := h1 a a0 hai; omega
    · have := h2 a j a0 hai j0 hj' (by omega); omega
    · exact h2 a b a0 hai b0 hbi (by omega)
theorem Order_ev {h0 h : H} {p : Nat} {x : V} {bs : List Int} {T : Int} (hs : h0.Sub h) (hw0 : h0.wf) (hx : SlAt h0 x 1 (bs.map encU8)) (hp0 : h0.next ≤ p) (hp : SpAt h p x T) (hT : 0 ≤ T ∧ T ≤ 1000000) {n : Nat} (hn : n ≤ 1000) (Q : V → H → Prop)
    (q : ∀ f b h' T', PermI f n → (0 ≤ T' ∧ T' ≤ T + (n : Int)) → h0.Sub h' → SpAt h' p x T' → Keeps (fun c => c = p) h h' → h.next ≤ b → h'.get b = some (.cells .rw (tab f n)) → Q (.sl b 0 n (.fix n)) h') : Ev fnG fastA (.fn 46 [] []) [.ptr p 0, .int .i64 (n : Int)] h Q := by
  have hw := hs.wf
  have hlp := hw _ _ (spGet hp)
  refine Ev_body (fd := c46) rfl rfl rfl ?_
  have hz := tab_zero n
  have emx : max 0 (n : Int) = ((n : Nat) : Int) := by omega
  have sR := (H.Sub.refl hw).add (.cells .rw (tab (fun _ => 0) n))
  have gR : (h.add (.cells .rw (tab (fun _ => 0) n))).get h.next = some (.cells .rw (tab (fun _ => 0) n)) := get_add_new rfl
  have lR : (h.add (.cells .rw (tab (fun _ => 0) n))).next = h.next + 1 := H.next_add _ _
  simp -implicitDefEqProofs (maxSteps := 999999) (disch := first | with_reducible rfl | omega | (simp only [nA, nS, nD] <;> omega) | fail) only [c46, go_sem, emx, a_msl_nm, hz]
  generalize h.add (.cells .rw (tab (fun _ => 0) n)) = hR at sR gR lR ⊢
  have KR : Keeps (fun c => c = p ∨ h.next ≤ c) h hR := (Keeps.of sR (fun _ => False)).mono fun c hc => hc.elim
  refine W_count n (fun i s => ∃ (tm : Go.Ab.T V) (h' : H) (f : Int → Int) (T' : Int), s = ⟨tm, h', []⟩ ∧ PermI f (i : Int) ∧ h0.Sub h' ∧ SpAt h' p x T' ∧ 0 ≤ T' ∧ T' ≤ T + (i : Int) ∧ Keeps (fun c => c = p ∨ h.next ≤ c) h h' ∧ h'.get h.next = some (.cells .rw (tab f n)) ∧ h.next < h'.next ∧
      (Opd.t 0).ev tm = .ptr p 0 ∧ (Opd.t 5).ev tm = .sl h.next 0 n (.fix n) ∧ (Opd.t 12).ev tm = .int .i64 (n : Int) ∧ (Opd.t 13).ev tm = .int .i64 (i : Int))
    ?_ ?_ (i := 0) (Nat.zero_le _) ⟨_, _, fun _ => 0, T, rfl, ⟨fun a _ _ => by omega, fun a b _ _ _ _ => by omega⟩, hs.trans sR, hp.mono sR, hT.1, by omega, KR, gR, by omega, (by simp [ev_c, ev_put] <;> rfl), (by simp [ev_c, ev_put] <;> rfl), (by simp [ev_c, ev_put] <;> rfl), (by simp [ev_c, ev_put] <;> rfl)⟩
  · rintro i s hi ⟨tm, h', f, T', rfl, hf, s', p', T0, T1, K', g', lt, t0, t5, t12, t13⟩
    have hi' : (i : Int) < (n : Int) := by omega
    simp -implicitDefEqProofs (maxSteps := 999999) (disch := first | with_reducible rfl | omega | (simp only [nA, nS, nD] <;> omega) | fail) only [go_sem, t0, t5, t12, t13, hi']
    refine Upto_ev s' hw0 hx hp0 p' (by omega) (by omega) _ fun j h2 j0 j1 s2 p2 k2 n2 => ?_
    obtain ⟨jn, rfl⟩ := Int.eq_ofNat_of_zero_le j0
    have hj : jn < n := by omega
    have g2 := k2.2 _ _ g' (by omega)
    have hst := hf.step (j := (jn : Int)) (by omega) (by omega) (by omega)
    have hst' : PermI (fset (fset f (i : Int) (f (jn : Int))) (jn : Int) (i : Int)) ((i + 1 : Nat) : Int) := by rw [show ((i + 1 : Nat) : Int) = (i : Int) + 1 by omega]; exact hst
    have g3 : (h2.set h.next (.cells .rw (tab (fset f (i : Int) (f (jn : Int))) n))).get h.next = some (.cells .rw (tab (fset f (i : Int) (f (jn : Int))) n)) := get_set_same rfl
    simp -implicitDefEqProofs (maxSteps := 999999) (disch := first | with_reducible rfl | omega | (simp only [nA, nS, nD] <;> omega) | fail) only [go_sem, t0, t5, t12, t13, q_iad_sl (nat_cst jn) hj, q_iad_sl (nat_cst i) hi, Nat.mul_one, cells_of g2, g2, tab_at2 hj, tab_st2 hi, tab_st2 hj, wr_succ]
    have hb := hs.next
    refine ⟨_, _, fset (fset f (i : Int) (f (jn : Int))) (jn : Int) (i : Int), T' + 1, rfl, hst', s2.set hb (by omega) hw0 _, p2.keep (Keeps.set _ _ _) (by omega), by omega, by omega, ?_, get_set_same rfl, by rw [H.next_set]; omega, (by simp [ev_c, ev_put, t0] <;> rfl), (by simp [ev_c, ev_put, t5] <;> rfl), (by simp [ev_c, ev_put, t12] <;> rfl), (by simp [ev_c, ev_put] <;> rfl)⟩
    refine ((K'.trans k2).trans (Keeps.set _ _ _)).mono ?_
    rintro c ((h | h) | h)
    · exact h
    · exact .inl h
    · exact .inr (by omega)
  · rintro s ⟨tm, h', f, T', rfl, hf, s', p', T0, T1, K', g', lt, t0, t5, t12, t13⟩
    simp -implicitDefEqProofs (maxSteps := 999999) (disch := first | with_reducible rfl | omega | (simp only [nA, nS, nD] <;> omega) | fail) only [go_sem, t0, t5, t12, t13, Int.lt_irrefl]
    exact q f _ _ T' hf ⟨T0, T1⟩ s' p' (Keeps.new hw K') (Nat.le_refl _) g'
def stN {α : Type} (l : List α) (f : Nat → Nat) : Nat → List α
  | 0 => l
  | n + 1 => match l[n]? with
    | some a => (stN l f n).set (f n) a
    | none => stN l f n
theorem stN_len {α : Type} (l : List α) (f : Nat → Nat) : ∀ n, (stN l f n).length = l.length
  | 0 => rfl
  | n + 1 => by
    simp only [stN]
    split
    · rw [List.length_set, stN_len l f n]
    · exact stN_len l f n
theorem stN_succ {α : Type} {l : List α} {f : Nat → Nat} {n : Nat} (h : n < l.length) : stN l f (n + 1) = (stN l f n).set (f n) l[n] := by
  simp only [stN, List.getElem?_eq_getElem h]
theorem stN_at {α : Type} {l : List α} {f : Nat → Nat} (lt : ∀ i, i < l.length → f i < l.length) (inj : ∀ i j, i < l.length → j < l.length → f i = f j → i = j) : ∀ n, n ≤ l.length → ∀ i, i < n → (stN l f n)[f i]? = l[i]?
  | 0, _, i, h => by omega
  | n + 1, hn, i, hi => by
    rw [stN_succ (by omega)]
    by_cases e : i = n
    · subst e
      rw [List.getElem?_set_self (by rw [stN_len]; exact lt i (by omega)), List.getElem?_eq_getElem]
    · rw [List.getElem?_set_ne (fun h => e (inj n i (by omega) (by omega) h).symm)]
      exact stN_at lt inj n (by omega) i (by omega)
theorem stN_mem {α : Type} {l : List α} {f : Nat → Nat} (lt : ∀ i, i < l.length → f i < l.length) (inj : ∀ i j, i < l.length → j < l.length → f i = f j → i = j) (x : α) : x ∈ stN l f l.length ↔ x ∈ l := by
  constructor
  · intro h
    obtain ⟨k, hk, rfl⟩ := List.getElem_of_mem h
    rw [stN_len] at hk
    obtain ⟨i, hi, rfl⟩ := inj_surj lt inj hk
    have := stN_at lt inj _ (Nat.le_refl _) i hi
    rw [List.getElem?_eq_getElem (by rw [stN_len]; exact hk), List.getElem?_eq_getElem hi] at this
    rw [Option.some.inj this]; exact List.getElem_mem hi
  · intro h
    obtain ⟨i, hi, rfl⟩ := List.getElem_of_mem h
    have := stN_at lt inj _ (Nat.le_refl _) i hi
    rw [List.getElem?_eq_getElem hi] at this
    exact List.mem_of_getElem? this
theorem PermI.nat {f : Int → Int} {n : Nat} (h : PermI f (n : Int)) : (∀ i, i < n → (f (i : Int)).toNat < n ∧ f (i : Int) = (((f (i : Int)).toNat : Nat) : Int)) ∧ ∀ i j, i < n → j < n → (f (i : Int)).toNat = (f (j : Int)).toNat → i = j := by
  refine ⟨fun i hi => ?_, fun i j hi hj e => ?_⟩
  · have := h.1 (i : Int) (by omega) (by omega); omega
  · have h1 := h.1 (i : Int) (by omega) (by omega)
    have h2 := h.1 (j : Int) (by omega) (by omega)
    have := h.2 (i : Int) (j : Int) (by omega) (by omega) (by omega) (by omega) (by omega)
    omega
end Try
end Go.Ab
set_option linter.unusedSimpArgs false
set_option linter.unusedVariables false
namespace Go.Ab.Try
structure OSt (h0 hh : H) (p a b c d : Nat) (y A B C : V) (es : List Ey) (ls ps : List Sd) (M : Int) : Prop where
  s : h0.Sub hh
  ga : hh.get a = some (.cells .rw (es.map encE).flatten)
  gb : hh.get b = some (.cells .rw (ls.map encD).flatten)
  gc : hh.get c = some (.cells .rw (ps.map encD).flatten)
  gd : hh.get d = some (.cells .rw [A, B, C])
  sp : ∃ T, 0 ≤ T ∧ T ≤ M ∧ SpAt hh p y T
theorem LsOwn.lenE {h0 h : H} {x : V} {ls : List (List (List V))} (a : LsOwn h0 h x ls) (hl : ls.length ≤ 1000) : q_len x = some (.int .i64 (ls.length : Int)) := by
  obtain ⟨xs, a1, a2, _⟩ := a
  have := (a1.sl (by simp only [List.length_map]; omega)).lenE
  rw [a2] at this; exact this
theorem LsOwn.sub7 {h0 h : H} {x : V} {ls : List (List (List V))} (a : LsOwn h0 h x ls) : h0.Sub h := by
  obtain ⟨xs, a1, _⟩ := a
  exact a1.1
theorem match_val {t : Tb} (g : Good t) {p r : Nat} (hp : p < t.pieces.length) (hr : r < t.pieces.length) : matchE t (p : Int) (r : Int) = 0 ∧ matchR t (p : Int) (r : Int) = matchB t p r := by
  have c0 : check t = 0 := check_iff.2 g
  have ip : isPc t (p : Int) = true := by simp only [isPc, decide_eq_true_eq]; omega
  have ir : isPc t (r : Int) = true := by simp only [isPc, decide_eq_true_eq]; omega
  have m1 : matchE t (p : Int) (r : Int) = 0 := by unfold matchE; rw [if_neg (by simp [c0]), if_neg (by simp [ip, ir])]
  exact ⟨m1, by unfold matchR; rw [m1]; simp⟩
theorem app_whole {h0 h : H} {a n sz by_ : Nat} {y : V} {rows : List (List V)} {r : List V} {Q : V → H → Prop} (hs : h0.Sub h) (hg : h.get a = some (.cells .rw rows.flatten)) (hn : n = rows.length) (hsz : ∀ r ∈ rows, r.length = sz) (hr : r.length = sz) (hy : SlAt h y sz [r]) (ho : allOne r = true) (h1 : (n + 1) * by_ ≤ 1099511627776) (h2 : n + 1 ≤ 1000)
    (q : ∀ x' h', OwnC h0 h' x' sz (rows ++ [r]) → (∀ b, blkOf x' b → h.next ≤ b) → h.Sub h' → Q x' h') : P2 (e_app' h sz by_ (.sl a 0 n (.fix n)) y) Q := by
  subst hn
  obtain ⟨he, hl⟩ := hy.elems
  have hel : elems h sz (.sl a 0 rows.length (.fix rows.length)) = some rows.flatten := (SlAt.full rfl hg hsz (by omega)).elems.1
  rw [e_app_eq, he, hl]
  simp only [ob_some, List.length_singleton, List.flatten_cons, List.flatten_nil, List.append_nil]
  rw [e_app_full (by omega) hel (by omega) (by omega), grown_eq, P2_some]
  exact q _ _ ⟨hs.add _, fun r' hr' => (List.mem_append.1 hr').elim (hsz r') fun h => by rw [List.mem_singleton] at h; rw [h]; exact hr, .inr (.inl ⟨h.next, by simp, hs.next, by rw [H.next_add]; omega, by rw [get_add_new rfl]; simp⟩)⟩ (fun b' ⟨_, _, _, e⟩ => by cases e; exact Nat.le_refl _) ((H.Sub.refl hs.wf).add _)
structure OS3 (h0 hh : H) (p c d : Nat) (y A B C : V) (es : List Ey) (ls ps : List Sd) (M : Int) : Prop where
  s : h0.Sub hh
  oa : OwnC h0 hh A 4 (es.map encE)
  ob : OwnC h0 hh B 3 (ls.map encD)
  gc : hh.get c = some (.cells .rw (ps.map encD).flatten)
  gd : hh.get d = some (.cells .rw [A, B, C])
  na : ∀ b, blkOf A b → b ≠ p ∧ b ≠ c ∧ b ≠ d
  nb : ∀ b, blkOf B b → b ≠ p ∧ b ≠ c ∧ b ≠ d
  sp : ∃ T, 0 ≤ T ∧ T ≤ M ∧ SpAt hh p y T
theorem cells_bd {h : H} {b : Nat} {x : Blk} (hw : h.wf) (g : h.get b = some x) : b < h.next := hw _ _ g
section
variable {h0 hh h' : H} {p a b c d : Nat} {y A B C : V} {es : List Ey} {ls ps : List Sd} {M M' : Int}
theorem OSt.seta (O : OSt h0 hh p a b c d y A B C es ls ps M) (hw0 : h0.wf) (la : h0.next ≤ a) (n : p ≠ a ∧ b ≠ a ∧ c ≠ a ∧ d ≠ a) (es' : List Ey) : OSt h0 (hh.set a (.cells .rw (es'.map encE).flatten)) p a b c d y A B C es' ls ps M := by
  have k := Keeps.set hh a (.cells .rw (es'.map encE).flatten)
  obtain ⟨T, T0, T1, sp⟩ := O.sp
  exact ⟨O.s.set la (cells_bd O.s.wf O.ga) hw0 _, get_set_same rfl, k.2 _ _ O.gb n.2.1, k.2 _ _ O.gc n.2.2.1, k.2 _ _ O.gd n.2.2.2, T, T0, T1, sp.keep k n.1⟩
theorem OSt.setb (O : OSt h0 hh p a b c d y A B C es ls ps M) (hw0 : h0.wf) (la : h0.next ≤ b) (n : p ≠ b ∧ a ≠ b ∧ c ≠ b ∧ d ≠ b) (ls' : List Sd) : OSt h0 (hh.set b (.cells .rw (ls'.map encD).flatten)) p a b c d y A B C es ls' ps M := by
  have k := Keeps.set hh b (.cells .rw (ls'.map encD).flatten)
  obtain ⟨T, T0, T1, sp⟩ := O.sp
  exact ⟨O.s.set la (cells_bd O.s.wf O.gb) hw0 _, k.2 _ _ O.ga n.2.1, get_set_same rfl, k.2 _ _ O.gc n.2.2.1, k.2 _ _ O.gd n.2.2.2, T, T0, T1, sp.keep k n.1⟩
theorem OS3.setc (O : OS3 h0 hh p c d y A B C es ls ps M) (hw0 : h0.wf) (lc : h0.next ≤ c) (n : p ≠ c ∧ d ≠ c) (ps' : List Sd) : OS3 h0 (hh.set c (.cells .rw (ps'.map encD).flatten)) p c d y A B C es ls ps' M := by
  have k := Keeps.set hh c (.cells .rw (ps'.map encD).flatten)
  have s := O.s.set lc (cells_bd O.s.wf O.gc) hw0 (.cells .rw (ps'.map encD).flatten)
  obtain ⟨T, T0, T1, sp⟩ := O.sp
  exact ⟨s, O.oa.keep k s fun b hb => (O.na b hb).2.1, O.ob.keep k s fun b hb => (O.nb b hb).2.1, get_set_same rfl, k.2 _ _ O.gd n.2, O.na, O.nb, T, T0, T1, sp.keep k n.1⟩
theorem OS3.ord (O : OS3 h0 hh p c d y A B C es ls ps M) (s : h0.Sub h') (k : Keeps (fun c => c = p) hh h') (n : p ≠ c ∧ p ≠ d) {T : Int} (hT : 0 ≤ T ∧ T ≤ M') (sp : SpAt h' p y T) : OS3 h0 h' p c d y A B C es ls ps M' :=
  ⟨s, O.oa.keep k s fun b hb => (O.na b hb).1, O.ob.keep k s fun b hb => (O.nb b hb).1, k.2 _ _ O.gc fun e => n.1 e.symm, k.2 _ _ O.gd fun e => n.2 e.symm, O.na, O.nb, T, hT.1, hT.2, sp⟩
theorem OSt.ord (O : OSt h0 hh p a b c d y A B C es ls ps M) (s : h0.Sub h') (k : Keeps (fun c => c = p) hh h') (n : p ≠ a ∧ p ≠ b ∧ p ≠ c ∧ p ≠ d) {T : Int} (hT : 0 ≤ T ∧ T ≤ M') (sp : SpAt h' p y T) : OSt h0 h' p a b c d y A B C es ls ps M' :=
  ⟨s, k.2 _ _ O.ga fun e => n.1 e.symm, k.2 _ _ O.gb fun e => n.2.1 e.symm, k.2 _ _ O.gc fun e => n.2.2.1 e.symm, k.2 _ _ O.gd fun e => n.2.2.2 e.symm, T, hT.1, hT.2, sp⟩
end
set_option maxRecDepth 4000 in
set_option maxHeartbeats 8000000 in
theorem EyeNamed_ev {h : H} {x y : V} {bs cs : List Int} (hw : h.wf) (hx : SlAt h x 1 (bs.map encU8)) (hy : SlAt h y 1 (cs.map encU8)) :
    Ev fnG fastA (.fn 6 [] []) [x, y] h (fun u _ => u = .bool true) := by
  refine Ev_body (fd := c6) rfl rfl rfl ?_
  simp -implicitDefEqProofs (maxSteps := 999999) (disch := first | with_reducible rfl | omega | (simp only [nA, nS, nD] <;> omega) | fail) only [c6, go_sem]
  refine Wound_ev hw hx _ fun h1 s1 sp1 n1 => ?_
  simp -implicitDefEqProofs (maxSteps := 999999) (disch := first | with_reducible rfl | omega | (simp only [nA, nS, nD] <;> omega) | fail) only [go_sem]
  refine Made_ev s1 hw hx (Nat.le_refl _) sp1 (by omega) (by omega) (by omega) (by omega) _ fun X Y Z t hM T g hp8 he5 hl3 hT m => ?_
  obtain ⟨sM, iM, pM⟩ := m.is g hw (by omega) (by omega)
  have x1 := OwnC.one m.ox.c
  have y1 := OwnC.one m.oy.c
  have z1 := OwnC.one m.oz.c
  simp -implicitDefEqProofs (maxSteps := 999999) (disch := first | with_reducible rfl | omega | (simp only [nA, nS, nD] <;> omega) | fail) only [go_sem, x1, y1, z1, cells_one x1, cells_one y1, cells_one z1]
  have nN : (hM.set h1.next (.cells .rw [X, Y, Z])).next = hM.next := H.next_set _ _ _
  generalize hM.set h1.next (.cells .rw [X, Y, Z]) = hN at sM iM pM nN ⊢
  have s2 := (H.Sub.refl sM.wf).add (.cells .rw [X, Y, Z])
  have g5 : (hN.add (.cells .rw [X, Y, Z])).cells hN.next = some [X, Y, Z] := cells_add_new rfl
  have n5 : hN.next < (hN.add (.cells .rw [X, Y, Z])).next := by rw [H.next_add]; omega
  have i2 := iM.mono s2
  have sN2 := sM.trans s2
  generalize (hN.add (.cells .rw [X, Y, Z])) = h2 at s2 g5 i2 sN2 n5 ⊢
  rw [nN] at g5 n5
  generalize hM.next = b5 at g5 n5 ⊢
  refine Wound_ev s2.wf (hy.mono sN2) _ fun h3 s3 sp3 n3 => ?_
  simp -implicitDefEqProofs (maxSteps := 999999) (disch := first | with_reducible rfl | omega | (simp only [nA, nS, nD] <;> omega) | fail) only [go_sem, s3.cells g5]
  refine own_ev s3.wf (i2.mono s3) ⟨by have := g.eyes; omega, by have := g.lights; omega, by have := g.pieces; omega⟩ _ fun u h4 s4 tn => ?_
  obtain ⟨a, b, c, rfl, la, lb, lc, nab, ga, gb, gc⟩ := tn
  have sA := (H.Sub.refl s4.wf).add (.cells .rw [.sl a 0 t.eyes.length (.fix t.eyes.length), .sl b 0 t.lights.length (.fix t.lights.length), .sl c 0 t.pieces.length (.fix t.pieces.length)])
  have gd : (h4.add (.cells .rw [.sl a 0 t.eyes.length (.fix t.eyes.length), .sl b 0 t.lights.length (.fix t.lights.length), .sl c 0 t.pieces.length (.fix t.pieces.length)])).get h4.next = some (.cells .rw [.sl a 0 t.eyes.length (.fix t.eyes.length), .sl b 0 t.lights.length (.fix t.lights.length), .sl c 0 t.pieces.length (.fix t.pieces.length)]) := get_add_new rfl
  have s34 := s3.trans s4
  have s25 := s34.trans sA
  have g54 := s34.cells g5
  have g55 := s25.cells g5
  obtain ⟨_, _, _, eT, aE, aL, aP⟩ := id i2
  cases eT
  have lP := aP.lenE
  have lE := aE.lenE
  have lL := aL.lenE
  have gE := g.eyes
  have gL := g.lights
  have gP := g.pieces
  have ln3 := s3.next
  have ln4 := s4.next
  have hnE : ∀ i, i < t.eyes.length → ∀ b', blkOf X b' → b' < h2.next := fun i hi => SlAt_lt s2.wf aE (by intro h; rw [List.map_eq_nil_iff] at h; rw [h] at hi; simp at hi)
  have hnL : ∀ i, i < t.lights.length → ∀ b', blkOf Y b' → b' < h2.next := fun i hi => SlAt_lt s2.wf aL (by intro h; rw [List.map_eq_nil_iff] at h; rw [h] at hi; simp at hi)
  have hnP : ∀ i, i < t.pieces.length → ∀ b', blkOf Z b' → b' < h2.next := fun i hi => SlAt_lt s2.wf aP (by intro h; rw [List.map_eq_nil_iff] at h; rw [h] at hi; simp at hi)
  have O5 : OSt h2 (h4.add (.cells .rw [.sl a 0 t.eyes.length (.fix t.eyes.length), .sl b 0 t.lights.length (.fix t.lights.length), .sl c 0 t.pieces.length (.fix t.pieces.length)])) h2.next a b c h4.next y (.sl a 0 t.eyes.length (.fix t.eyes.length)) (.sl b 0 t.lights.length (.fix t.lights.length)) (.sl c 0 t.pieces.length (.fix t.pieces.length)) t.eyes t.lights t.pieces 0 :=
    ⟨s25, sA.get ga, sA.get gb, sA.get gc, gd, 0, Int.le_refl _, by omega, (sp3.mono s4).mono sA⟩
  have lt5 : h4.next < (h4.add (.cells .rw [.sl a 0 t.eyes.length (.fix t.eyes.length), .sl b 0 t.lights.length (.fix t.lights.length), .sl c 0 t.pieces.length (.fix t.pieces.length)])).next := by rw [H.next_add]; omega
  simp -implicitDefEqProofs (maxSteps := 999999) (disch := first | with_reducible rfl | omega | (simp only [nA, nS, nD] <;> omega) | fail) only [go_sem, g54, g55, lE]
  generalize h4.add (.cells .rw [.sl a 0 t.eyes.length (.fix t.eyes.length), .sl b 0 t.lights.length (.fix t.lights.length), .sl c 0 t.pieces.length (.fix t.pieces.length)]) = h5 at sA gd s25 g55 O5 lt5 ⊢
  obtain ⟨d, ed⟩ : ∃ d, h4.next = d := ⟨_, rfl⟩
  rw [ed] at gd O5 lt5 ⊢
  have lad : a < d := by omega
  have lbd : b < d := by omega
  have lcd : c < d := by omega
  obtain ⟨T5, T50, T51, sp5⟩ := O5.sp
  refine Order_ev s25 s2.wf (hy.mono sN2) (Nat.le_refl _) sp5 (by omega) (n := t.eyes.length) (by omega) _ fun f ob h6 T6 hpf hT6 s6 p6 k6 hob gob => ?_
  have g56 := s6.cells g5
  simp -implicitDefEqProofs (maxSteps := 999999) (disch := first | with_reducible rfl | omega | (simp only [nA, nS, nD] <;> omega) | fail) only [go_sem, g55, g56]
  obtain ⟨pf1, pf2⟩ := hpf.nat
  obtain ⟨F, hF⟩ : ∃ F : Nat → Nat, ∀ i : Nat, (f (i : Int)).toNat = F i := ⟨_, fun _ => rfl⟩
  simp only [hF] at pf1 pf2
  have O6 : OSt h2 h6 h2.next a b c d y (.sl a 0 t.eyes.length (.fix t.eyes.length)) (.sl b 0 t.lights.length (.fix t.lights.length)) (.sl c 0 t.pieces.length (.fix t.pieces.length)) t.eyes t.lights t.pieces 10 :=
    O5.ord s6 k6 (by omega) ⟨hT6.1, by omega⟩ p6
  have lob : h5.next ≤ ob := hob
  refine W.mono (Q := fun x1 s => x1 = .ext 0 ∧ ∃ tm hh, s = ⟨tm, hh, []⟩ ∧ OSt h2 hh h2.next a b c d y (.sl a 0 t.eyes.length (.fix t.eyes.length)) (.sl b 0 t.lights.length (.fix t.lights.length)) (.sl c 0 t.pieces.length (.fix t.pieces.length)) (stN t.eyes F t.eyes.length) t.lights t.pieces 10 ∧ d < hh.next ∧ (Opd.t 5).ev tm = .ptr b5 0 ∧ (Opd.t 6).ev tm = .ptr h2.next 0 ∧ (Opd.t 7).ev tm = .ptr d 0)
   (W_count t.eyes.length (fun i s => ∃ tm hh, s = ⟨tm, hh, []⟩ ∧ OSt h2 hh h2.next a b c d y (.sl a 0 t.eyes.length (.fix t.eyes.length)) (.sl b 0 t.lights.length (.fix t.lights.length)) (.sl c 0 t.pieces.length (.fix t.pieces.length)) (stN t.eyes F i) t.lights t.pieces 10 ∧ d < hh.next ∧ hh.get ob = some (.cells .rw (tab f t.eyes.length)) ∧ (Opd.t 5).ev tm = .ptr b5 0 ∧ (Opd.t 6).ev tm = .ptr h2.next 0 ∧ (Opd.t 7).ev tm = .ptr d 0 ∧ (Opd.t 44).ev tm = .sl ob 0 t.eyes.length (.fix t.eyes.length) ∧ (Opd.t 45).ev tm = .int .i64 (t.eyes.length : Int) ∧ (Opd.t 46).ev tm = .int .i64 (i : Int))
    ?_ ?_ (i := 0) (Nat.zero_le _) ⟨_, _, rfl, O6, by have := k6.1; omega, gob, (by simp [ev_c, ev_put] <;> rfl), (by simp [ev_c, ev_put] <;> rfl), (by simp [ev_c, ev_put] <;> rfl), (by simp [ev_c, ev_put] <;> rfl), (by simp [ev_c, ev_put] <;> rfl), (by simp [ev_c, ev_put] <;> rfl)⟩) fun x1 s hx1 => ?_
  · rintro i s hi ⟨tm, hh, rfl, O, lth, go, t5, t6, t7, t44, t45, t46⟩
    have hi' : (i : Int) < (t.eyes.length : Int) := by omega
    obtain ⟨f1, f2⟩ := pf1 i hi
    obtain ⟨bE, oE, cE, csE, eE, hcE, hqE, hgE, _, _⟩ := (aE.mono O.s).at hi
    have hbE := hnE i hi bE ⟨_, _, _, eE⟩
    have htab : nth i (tab f t.eyes.length) = some (.int .i64 (F i : Int)) := by rw [tab_at2 hi, f2]
    have hput := rows_put (enc := encE) (sz := 4) (fun _ => rfl) (stN t.eyes F i) (k := F i) (by rw [stN_len]; exact f1) t.eyes[i]
    rw [← stN_succ hi] at hput
    simp only [encE] at hgE hput
    have g5h := O.s.cells g5
    have gah := O.ga
    have gdh := O.gd
    have nda : d ≠ a := by omega
    have n5a : b5 ≠ a := by omega
    have nEa : bE ≠ a := by omega
    simp -implicitDefEqProofs (maxSteps := 999999) (disch := first | with_reducible rfl | omega | (simp only [nA, nS, nD] <;> omega) | fail) only [go_sem, t5, t6, t7, t44, t45, t46, hi', q_iad_sl (nat_cst i) hi, q_iad_sl (nat_cst (F i)) f1, Nat.mul_one, cells_of go, htab, g5h, cells_of gdh, hqE (nat_cst i), hcE, hgE, cells_of gah, gah, hput, wr_succ]
    exact ⟨_, _, rfl, O.seta s2.wf (by omega) (by omega) _, by rw [H.next_set]; exact lth, (Keeps.set _ _ _).2 _ _ go (by omega), (by simp [ev_c, ev_put, t5] <;> rfl), (by simp [ev_c, ev_put, t6] <;> rfl), (by simp [ev_c, ev_put, t7] <;> rfl), (by simp [ev_c, ev_put, t44] <;> rfl), (by simp [ev_c, ev_put, t45] <;> rfl), (by simp [ev_c, ev_put] <;> rfl)⟩
  · rintro s ⟨tm, hh, rfl, O, lth, go, t5, t6, t7, t44, t45, t46⟩
    simp -implicitDefEqProofs (maxSteps := 999999) (disch := first | with_reducible rfl | omega | (simp only [nA, nS, nD] <;> omega) | fail) only [go_sem, t5, t6, t7, t44, t45, t46, Int.lt_irrefl]
    exact ⟨_, _, rfl, O, lth, (by simp [ev_c, ev_put, t5] <;> rfl), (by simp [ev_c, ev_put, t6] <;> rfl), (by simp [ev_c, ev_put, t7] <;> rfl)⟩
  clear O5 O6 gob
  obtain ⟨rfl, tm, h5, rfl, O5, lt5, t5, t6, t7⟩ := hx1
  obtain ⟨T5, T50, T51, sp5⟩ := O5.sp
  simp -implicitDefEqProofs (maxSteps := 999999) (disch := first | with_reducible rfl | omega | (simp only [nA, nS, nD] <;> omega) | fail) only [go_sem, t5, t6, t7, O5.s.cells g5, lL]
  refine Order_ev O5.s s2.wf (hy.mono sN2) (Nat.le_refl _) sp5 (by omega) (n := t.lights.length) (by omega) _ fun f' ob h6 T6 hpf' hT6 s6 p6 k6 hob gob => ?_
  have g56 := s6.cells g5
  simp -implicitDefEqProofs (maxSteps := 999999) (disch := first | with_reducible rfl | omega | (simp only [nA, nS, nD] <;> omega) | fail) only [go_sem, t5, t6, t7, g56]
  obtain ⟨pl1, pl2⟩ := hpf'.nat
  obtain ⟨G, hG⟩ : ∃ G : Nat → Nat, ∀ i : Nat, (f' (i : Int)).toNat = G i := ⟨_, fun _ => rfl⟩
  simp only [hG] at pl1 pl2
  have O6 : OSt h2 h6 h2.next a b c d y (.sl a 0 t.eyes.length (.fix t.eyes.length)) (.sl b 0 t.lights.length (.fix t.lights.length)) (.sl c 0 t.pieces.length (.fix t.pieces.length)) (stN t.eyes F t.eyes.length) t.lights t.pieces 20 :=
    O5.ord s6 k6 (by omega) ⟨hT6.1, by omega⟩ p6
  have lob : h5.next ≤ ob := hob
  refine W.mono (Q := fun x1 s => x1 = .ext 2 ∧ ∃ tm hh, s = ⟨tm, hh, []⟩ ∧ OSt h2 hh h2.next a b c d y (.sl a 0 t.eyes.length (.fix t.eyes.length)) (.sl b 0 t.lights.length (.fix t.lights.length)) (.sl c 0 t.pieces.length (.fix t.pieces.length)) (stN t.eyes F t.eyes.length) (stN t.lights G t.lights.length) t.pieces 20 ∧ d < hh.next ∧ (Opd.t 5).ev tm = .ptr b5 0 ∧ (Opd.t 6).ev tm = .ptr h2.next 0 ∧ (Opd.t 7).ev tm = .ptr d 0)
   (W_count t.lights.length (fun i s => ∃ tm hh, s = ⟨tm, hh, []⟩ ∧ OSt h2 hh h2.next a b c d y (.sl a 0 t.eyes.length (.fix t.eyes.length)) (.sl b 0 t.lights.length (.fix t.lights.length)) (.sl c 0 t.pieces.length (.fix t.pieces.length)) (stN t.eyes F t.eyes.length) (stN t.lights G i) t.pieces 20 ∧ d < hh.next ∧ hh.get ob = some (.cells .rw (tab f' t.lights.length)) ∧ (Opd.t 5).ev tm = .ptr b5 0 ∧ (Opd.t 6).ev tm = .ptr h2.next 0 ∧ (Opd.t 7).ev tm = .ptr d 0 ∧ (Opd.t 65).ev tm = .sl ob 0 t.lights.length (.fix t.lights.length) ∧ (Opd.t 66).ev tm = .int .i64 (t.lights.length : Int) ∧ (Opd.t 67).ev tm = .int .i64 (i : Int))
    ?_ ?_ (i := 0) (Nat.zero_le _) ⟨_, _, rfl, O6, by have := k6.1; omega, gob, (by simp [ev_c, ev_put, t5] <;> rfl), (by simp [ev_c, ev_put, t6] <;> rfl), (by simp [ev_c, ev_put, t7] <;> rfl), (by simp [ev_c, ev_put] <;> rfl), (by simp [ev_c, ev_put] <;> rfl), (by simp [ev_c, ev_put] <;> rfl)⟩) fun x1 s hx1 => ?_
  · clear t5 t6 t7
    rintro i s hi ⟨tm, hh, rfl, O, lth, go, t5, t6, t7, t65, t66, t67⟩
    have hi' : (i : Int) < (t.lights.length : Int) := by omega
    obtain ⟨f1, f2⟩ := pl1 i hi
    obtain ⟨bE, oE, cE, csE, eE, hcE, hqE, hgE, _, _⟩ := (aL.mono O.s).at hi
    have hbE := hnL i hi bE ⟨_, _, _, eE⟩
    have htab : nth i (tab f' t.lights.length) = some (.int .i64 (G i : Int)) := by rw [tab_at2 hi, f2]
    have hput := rows_put (enc := encD) (sz := 3) (fun _ => rfl) (stN t.lights G i) (k := G i) (by rw [stN_len]; exact f1) t.lights[i]
    rw [← stN_succ hi] at hput
    simp only [encD] at hgE hput
    have g5h := O.s.cells g5
    have gah := O.gb
    have gdh := O.gd
    have nda : d ≠ b := by omega
    have n5a : b5 ≠ b := by omega
    have nEa : bE ≠ b := by omega
    simp -implicitDefEqProofs (maxSteps := 999999) (disch := first | with_reducible rfl | omega | (simp only [nA, nS, nD] <;> omega) | fail) only [go_sem, t5, t6, t7, t65, t66, t67, hi', q_iad_sl (nat_cst i) hi, q_iad_sl (nat_cst (G i)) f1, Nat.mul_one, cells_of go, htab, g5h, cells_of gdh, hqE (nat_cst i), hcE, hgE, cells_of gah, gah, hput, wr_succ]
    exact ⟨_, _, rfl, O.setb s2.wf (by omega) (by omega) _, by rw [H.next_set]; exact lth, (Keeps.set _ _ _).2 _ _ go (by omega), (by simp [ev_c, ev_put, t5] <;> rfl), (by simp [ev_c, ev_put, t6] <;> rfl), (by simp [ev_c, ev_put, t7] <;> rfl), (by simp [ev_c, ev_put, t65] <;> rfl), (by simp [ev_c, ev_put, t66] <;> rfl), (by simp [ev_c, ev_put] <;> rfl)⟩
  · clear t5 t6 t7
    rintro s ⟨tm, hh, rfl, O, lth, go, t5, t6, t7, t65, t66, t67⟩
    simp -implicitDefEqProofs (maxSteps := 999999) (disch := first | with_reducible rfl | omega | (simp only [nA, nS, nD] <;> omega) | fail) only [go_sem, t5, t6, t7, t65, t66, t67, Int.lt_irrefl]
    exact ⟨_, _, rfl, O, lth, (by simp [ev_c, ev_put, t5] <;> rfl), (by simp [ev_c, ev_put, t6] <;> rfl), (by simp [ev_c, ev_put, t7] <;> rfl)⟩
  clear O5 O6 gob t5 t6 t7
  obtain ⟨rfl, tm, h5, rfl, O5, lt5, t5, t6, t7⟩ := hx1
  obtain ⟨es', ees⟩ : ∃ es', stN t.eyes F t.eyes.length = es' := ⟨_, rfl⟩
  obtain ⟨ls', els⟩ : ∃ ls', stN t.lights G t.lights.length = ls' := ⟨_, rfl⟩
  have les : es'.length = t.eyes.length := by rw [← ees]; exact stN_len ..
  have lls : ls'.length = t.lights.length := by rw [← els]; exact stN_len ..
  have mes : ∀ e, e ∈ es' ↔ e ∈ t.eyes := fun e => by rw [← ees]; exact stN_mem (fun i hi => (pf1 i hi).1) pf2 e
  have mls : ∀ e, e ∈ ls' ↔ e ∈ t.lights := fun e => by rw [← els]; exact stN_mem (fun i hi => (pl1 i hi).1) pl2 e
  rw [ees, els] at O5
  have oA : OwnC h2 h5 (.sl a 0 t.eyes.length (.fix t.eyes.length)) 4 (es'.map encE) := ⟨O5.s, by simp [encE], .inr (.inr ⟨a, t.eyes.length, [], by simp [les], by omega, by omega, by simpa using O5.ga, by simp [les], by simp [les]⟩)⟩
  have oB : OwnC h2 h5 (.sl b 0 t.lights.length (.fix t.lights.length)) 3 (ls'.map encD) := ⟨O5.s, by simp [encD], .inr (.inr ⟨b, t.lights.length, [], by simp [lls], by omega, by omega, by simpa using O5.gb, by simp [lls], by simp [lls]⟩)⟩
  obtain ⟨b1, o1, c1, cs1, r1, r2, r3, r4, _, _⟩ := (oA.sl (by simp only [List.length_map]; omega)).at (show 0 < es'.length by omega)
  obtain ⟨b2, o2, c2, cs2, r5, r6, r7, r8, _, _⟩ := (oB.sl (by simp only [List.length_map]; omega)).at (show 0 < ls'.length by omega)
  simp only [encE, Nat.zero_mul, Nat.add_zero] at r4
  simp only [encD, Nat.zero_mul, Nat.add_zero] at r8
  have gdc := cells_of O5.gd
  have e3 := r3 (show nat? (.int .i64 0) = some 0 from rfl)
  have e7 := r7 (show nat? (.int .i64 0) = some 0 from rfl)
  simp -implicitDefEqProofs (maxSteps := 999999) (disch := first | with_reducible rfl | omega | (simp only [nA, nS, nD] <;> omega) | fail) only [go_sem, t5, t6, t7, gdc, e3, r2, r4, e7, r6, r8]
  have sX := (H.Sub.refl O5.s.wf).add (.cells .rw [.int .i64 es'[0].s.x, .int .i64 es'[0].s.y, .int .i64 es'[0].s.z, .int .i64 es'[0].frm])
  have own4 : SlAt (h5.add (.cells .rw [.int .i64 es'[0].s.x, .int .i64 es'[0].s.y, .int .i64 es'[0].s.z, .int .i64 es'[0].frm])) (.sl h5.next 0 1 (.fix 1)) 4 [encE es'[0]] := SlAt.new _ rfl rfl (by simp [encE]) (by simp [encE]) (by simp)
  generalize h5.add (.cells .rw [.int .i64 es'[0].s.x, .int .i64 es'[0].s.y, .int .i64 es'[0].s.z, .int .i64 es'[0].frm]) = hX at sX own4 ⊢
  refine app_whole (O5.s.trans sX) (sX.get O5.ga) (by rw [List.length_map]; omega) (by simp [encE]) rfl own4 rfl (by omega) (by omega) fun A' h6 oA' nA' s6 => ?_
  have s56 := sX.trans s6
  have gd6 := cells_of (s56.get O5.gd)
  have r26 := s56.cells r2
  have r66 := s56.cells r6
  simp -implicitDefEqProofs (maxSteps := 999999) (disch := first | with_reducible rfl | omega | (simp only [nA, nS, nD] <;> omega) | fail) only [go_sem, t5, t6, t7, gdc, gd6, e3, r2, r4, e7, r6, r8, r26, r66]
  have sY := (H.Sub.refl s6.wf).add (.cells .rw [.int .i64 ls'[0].x, .int .i64 ls'[0].y, .int .i64 ls'[0].z])
  have own3 : SlAt (h6.add (.cells .rw [.int .i64 ls'[0].x, .int .i64 ls'[0].y, .int .i64 ls'[0].z])) (.sl h6.next 0 1 (.fix 1)) 3 [encD ls'[0]] := SlAt.new _ rfl rfl (by simp [encD]) (by simp [encD]) (by simp)
  generalize h6.add (.cells .rw [.int .i64 ls'[0].x, .int .i64 ls'[0].y, .int .i64 ls'[0].z]) = hY at sY own3 ⊢
  have s5Y := s56.trans sY
  refine app_whole (O5.s.trans s5Y) (s5Y.get O5.gb) (by rw [List.length_map]; omega) (by simp [encD]) rfl own3 rfl (by omega) (by omega) fun B' h7 oB' nB' s7 => ?_
  have s67 := sY.trans s7
  have s57 := s56.trans s67
  have gd7 := s57.get O5.gd
  have gc7 := cells_of gd7
  have r27 := s57.cells r2
  have r67 := s57.cells r6
  have A1 := oA'.one
  have B1 := oB'.one
  have eb1 : a = b1 ∧ b = b2 := by simp only [V.sl.injEq] at r1 r5; exact ⟨r1.1, r5.1⟩
  obtain ⟨rfl, rfl⟩ := eb1
  have nad : a ≠ d := by omega
  have nbd : b ≠ d := by omega
  simp -implicitDefEqProofs (maxSteps := 999999) (disch := first | with_reducible rfl | omega | (simp only [nA, nS, nD] <;> omega) | fail) only [go_sem, t5, t6, t7, gdc, gd6, e3, r2, r4, e7, r6, r8, r26, r66, gc7, gd7, r27, r67, A1, B1, cells_one A1, cells_one B1]
  have kD := Keeps.set h7 d (.cells .rw [A', B', .sl c 0 t.pieces.length (.fix t.pieces.length)])
  have s5s := O5.s
  have ln5 := O5.s.next
  have l56 := s56.next
  have l5X := sX.next
  have l5Y := s5Y.next
  have l67 := s67.next
  have lth7 : d < h7.next := by omega
  have s27 : h2.Sub (h7.set d (.cells .rw [A', B', .sl c 0 t.pieces.length (.fix t.pieces.length)])) := (O5.s.trans s57).set (by omega) lth7 s2.wf _
  have O7 : OS3 h2 (h7.set d (.cells .rw [A', B', .sl c 0 t.pieces.length (.fix t.pieces.length)])) h2.next c d y A' B' (.sl c 0 t.pieces.length (.fix t.pieces.length)) (es' ++ [es'[0]]) (ls' ++ [ls'[0]]) t.pieces 20 := by
    obtain ⟨T, T0, T1, sp⟩ := O5.sp
    have oA2 : OwnC h2 h7 A' 4 ((es' ++ [es'[0]]).map encE) := by rw [List.map_append]; exact oA'.mono s67
    have oB2 : OwnC h2 h7 B' 3 ((ls' ++ [ls'[0]]).map encD) := by rw [List.map_append]; exact oB'
    have nA : ∀ b, blkOf A' b → b ≠ h2.next ∧ b ≠ c ∧ b ≠ d := fun b hb => by have := nA' b hb; omega
    have nB : ∀ b, blkOf B' b → b ≠ h2.next ∧ b ≠ c ∧ b ≠ d := fun b hb => by have := nB' b hb; omega
    exact ⟨s27, oA2.keep kD s27 fun b hb => (nA b hb).2.2, oB2.keep kD s27 fun b hb => (nB b hb).2.2, kD.2 _ _ (s57.get O5.gc) (by omega), get_set_same rfl, nA, nB, T, T0, T1, (sp.mono s57).keep kD (by omega)⟩
  have lt7 : d < (h7.set d (.cells .rw [A', B', .sl c 0 t.pieces.length (.fix t.pieces.length)])).next := by rw [H.next_set]; exact lth7
  have g57 := (O5.s.trans s57).cells g5
  simp -implicitDefEqProofs (maxSteps := 999999) (disch := first | with_reducible rfl | omega | (simp only [nA, nS, nD] <;> omega) | fail) only [go_sem, t5, t6, t7, g57, lP]
  generalize h7.set d (.cells .rw [A', B', .sl c 0 t.pieces.length (.fix t.pieces.length)]) = h8 at O7 lt7 s27 kD ⊢
  obtain ⟨T5, T50, T51, sp5⟩ := O7.sp
  refine Order_ev O7.s s2.wf (hy.mono sN2) (Nat.le_refl _) sp5 (by omega) (n := t.pieces.length) (by omega) _ fun f2 ob h9 T9 hpf2 hT9 s9 p9 k9 hob gob => ?_
  have g59 := s9.cells g5
  simp -implicitDefEqProofs (maxSteps := 999999) (disch := first | with_reducible rfl | omega | (simp only [nA, nS, nD] <;> omega) | fail) only [go_sem, t5, t6, t7, g59]
  obtain ⟨pp1, pp2⟩ := hpf2.nat
  obtain ⟨K, hK⟩ : ∃ K : Nat → Nat, ∀ i : Nat, (f2 (i : Int)).toNat = K i := ⟨_, fun _ => rfl⟩
  simp only [hK] at pp1 pp2
  have O9 : OS3 h2 h9 h2.next c d y A' B' (.sl c 0 t.pieces.length (.fix t.pieces.length)) (es' ++ [es'[0]]) (ls' ++ [ls'[0]]) t.pieces 30 := O7.ord s9 k9 (by omega) ⟨hT9.1, by omega⟩ p9
  have lob : h8.next ≤ ob := hob
  have gob9 := gob
  refine W.mono (Q := fun x1 s => x1 = .ext 4 ∧ ∃ tm hh, s = ⟨tm, hh, []⟩ ∧ OS3 h2 hh h2.next c d y A' B' (.sl c 0 t.pieces.length (.fix t.pieces.length)) (es' ++ [es'[0]]) (ls' ++ [ls'[0]]) (stN t.pieces K t.pieces.length) 30 ∧ hh.get ob = some (.cells .rw (tab f2 t.pieces.length)) ∧ (Opd.t 5).ev tm = .ptr b5 0 ∧ (Opd.t 7).ev tm = .ptr d 0 ∧ (Opd.t 12).ev tm = .sl ob 0 t.pieces.length (.fix t.pieces.length))
   (W_count t.pieces.length (fun i s => ∃ tm hh, s = ⟨tm, hh, []⟩ ∧ OS3 h2 hh h2.next c d y A' B' (.sl c 0 t.pieces.length (.fix t.pieces.length)) (es' ++ [es'[0]]) (ls' ++ [ls'[0]]) (stN t.pieces K i) 30 ∧ hh.get ob = some (.cells .rw (tab f2 t.pieces.length)) ∧ (Opd.t 5).ev tm = .ptr b5 0 ∧ (Opd.t 7).ev tm = .ptr d 0 ∧ (Opd.t 12).ev tm = .sl ob 0 t.pieces.length (.fix t.pieces.length) ∧ (Opd.t 105).ev tm = .sl ob 0 t.pieces.length (.fix t.pieces.length) ∧ (Opd.t 106).ev tm = .int .i64 (t.pieces.length : Int) ∧ (Opd.t 107).ev tm = .int .i64 (i : Int))
    ?_ ?_ (i := 0) (Nat.zero_le _) ⟨_, _, rfl, O9, gob, (by simp [ev_c, ev_put, t5] <;> rfl), (by simp [ev_c, ev_put, t7] <;> rfl), (by simp [ev_c, ev_put] <;> rfl), (by simp [ev_c, ev_put] <;> rfl), (by simp [ev_c, ev_put] <;> rfl), (by simp [ev_c, ev_put] <;> rfl)⟩) fun x1 s hx1 => ?_
  · clear t5 t6 t7
    rintro i s hi ⟨tm, hh, rfl, O, go, t5, t7, t12, t105, t106, t107⟩
    have hi' : (i : Int) < (t.pieces.length : Int) := by omega
    obtain ⟨f1, f3⟩ := pp1 i hi
    obtain ⟨bE, oE, cE, csE, eE, hcE, hqE, hgE, _, _⟩ := (aP.mono O.s).at hi
    have hbE := hnP i hi bE ⟨_, _, _, eE⟩
    have htab : nth i (tab f2 t.pieces.length) = some (.int .i64 (K i : Int)) := by rw [tab_at2 hi, f3]
    have hput := rows_put (enc := encD) (sz := 3) (fun _ => rfl) (stN t.pieces K i) (k := K i) (by rw [stN_len]; exact f1) t.pieces[i]
    rw [← stN_succ hi] at hput
    simp only [encD] at hgE hput
    have g5h := O.s.cells g5
    have gah := O.gc
    have gdh := O.gd
    have nda : d ≠ c := by omega
    have n5a : b5 ≠ c := by omega
    have nEa : bE ≠ c := by omega
    simp -implicitDefEqProofs (maxSteps := 999999) (disch := first | with_reducible rfl | omega | (simp only [nA, nS, nD] <;> omega) | fail) only [go_sem, t5, t7, t12, t105, t106, t107, hi', q_iad_sl (nat_cst i) hi, q_iad_sl (nat_cst (K i)) f1, Nat.mul_one, cells_of go, htab, g5h, cells_of gdh, hqE (nat_cst i), hcE, hgE, cells_of gah, gah, hput, wr_succ]
    exact ⟨_, _, rfl, O.setc s2.wf (by omega) (by omega) _, (Keeps.set _ _ _).2 _ _ go (by omega), (by simp [ev_c, ev_put, t5] <;> rfl), (by simp [ev_c, ev_put, t7] <;> rfl), (by simp [ev_c, ev_put, t12] <;> rfl), (by simp [ev_c, ev_put, t105] <;> rfl), (by simp [ev_c, ev_put, t106] <;> rfl), (by simp [ev_c, ev_put] <;> rfl)⟩
  · clear t5 t6 t7
    rintro s ⟨tm, hh, rfl, O, go, t5, t7, t12, t105, t106, t107⟩
    simp -implicitDefEqProofs (maxSteps := 999999) (disch := first | with_reducible rfl | omega | (simp only [nA, nS, nD] <;> omega) | fail) only [go_sem, t5, t7, t12, t105, t106, t107, Int.lt_irrefl]
    exact ⟨_, _, rfl, O, go, (by simp [ev_c, ev_put, t5] <;> rfl), (by simp [ev_c, ev_put, t7] <;> rfl), (by simp [ev_c, ev_put, t12] <;> rfl)⟩
  clear O9 O7 O5 gob gob9 t5 t6 t7
  obtain ⟨rfl, tm, hS, rfl, O, go, t5, t7, t12⟩ := hx1
  have sS := O.s
  obtain ⟨ps', eps⟩ : ∃ ps', stN t.pieces K t.pieces.length = ps' := ⟨_, rfl⟩
  have lps : ps'.length = t.pieces.length := by rw [← eps]; exact stN_len ..
  have mps : ∀ i, i < t.pieces.length → ps'[K i]? = t.pieces[i]? := fun i hi => by rw [← eps]; exact stN_at (fun i hi => (pp1 i hi).1) pp2 _ (Nat.le_refl _) i hi
  rw [eps] at O
  have iO : TbIs hS (.agg [A', B', .sl c 0 t.pieces.length (.fix t.pieces.length)]) ⟨es' ++ [es'[0]], ls' ++ [ls'[0]], ps'⟩ :=
    ⟨_, _, _, rfl, O.oa.sl (by simp; omega), O.ob.sl (by simp; omega), SlAt.full (by dsimp only; rw [List.length_map]; omega) O.gc (by simp [encD]) (by dsimp only; rw [List.length_map]; omega)⟩
  obtain ⟨o, eo⟩ : ∃ o, (⟨es' ++ [es'[0]], ls' ++ [ls'[0]], ps'⟩ : Tb) = o := ⟨_, rfl⟩
  have nm : Nam t o K := by
    subst eo
    refine ⟨fun i hi => by have := (pp1 i hi).1; dsimp only; omega, mps, pp2, fun e => ?_, fun l => ?_⟩
    · dsimp only
      rw [List.mem_append, List.mem_singleton, mes]
      exact ⟨fun h => h.elim id fun e => by rw [e]; exact (mes _).1 (List.getElem_mem _), .inl⟩
    · dsimp only
      rw [List.mem_append, List.mem_singleton, mls]
      exact ⟨fun h => h.elim id fun e => by rw [e]; exact (mls _).1 (List.getElem_mem _), .inl⟩
  have lpo : o.pieces.length = t.pieces.length := by rw [← eo]; exact lps
  have go' : Good o := by
    have e1 : o.eyes.length = t.eyes.length + 1 := by rw [← eo]; simp [les]
    have e2 : o.lights.length = t.lights.length + 1 := by rw [← eo]; simp [lls]
    refine ⟨by omega, by omega, by omega, fun e he => g.eye e ((nm.eyes e).1 he), fun l hl => g.light l ((nm.lights l).1 hl), fun q hq => ?_⟩
    obtain ⟨k, hk, rfl⟩ := List.getElem_of_mem hq
    obtain ⟨i, hi, e⟩ := inj_surj (fun i hi => (pp1 i hi).1) pp2 (show k < t.pieces.length by omega)
    have := nm.pc i hi
    rw [e, List.getElem?_eq_getElem hk, List.getElem?_eq_getElem hi] at this
    rw [Option.some.inj this]; exact g.piece _ (List.getElem_mem hi)
  rw [eo] at iO
  have iT := i2.mono sS
  have gT := sS.cells g5
  have gO := cells_of O.gd
  have gn := cells_of go
  have bb : ∀ b : Bool, (!(b == b)) = false := fun b => by cases b <;> rfl
  have nn : ∀ n : Int, decide (n ≠ n) = false := fun n => by simp
  simp -implicitDefEqProofs (maxSteps := 999999) (disch := first | with_reducible rfl | omega | (simp only [nA, nS, nD] <;> omega) | fail) only [go_sem, t5, t7, t12, gT, lP]
  refine W.mono (Q := fun x1 s => x1 = .ext 6 ∧ ∃ tm hh, s = ⟨tm, hh, []⟩ ∧ hS.Sub hh ∧ (Opd.t 5).ev tm = .ptr b5 0 ∧ (Opd.t 7).ev tm = .ptr d 0)
   (W_count t.pieces.length (fun p s => ∃ tm hh, s = ⟨tm, hh, []⟩ ∧ hS.Sub hh ∧ (Opd.t 5).ev tm = .ptr b5 0 ∧ (Opd.t 7).ev tm = .ptr d 0 ∧ (Opd.t 12).ev tm = .sl ob 0 t.pieces.length (.fix t.pieces.length) ∧ (Opd.t 124).ev tm = .int .i64 (t.pieces.length : Int) ∧ (Opd.t 125).ev tm = .int .i64 (p : Int))
    ?_ ?_ (i := 0) (Nat.zero_le _) ⟨_, _, rfl, H.Sub.refl sS.wf, (by simp [ev_c, ev_put, t5] <;> rfl), (by simp [ev_c, ev_put, t7] <;> rfl), (by simp [ev_c, ev_put, t12] <;> rfl), (by simp [ev_c, ev_put] <;> rfl), (by simp [ev_c, ev_put] <;> rfl)⟩) fun x1 s hx1 => ?_
  · clear t5 t7 t12
    rintro p s hp ⟨tm, hh, rfl, sh, t5, t7, t12, t124, t125⟩
    have hp' : (p : Int) < (t.pieces.length : Int) := by omega
    simp -implicitDefEqProofs (maxSteps := 999999) (disch := first | with_reducible rfl | omega | (simp only [nA, nS, nD] <;> omega) | fail) only [go_sem, t5, t7, t12, t124, t125, hp', sh.cells gT, lP]
    refine W_count t.pieces.length (fun r s => ∃ tm hq, s = ⟨tm, hq, []⟩ ∧ hS.Sub hq ∧ (Opd.t 5).ev tm = .ptr b5 0 ∧ (Opd.t 7).ev tm = .ptr d 0 ∧ (Opd.t 12).ev tm = .sl ob 0 t.pieces.length (.fix t.pieces.length) ∧ (Opd.t 15).ev tm = .int .i64 (p : Int) ∧ (Opd.t 124).ev tm = .int .i64 (t.pieces.length : Int) ∧ (Opd.t 125).ev tm = .int .i64 (p : Int) ∧ (Opd.t 130).ev tm = .int .i64 (t.pieces.length : Int) ∧ (Opd.t 131).ev tm = .int .i64 (r : Int))
      ?_ ?_ (i := 0) (Nat.zero_le _) ⟨_, _, rfl, sh, (by simp [ev_c, ev_put, t5] <;> rfl), (by simp [ev_c, ev_put, t7] <;> rfl), (by simp [ev_c, ev_put, t12] <;> rfl), (by simp [ev_c, ev_put] <;> rfl), (by simp [ev_c, ev_put, t124] <;> rfl), (by simp [ev_c, ev_put, t125] <;> rfl), (by simp [ev_c, ev_put] <;> rfl), (by simp [ev_c, ev_put] <;> rfl)⟩
    · clear t5 t7 t12 t124 t125
      rintro r s hr ⟨tm, hq, rfl, sq, t5, t7, t12, t15, t124, t125, t130, t131⟩
      have hr' : (r : Int) < (t.pieces.length : Int) := by omega
      obtain ⟨v1, v2⟩ := match_val g hp hr
      obtain ⟨p1, p2⟩ := pp1 p hp
      obtain ⟨r1', r2'⟩ := pp1 r hr
      obtain ⟨w1, w2⟩ := match_val go' (p := K p) (r := K r) (by omega) (by omega)
      have emm : matchB o (K p) (K r) = matchB t p r := nm.mm g go' hp hr
      have tp : nth p (tab f2 t.pieces.length) = some (.int .i64 (K p : Int)) := by rw [tab_at2 hp, p2]
      have tr : nth r (tab f2 t.pieces.length) = some (.int .i64 (K r : Int)) := by rw [tab_at2 hr, r2']
      simp -implicitDefEqProofs (maxSteps := 999999) (disch := first | with_reducible rfl | omega | (simp only [nA, nS, nD] <;> omega) | fail) only [go_sem, t5, t7, t12, t15, t124, t125, t130, t131, hr', sq.cells gT]
      refine Match_ev sq.wf (iT.mono sq) (p : Int) (r : Int) _ fun hH sH => ?_
      rw [v1, v2]
      have sqH := sq.trans sH
      simp -implicitDefEqProofs (maxSteps := 999999) (disch := first | with_reducible rfl | omega | (simp only [nA, nS, nD] <;> omega) | fail) only [go_sem, t5, t7, t12, t15, t124, t125, t130, t131, sqH.cells gT, sqH.cells gO, sqH.cells gn, q_iad_sl (nat_cst p) hp, q_iad_sl (nat_cst r) hr, Nat.mul_one, tp, tr]
      refine Match_ev sqH.wf (iO.mono sqH) (K p : Int) (K r : Int) _ fun hI sI => ?_
      rw [w1, w2, emm]
      have sqI := sqH.trans sI
      simp -implicitDefEqProofs (maxSteps := 999999) (disch := first | with_reducible rfl | omega | (simp only [nA, nS, nD] <;> omega) | fail) only [go_sem, t5, t7, t12, t15, t124, t125, t130, t131, nn, bb, sqH.cells gT, sqH.cells gO, sqH.cells gn, q_iad_sl (nat_cst p) hp, q_iad_sl (nat_cst r) hr, Nat.mul_one, tp, tr, wr_succ]
      exact ⟨_, _, rfl, sqI, (by simp [ev_c, ev_put, t5] <;> rfl), (by simp [ev_c, ev_put, t7] <;> rfl), (by simp [ev_c, ev_put, t12] <;> rfl), (by simp [ev_c, ev_put, t15] <;> rfl), (by simp [ev_c, ev_put, t124] <;> rfl), (by simp [ev_c, ev_put, t125] <;> rfl), (by simp [ev_c, ev_put, t130] <;> rfl), (by simp [ev_c, ev_put] <;> rfl)⟩
    · clear t5 t7 t12 t124 t125
      rintro s ⟨tm, hq, rfl, sq, t5, t7, t12, t15, t124, t125, t130, t131⟩
      simp -implicitDefEqProofs (maxSteps := 999999) (disch := first | with_reducible rfl | omega | (simp only [nA, nS, nD] <;> omega) | fail) only [go_sem, t5, t7, t12, t15, t124, t125, t130, t131, Int.lt_irrefl, wr_succ]
      exact ⟨_, _, rfl, sq, (by simp [ev_c, ev_put, t5] <;> rfl), (by simp [ev_c, ev_put, t7] <;> rfl), (by simp [ev_c, ev_put, t12] <;> rfl), (by simp [ev_c, ev_put, t124] <;> rfl), (by simp [ev_c, ev_put] <;> rfl)⟩
  · clear t5 t7 t12
    rintro s ⟨tm, hh, rfl, sh, t5, t7, t12, t124, t125⟩
    simp -implicitDefEqProofs (maxSteps := 999999) (disch := first | with_reducible rfl | omega | (simp only [nA, nS, nD] <;> omega) | fail) only [go_sem, t5, t7, t12, t124, t125, Int.lt_irrefl]
    exact ⟨_, _, rfl, sh, (by simp [ev_c, ev_put, t5] <;> rfl), (by simp [ev_c, ev_put, t7] <;> rfl)⟩
  clear t5 t7 t12
  obtain ⟨rfl, tm, hD, rfl, sD, t5, t7⟩ := hx1
  have c0 : check t = 0 := check_iff.2 g
  have d0 : check o = 0 := check_iff.2 go'
  obtain ⟨q1, q2, q3, q4⟩ := nm.same lpo g go'
  obtain ⟨cf, hcf, mf⟩ := few_some t
  obtain ⟨df, hdf, mdf⟩ := few_some o
  have ecd := q1 cf df hcf hdf
  simp -implicitDefEqProofs (maxSteps := 999999) (disch := first | with_reducible rfl | omega | (simp only [nA, nS, nD] <;> omega) | fail) only [go_sem, t5, t7, sD.cells gT]
  refine Fewest_ev sD.wf (iT.mono sD) _ fun u1 k1 e1 hu1 _ => ?_
  have z1 := hu1 cf c0 hcf
  rw [c0]
  have s1 := sD.trans e1
  simp -implicitDefEqProofs (maxSteps := 999999) (disch := first | with_reducible rfl | omega | (simp only [nA, nS, nD] <;> omega) | fail) only [go_sem, t5, t7, s1.cells gO]
  refine Fewest_ev s1.wf (iO.mono s1) _ fun u2 k2 e2 hu2 _ => ?_
  have z2 := hu2 df d0 hdf
  rw [d0]
  have s2' := s1.trans e2
  simp -implicitDefEqProofs (maxSteps := 999999) (disch := first | with_reducible rfl | omega | (simp only [nA, nS, nD] <;> omega) | fail) only [go_sem, t5, t7, s2'.cells gT]
  refine Sort_ev s2'.wf (iT.mono s2') _ fun u3 k3 e3 hu3 => ?_
  rw [if_pos c0] at hu3
  rw [c0]
  have s3' := s2'.trans e3
  simp -implicitDefEqProofs (maxSteps := 999999) (disch := first | with_reducible rfl | omega | (simp only [nA, nS, nD] <;> omega) | fail) only [go_sem, t5, t7, s3'.cells gO]
  refine Sort_ev s3'.wf (iO.mono s3') _ fun u4 k4 e4 hu4 => ?_
  rw [if_pos d0] at hu4
  rw [d0]
  have s4' := s3'.trans e4
  have l1 := z1.lenE
  have l2 := z2.lenE
  have l3 := LsCut.lenC (by omega) hu3
  have l4 := LsCut.lenC (by omega) hu4
  rw [← ecd] at l2
  rw [← q2] at l4
  simp -implicitDefEqProofs (maxSteps := 999999) (disch := first | with_reducible rfl | omega | (simp only [nA, nS, nD] <;> omega) | fail) only [go_sem, t5, t7, nn, l1, l2, l3, l4, s4'.cells gT]
  refine Strangers_ev s4'.wf (iT.mono s4') _ fun u5 k5 e5 hu5 => ?_
  rw [if_pos c0] at hu5
  rw [c0]
  have s5' := s4'.trans e5
  simp -implicitDefEqProofs (maxSteps := 999999) (disch := first | with_reducible rfl | omega | (simp only [nA, nS, nD] <;> omega) | fail) only [go_sem, t5, t7, s5'.cells gO]
  refine Strangers_ev s5'.wf (iO.mono s5') _ fun u6 k6 e6 hu6 => ?_
  rw [if_pos d0] at hu6
  rw [d0]
  have s6' := s5'.trans e6
  simp -implicitDefEqProofs (maxSteps := 999999) (disch := first | with_reducible rfl | omega | (simp only [nA, nS, nD] <;> omega) | fail) only [go_sem, t5, t7, s6'.cells gT]
  refine Kin_ev s6'.wf (iT.mono s6') _ fun u7 k7 hu7 => ?_
  rw [if_pos c0] at hu7
  rw [c0]
  have s7' := s6'.trans (LsOwn.sub7 hu7)
  simp -implicitDefEqProofs (maxSteps := 999999) (disch := first | with_reducible rfl | omega | (simp only [nA, nS, nD] <;> omega) | fail) only [go_sem, t5, t7, s7'.cells gO]
  refine Kin_ev s7'.wf (iO.mono s7') _ fun u8 k8 hu8 => ?_
  rw [if_pos d0] at hu8
  rw [d0]
  have hk7 := kinK_len t t.pieces.length
  have hk8 := kinK_len o o.pieces.length
  have m5 := LsOut.lenA (by omega) hu5
  have m6 := LsOut.lenA (by omega) hu6
  have m7 := LsOwn.lenE hu7 (by rw [List.length_map]; omega)
  have m8 := LsOwn.lenE hu8 (by rw [List.length_map]; omega)
  rw [List.length_map] at m7 m8
  rw [← q3] at m6
  rw [← q4] at m8
  simp -implicitDefEqProofs (maxSteps := 999999) (disch := first | with_reducible rfl | omega | (simp only [nA, nS, nD] <;> omega) | fail) only [go_sem, t5, t7, nn, m5, m6, m7, m8, decide_true, awake_eq]
end Go.Ab.Try
