/- The reference's chain, Chain and Kin. Distances in a graph of few points, and how a search that goes by breadth finds them. Plain. A queue of integers: taken from the front, appended to at the end. How far a piece is from another: the search by breadth, in a map. Chain. Kin: who can be reached. Plain; lists of lists. Kin. How far, whoever finds it; the reference's table of matches. The reference's steps, layer by layer. Plain. The reference's Steps. The reference's chain: the first shortest way. -/
import Derived.Test.YtkjbamlcgojkmaaG4
import Derived.Test.YtkjbamlcgojkmaaG5
set_option linter.unusedSimpArgs false
set_option linter.unusedVariables false
namespace Go.Ab.Try
structure IsD (n : Nat) (M : Nat → Nat → Bool) (s : Nat) (f : Nat → Option Nat) : Prop where
  src : f s = some 0
  zero : ∀ p, f p = some 0 → p = s
  step : ∀ p k, f p = some (k + 1) → ∃ q, q < n ∧ f q = some k ∧ M q p = true
  close : ∀ p q k, p < n → f q = some k → M q p = true → ∃ j, f p = some j ∧ j ≤ k + 1
  lt : ∀ p k, f p = some k → p < n
def Wk (n : Nat) (M : Nat → Nat → Bool) : Nat → Nat → Nat → Prop
  | 0, p, q => p = q
  | k + 1, p, q => ∃ r, r < n ∧ Wk n M k p r ∧ M r q = true
theorem Wk.pre {n : Nat} {M : Nat → Nat → Bool} {p r : Nat} (hp : p < n) (hm : M p r = true) : ∀ {k q}, Wk n M k r q → Wk n M (k + 1) p q
  | 0, q, h => ⟨p, hp, rfl, by have : r = q := h; rw [← this]; exact hm⟩
  | k + 1, q, ⟨x, hx, h1, h2⟩ => ⟨x, hx, Wk.pre hp hm h1, h2⟩
theorem Wk.rev {n : Nat} {M : Nat → Nat → Bool} (sy : ∀ p q, M p q = M q p) : ∀ {k p q}, q < n → Wk n M k p q → Wk n M k q p
  | 0, p, q, _, h => (show p = q from h).symm
  | k + 1, p, q, hq, ⟨r, hr, h1, h2⟩ => Wk.pre hq (by rw [sy]; exact h2) (Wk.rev sy hr h1)
theorem IsD.walk {n : Nat} {M : Nat → Nat → Bool} {s : Nat} {f : Nat → Option Nat} (a : IsD n M s f) : ∀ k p, f p = some k → Wk n M k s p
  | 0, p, h => (a.zero p h).symm
  | k + 1, p, h => by
    obtain ⟨q, hq, h1, h2⟩ := a.step p k h
    exact ⟨q, hq, a.walk k q h1, h2⟩
theorem IsD.le {n : Nat} {M : Nat → Nat → Bool} {s : Nat} {f : Nat → Option Nat} (a : IsD n M s f) : ∀ k p, p < n → Wk n M k s p → ∃ j, f p = some j ∧ j ≤ k
  | 0, p, _, h => ⟨0, by rw [← (show s = p from h)]; exact a.src, Nat.le_refl _⟩
  | k + 1, p, hp, ⟨r, hr, h1, h2⟩ => by
    obtain ⟨j, e, l⟩ := a.le k r hr h1
    obtain ⟨i, e2, l2⟩ := a.close p r j hp e h2
    exact ⟨i, e2, by omega⟩
theorem IsD.symm {n : Nat} {M : Nat → Nat → Bool} (sy : ∀ p q, M p q = M q p) {s t : Nat} {f g : Nat → Option Nat} (a : IsD n M s f) (b : IsD n M t g) : f t = g s := by
  have hs := a.lt s 0 a.src
  have ht := b.lt t 0 b.src
  have key : ∀ {s t f g}, IsD n M s f → IsD n M t g → ∀ k, f t = some k → ∃ j, g s = some j ∧ j ≤ k := fun {s t f g} a b k h =>
    b.le k s (a.lt s 0 a.src) (Wk.rev sy (b.lt t 0 b.src) (a.walk k t h))
  cases hf : f t with
  | none =>
    cases hg : g s with
    | none => rfl
    | some k => obtain ⟨j, e, _⟩ := key b a k hg; rw [hf] at e; cases e
  | some k =>
    obtain ⟨j, e, l⟩ := key a b k hf
    obtain ⟨i, e2, l2⟩ := key b a j e
    rw [hf] at e2; cases e2
    rw [e, show j = k by omega]
def lk (p : Nat) : List (Nat × Nat) → Option Nat
  | [] => none
  | e :: l => if p = e.1 then some e.2 else lk p l
theorem lk_mem {p k : Nat} : ∀ {l : List (Nat × Nat)}, lk p l = some k → (p, k) ∈ l
  | [], h => by cases h
  | e :: l, h => by
    unfold lk at h
    split at h
    · rename_i e1; cases h; subst e1; exact List.mem_cons_self ..
    · exact List.mem_cons_of_mem _ (lk_mem h)
theorem lk_none {p : Nat} : ∀ {l : List (Nat × Nat)}, lk p l = none ↔ ∀ e ∈ l, e.1 ≠ p
  | [] => by simp [lk]
  | e :: l => by
    unfold lk
    split
    · rename_i h; constructor
      · intro h2; cases h2
      · intro h2; exact absurd h.symm (h2 e (List.mem_cons_self ..))
    · rename_i h
      rw [lk_none (l := l)]
      constructor
      · intro h2 e' he'
        rcases List.mem_cons.1 he' with rfl | h3
        · exact fun h4 => h h4.symm
        · exact h2 e' h3
      · intro h2 e' he'; exact h2 e' (List.mem_cons_of_mem _ he')
theorem lk_of_mem {p k : Nat} : ∀ {l : List (Nat × Nat)}, (l.map (·.1)).Nodup → (p, k) ∈ l → lk p l = some k
  | [], _, h => by simp at h
  | e :: l, hn, h => by
    rw [List.map_cons, List.nodup_cons] at hn
    unfold lk
    rcases List.mem_cons.1 h with rfl | h1
    · simp
    · rw [if_neg, lk_of_mem hn.2 h1]
      intro e1; exact hn.1 (List.mem_map.2 ⟨(p, k), h1, e1⟩)
theorem lk_append {p : Nat} (l r : List (Nat × Nat)) : lk p (l ++ r) = match lk p l with | some k => some k | none => lk p r := by
  induction l with
  | nil => rfl
  | cons e l ih => simp only [List.cons_append, lk]; split <;> simp_all
structure Bfs (n : Nat) (M : Nat → Nat → Bool) (s : Nat) (es : List (Nat × Nat)) (m c : Nat) : Prop where
  nodup : (es.map (·.1)).Nodup
  lt : ∀ e ∈ es, e.1 < n
  head : (s, 0) ∈ es
  zero : ∀ e ∈ es, e.2 = 0 → e.1 = s
  sorted : ∀ i j (hi : i < es.length) (hj : j < es.length), i ≤ j → es[i].2 ≤ es[j].2
  near : ∀ (h : m < es.length), ∀ e ∈ es, e.2 ≤ es[m].2 + 1
  step : ∀ e ∈ es, ∀ k, e.2 = k + 1 → ∃ q ∈ es, q.2 = k ∧ M q.1 e.1 = true
  close : ∀ i (hi : i < es.length), i < m → ∀ p, p < n → M es[i].1 p = true → ∃ e ∈ es, e.1 = p ∧ e.2 ≤ es[i].2 + 1
  part : ∀ (h : m < es.length), ∀ p, p < c → M es[m].1 p = true → ∃ e ∈ es, e.1 = p ∧ e.2 ≤ es[m].2 + 1
  ml : m ≤ es.length
  bd : ∀ i (hi : i < es.length), es[i].2 ≤ i
theorem Bfs.init (n : Nat) (M : Nat → Nat → Bool) {s : Nat} (hs : s < n) : Bfs n M s [(s, 0)] 0 0 :=
  { nodup := by simp
    lt := fun e he => by rw [List.mem_singleton] at he; subst he; exact hs
    head := List.mem_singleton_self _
    zero := fun e he _ => by rw [List.mem_singleton] at he; subst he; rfl
    sorted := fun i j hi hj _ => by
      have hi' : i = 0 := by simp at hi; omega
      have hj' : j = 0 := by simp at hj; omega
      subst hi'; subst hj'; exact Nat.le_refl _
    near := fun h e he => by rw [List.mem_singleton] at he; subst he; exact Nat.zero_le _
    step := fun e he k hk => by rw [List.mem_singleton] at he; subst he; cases hk
    close := fun i hi h => by omega
    part := fun h p hp => by omega
    ml := Nat.zero_le _
    bd := fun i hi => by
      have hi' : i = 0 := by simp at hi; omega
      subst hi'; exact Nat.le_refl _ }
theorem Bfs.skip {n : Nat} {M : Nat → Nat → Bool} {s : Nat} {es : List (Nat × Nat)} {m c : Nat} (a : Bfs n M s es m c) (h : m < es.length) (hc : lk c es ≠ none ∨ M es[m].1 c = false) : Bfs n M s es m (c + 1) := by
  refine ⟨a.nodup, a.lt, a.head, a.zero, a.sorted, a.near, a.step, a.close, fun h p hp hM => ?_, a.ml, a.bd⟩
  by_cases e : p = c
  · subst e
    rcases hc with hc | hc
    · cases hl : lk p es with
      | none => exact absurd hl hc
      | some k => exact ⟨(p, k), lk_mem hl, rfl, a.near h _ (lk_mem hl)⟩
    · rw [hc] at hM; cases hM
  · exact a.part h p (by omega) hM
theorem Bfs.add {n : Nat} {M : Nat → Nat → Bool} {s : Nat} {es : List (Nat × Nat)} {m c : Nat} (a : Bfs n M s es m c) (h : m < es.length) (hcn : c < n) (h1 : lk c es = none) (h2 : M es[m].1 c = true) : Bfs n M s (es ++ [(c, es[m].2 + 1)]) m (c + 1) := by
  have hm' : m < (es ++ [(c, es[m].2 + 1)]).length := by rw [List.length_append]; omega
  have em : (es ++ [(c, es[m].2 + 1)])[m] = es[m] := List.getElem_append_left h
  refine ⟨?_, ?_, List.mem_append_left _ a.head, ?_, ?_, ?_, ?_, ?_, ?_, by rw [List.length_append]; have := a.ml; omega, fun i hi => ?_⟩
  · rw [List.map_append, List.nodup_append]
    refine ⟨a.nodup, by simp, fun x hx y hy e => ?_⟩
    simp at hy
    obtain ⟨e', he', rfl⟩ := List.mem_map.1 hx
    exact lk_none.1 h1 e' he' (by rw [e, hy])
  · intro e he
    rcases List.mem_append.1 he with h' | h'
    · exact a.lt e h'
    · rw [List.mem_singleton] at h'; subst h'; exact hcn
  · intro e he hz
    rcases List.mem_append.1 he with h' | h'
    · exact a.zero e h' hz
    · rw [List.mem_singleton] at h'; subst h'; cases hz
  · intro i j hi hj hij
    rw [List.length_append, List.length_singleton] at hi hj
    by_cases h3 : j < es.length
    · rw [List.getElem_append_left (by omega), List.getElem_append_left h3]; exact a.sorted i j (by omega) h3 hij
    · have ej : (es ++ [(c, es[m].2 + 1)])[j] = (c, es[m].2 + 1) := by
        have : j = es.length := by omega
        subst this; simp
      rw [ej]
      by_cases h4 : i < es.length
      · rw [List.getElem_append_left h4]; exact a.near h _ (List.getElem_mem h4)
      · have ei : (es ++ [(c, es[m].2 + 1)])[i] = (c, es[m].2 + 1) := by
          have : i = es.length := by omega
          subst this; simp
        rw [ei]; exact Nat.le_refl _
  · intro h' e he
    rw [em]
    rcases List.mem_append.1 he with h3 | h3
    · exact a.near h e h3
    · rw [List.mem_singleton] at h3; subst h3; exact Nat.le_refl _
  · intro e he k hk
    rcases List.mem_append.1 he with h3 | h3
    · obtain ⟨q, hq, h4⟩ := a.step e h3 k hk
      exact ⟨q, List.mem_append_left _ hq, h4⟩
    · rw [List.mem_singleton] at h3; subst h3
      exact ⟨es[m], List.mem_append_left _ (List.getElem_mem h), by simp only at hk; omega, h2⟩
  · intro i hi him p hp hM
    have hil : i < es.length := by omega
    rw [List.getElem_append_left hil] at hM ⊢
    obtain ⟨e, he, h3⟩ := a.close i hil him p hp hM
    exact ⟨e, List.mem_append_left _ he, h3⟩
  · intro h' p hp hM
    rw [em] at hM ⊢
    by_cases e : p = c
    · subst e; exact ⟨(p, es[m].2 + 1), by simp, rfl, Nat.le_refl _⟩
    · obtain ⟨e', he', h3⟩ := a.part h p (by omega) hM
      exact ⟨e', List.mem_append_left _ he', h3⟩
  · rw [List.length_append, List.length_singleton] at hi
    by_cases h4 : i < es.length
    · rw [List.getElem_append_left h4]; exact a.bd i h4
    · have ei : (es ++ [(c, es[m].2 + 1)])[i] = (c, es[m].2 + 1) := by
        have : i = es.length := by omega
        subst this; simp
      rw [ei]
      have := a.bd m h
      show es[m].2 + 1 ≤ i
      omega
theorem Bfs.next {n : Nat} {M : Nat → Nat → Bool} {s : Nat} {es : List (Nat × Nat)} {m : Nat} (a : Bfs n M s es m n) (h : m < es.length) : Bfs n M s es (m + 1) 0 := by
  refine ⟨a.nodup, a.lt, a.head, a.zero, a.sorted, fun h' e he => ?_, a.step, fun i hi him p hp hM => ?_, fun h' p hp => by omega, by omega, a.bd⟩
  · have h1 := a.near h e he
    have h2 := a.sorted m (m + 1) h h' (by omega)
    omega
  · by_cases e : i = m
    · subst e; exact a.part h p hp hM
    · exact a.close i hi (by omega) p hp hM
theorem Bfs.done {n : Nat} {M : Nat → Nat → Bool} {s : Nat} {es : List (Nat × Nat)} {c : Nat} (a : Bfs n M s es es.length c) : IsD n M s fun p => lk p es := by
  refine ⟨lk_of_mem a.nodup a.head, fun p h => a.zero _ (lk_mem h) rfl, fun p k h => ?_, fun p q k hp h hM => ?_, fun p k h => a.lt _ (lk_mem h)⟩
  · obtain ⟨q, hq, h1, h2⟩ := a.step _ (lk_mem h) k rfl
    exact ⟨q.1, a.lt q hq, lk_of_mem a.nodup (by rw [← h1]; exact hq), h2⟩
  · obtain ⟨i, hi, e⟩ := List.getElem_of_mem (lk_mem h)
    obtain ⟨e', he', h1, h2⟩ := a.close i hi hi p hp (by rw [e]; exact hM)
    rw [e] at h2
    exact ⟨e'.2, lk_of_mem a.nodup (by rw [← h1]; exact he'), h2⟩
theorem nodup_le : ∀ (n : Nat) (l : List Nat), l.Nodup → (∀ x ∈ l, x < n) → l.length ≤ n
  | 0, l, _, h => by
    cases l with
    | nil => exact Nat.le_refl _
    | cons a l => have := h a (List.mem_cons_self ..); omega
  | n + 1, l, hn, h => by
    have h1 := nodup_le n (l.erase n) (hn.erase n) fun x hx => by
      have h2 := h x (List.mem_of_mem_erase hx)
      have h3 : x ≠ n := fun e => by subst e; exact (hn.not_mem_erase) hx
      omega
    have h2 := List.length_erase_le (a := n) (l := l)
    by_cases hm : n ∈ l
    · rw [List.length_erase_of_mem hm] at h1; omega
    · rw [List.erase_of_not_mem hm] at h1; omega
theorem Bfs.len {n : Nat} {M : Nat → Nat → Bool} {s : Nat} {es : List (Nat × Nat)} {m c : Nat} (a : Bfs n M s es m c) : es.length ≤ n := by
  have h1 := nodup_le n (es.map (·.1)) a.nodup fun x hx => by
    obtain ⟨e, he, rfl⟩ := List.mem_map.1 hx
    exact a.lt e he
  simpa using h1
theorem IsD.path {n : Nat} {M : Nat → Nat → Bool} {s : Nat} {f : Nat → Option Nat} (a : IsD n M s f) : ∀ k p, f p = some k → ∃ l : List Nat, l.length = k + 1 ∧ l.Nodup ∧ ∀ x ∈ l, x < n ∧ ∃ j, j ≤ k ∧ f x = some j
  | 0, p, h => ⟨[p], rfl, by simp, fun x hx => by rw [List.mem_singleton] at hx; subst hx; exact ⟨a.lt _ _ h, 0, Nat.le_refl _, h⟩⟩
  | k + 1, p, h => by
    obtain ⟨q, hq, h1, h2⟩ := a.step p k h
    obtain ⟨l, l1, l2, l3⟩ := a.path k q h1
    refine ⟨p :: l, by simp [l1], List.nodup_cons.2 ⟨fun hp => ?_, l2⟩, fun x hx => ?_⟩
    · obtain ⟨_, j, hj, e⟩ := l3 p hp
      rw [h] at e; cases e; omega
    · rcases List.mem_cons.1 hx with rfl | hx
      · exact ⟨a.lt _ _ h, k + 1, Nat.le_refl _, h⟩
      · obtain ⟨hl, j, hj, e⟩ := l3 x hx
        exact ⟨hl, j, by omega, e⟩
theorem IsD.bd {n : Nat} {M : Nat → Nat → Bool} {s : Nat} {f : Nat → Option Nat} (a : IsD n M s f) {k p : Nat} (h : f p = some k) : k < n := by
  obtain ⟨l, l1, l2, l3⟩ := a.path k p h
  have := nodup_le n l l2 fun x hx => (l3 x hx).1
  omega
end Go.Ab.Try
set_option linter.unusedSimpArgs false
set_option linter.unusedVariables false
namespace Go.Ab
noncomputable def slcFrom (h : H) (sz : Nat) (x k : V) : Option V := q_slc .nil h sz x (some (.c k)) none none
theorem q_slc_from (tm : T V) (h : H) (sz : Nat) (x : V) (y : Opd) : q_slc tm h sz x (some y) none none = slcFrom h sz x (y.ev tm) := rfl
theorem preV_app : ∀ (l r : List V), preV l (l ++ r) = true
  | [], _ => rfl
  | v :: l, r => by simp only [List.cons_append, preV, vbeq_refl, preV_app l r]
namespace Try
def QAt (h0 h : H) (x : V) (l : List Int) : Prop := h0.Sub h ∧
  ((∃ b o cs, x = .sl b o l.length (.fix l.length) ∧ h0.next ≤ b ∧ b < h.next ∧ h.get b = some (.cells .rw cs) ∧ (l.length ≠ 0 → (cs.drop o).take l.length = l.map iv ∧ o + l.length ≤ cs.length)) ∨
   (∃ b a q cs, x = .sl b a l.length (.slk a q) ∧ h0.next ≤ b ∧ b < h.next ∧ h.get b = some (.cells (.gr 1) cs) ∧ cs.drop a = l.map iv ∧ a + l.length = cs.length))
theorem QAt.mono {h0 h h' : H} {x : V} {l : List Int} (a : QAt h0 h x l) (s : h.Sub h') : QAt h0 h' x l := by
  obtain ⟨a0, a1⟩ := a
  refine ⟨a0.trans s, ?_⟩
  have := s.next
  rcases a1 with ⟨b, o, cs, e, l1, l2, g, r⟩ | ⟨b, o, q, cs, e, l1, l2, g, r⟩
  · exact .inl ⟨b, o, cs, e, l1, by omega, s.get g, r⟩
  · exact .inr ⟨b, o, q, cs, e, l1, by omega, s.get g, r⟩
theorem QAt.keep {h0 h h' : H} {S : Nat → Prop} {x : V} {l : List Int} (a : QAt h0 h x l) (k : Keeps S h h') (s : h0.Sub h') (n : ∀ b, blkOf x b → ¬ S b) : QAt h0 h' x l := by
  obtain ⟨a0, a1⟩ := a
  refine ⟨s, ?_⟩
  have := k.1
  rcases a1 with ⟨b, o, cs, e, l1, l2, g, r⟩ | ⟨b, o, q, cs, e, l1, l2, g, r⟩
  · exact .inl ⟨b, o, cs, e, l1, by omega, k.2 _ _ g (n b ⟨_, _, _, e⟩), r⟩
  · exact .inr ⟨b, o, q, cs, e, l1, by omega, k.2 _ _ g (n b ⟨_, _, _, e⟩), r⟩
theorem map_flat (l : List Int) : (l.map encI).flatten = l.map iv := by
  induction l with
  | nil => rfl
  | cons a l ih => simp only [List.map_cons, List.flatten_cons, ih, encI]; rfl
theorem QAt.sl {h0 h : H} {x : V} {l : List Int} (a : QAt h0 h x l) (hl : l.length ≤ 1000000) : SlAt h x 1 (l.map encI) := by
  obtain ⟨a0, a1⟩ := a
  have hsz : ∀ r ∈ l.map encI, r.length = 1 := by simp [encI]
  refine ⟨hsz, by simp; omega, ?_⟩
  rcases a1 with ⟨b, o, cs, e, l1, l2, g, r⟩ | ⟨b, o, q, cs, e, l1, l2, g, r1, r2⟩
  · by_cases h0 : l.length = 0
    · have : l = [] := List.length_eq_zero_iff.1 h0
      subst this
      exact .inr ⟨b, o, _, cs, e, .inl rfl, by simp [getN, takeN, dropN]⟩
    · obtain ⟨r1, r2⟩ := r h0
      exact .inr ⟨b, o, _, cs, by rw [e, List.length_map], .inr (cells_of g), getN_eq.2 ⟨by rw [List.length_map, Nat.mul_one, r1, map_flat], by rw [List.length_map]; omega⟩⟩
  · exact .inr ⟨b, o, _, cs, by rw [e, List.length_map], .inr (cells_of g), getN_eq.2 ⟨by rw [List.length_map, Nat.mul_one, r1, map_flat, ← List.length_map (f := iv), List.take_length], by rw [List.length_map]; omega⟩⟩
theorem QAt.blk {h0 h : H} {x : V} {l : List Int} (a : QAt h0 h x l) {b : Nat} (hb : blkOf x b) : h0.next ≤ b ∧ b < h.next ∧ ∃ k cs, h.get b = some (.cells k cs) := by
  obtain ⟨_, _, _, rfl⟩ := hb
  rcases a.2 with ⟨b, o, cs, e, l1, l2, g, r⟩ | ⟨b, o, q, cs, e, l1, l2, g, r1, r2⟩
  · cases e; exact ⟨l1, l2, _, _, g⟩
  · cases e; exact ⟨l1, l2, _, _, g⟩
theorem QAt.tail {h0 h : H} {x : V} {v : Int} {l : List Int} (a : QAt h0 h x (v :: l)) : ∃ y, slcFrom h 1 x (.int .i64 1) = some y ∧ QAt h0 h y l ∧ ∀ b, blkOf y b → blkOf x b := by
  obtain ⟨a0, a1⟩ := a
  have hi : ∀ tm : T V, (Opd.c (.int .i64 1)).ev tm = .int .i64 1 := fun _ => rfl
  have e1 : Nat.ble 1 (l.length + 1) = true := by simp
  have e2 : Nat.ble (l.length + 1) (l.length + 1) = true := by simp
  have hn : natK? (.int .i64 1) = some 1 := rfl
  have hb3 : bnds 1 (l.length + 1) (l.length + 1) = true := by simp only [bnds, e1, e2]
  rcases a1 with ⟨b, o, cs, e, l1, l2, g, r⟩ | ⟨b, o, q, cs, e, l1, l2, g, r1, r2⟩
  · have e' : x = .sl b o (l.length + 1) (.fix (l.length + 1)) := e
    subst e'
    obtain ⟨r1, r2⟩ := r (by simp)
    refine ⟨.sl b (bsel (Nat.beq (l.length + 1) 1) o (o + 1 * 1)) l.length (.fix l.length), ?_, ?_, ?_⟩
    · simp only [slcFrom, q_slc, bnd3, natO, hi, hn, hb3, og_true, e2, subO, sub, Nat.add_sub_cancel]
    · refine ⟨a0, .inl ⟨b, _, cs, rfl, l1, l2, g, fun h0 => ?_⟩⟩
      have hne : Nat.beq (l.length + 1) 1 = false := by
        cases hb : Nat.beq (l.length + 1) 1 with
        | false => rfl
        | true => have := Nat.eq_of_beq_eq_true hb; omega
      rw [hne, bsel_false, Nat.mul_one]
      simp only [List.length_cons, List.map_cons] at r1 r2
      have h3 : (cs.drop (o + 1)).take l.length = ((cs.drop o).take (l.length + 1)).drop 1 := by rw [List.drop_take, List.drop_drop]; simp
      exact ⟨by rw [h3, r1]; rfl, by omega⟩
    · rintro b' ⟨_, _, _, e⟩; cases e; exact ⟨_, _, _, rfl⟩
  · have e' : x = .sl b o (l.length + 1) (.slk o q) := e
    subst e'
    simp only [List.length_cons] at r2
    have e4 : Nat.blt 0 (l.length + 1 + (l.length + 1)) = true := by rw [Nat.blt_eq]; omega
    have e5 : Nat.beq o (o * 1) = true := by simp
    have e7 : Nat.ble (o + (l.length + 1) * 1) cs.length = true := by simp; omega
    have e6 : Nat.beq 1 1 = true := rfl
    have e8 : slkRoom h b o 1 = l.length + 1 := by simp only [slkRoom, g, lenN_eq, Nat.div_one]; omega
    refine ⟨.sl b (o + 1 * 1) (l.length + 1 - 1) (.slk (o + 1) o), ?_, ?_, ?_⟩
    · simp only [slcFrom, q_slc, slkOk, g, lenN_eq, e5, e6, e7, og_true, e8, bnd3, natO, hi, hn, hb3, e2, subS, e4]
    · refine ⟨a0, .inr ⟨b, o + 1, o, cs, by simp, l1, l2, g, ?_, by omega⟩⟩
      have : cs.drop (o + 1) = (cs.drop o).drop 1 := by rw [List.drop_drop]
      rw [this, r1]; rfl
    · rintro b' ⟨_, _, _, e⟩; cases e; exact ⟨_, _, _, rfl⟩
theorem QAt.push {h0 h : H} {x y : V} {l : List Int} {v : Int} {Q : V → H → Prop} (a : QAt h0 h x l) (hw0 : h0.wf) (hl : l.length ≤ 1000) (hy : SlAt h y 1 [[iv v]])
    (q : ∀ h', QAt h0 h' (.sl h.next 0 (l.length + 1) (.slk 0 0)) (l ++ [v]) → Keeps (blkOf x) h h' → h'.next = h.next + 1 →
      (∀ b o v0 l', (∃ n c, x = .sl b o n c) → l = v0 :: l' → ∀ hh : H, hh.get b = h'.get b → hh.get h.next = h'.get h.next → ldC (hh.cells b) (ldOld hh b false 1 o) false 1 o = some (iv v0)) → Q (.sl h.next 0 (l.length + 1) (.slk 0 0)) h') : P2 (e_app' h 1 8 x y) Q := by
  have hel := (a.sl (by omega)).elems
  have hey := hy.elems
  obtain ⟨a0, a1⟩ := a
  have hne : l.map iv ++ [iv v] = (l ++ [v]).map iv := by simp
  rw [e_app_eq, hey.1, hey.2]
  simp only [ob_some, List.length_singleton, List.flatten_cons, List.flatten_nil, List.append_nil]
  have ho : allOne [iv v] = true := rfl
  rcases a1 with ⟨b, o, cs, rfl, l1, l2, g, r⟩ | ⟨b, o, qq, cs, rfl, l1, l2, g, r1, r2⟩
  · rw [map_flat] at hel
    rw [e_app_full (by omega) hel.1 (by omega) (by omega), grown_eq, P2_some]
    refine q _ ⟨a0.add _, .inr ⟨h.next, 0, 0, _, by simp, a0.next, by rw [H.next_add]; omega, get_add_new rfl, by rw [List.drop_zero, hne], by simp⟩⟩ ⟨by rw [H.next_add]; omega, fun c z hc _ => by rw [get_add_old (a0.wf c z hc)]; exact hc⟩ (H.next_add _ _) ?_
    rintro b' o' v0 l' ⟨n, c, e⟩ el hh hb hn
    cases e
    obtain ⟨r1, r2⟩ := r (by rw [el]; simp)
    have hc : hh.cells b = some cs := cells_of (by rw [hb, get_add_old l2]; exact g)
    rw [hc, ldC_false, nth_eq]
    have h1 : ((cs.drop o).take l.length)[0]? = cs[o]? := by
      rw [List.getElem?_take_of_lt (by rw [el]; simp), List.getElem?_drop, Nat.add_zero]
    rw [← h1, r1, el]; rfl
  · have e5 : Nat.beq o (o * 1) = true := by simp
    have e6 : Nat.beq 1 1 = true := rfl
    have e7 : Nat.ble (o + (l.length + (0 + 1)) * 1) cs.length = false := by
      cases hb : Nat.ble (o + (l.length + (0 + 1)) * 1) cs.length with
      | false => rfl
      | true => have := Nat.le_of_ble_eq_true hb; omega
    have e8 : Nat.beq cs.length (o + l.length * 1) = true := by simp; omega
    have er : e_app h 1 8 (.sl b o l.length (.slk o qq)) (0 + 1) [iv v] = some (grownO h b o 1 (l.length + (0 + 1)) (cs.drop o) (cs.drop o ++ [iv v])) := by
      simp only [e_app, appSlk, g, lenN_eq, e5, e6, e7, e8, og_true, ho, room_ok (show (l.length + (0 + 1)) * 8 ≤ 1099511627776 by omega) (show l.length + (0 + 1) ≤ 1099511627776 by omega), dropN_eq, appN_eq]
    rw [show (1 : Nat) = 0 + 1 from rfl] at *
    rw [er, grownO_eq, P2_some]
    have hbn : h.next ≠ b := by omega
    refine q _ ⟨(a0.add _).set l1 (by rw [H.next_add]; omega) hw0 _, .inr ⟨h.next, 0, 0, _, by simp, a0.next, by rw [H.next_set, H.next_add]; omega, by rw [get_set_other hbn, get_add_new rfl], by rw [List.drop_zero, r1, hne], by rw [r1, hne]; simp⟩⟩
      ⟨by rw [H.next_set, H.next_add]; omega, fun c z hc hx => by
        have hne : c ≠ b := fun e => hx ⟨_, _, _, by rw [e]⟩
        rw [get_set_other hne, get_add_old (a0.wf c z hc)]; exact hc⟩ (by rw [H.next_set, H.next_add]) ?_
    rintro b' o' v0 l' ⟨n, c, e⟩ el hh hb hn
    cases e
    rw [get_set_same rfl] at hb
    rw [get_set_other hbn, get_add_new rfl] at hn
    have hc : hh.cells b = none := by simp only [H.cells, hb]
    have hd : cs.drop o = iv v0 :: l'.map iv := by rw [r1, el]; rfl
    rw [hc]
    have hbl : Nat.ble o o = true := by simp
    simp only [ldC, ldOld, hb, hn, preV_app, hbl, Nat.sub_self, cellsAt, hd, nth]
end Try
end Go.Ab
set_option linter.unusedSimpArgs false
set_option linter.unusedVariables false
namespace Go.Ab.Try
def entA (es : List (Nat × Nat)) : List (Int × V) := es.map fun e => ((e.1 : Int), .int .i64 (e.2 : Int))
theorem lkA_ent (p : Nat) : ∀ (es : List (Nat × Nat)), lkA (p : Int) (entA es) = (lk p es).map fun k => .int .i64 (k : Int)
  | [] => rfl
  | e :: es => by
    have ih := lkA_ent p es
    simp only [entA, List.map_cons, lkA, lk] at *
    by_cases h : p = e.1
    · rw [if_pos h, if_pos (by rw [h])]; rfl
    · rw [if_neg h, if_neg (by omega), ih]
theorem encA_app (l r : List (Int × V)) : encA (l ++ r) = encA l ++ encA r := by simp [encA]
theorem men_new {h : H} {b : Nat} {es : List (Nat × Nat)} {p : Nat} (hb : h.get b = some (.map (encA (entA es)))) (hp : lk p es = none) : e_men h (.int .i64 0) (.map b) (.int .i64 (p : Int)) = some (.tup [.int .i64 0, .int .i64 (es.length : Int)], h.set b (.map (encA (entA (es ++ [(p, 0)]))))) := by
  have h1 := lkA_ent p es
  rw [hp] at h1
  have e1 : (encA (entA es)).length = es.length := by simp [encA, entA]
  have e2 : encA (entA (es ++ [(p, 0)])) = encA (entA es) ++ [(.int .i64 (p : Int), .int .i64 0)] := by simp [entA, encA_app]; rfl
  simp only [e_men, hb, findK_A, h1, Option.map_none, lenE_eq, appE_eq, e1, e2]
  rfl
theorem lkC_none {es : List (Nat × Nat)} {p : Nat} (h : lk p es = none) : lkC (some (.map (encA (entA es)))) (.int .i64 0) (.int .i64 (p : Int)) true = some (.tup [.int .i64 0, .bool false]) := by
  rw [lkC_map, lkA_ent, h]; rfl
theorem lkC_some {es : List (Nat × Nat)} {p k : Nat} (h : lk p es = some k) : lkC (some (.map (encA (entA es)))) (.int .i64 0) (.int .i64 (p : Int)) true = some (.tup [.int .i64 (k : Int), .bool true]) := by
  rw [lkC_map, lkA_ent, h]; rfl
theorem lkC_val {es : List (Nat × Nat)} {p k : Nat} (h : lk p es = some k) : lkC (some (.map (encA (entA es)))) (.int .i64 0) (.int .i64 (p : Int)) false = some (.int .i64 (k : Int)) := by
  rw [lkC_map, lkA_ent, h]; rfl
theorem setE_last (k : V) (x z : V) : ∀ (l : List (V × V)), setE l.length x (l ++ [(k, z)]) = some (l ++ [(k, x)])
  | [] => rfl
  | e :: l => by simp only [List.length_cons, List.cons_append, setE, setE_last k x z l]
theorem mst_new {h : H} {b : Nat} {es : List (Nat × Nat)} {p k : Nat} (hb : h.get b = some (.map (encA (entA (es ++ [(p, 0)]))))) : e_mst h (.map b) (.int .i64 (es.length : Int)) (.int .i64 (k : Int)) = some (.und, h.set b (.map (encA (entA (es ++ [(p, k)]))))) := by
  have e1 : (encA (entA es)).length = es.length := by simp [encA, entA]
  have e2 : encA (entA (es ++ [(p, 0)])) = encA (entA es) ++ [(.int .i64 (p : Int), .int .i64 ((0 : Nat) : Int))] := by simp [entA, encA_app]; rfl
  have e3 : encA (entA (es ++ [(p, k)])) = encA (entA es) ++ [(.int .i64 (p : Int), .int .i64 (k : Int))] := by simp [entA, encA_app]; rfl
  have h1 := setE_last (.int .i64 (p : Int)) (.int .i64 (k : Int)) (.int .i64 ((0 : Nat) : Int)) (encA (entA es))
  rw [e1] at h1
  simp only [e_mst, hb, nat_cst, e2, h1, e3]
def MM (t : Tb) (q p : Nat) : Bool := matchB t p q
theorem MM_comm {t : Tb} (g : Good t) (p q : Nat) : MM t p q = MM t q p := by
  unfold MM matchB
  cases hp : t.pieces[p]? with
  | none => cases hq : t.pieces[q]? <;> rfl
  | some a =>
    cases hq : t.pieces[q]? with
    | none => rfl
    | some b => exact alike_comm g b a
def keysQ (es : List (Nat × Nat)) (m : Nat) : List Int := (es.drop m).map fun e => (e.1 : Int)
set_option maxHeartbeats 4000000 in
theorem steps_ev {h : H} {d : Nat} {t : Tb} (hw : h.wf) (hd : DkAt h d t) (g : Good t) {s : Nat} (hs : s < t.pieces.length) (Q : V → H → Prop)
    (q : ∀ b es h', h.Sub h' → h.next ≤ b → h'.get b = some (.map (encA (entA es))) → IsD t.pieces.length (MM t) s (fun p => lk p es) → Q (.map b) h') : Ev fnG fastA (.fn 87 [] []) [.ptr d 0, .int .i64 (s : Int)] h Q := by
  have gp := g.pieces
  refine Ev_body (fd := c87) rfl rfl rfl ?_
  simp -implicitDefEqProofs (maxSteps := 999999) (disch := first | with_reducible rfl | omega | (simp only [nA, nS, nD] <;> omega) | fail) only [c87, go_sem, ← encA_nil, putA]
  have s1 : h.Sub ((h.add (.map (encA [((s : Int), .int .i64 0)]))).add (.cells .rw [.int .i64 (s : Int)])) := ((H.Sub.refl hw).add _).add _
  have gm : ((h.add (.map (encA [((s : Int), .int .i64 0)]))).add (.cells .rw [.int .i64 (s : Int)])).get h.next = some (.map (encA (entA [(s, 0)]))) := by simp -implicitDefEqProofs (maxSteps := 999999) (disch := first | with_reducible rfl | omega | (simp only [nA, nS, nD] <;> omega) | fail) only [go_sem]; rfl
  have gq : ((h.add (.map (encA [((s : Int), .int .i64 0)]))).add (.cells .rw [.int .i64 (s : Int)])).get (h.next + 1) = some (.cells .rw [.int .i64 (s : Int)]) := by simp -implicitDefEqProofs (maxSteps := 999999) (disch := first | with_reducible rfl | omega | (simp only [nA, nS, nD] <;> omega) | fail) only [go_sem]
  have nq : ((h.add (.map (encA [((s : Int), .int .i64 0)]))).add (.cells .rw [.int .i64 (s : Int)])).next = h.next + 2 := by simp only [H.next_add]
  generalize ((h.add (.map (encA [((s : Int), .int .i64 0)]))).add (.cells .rw [.int .i64 (s : Int)])) = h1 at s1 gm gq nq ⊢
  have q1 : QAt h h1 (.sl (h.next + 1) 0 1 (.fix 1)) (keysQ [(s, 0)] 0) := ⟨s1, .inl ⟨h.next + 1, 0, _, rfl, by omega, by omega, gq, fun _ => ⟨rfl, Nat.le_refl _⟩⟩⟩
  refine W_loop (fun k s' => ∃ tm hh x es m, s' = ⟨tm, hh, []⟩ ∧ QAt h hh x (keysQ es m) ∧ hh.get h.next = some (.map (encA (entA es))) ∧ (∀ b, blkOf x b → b ≠ h.next) ∧ Bfs t.pieces.length (MM t) s es m 0 ∧ k = t.pieces.length - m ∧ (Opd.t 0).ev tm = .ptr d 0 ∧ (Opd.t 5).ev tm = .map h.next ∧ (Opd.t 6).ev tm = x) ?_ t.pieces.length _
    ⟨_, _, _, [(s, 0)], 0, rfl, q1, gm, fun b hb => by have := hb; obtain ⟨_, _, _, e⟩ := this; cases e; omega, Bfs.init _ _ hs, rfl, (by simp [ev_c, ev_put] <;> rfl), (by simp [ev_c, ev_put] <;> rfl), (by simp [ev_c, ev_put] <;> rfl)⟩
  rintro k s' ⟨tm, hh, x, es, m, rfl, hq, hg, hbm, B, hk, t0, t5, t6⟩
  have hlen := B.len
  have hml := B.ml
  have hlq : (keysQ es m).length = es.length - m := by simp [keysQ]
  have sl := hq.sl (by omega)
  have lenx := sl.lenE
  have sh := hq.1
  by_cases he : m < es.length
  case neg =>
    have hz : ¬ (0 : Int) < ((keysQ es m).length : Int) := by omega
    simp -implicitDefEqProofs (maxSteps := 999999) (disch := first | with_reducible rfl | omega | (simp only [nA, nS, nD] <;> omega) | fail) only [go_sem, t0, t5, t6, lenx, hz]
    have hm : m = es.length := by omega
    subst hm
    exact q _ es _ sh (Nat.le_refl _) hg B.done
  have hz : (0 : Int) < ((keysQ es m).length : Int) := by omega
  obtain ⟨E, L, P, gd, aE, aL, aP⟩ := hd.mono sh
  have lenP := aP.lenE
  have hch : ∀ b o : Nat, q_chk (.ptr b o) = some (.ptr b o) := fun _ _ => rfl
  simp -implicitDefEqProofs (maxSteps := 999999) (disch := first | with_reducible rfl | omega | (simp only [nA, nS, nD] <;> omega) | fail) only [go_sem, t0, t5, t6, lenx, hz, cells_of gd, lenP]
  obtain ⟨e0, he0⟩ : ∃ e0, es[m] = e0 := ⟨_, rfl⟩
  have he0' : es[m]? = some e0 := by rw [List.getElem?_eq_getElem he, he0]
  refine W.mono (Q := fun x1 s' => x1 = .ext 2 ∧ ∃ tm hh x es, s' = ⟨tm, hh, []⟩ ∧ QAt h hh x (keysQ es m) ∧ hh.get h.next = some (.map (encA (entA es))) ∧ (∀ b, blkOf x b → b ≠ h.next) ∧ Bfs t.pieces.length (MM t) s es m t.pieces.length ∧ es[m]? = some e0 ∧ (Opd.t 0).ev tm = .ptr d 0 ∧ (Opd.t 5).ev tm = .map h.next ∧ (Opd.t 6).ev tm = x)
   (W_count t.pieces.length (fun c s' => ∃ tm hh x es, s' = ⟨tm, hh, []⟩ ∧ QAt h hh x (keysQ es m) ∧ hh.get h.next = some (.map (encA (entA es))) ∧ (∀ b, blkOf x b → b ≠ h.next) ∧ Bfs t.pieces.length (MM t) s es m c ∧ es[m]? = some e0 ∧ (Opd.t 0).ev tm = .ptr d 0 ∧ (Opd.t 5).ev tm = .map h.next ∧ (Opd.t 6).ev tm = x ∧ (Opd.t 25).ev tm = .int .i64 (t.pieces.length : Int) ∧ (Opd.t 26).ev tm = .int .i64 (c : Int))
    ?_ ?_ (i := 0) (Nat.zero_le _) ⟨_, _, _, es, rfl, hq, hg, hbm, B, he0', (by simp [ev_c, ev_put, t0] <;> rfl), (by simp [ev_c, ev_put, t5] <;> rfl), (by simp [ev_c, ev_put, t6] <;> rfl), (by simp [ev_c, ev_put] <;> rfl), (by simp [ev_c, ev_put] <;> rfl)⟩) fun x1 s' hx1 => ?_
  · clear lenx lenP aE aL aP gd sl hlq hml hlen B hbm hg hq hz sh he0' he0 he t0 t5 t6
    rintro c s' hc ⟨tm, hh, x, es, rfl, hq, hg, hbm, B, he0, t0, t5, t6, t25, t26⟩
    have hc' : (c : Int) < (t.pieces.length : Int) := by omega
    have hlen := B.len
    have sh := hq.1
    have he : m < es.length := by
      by_cases h : m < es.length
      · exact h
      · rw [List.getElem?_eq_none (by omega)] at he0; cases he0
    have he1 : es[m] = e0 := by rw [List.getElem?_eq_getElem he] at he0; exact Option.some.inj he0
    have hkq : keysQ es m = (e0.1 : Int) :: keysQ es (m + 1) := by
      unfold keysQ
      rw [List.drop_eq_getElem_cons he, he1]; rfl
    cases hl : lk c es with
    | some kk =>
      have hF := lkC_some hl
      simp -implicitDefEqProofs (maxSteps := 999999) (disch := first | with_reducible rfl | omega | (simp only [nA, nS, nD] <;> omega) | fail) only [go_sem, t0, t5, t6, t25, t26, hc', hg, hF, wr_succ]
      exact ⟨_, _, x, es, rfl, hq, hg, hbm, B.skip he (.inl (by rw [hl]; simp)), he0, (by simp [ev_c, ev_put, t0] <;> rfl), (by simp [ev_c, ev_put, t5] <;> rfl), (by simp [ev_c, ev_put, t6] <;> rfl), (by simp [ev_c, ev_put, t25] <;> rfl), (by simp [ev_c, ev_put] <;> rfl)⟩
    | none =>
      have hF := lkC_none hl
      have hlq : (keysQ es m).length = es.length - m := by simp [keysQ]
      have sl := hq.sl (by omega)
      have hl0 : 0 < (keysQ es m).length := by omega
      obtain ⟨b, o, cc, cs, ex, hcc, hqq, _, _, hn0⟩ := sl.at hl0
      have hv := hn0 (by omega)
      have h00 : (keysQ es m)[0] = (e0.1 : Int) := by simp [hkq]
      rw [h00] at hv
      simp only [encI] at hv
      have hv : nth o cs = some (.int .i64 (e0.1 : Int)) := by simpa using hv
      have hp0 : e0.1 < t.pieces.length := B.lt _ (he1 ▸ List.getElem_mem he)
      have hz0 : nat? (.int .i64 0) = some 0 := rfl
      simp -implicitDefEqProofs (maxSteps := 999999) (disch := first | with_reducible rfl | omega | (simp only [nA, nS, nD] <;> omega) | fail) only [go_sem, t0, t5, t6, t25, t26, hc', hg, hF, hqq hz0, hcc, hv]
      refine match_ev sh.wf (hd.mono sh) g hc hp0 _ fun h2 s2 => ?_
      have hmm : matchB t c e0.1 = MM t e0.1 c := rfl
      rw [hmm]
      have hg2 := s2.get hg
      have hq2 := hq.mono s2
      cases hM : MM t e0.1 c with
      | false =>
        simp -implicitDefEqProofs (maxSteps := 999999) (disch := first | with_reducible rfl | omega | (simp only [nA, nS, nD] <;> omega) | fail) only [go_sem, t0, t5, t6, t25, t26, wr_succ]
        exact ⟨_, _, x, es, rfl, hq2, hg2, hbm, B.skip he (.inr (by rw [he1]; exact hM)), he0, (by simp [ev_c, ev_put, t0] <;> rfl), (by simp [ev_c, ev_put, t5] <;> rfl), (by simp [ev_c, ev_put, t6] <;> rfl), (by simp [ev_c, ev_put, t25] <;> rfl), (by simp [ev_c, ev_put] <;> rfl)⟩
      | true =>
        have hlv : lk e0.1 es = some e0.2 := lk_of_mem B.nodup (he1 ▸ List.getElem_mem he)
        have hV := lkC_val hlv
        have sC := (H.Sub.refl s2.wf).add (.cells .rw [.int .i64 (c : Int)])
        have hgC := sC.get hg2
        have hccC := sC.cells (s2.cells hcc)
        have own1 : SlAt (h2.add (.cells .rw [.int .i64 (c : Int)])) (.sl h2.next 0 1 (.fix 1)) 1 [[.int .i64 (c : Int)]] := own1_lit
        have bd2 : e0.2 ≤ 9 := by
          have := B.bd m he
          rw [he1] at this; omega
        simp -implicitDefEqProofs (maxSteps := 999999) (disch := first | with_reducible rfl | omega | (simp only [nA, nS, nD] <;> omega) | fail) only [go_sem, t0, t5, t6, t25, t26, hqq hz0, s2.cells hcc, hv, hg2, hV, wr_succ]
        refine (hq2.mono sC).push hw (by omega) own1 fun h3 q3 k3 n3 hold => ?_
        have hbm2 : ¬ blkOf x h.next := fun hb => hbm _ hb rfl
        have hg3 := k3.2 _ _ hgC hbm2
        have hbx : b ≠ h.next := hbm b ⟨_, _, _, ex⟩
        have hme := men_new hg3 hl
        have hg4 : (h3.set h.next (.map (encA (entA (es ++ [(c, 0)]))))).get h.next = some (.map (encA (entA (es ++ [(c, 0)])))) := get_set_same rfl
        have hms := mst_new (k := e0.2 + 1) hg4
        simp -implicitDefEqProofs (maxSteps := 999999) (disch := first | with_reducible rfl | omega | (simp only [nA, nS, nD] <;> omega) | fail) only [go_sem, t0, t5, t6, t25, t26, hqq hz0, s2.cells hcc, hccC, hv, hg2, hgC, hV, hme, hms, wr_succ]
        have hr := hold b o _ _ ⟨_, _, ex⟩ hkq
        have hfr : ∀ b', blkOf (.sl (h2.next + 1) 0 ((keysQ es m).length + 1) (.slk 0 0)) b' → b' ≠ h.next := fun b' hb => by
          obtain ⟨_, _, _, e⟩ := hb; cases e; have := (sh.trans s2).next; omega
        have lt3 := q3.1.wf _ _ hg3
        have kq : keysQ (es ++ [(c, e0.2 + 1)]) m = keysQ es m ++ [(c : Int)] := by
          unfold keysQ; rw [List.drop_append_of_le_length (by omega)]; simp
        have badd := B.add he hc hl (by rw [he1]; exact hM)
        rw [he1] at badd
        rw [H.next_add] at q3
        refine ⟨⟨⟨by rw [hg3]; exact hV, by rw [lkA_ent, lk_append, hlv]; rfl⟩, hr h3 rfl rfl, ?_⟩, _, _, _, es ++ [(c, e0.2 + 1)], rfl, ?_, get_set_same rfl, hfr, badd, by rw [List.getElem?_append_left he]; exact he0, (by simp [ev_c, ev_put, t0] <;> rfl), (by simp [ev_c, ev_put, t5] <;> rfl), (by simp [ev_c, ev_put] <;> rfl), (by simp [ev_c, ev_put, t25] <;> rfl), (by simp [ev_c, ev_put] <;> rfl)⟩
        · have h4 := hr (h3.set h.next (.map (encA (entA (es ++ [(c, 0)]))))) (get_set_other hbx) (get_set_other (by rw [H.next_add]; have := (sh.trans s2).next; omega))
          rw [cells_set_other hbx] at h4
          exact h4
        · rw [kq]
          exact q3.keep (Keeps.set _ _ _) (q3.1.set (Nat.le_refl _) lt3 hw _) hfr
  · rintro s' ⟨tm, hh, x, es, rfl, hq, hg, hbm, B, he0, t0, t5, t6, t25, t26⟩
    simp -implicitDefEqProofs (maxSteps := 999999) (disch := first | with_reducible rfl | omega | (simp only [nA, nS, nD] <;> omega) | fail) only [go_sem, t0, t5, t6, t25, t26, Int.lt_irrefl]
    exact ⟨_, _, x, es, rfl, hq, hg, hbm, B, he0, (by simp [ev_c, ev_put, t0] <;> rfl), (by simp [ev_c, ev_put, t5] <;> rfl), (by simp [ev_c, ev_put, t6] <;> rfl)⟩
  clear t0 t5 t6 lenx lenP aE aL aP gd sl hlq hml hlen B hbm hg hq hz sh he0' he0 he
  obtain ⟨rfl, tm, hh, x, es, rfl, hq, hg, hbm, B, he0, t0, t5, t6⟩ := hx1
  have he : m < es.length := by
    by_cases h : m < es.length
    · exact h
    · rw [List.getElem?_eq_none (by omega)] at he0; cases he0
  have he1 : es[m] = e0 := by rw [List.getElem?_eq_getElem he] at he0; exact Option.some.inj he0
  have hkq : keysQ es m = (e0.1 : Int) :: keysQ es (m + 1) := by
    unfold keysQ
    rw [List.drop_eq_getElem_cons he, he1]; rfl
  rw [hkq] at hq
  obtain ⟨y, hy, hqy, hby⟩ := hq.tail
  have hlen := B.len
  simp -implicitDefEqProofs (maxSteps := 999999) (disch := first | with_reducible rfl | omega | (simp only [nA, nS, nD] <;> omega) | fail) only [go_sem, t0, t5, t6, q_slc_from, hy]
  exact ⟨t.pieces.length - (m + 1), by omega, _, _, y, es, m + 1, rfl, hqy, hg, fun b hb => hbm b (hby b hb), B.next he, rfl, (by simp [ev_c, ev_put, t0] <;> rfl), (by simp [ev_c, ev_put, t5] <;> rfl), (by simp [ev_c, ev_put] <;> rfl)⟩
end Go.Ab.Try
set_option linter.unusedSimpArgs false
set_option linter.unusedVariables false
namespace Go.Ab.Try
end Go.Ab.Try
set_option linter.unusedSimpArgs false
set_option linter.unusedVariables false
namespace Go.Ab
def LsOwn (h0 h : H) (x : V) (ls : List (List (List V))) : Prop := ∃ xs : List V, OwnC h0 h x 1 (xs.map fun v => [v]) ∧ xs.length = ls.length ∧
  ∀ i (hi : i < xs.length) (hj : i < ls.length), OwnC h0 h xs[i] 1 ls[i] ∧ ∀ b, blkOf xs[i] b → ¬ blkOf x b
theorem LsOwn.nil {h0 h : H} (s : h0.Sub h) : LsOwn h0 h .nils [] := ⟨[], (OwnSl.nil s 1).c, rfl, fun i hi => by simp at hi⟩
theorem LsOwn.mono {h0 h h' : H} {x : V} {ls : List (List (List V))} (a : LsOwn h0 h x ls) (s : h.Sub h') : LsOwn h0 h' x ls := by
  obtain ⟨xs, a1, a2, a3⟩ := a
  exact ⟨xs, a1.mono s, a2, fun i hi hj => ⟨(a3 i hi hj).1.mono s, (a3 i hi hj).2⟩⟩
theorem LsOwn.keep {h0 h h' : H} {S : Nat → Prop} {x : V} {ls : List (List (List V))} (a : LsOwn h0 h x ls) (k : Keeps S h h') (s : h0.Sub h') (n : ∀ b, h0.next ≤ b → b < h.next → ¬ S b) : LsOwn h0 h' x ls := by
  obtain ⟨xs, a1, a2, a3⟩ := a
  refine ⟨xs, a1.keep k s fun b hb => n b (a1.blk hb).1 (a1.blk hb).2.1, a2, fun i hi hj => ⟨(a3 i hi hj).1.keep k s fun b hb => n b ((a3 i hi hj).1.blk hb).1 ((a3 i hi hj).1.blk hb).2.1, (a3 i hi hj).2⟩⟩
theorem LsOwn.base {h0 h1 h : H} {x : V} {ls : List (List (List V))} (a : LsOwn h1 h x ls) (s : h0.Sub h1) : LsOwn h0 h x ls := by
  obtain ⟨xs, a1, a2, a3⟩ := a
  exact ⟨xs, a1.base s, a2, fun i hi hj => ⟨(a3 i hi hj).1.base s, (a3 i hi hj).2⟩⟩
theorem LsOwn.push {h0 h : H} {x y v : V} {ls : List (List (List V))} {l : List (List V)} {Q : V → H → Prop} (a : LsOwn h0 h x ls) (hw0 : h0.wf) (hl : ls.length ≤ 1000) (ov : OwnC h0 h v 1 l) (dv : ∀ b, blkOf v b → ¬ blkOf x b) (hy : SlAt h y 1 [[v]])
    (q : ∀ x' h', LsOwn h0 h' x' (ls ++ [l]) → Keeps (blkOf x) h h' → Q x' h') : P2 (e_app' h 1 24 x y) Q := by
  obtain ⟨xs, a1, a2, a3⟩ := a
  have hone : allOne [v] = true := by simp [allOne_cons, ov.one, allOne_nil]
  refine a1.app1 (by_ := 24) (r := [v]) hw0 rfl (by omega) hy hone (by simp only [List.length_map]; omega) (by simp only [List.length_map]; omega) fun x' h' o' nb k => ?_
  refine q x' h' ⟨xs ++ [v], by rw [List.map_append]; exact o', by simp [a2], fun i hi hj => ?_⟩ k
  rw [List.length_append, List.length_singleton] at hi hj
  by_cases hlt : i < xs.length
  · rw [List.getElem_append_left hlt, List.getElem_append_left (by omega)]
    obtain ⟨c1, c2⟩ := a3 i hlt (by omega)
    refine ⟨c1.keep k o'.1 c2, fun b hb hx => ?_⟩
    rcases nb b hx with h1 | h1
    · exact c2 b hb h1
    · have := (c1.blk hb).2.1; omega
  · have e : i = xs.length := by omega
    have e1 : (xs ++ [v])[i] = v := by subst e; simp
    have e2 : (ls ++ [l])[i] = l := by have : i = ls.length := by omega
                                       subst this; simp
    rw [e1, e2]
    refine ⟨ov.keep k o'.1 dv, fun b hb hx => ?_⟩
    rcases nb b hx with h1 | h1
    · exact dv b hb h1
    · have := (ov.blk hb).2.1; omega
namespace Try
noncomputable def rch (t : Tb) (p q : Nat) : Bool := @decide (∃ k, Wk t.pieces.length (MM t) k p q) (Classical.propDecidable _)
theorem rch_iff {t : Tb} {p q : Nat} : rch t p q = true ↔ ∃ k, Wk t.pieces.length (MM t) k p q := by simp [rch]
theorem IsD.rch {t : Tb} {p q : Nat} {f : Nat → Option Nat} (a : IsD t.pieces.length (MM t) p f) (hq : q < t.pieces.length) : (f q).isSome = rch t p q := by
  rw [Bool.eq_iff_iff, rch_iff]
  constructor
  · intro h
    obtain ⟨k, e⟩ := Option.isSome_iff_exists.1 h
    exact ⟨k, a.walk k q e⟩
  · rintro ⟨k, hk⟩
    obtain ⟨j, e, _⟩ := a.le k q hq hk
    rw [e]; rfl
theorem Wk.trans {n : Nat} {M : Nat → Nat → Bool} {p q : Nat} : ∀ {k j r}, Wk n M j p q → Wk n M k q r → ∃ i, Wk n M i p r
  | 0, j, r, h1, h2 => ⟨j, by rw [← (show q = r from h2)]; exact h1⟩
  | k + 1, j, r, h1, ⟨x, hx, h2, h3⟩ => by
    obtain ⟨i, h4⟩ := Wk.trans h1 h2
    exact ⟨i + 1, x, hx, h4, h3⟩
theorem rch_refl (t : Tb) (p : Nat) : rch t p p = true := rch_iff.2 ⟨0, rfl⟩
theorem rch_symm {t : Tb} (g : Good t) {p q : Nat} (hq : q < t.pieces.length) (h : rch t p q = true) : rch t q p = true := by
  obtain ⟨k, hk⟩ := rch_iff.1 h
  exact rch_iff.2 ⟨k, Wk.rev (MM_comm g) hq hk⟩
theorem rch_trans {t : Tb} {p q r : Nat} (h1 : rch t p q = true) (h2 : rch t q r = true) : rch t p r = true := by
  obtain ⟨k, hk⟩ := rch_iff.1 h1
  obtain ⟨j, hj⟩ := rch_iff.1 h2
  exact rch_iff.2 (Wk.trans hk hj)
noncomputable def memK (t : Tb) (p : Nat) : Nat → List Int
  | 0 => []
  | n + 1 => memK t p n ++ if rch t p n = true then [(n : Int)] else []
theorem memK_len (t : Tb) (p : Nat) : ∀ n, (memK t p n).length ≤ n
  | 0 => Nat.le_refl _
  | n + 1 => by
    have := memK_len t p n
    simp only [memK, List.length_append]
    split <;> simp <;> omega
theorem mem_memK {t : Tb} {p q : Nat} : ∀ {n}, (q : Int) ∈ memK t p n ↔ q < n ∧ rch t p q = true
  | 0 => by simp [memK]
  | n + 1 => by
    have ih := mem_memK (t := t) (p := p) (q := q) (n := n)
    simp only [memK, List.mem_append, ih]
    constructor
    · rintro (⟨h1, h2⟩ | h)
      · exact ⟨by omega, h2⟩
      · by_cases c : rch t p n = true
        · rw [if_pos c, List.mem_singleton] at h
          have : q = n := by omega
          subst this; exact ⟨by omega, c⟩
        · rw [if_neg c] at h; simp at h
    · rintro ⟨h1, h2⟩
      by_cases e : q = n
      · subst e; right; rw [if_pos h2]; simp
      · exact .inl ⟨by omega, h2⟩
noncomputable def before (t : Tb) (c : Nat) : Bool := (List.range c).any fun p => rch t p c
noncomputable def kinK (t : Tb) : Nat → List (List Int)
  | 0 => []
  | c + 1 => kinK t c ++ if before t c = true then [] else [memK t c t.pieces.length]
theorem kinK_len (t : Tb) : ∀ n, (kinK t n).length ≤ n
  | 0 => Nat.le_refl _
  | n + 1 => by
    have := kinK_len t n
    simp only [kinK, List.length_append]
    split <;> simp <;> omega
theorem kinK_rep {t : Tb} : ∀ {c l}, l ∈ kinK t c → ∃ r, r < c ∧ l = memK t r t.pieces.length
  | 0, l, h => by simp [kinK] at h
  | c + 1, l, h => by
    simp only [kinK, List.mem_append] at h
    rcases h with h | h
    · obtain ⟨r, h1, h2⟩ := kinK_rep h; exact ⟨r, by omega, h2⟩
    · by_cases cb : before t c = true
      · rw [if_pos cb] at h; simp at h
      · rw [if_neg cb, List.mem_singleton] at h; exact ⟨c, by omega, h⟩
theorem kinK_cov {t : Tb} (g : Good t) : ∀ {c p}, c ≤ t.pieces.length → p < c → ∃ l ∈ kinK t c, (p : Int) ∈ l
  | 0, p, _, h => by omega
  | c + 1, p, hc, h => by
    by_cases e : p < c
    · obtain ⟨l, h1, h2⟩ := kinK_cov g (by omega) e
      exact ⟨l, by simp only [kinK]; exact List.mem_append_left _ h1, h2⟩
    · have e' : p = c := by omega
      subst e'
      by_cases cb : before t p = true
      · obtain ⟨r, hr, h3⟩ := List.any_eq_true.1 cb
        have hr := List.mem_range.1 hr
        obtain ⟨l, h1, h2⟩ := kinK_cov g (by omega) hr
        obtain ⟨r', h4, rfl⟩ := kinK_rep h1
        have h5 := (mem_memK.1 h2).2
        exact ⟨_, by simp only [kinK]; exact List.mem_append_left _ h1, mem_memK.2 ⟨by omega, rch_trans h5 h3⟩⟩
      · exact ⟨memK t p t.pieces.length, by simp only [kinK, if_neg cb]; simp, mem_memK.2 ⟨by omega, rch_refl t p⟩⟩
theorem kinK_has {t : Tb} (g : Good t) {c : Nat} (hc : c < t.pieces.length) : ((kinK t c).any fun l => l.any fun r => decide ((c : Int) = r)) = before t c := by
  rw [Bool.eq_iff_iff, List.any_eq_true]
  constructor
  · rintro ⟨l, hl, h⟩
    obtain ⟨r, hr, h1⟩ := List.any_eq_true.1 h
    rw [← of_decide_eq_true h1] at hr
    obtain ⟨p, hp, rfl⟩ := kinK_rep hl
    exact List.any_eq_true.2 ⟨p, List.mem_range.2 hp, (mem_memK.1 hr).2⟩
  · intro h
    obtain ⟨p, hp, h1⟩ := List.any_eq_true.1 h
    have hp := List.mem_range.1 hp
    obtain ⟨l, hl, h2⟩ := kinK_cov g (show c ≤ _ by omega) hp
    obtain ⟨r, hr, rfl⟩ := kinK_rep hl
    exact ⟨_, hl, List.any_eq_true.2 ⟨_, mem_memK.2 ⟨hc, rch_trans (mem_memK.1 h2).2 h1⟩, by simp⟩⟩
end Try
end Go.Ab
set_option linter.unusedSimpArgs false
set_option linter.unusedVariables false
namespace Go.Ab.Try
theorem indexFuncLs_ev {α : Type} {w : α → V} {l : List α} {p : α → Bool} {h : H} {x f : V} (hw : h.wf) (hx : SlAt h x 1 (l.map fun a => [w a])) (hp : ∀ a ∈ l, PureA h f [w a] (.bool (p a))) :
    E (.fn 109 [] []) [x, f] h fun v h' => v = .int .i64 (fidx p l 0) ∧ h.Sub h' := by
  have hb := hx.boundE
  refine Ev_body (fd := c109) rfl rfl rfl ?_
  simp -implicitDefEqProofs (maxSteps := 999999) (disch := first | with_reducible rfl | omega | (simp only [nA, nS, nD] <;> omega) | fail) only [c109, go_sem, hx.lenE]
  refine W_count l.length (fun i s => ∃ tm h', s = ⟨tm, h', []⟩ ∧ h.Sub h' ∧ (Opd.t 0).ev tm = x ∧ (Opd.t 1).ev tm = f ∧ (Opd.t 7).ev tm = .int .i64 (l.length : Int) ∧ (Opd.t 8).ev tm = .int .i64 (i : Int) ∧ fidx p l 0 = fidx p (l.drop i) i)
    ?_ ?_ (i := 0) (Nat.zero_le _) ⟨_, _, rfl, H.Sub.refl hw, (by simp [ev_c, ev_put] <;> rfl), (by simp [ev_c, ev_put] <;> rfl), (by simp [ev_c, ev_put] <;> rfl), (by simp only [ev_put]; rfl), rfl⟩
  · rintro i s hi ⟨tm, h', rfl, hs, e0, e1, e7, e8, e9⟩
    have hi' : (i : Int) < (l.length : Int) := by omega
    obtain ⟨b, o, c, cs, rfl, hc, hq, hg, hn, hn0⟩ := (hx.mono hs).at hi
    simp -implicitDefEqProofs (maxSteps := 999999) (disch := first | with_reducible rfl | omega | (simp only [nA, nS, nD] <;> omega) | fail) only [go_sem, e0, e1, e7, e8, hi', hq (nat_cst i), hc, hn0 (by omega)]
    refine (hp _ (List.getElem_mem hi)).use hs fun h2 hs2 => ?_
    cases hpr : p l[i] with
    | true =>
      simp -implicitDefEqProofs (maxSteps := 999999) (disch := first | with_reducible rfl | omega | (simp only [nA, nS, nD] <;> omega) | fail) only [go_sem, e0, e1, e7, e8]
      exact ⟨by rw [e9, fidx_hit hi hpr], hs.trans hs2⟩
    | false =>
      simp -implicitDefEqProofs (maxSteps := 999999) (disch := first | with_reducible rfl | omega | (simp only [nA, nS, nD] <;> omega) | fail) only [go_sem, e0, e1, e7, e8, wr_succ]
      exact ⟨_, _, rfl, hs.trans hs2, (by simp [ev_c, ev_put, e0] <;> rfl), (by simp [ev_c, ev_put, e1] <;> rfl), (by simp [ev_c, ev_put, e7] <;> rfl), (by simp [ev_c, ev_put] <;> rfl), by rw [e9, fidx_miss hi hpr]⟩
  · rintro s ⟨tm, h', rfl, hs, e0, e1, e7, e8, e9⟩
    simp -implicitDefEqProofs (maxSteps := 999999) (disch := first | with_reducible rfl | omega | (simp only [nA, nS, nD] <;> omega) | fail) only [go_sem, e0, e1, e7, e8, Int.lt_irrefl]
    exact ⟨by rw [e9]; simp [fidx], hs⟩
theorem containsFuncLs_ev {α : Type} {w : α → V} {l : List α} {p : α → Bool} {h : H} {x f : V} (hw : h.wf) (hx : SlAt h x 1 (l.map fun a => [w a])) (hp : ∀ a ∈ l, PureA h f [w a] (.bool (p a))) :
    E (.fn 50 [] []) [x, f] h fun v h' => v = .bool (l.any p) ∧ h.Sub h' := by
  refine Ev_body (fd := c50) rfl rfl rfl ?_
  simp -implicitDefEqProofs (maxSteps := 999999) (disch := first | with_reducible rfl | omega | (simp only [nA, nS, nD] <;> omega) | fail) only [c50, go_sem]
  refine (indexFuncLs_ev hw hx hp).mono fun v h' hv => ?_
  obtain ⟨rfl, hs⟩ := hv
  simp -implicitDefEqProofs (maxSteps := 999999) (disch := first | with_reducible rfl | omega | (simp only [nA, nS, nD] <;> omega) | fail) only [go_sem]
  exact ⟨by rw [fidx_any], hs⟩
theorem indexInt_ev {l : List Int} {h : H} {x : V} (hw : h.wf) (hx : SlAt h x 1 (l.map encI)) (e : Int) :
    E (.fn 110 [] []) [x, .int .i64 e] h fun v h' => v = .int .i64 (fidx (fun r => decide (e = r)) l 0) ∧ h.Sub h' := by
  have hb := hx.boundE
  refine Ev_body (fd := c110) rfl rfl rfl ?_
  simp -implicitDefEqProofs (maxSteps := 999999) (disch := first | with_reducible rfl | omega | (simp only [nA, nS, nD] <;> omega) | fail) only [c110, go_sem, hx.lenE]
  refine W_count l.length (fun i s => ∃ tm h', s = ⟨tm, h', []⟩ ∧ h.Sub h' ∧ (Opd.t 0).ev tm = x ∧ (Opd.t 1).ev tm = .int .i64 e ∧ (Opd.t 7).ev tm = .int .i64 (l.length : Int) ∧ (Opd.t 8).ev tm = .int .i64 (i : Int) ∧ fidx (fun r => decide (e = r)) l 0 = fidx (fun r => decide (e = r)) (l.drop i) i)
    ?_ ?_ (i := 0) (Nat.zero_le _) ⟨_, _, rfl, H.Sub.refl hw, (by simp [ev_c, ev_put] <;> rfl), (by simp [ev_c, ev_put] <;> rfl), (by simp [ev_c, ev_put] <;> rfl), (by simp [ev_c, ev_put] <;> rfl), rfl⟩
  · rintro i s hi ⟨tm, h', rfl, hs, e0, e1, e7, e8, e9⟩
    have hi' : (i : Int) < (l.length : Int) := by omega
    obtain ⟨b, o, c, cs, rfl, hc, hq, hg, hn, hn0⟩ := (hx.mono hs).at hi
    have hv := hn0 (by omega)
    simp only [encI] at hv
    simp -implicitDefEqProofs (maxSteps := 999999) (disch := first | with_reducible rfl | omega | (simp only [nA, nS, nD] <;> omega) | fail) only [go_sem, e0, e1, e7, e8, hi', hq (nat_cst i), hc, hv]
    by_cases hpr : e = l[i]
    · have hd : decide (e = l[i]) = true := decide_eq_true hpr
      simp -implicitDefEqProofs (maxSteps := 999999) (disch := first | with_reducible rfl | omega | (simp only [nA, nS, nD] <;> omega) | fail) only [go_sem, e0, e1, e7, e8, hd, hpr]
      exact ⟨by first | rw [e9, fidx_hit hi hd] | (rw [← hpr]; rw [e9, fidx_hit hi hd]), hs⟩
    · have hd : decide (e = l[i]) = false := decide_eq_false hpr
      simp -implicitDefEqProofs (maxSteps := 999999) (disch := first | with_reducible rfl | omega | (simp only [nA, nS, nD] <;> omega) | fail) only [go_sem, e0, e1, e7, e8, hd, hpr, wr_succ]
      exact ⟨_, _, rfl, hs, (by simp [ev_c, ev_put, e0] <;> rfl), (by simp [ev_c, ev_put, e1] <;> rfl), (by simp [ev_c, ev_put, e7] <;> rfl), (by simp [ev_c, ev_put] <;> rfl), by rw [e9, fidx_miss hi hd]⟩
  · rintro s ⟨tm, h', rfl, hs, e0, e1, e7, e8, e9⟩
    simp -implicitDefEqProofs (maxSteps := 999999) (disch := first | with_reducible rfl | omega | (simp only [nA, nS, nD] <;> omega) | fail) only [go_sem, e0, e1, e7, e8, Int.lt_irrefl]
    exact ⟨by rw [e9]; simp [fidx], hs⟩
theorem hasInt_ev {l : List Int} {h : H} {x : V} (hw : h.wf) (hx : SlAt h x 1 (l.map encI)) (e : Int) (Q : V → H → Prop) (q : ∀ h', h.Sub h' → Q (.bool (l.any fun r => decide (e = r))) h') :
    Ev fnG fastA (.fn 52 [] []) [x, .int .i64 e] h Q := by
  refine Ev_body (fd := c52) rfl rfl rfl ?_
  simp -implicitDefEqProofs (maxSteps := 999999) (disch := first | with_reducible rfl | omega | (simp only [nA, nS, nD] <;> omega) | fail) only [c52, go_sem]
  refine (indexInt_ev hw hx e).mono fun v h' hv => ?_
  obtain ⟨rfl, hs⟩ := hv
  simp -implicitDefEqProofs (maxSteps := 999999) (disch := first | with_reducible rfl | omega | (simp only [nA, nS, nD] <;> omega) | fail) only [go_sem]
  rw [fidx_any]
  exact q _ hs
theorem kin1_ev {l : List Int} {h : H} {v : V} {b : Nat} {c : Int} (hb : h.cells b = some [.int .i64 c]) (hv : SlAt h v 1 (l.map encI)) : PureA h (.fn 89 [] [.ptr b 0]) [v] (.bool (l.any fun r => decide (c = r))) := by
  intro h1 hs
  refine Ev.gen fun Q q => ?_
  refine Ev_body (fd := c89) rfl rfl rfl ?_
  simp -implicitDefEqProofs (maxSteps := 999999) (disch := first | with_reducible rfl | omega | (simp only [nA, nS, nD] <;> omega) | fail) only [c89, go_sem, hs.cells hb]
  refine hasInt_ev hs.wf (hv.mono hs) c _ fun h2 s2 => ?_
  simp -implicitDefEqProofs (maxSteps := 999999) (disch := first | with_reducible rfl | omega | (simp only [nA, nS, nD] <;> omega) | fail) only [go_sem]
  exact q _ _ ⟨rfl, s2⟩
theorem anyHas_ev {h0 h : H} {x : V} {ls : List (List Int)} {b : Nat} {c : Int} (a : LsOwn h0 h x (ls.map fun l => l.map encI)) (hl : ls.length ≤ 1000) (hll : ∀ l ∈ ls, l.length ≤ 1000) (hb : h.cells b = some [.int .i64 c]) (Q : V → H → Prop) (q : ∀ h', h.Sub h' → Q (.bool (ls.any fun l => l.any fun r => decide (c = r))) h') :
    Ev fnG fastA (.fn 50 [] []) [x, .fn 89 [] [.ptr b 0]] h Q := by
  obtain ⟨xs, a1, a2, a3⟩ := a
  rw [List.length_map] at a2
  have ez : xs.map (fun v => [v]) = (xs.zip ls).map fun e => [e.1] := by
    conv => lhs; rw [← List.map_fst_zip (l₁ := xs) (l₂ := ls) (by omega), List.map_map]
    rfl
  have sx := a1.sl (by simp only [List.length_map]; omega)
  rw [ez] at sx
  have ea : (ls.any fun l => l.any fun r => decide (c = r)) = (xs.zip ls).any fun e => e.2.any fun r => decide (c = r) := by
    conv => lhs; rw [← List.map_snd_zip (l₁ := xs) (l₂ := ls) (by omega), List.any_map]
    rfl
  refine (containsFuncLs_ev (w := fun e : V × List Int => e.1) (p := fun e => e.2.any fun r => decide (c = r)) a1.1.wf sx fun e he => ?_).mono fun u h' hu => ?_
  · obtain ⟨i, hi, rfl⟩ := List.getElem_of_mem he
    rw [List.length_zip] at hi
    rw [List.getElem_zip]
    have h1 := (a3 i (by omega) (by rw [List.length_map]; omega)).1
    rw [List.getElem_map] at h1
    exact kin1_ev hb (h1.sl (by have := hll _ (List.getElem_mem (show i < ls.length by omega)); simp only [List.length_map]; omega))
  · obtain ⟨rfl, s⟩ := hu
    rw [← ea]; exact q _ s
set_option maxHeartbeats 4000000 in
theorem Kin_ev {h : H} {v : V} {t : Tb} (hw : h.wf) (ht : TbIs h v t) (Q : V → H → Prop) (q : ∀ x h', LsOwn h h' x ((if check t = 0 then kinK t t.pieces.length else []).map fun l => l.map encI) → Q (.tup [x, .int .i64 (check t)]) h') :
    Ev fnG fastA (.fn 21 [] []) [v] h Q := by
  have ht0 := ht
  obtain ⟨E, L, P, rfl, aE, aL, aP⟩ := ht
  refine Ev_body (fd := c21) rfl rfl rfl ?_
  have s1 : h.Sub (h.add (.cells .rw [E, L, P])) := (by repeat (first | assumption | exact H.Sub.refl (by assumption) | refine H.Sub.add ?_ _ | refine H.Sub.set ?_ (by first | omega | (simp only [H.next_add, H.next_set, H.next_del] <;> omega)) (by first | omega | (simp only [H.next_add, H.next_set, H.next_del] <;> omega)) (by assumption) _))
  have g1 : (h.add (.cells .rw [E, L, P])).cells h.next = some [E, L, P] := cells_add_new rfl
  simp -implicitDefEqProofs (maxSteps := 999999) (disch := first | with_reducible rfl | omega | (simp only [nA, nS, nD] <;> omega) | fail) only [c21, go_sem]
  refine opened_use s1.wf (ht0.mono s1) _ (fun h5 s45 c => ?_) fun h5 d s15 c g hd => ?_
  · simp -implicitDefEqProofs (maxSteps := 999999) (disch := first | with_reducible rfl | omega | (simp only [nA, nS, nD] <;> omega) | fail) only [go_sem, ne_eq, c, not_false_eq_true]
    exact q _ _ (by rw [if_neg c]; exact LsOwn.nil (s1.trans s45))
  rw [if_pos c] at q
  rw [c] at q
  have s5 := s1.trans s15
  have gp := g.pieces
  have hlP := aP.lenE
  have g5 := s15.cells g1
  simp -implicitDefEqProofs (maxSteps := 999999) (disch := first | with_reducible rfl | omega | (simp only [nA, nS, nD] <;> omega) | fail) only [go_sem, ne_eq, not_true_eq_false, g5, hlP]
  refine W_count t.pieces.length (fun c s => ∃ tm hh y, s = ⟨tm, hh, []⟩ ∧ h5.Sub hh ∧ LsOwn h5 hh y ((kinK t c).map fun l => l.map encI) ∧ (Opd.t 1).ev tm = .ptr h.next 0 ∧ (Opd.t 4).ev tm = .ptr d 0 ∧ (Opd.t 6).ev tm = y ∧ (Opd.t 23).ev tm = .int .i64 (t.pieces.length : Int) ∧ (Opd.t 24).ev tm = .int .i64 (c : Int))
    ?_ ?_ (i := 0) (Nat.zero_le _) ⟨_, _, .nils, rfl, H.Sub.refl s15.wf, LsOwn.nil (H.Sub.refl s15.wf), (by simp [ev_c, ev_put] <;> rfl), (by simp [ev_c, ev_put] <;> rfl), (by simp [ev_c, ev_put] <;> rfl), (by simp [ev_c, ev_put] <;> rfl), (by simp [ev_c, ev_put] <;> rfl)⟩
  · rintro c s hc ⟨tm, hh, y, rfl, sh, oy, t1, t4, t6, t23, t24⟩
    have hc' : (c : Int) < (t.pieces.length : Int) := by omega
    have hkl := kinK_len t c
    have hkm : ∀ l ∈ kinK t c, l.length ≤ 1000 := fun l hl => by
      obtain ⟨r, _, rfl⟩ := kinK_rep hl
      have := memK_len t r t.pieces.length; omega
    have sB := (H.Sub.refl sh.wf).add (.cells .rw [.int .i64 (c : Int)])
    have gB : (hh.add (.cells .rw [.int .i64 (c : Int)])).cells hh.next = some [.int .i64 (c : Int)] := cells_add_new rfl
    have oB := oy.mono sB
    have hah := anyHas_ev oB (by omega) hkm gB
    rw [kinK_has g hc] at hah
    simp -implicitDefEqProofs (maxSteps := 999999) (disch := first | with_reducible rfl | omega | (simp only [nA, nS, nD] <;> omega) | fail) only [go_sem, t1, t4, t6, t23, t24, hc']
    generalize (hh.add (.cells .rw [.int .i64 (c : Int)])) = hB at sB gB oB hah ⊢
    generalize hh.next = bB at gB hah ⊢
    refine hah _ fun h6 s6 => ?_
    have o6 := oB.mono s6
    have sh6 := sh.trans (sB.trans s6)
    cases hbf : before t c
    case true =>
      simp -implicitDefEqProofs (maxSteps := 999999) (disch := first | with_reducible rfl | omega | (simp only [nA, nS, nD] <;> omega) | fail) only [go_sem, t1, t4, t6, t23, t24, wr_succ]
      exact ⟨_, _, y, rfl, sh6, by simpa [kinK, hbf] using o6, (by simp [ev_c, ev_put, t1] <;> rfl), (by simp [ev_c, ev_put, t4] <;> rfl), (by simp [ev_c, ev_put, t6] <;> rfl), (by simp [ev_c, ev_put, t23] <;> rfl), (by simp [ev_c, ev_put] <;> rfl)⟩
    simp -implicitDefEqProofs (maxSteps := 999999) (disch := first | with_reducible rfl | omega | (simp only [nA, nS, nD] <;> omega) | fail) only [go_sem, t1, t4, t6, t23, t24, s6.cells gB]
    refine steps_ev sh6.wf (hd.mono sh6) g hc _ fun bm es h7 s7 lbm gm hD => ?_
    have o7 := o6.mono s7
    have sh7 := sh6.trans s7
    simp -implicitDefEqProofs (maxSteps := 999999) (disch := first | with_reducible rfl | omega | (simp only [nA, nS, nD] <;> omega) | fail) only [go_sem, t1, t4, t6, t23, t24, sh7.cells g5, hlP]
    refine W.mono (Q := fun x1 s => x1 = .ext 2 ∧ ∃ tm hh z, s = ⟨tm, hh, []⟩ ∧ OwnSl h7 hh z 1 ((memK t c t.pieces.length).map encI) ∧ (Opd.t 1).ev tm = .ptr h.next 0 ∧ (Opd.t 4).ev tm = .ptr d 0 ∧ (Opd.t 6).ev tm = y ∧ (Opd.t 8).ev tm = z ∧ (Opd.t 23).ev tm = .int .i64 (t.pieces.length : Int) ∧ (Opd.t 24).ev tm = .int .i64 (c : Int))
     (W_count t.pieces.length (fun k s => ∃ tm hh z, s = ⟨tm, hh, []⟩ ∧ OwnSl h7 hh z 1 ((memK t c k).map encI) ∧ (Opd.t 1).ev tm = .ptr h.next 0 ∧ (Opd.t 4).ev tm = .ptr d 0 ∧ (Opd.t 6).ev tm = y ∧ (Opd.t 23).ev tm = .int .i64 (t.pieces.length : Int) ∧ (Opd.t 24).ev tm = .int .i64 (c : Int) ∧ (Opd.t 8).ev tm = z ∧ (Opd.t 9).ev tm = .map bm ∧ (Opd.t 35).ev tm = .int .i64 (t.pieces.length : Int) ∧ (Opd.t 36).ev tm = .int .i64 (k : Int))
      ?_ ?_ (i := 0) (Nat.zero_le _) ⟨_, _, .nils, rfl, OwnSl.nil (H.Sub.refl s7.wf) 1, (by simp [ev_c, ev_put, t1] <;> rfl), (by simp [ev_c, ev_put, t4] <;> rfl), (by simp [ev_c, ev_put, t6] <;> rfl), (by simp [ev_c, ev_put, t23] <;> rfl), (by simp [ev_c, ev_put, t24] <;> rfl), (by simp [ev_c, ev_put] <;> rfl), (by simp [ev_c, ev_put] <;> rfl), (by simp [ev_c, ev_put] <;> rfl), (by simp [ev_c, ev_put] <;> rfl)⟩) fun x1 s hx1 => ?_
    · rintro k s hk ⟨tm, hh, z, rfl, oz, t1, t4, t6, t23, t24, t8, t9, t35, t36⟩
      have hk' : (k : Int) < (t.pieces.length : Int) := by omega
      have gmh := oz.1.get gm
      have hr := hD.rch hk
      have hml := memK_len t c k
      cases hlk : lk k es with
      | none =>
        rw [hlk] at hr
        have hr : rch t c k = false := hr.symm
        have hF := lkC_none hlk
        simp -implicitDefEqProofs (maxSteps := 999999) (disch := first | with_reducible rfl | omega | (simp only [nA, nS, nD] <;> omega) | fail) only [go_sem, t1, t4, t6, t23, t24, t8, t9, t35, t36, hk', gmh, hF, wr_succ]
        exact ⟨_, _, z, rfl, by simpa [memK, hr] using oz, (by simp [ev_c, ev_put, t1] <;> rfl), (by simp [ev_c, ev_put, t4] <;> rfl), (by simp [ev_c, ev_put, t6] <;> rfl), (by simp [ev_c, ev_put, t23] <;> rfl), (by simp [ev_c, ev_put, t24] <;> rfl), (by simp [ev_c, ev_put, t8] <;> rfl), (by simp [ev_c, ev_put, t9] <;> rfl), (by simp [ev_c, ev_put, t35] <;> rfl), (by simp [ev_c, ev_put] <;> rfl)⟩
      | some kk =>
        rw [hlk] at hr
        have hr : rch t c k = true := hr.symm
        have hF := lkC_some hlk
        have sC := (H.Sub.refl oz.1.wf).add (.cells .rw [.int .i64 (k : Int)])
        simp -implicitDefEqProofs (maxSteps := 999999) (disch := first | with_reducible rfl | omega | (simp only [nA, nS, nD] <;> omega) | fail) only [go_sem, t1, t4, t6, t23, t24, t8, t9, t35, t36, hk', gmh, hF]
        refine (oz.mono sC).app1 (by_ := 8) (r := encI (k : Int)) s7.wf rfl (by omega) own1_lit rfl (by simp only [List.length_map]; omega) (by simp only [List.length_map]; omega) fun h9 o9 k9 n9 => ?_
        simp -implicitDefEqProofs (maxSteps := 999999) (disch := first | with_reducible rfl | omega | (simp only [nA, nS, nD] <;> omega) | fail) only [go_sem, t1, t4, t6, t23, t24, t8, t9, t35, t36, wr_succ]
        refine ⟨_, _, _, rfl, ?_, (by simp [ev_c, ev_put, t1] <;> rfl), (by simp [ev_c, ev_put, t4] <;> rfl), (by simp [ev_c, ev_put, t6] <;> rfl), (by simp [ev_c, ev_put, t23] <;> rfl), (by simp [ev_c, ev_put, t24] <;> rfl), (by simp [ev_c, ev_put] <;> rfl), (by simp [ev_c, ev_put, t9] <;> rfl), (by simp [ev_c, ev_put, t35] <;> rfl), (by simp [ev_c, ev_put] <;> rfl)⟩
        have e : (memK t c (k + 1)).map encI = (memK t c k).map encI ++ [encI (k : Int)] := by simp [memK, hr]
        rw [H.next_add, List.length_map] at o9
        rw [e]; exact o9
    · rintro s ⟨tm, hh, z, rfl, oz, t1, t4, t6, t23, t24, t8, t9, t35, t36⟩
      simp -implicitDefEqProofs (maxSteps := 999999) (disch := first | with_reducible rfl | omega | (simp only [nA, nS, nD] <;> omega) | fail) only [go_sem, t1, t4, t6, t23, t24, t8, t9, t35, t36, Int.lt_irrefl]
      exact ⟨_, _, z, rfl, oz, (by simp [ev_c, ev_put, t1] <;> rfl), (by simp [ev_c, ev_put, t4] <;> rfl), (by simp [ev_c, ev_put, t6] <;> rfl), (by simp [ev_c, ev_put, t8] <;> rfl), (by simp [ev_c, ev_put, t23] <;> rfl), (by simp [ev_c, ev_put, t24] <;> rfl)⟩
    obtain ⟨rfl, tm, hh, z, rfl, oz, t1, t4, t6, t8, t23, t24⟩ := hx1
    have s8 := oz.1
    have oz1 := OwnC.one oz.c
    have sC := (H.Sub.refl s8.wf).add (.cells .rw [z])
    have own1 : SlAt (hh.add (.cells .rw [z])) (.sl hh.next 0 1 (.fix 1)) 1 [[z]] := SlAt.new _ rfl rfl (by simp) (by simp) (by simp)
    simp -implicitDefEqProofs (maxSteps := 999999) (disch := first | with_reducible rfl | omega | (simp only [nA, nS, nD] <;> omega) | fail) only [go_sem, t1, t4, t6, t8, t23, t24, oz1, cells_one oz1]
    have dvz : ∀ b, blkOf z b → ¬ blkOf y b := fun b hb hy => by
      have h1 := (oz.blk hb).1
      obtain ⟨xs, a1, _⟩ := o7
      have h2 := (a1.blk hy).2.1
      omega
    refine ((o7.mono s8).mono sC).push s15.wf (by simp only [List.length_map]; omega) ((oz.c.base sh7).mono sC) dvz own1 fun y' h9 o9 k9 => ?_
    have sh9 : h5.Sub h9 := by
      obtain ⟨_, a1, _⟩ := o9
      exact a1.1
    simp -implicitDefEqProofs (maxSteps := 999999) (disch := first | with_reducible rfl | omega | (simp only [nA, nS, nD] <;> omega) | fail) only [go_sem, t1, t4, t6, t8, t23, t24, wr_succ]
    exact ⟨_, _, y', rfl, sh9, by simpa [kinK, hbf] using o9, (by simp [ev_c, ev_put, t1] <;> rfl), (by simp [ev_c, ev_put, t4] <;> rfl), (by simp [ev_c, ev_put] <;> rfl), (by simp [ev_c, ev_put, t23] <;> rfl), (by simp [ev_c, ev_put] <;> rfl)⟩
  · rintro s ⟨tm, hh, y, rfl, sh, oy, t1, t4, t6, t23, t24⟩
    simp -implicitDefEqProofs (maxSteps := 999999) (disch := first | with_reducible rfl | omega | (simp only [nA, nS, nD] <;> omega) | fail) only [go_sem, t1, t4, t6, t23, t24, Int.lt_irrefl]
    exact q y _ (oy.base s5)
end Go.Ab.Try
set_option linter.unusedSimpArgs false
set_option linter.unusedVariables false
namespace Go.Ab
namespace Try
end Try
end Go.Ab
set_option linter.unusedSimpArgs false
set_option linter.unusedVariables false
namespace Go.Ab
namespace Try
section
variable {t : Tb} {s : Nat} {f : Nat → Int} {d p q : Nat}
end
end Try
end Go.Ab
set_option linter.unusedSimpArgs false
set_option linter.unusedVariables false
namespace Go.Ab.Try
end Go.Ab.Try
set_option linter.unusedSimpArgs false
set_option linter.unusedVariables false
namespace Go.Ab.Try
theorem some_first {α : Type} {g : Nat → Option α} {p : Nat} {l : α} (h : g p = some l) (hno : ∀ q, q < p → g q = none) : ∀ n, p < n → (List.range n).findSome? g = some l
  | 0, h' => by omega
  | n + 1, h' => by
    rw [List.range_succ, List.findSome?_append]
    by_cases e : p = n
    · subst e
      have : (List.range p).findSome? g = none := List.findSome?_eq_none_iff.2 fun x hx => hno x (List.mem_range.1 hx)
      rw [this]; simp [h]
    · rw [some_first h hno n (by omega)]; rfl
theorem none_all {α : Type} {g : Nat → Option α} {n : Nat} (hno : ∀ q, q < n → g q = none) : (List.range n).findSome? g = none := List.findSome?_eq_none_iff.2 fun x hx => hno x (List.mem_range.1 hx)
end Go.Ab.Try
set_option linter.unusedSimpArgs false
set_option linter.unusedVariables false
namespace Go.Ab.Try
end Go.Ab.Try
