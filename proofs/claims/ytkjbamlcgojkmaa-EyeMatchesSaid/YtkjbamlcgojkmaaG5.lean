/- EyeMatches. How far a part of a shade can change: Shades, as the program and as the reference find it. The reference's Shades, Apart and Scrap. -/
import Derived.Test.YtkjbamlcgojkmaaG4
set_option linter.unusedSimpArgs false
set_option linter.unusedVariables false
namespace Go.Ab.Try
def Sd.put (s : Sd) (p : Nat) (n : Int) : Sd := match p with
  | 0 => ⟨n, s.y, s.z⟩
  | 1 => ⟨s.x, n, s.z⟩
  | _ => ⟨s.x, s.y, n⟩
theorem put_put (s : Sd) (p : Nat) (m n : Int) : (s.put p m).put p n = s.put p n := match p with | 0 => rfl | 1 => rfl | _ + 2 => rfl
theorem put_self (s : Sd) {p : Nat} (h : p < 3) : s.put p (s.at p) = s := by
  rcases (by omega : p = 0 ∨ p = 1 ∨ p = 2) with rfl | rfl | rfl <;> rfl
theorem at_put (s : Sd) {p : Nat} (h : p < 3) (n : Int) : (s.put p n).at p = n := by
  rcases (by omega : p = 0 ∨ p = 1 ∨ p = 2) with rfl | rfl | rfl <;> rfl
theorem at_put_ne (s : Sd) {p j : Nat} (h : p < 3) (hj : j < 3) (hne : j ≠ p) (n : Int) : (s.put p n).at j = s.at j := by
  rcases (by omega : p = 0 ∨ p = 1 ∨ p = 2) with rfl | rfl | rfl <;> rcases (by omega : j = 0 ∨ j = 1 ∨ j = 2) with rfl | rfl | rfl <;> first | rfl | exact absurd rfl hne
theorem put_in {s : Sd} {m : Int} (h : InS s m) (p : Nat) {n : Int} (hn : 0 ≤ n ∧ n ≤ m) : InS (s.put p n) m := by
  unfold Sd.put
  split
  · exact ⟨hn, h.y, h.z⟩
  · exact ⟨h.x, hn, h.z⟩
  · exact ⟨h.x, h.y, hn⟩
theorem sd_putN (s : Sd) {p : Nat} (h : p < 3) (n : Int) : putN p [.int .i64 n] [.int .i64 s.x, .int .i64 s.y, .int .i64 s.z] = some [.int .i64 (s.put p n).x, .int .i64 (s.put p n).y, .int .i64 (s.put p n).z] := by
  rcases (by omega : p = 0 ∨ p = 1 ∨ p = 2) with rfl | rfl | rfl <;> rfl
def okP (t : Tb) (s : Sd) (p : Nat) (n : Int) : Bool := alike t s (s.put p n)
theorem part_put (e l s : Sd) {p : Nat} (h : p < 3) (n : Int) : seesN e l s (s.put p n) = dif (s.at p) n * e.at p * l.at p := by
  have z : ∀ j, j < 3 → j ≠ p → term e l s (s.put p n) j = 0 := fun j hj hne => by
    unfold term; rw [at_put_ne s h hj hne]; simp [dif]
  have o : term e l s (s.put p n) p = dif (s.at p) n * e.at p * l.at p := by unfold term; rw [at_put s h]
  show part e l s (s.put p n) 3 = _
  simp only [part]
  rcases (by omega : p = 0 ∨ p = 1 ∨ p = 2) with rfl | rfl | rfl
  · rw [z 1 (by omega) (by omega), z 2 (by omega) (by omega), o]; omega
  · rw [z 0 (by omega) (by omega), z 2 (by omega) (by omega), o]; omega
  · rw [z 0 (by omega) (by omega), z 1 (by omega) (by omega), o]; omega
theorem okP_mono {t : Tb} (g : Good t) {s : Sd} {p : Nat} (hp : p < 3) {m n : Int} (hd : dif (s.at p) n ≤ dif (s.at p) m) (h : okP t s p m = true) : okP t s p n = true := by
  unfold okP at *
  rw [alike_iff g] at *
  intro i k hi hk
  have h1 := h i k hi hk
  rw [tellsAt_eq hi hk, decide_eq_false_iff_not, part_put _ _ _ hp] at *
  have ge := (g.eye _ (List.getElem_mem hi)).1
  have gl := g.light _ (List.getElem_mem hk)
  have b1 := sd_bd ge hp
  have b2 := sd_bd gl hp
  have m1 := Int.mul_le_mul_of_nonneg_right hd b1.1
  have m2 := Int.mul_le_mul_of_nonneg_right m1 b2.1
  omega
theorem okP_self {t : Tb} (g : Good t) (s : Sd) {p : Nat} (hp : p < 3) : okP t s p (s.at p) = true := by
  unfold okP; rw [put_self s hp]; exact alike_self g s
structure IsLo (t : Tb) (s : Sd) (p : Nat) (x : Int) : Prop where
  nn : 0 ≤ x
  le : x ≤ s.at p
  ok : okP t s p x = true
  last : x = 0 ∨ okP t s p (x - 1) = false
structure IsHi (t : Tb) (s : Sd) (p : Nat) (x : Int) : Prop where
  le : x ≤ 20
  ge : s.at p ≤ x
  ok : okP t s p x = true
  last : x = 20 ∨ okP t s p (x + 1) = false
theorem IsLo.uniq {t : Tb} (g : Good t) {s : Sd} {p : Nat} (hp : p < 3) {x y : Int} (a : IsLo t s p x) (b : IsLo t s p y) : x = y := by
  have key : ∀ {x y : Int}, IsLo t s p x → IsLo t s p y → ¬ x < y := fun {x y} a b hlt => by
    rcases b.last with h | h
    · have := a.nn; omega
    · have := okP_mono g hp (m := x) (n := y - 1) (by have := b.le; unfold dif; omega) a.ok
      rw [h] at this; cases this
  have := key a b
  have := key b a
  omega
theorem IsHi.uniq {t : Tb} (g : Good t) {s : Sd} {p : Nat} (hp : p < 3) {x y : Int} (a : IsHi t s p x) (b : IsHi t s p y) : x = y := by
  have key : ∀ {x y : Int}, IsHi t s p x → IsHi t s p y → ¬ x < y := fun {x y} a b hlt => by
    rcases a.last with h | h
    · have := b.le; omega
    · have := okP_mono g hp (m := y) (n := x + 1) (by have := a.ge; unfold dif; omega) b.ok
      rw [h] at this; cases this
  have := key a b
  have := key b a
  omega
def shE (t : Tb) (s : Sd) (p : Int) : Int := if check t ≠ 0 then check t else if s.within 20 = false then 3 else if inB p 0 2 = false then 1 else 0
def ShadesR (t : Tb) (s : Sd) (p lo hi : Int) : Prop := if shE t s p = 0 then IsLo t s p.toNat lo ∧ IsHi t s p.toNat hi else lo = 0 ∧ hi = 0
set_option maxHeartbeats 2000000 in
theorem Shades_ev {h : H} {v : V} {t : Tb} (hw : h.wf) (ht : TbIs h v t) (a : Sd) (p : Int) (Q : V → H → Prop) (q : ∀ lo hi h', h.Sub h' → ShadesR t a p lo hi → Q (.tup [.agg [.int .i64 lo, .int .i64 hi], .int .i64 (shE t a p)]) h') :
    Ev fnG fastA (.fn 37 [] []) [v, .agg (encD a), .int .i64 p] h Q := by
  have ht0 := ht
  obtain ⟨E, L, P, rfl, aE, aL, aP⟩ := ht
  refine Ev_body (fd := c37) rfl rfl rfl ?_
  have s4 : h.Sub (((h.add (.cells .rw [E, L, P])).add (.cells .rw [.int .i64 a.x, .int .i64 a.y, .int .i64 a.z])).add (.cells .rw [.int .i64 0, .int .i64 0])) := (by repeat (first | assumption | exact H.Sub.refl (by assumption) | refine H.Sub.add ?_ _ | refine H.Sub.set ?_ (by first | omega | (simp only [H.next_add, H.next_set, H.next_del] <;> omega)) (by first | omega | (simp only [H.next_add, H.next_set, H.next_del] <;> omega)) (by assumption) _))
  have q4 : (((h.add (.cells .rw [E, L, P])).add (.cells .rw [.int .i64 a.x, .int .i64 a.y, .int .i64 a.z])).add (.cells .rw [.int .i64 0, .int .i64 0])).cells (h.next + 1) = some [.int .i64 a.x, .int .i64 a.y, .int .i64 a.z] := by simp -implicitDefEqProofs (maxSteps := 999999) (disch := first | with_reducible rfl | omega | (simp only [nA, nS, nD] <;> omega) | fail) only [go_sem]
  have q5 : (((h.add (.cells .rw [E, L, P])).add (.cells .rw [.int .i64 a.x, .int .i64 a.y, .int .i64 a.z])).add (.cells .rw [.int .i64 0, .int .i64 0])).get (h.next + 1 + 1) = some (.cells .rw [.int .i64 0, .int .i64 0]) := by simp -implicitDefEqProofs (maxSteps := 999999) (disch := first | with_reducible rfl | omega | (simp only [nA, nS, nD] <;> omega) | fail) only [go_sem]
  have n4 : (((h.add (.cells .rw [E, L, P])).add (.cells .rw [.int .i64 a.x, .int .i64 a.y, .int .i64 a.z])).add (.cells .rw [.int .i64 0, .int .i64 0])).next = h.next + 3 := by simp only [H.next_add]
  simp -implicitDefEqProofs (maxSteps := 999999) (disch := first | with_reducible rfl | omega | (simp only [nA, nS, nD] <;> omega) | fail) only [c37, go_sem, encD]
  generalize (((h.add (.cells .rw [E, L, P])).add (.cells .rw [.int .i64 a.x, .int .i64 a.y, .int .i64 a.z])).add (.cells .rw [.int .i64 0, .int .i64 0])) = h4 at s4 q4 q5 n4 ⊢
  have bad : ∀ h', h.Sub h' → ∀ e : Int, e ≠ 0 → shE t a p = e → Q (.tup [.agg [.int .i64 0, .int .i64 0], .int .i64 e]) h' := fun h' s e he e1 => by
    have q' := q 0 0 _ s (by unfold ShadesR; rw [e1, if_neg he]; exact ⟨rfl, rfl⟩)
    rw [e1] at q'; exact q'
  refine opened_use s4.wf (ht0.mono s4) _ (fun h5 s45 c => ?_) fun h5 d s45 c g hd => ?_
  · have r5 := s45.get q5
    have l5 := s45.next
    simp -implicitDefEqProofs (maxSteps := 999999) (disch := first | with_reducible rfl | omega | (simp only [nA, nS, nD] <;> omega) | fail) only [go_sem, ne_eq, c, not_false_eq_true, r5]
    exact bad _ ((s4.trans s45).set (by omega) (by omega) hw _) _ c (by unfold shE; rw [if_pos c])
  have s5 := s4.trans s45
  have hr := right_ev (h := h5) s5.wf a
  simp only [encD] at hr
  simp -implicitDefEqProofs (maxSteps := 999999) (disch := first | with_reducible rfl | omega | (simp only [nA, nS, nD] <;> omega) | fail) only [go_sem, ne_eq, not_true_eq_false, s45.cells q4]
  refine hr _ fun h7 s57 => ?_
  have s47 := s45.trans s57
  have s7 := s4.trans s47
  have r7 := s47.get q5
  have l7 := s47.next
  cases ca : a.within 20
  · simp -implicitDefEqProofs (maxSteps := 999999) (disch := first | with_reducible rfl | omega | (simp only [nA, nS, nD] <;> omega) | fail) only [go_sem, Bool.not_false, r7]
    exact bad _ (s7.set (by omega) (by omega) hw _) 3 (by decide) (by unfold shE; rw [if_neg (by simp [c]), if_pos ca])
  cases cp : inB p 0 2
  · simp -implicitDefEqProofs (maxSteps := 999999) (disch := first | with_reducible rfl | omega | (simp only [nA, nS, nD] <;> omega) | fail) only [go_sem, Bool.not_true, Bool.not_false, r7, in_ev, cp]
    exact bad _ (s7.set (by omega) (by omega) hw _) 1 (by decide) (by unfold shE; rw [if_neg (by simp [c]), if_neg (by simp [ca]), if_pos cp])
  have e1 : shE t a p = 0 := by unfold shE; rw [if_neg (by simp [c]), if_neg (by simp [ca]), if_neg (by simp [cp])]
  simp only [inB, decide_eq_true_eq] at cp
  obtain ⟨j, rfl⟩ := Int.eq_ofNat_of_zero_le cp.1
  have hj : j < 3 := by omega
  have hin := within_iff.1 ca
  have hat := sd_bd hin hj
  have na := sd_nth a hj
  simp only [encD] at na
  have cp' : inB (j : Int) 0 2 = true := by simp only [inB, decide_eq_true_eq]; omega
  have q47 := s47.cells q4
  have hd7 := hd.mono s57
  have ok0 := okP_self g a hj
  have s78 : h7.Sub ((h7.add (.cells .rw [.int .i64 (a.at j), .int .i64 (a.at j)])).add (.cells .rw [.int .i64 a.x, .int .i64 a.y, .int .i64 a.z])) := ((H.Sub.refl s7.wf).add _).add _
  simp -implicitDefEqProofs (maxSteps := 999999) (disch := first | with_reducible rfl | omega | (simp only [nA, nS, nD] <;> omega) | fail) only [go_sem, Bool.not_true, r7, in_ev, cp', q_iaa_ptr (nat_cst j) hj, Nat.mul_one, q47, na, evQ_ld]
  refine W_count 21 (fun n s => ∃ tm h' o lo hi, s = ⟨tm, h', []⟩ ∧ h7.Sub h' ∧ h'.get h7.next = some (.cells .rw [.int .i64 lo, .int .i64 hi]) ∧ h'.get (h7.next + 1) = some (.cells .rw [.int .i64 (a.put j o).x, .int .i64 (a.put j o).y, .int .i64 (a.put j o).z]) ∧ (0 ≤ lo ∧ lo ≤ a.at j ∧ okP t a j lo = true) ∧ (hi ≤ 20 ∧ a.at j ≤ hi ∧ okP t a j hi = true) ∧ (∀ m : Nat, m < n → okP t a j (m : Int) = true → lo ≤ (m : Int) ∧ (m : Int) ≤ hi) ∧
      (Opd.t 2).ev tm = .int .i64 (j : Int) ∧ (Opd.t 4).ev tm = .ptr (h.next + 1) 0 ∧ (Opd.t 6).ev tm = .ptr (h.next + 1 + 1) 0 ∧ (Opd.t 8).ev tm = .ptr d 0 ∧ (Opd.t 10).ev tm = .ptr h7.next 0 ∧ (Opd.t 11).ev tm = .ptr (h7.next + 1) 0 ∧ (Opd.t 41).ev tm = .int .i64 (n : Int))
    ?_ ?_ (i := 0) (Nat.zero_le _) ⟨_, _, a.at j, a.at j, a.at j, rfl, s78, by simp -implicitDefEqProofs (maxSteps := 999999) (disch := first | with_reducible rfl | omega | (simp only [nA, nS, nD] <;> omega) | fail) only [go_sem], by rw [put_self a hj]; simp -implicitDefEqProofs (maxSteps := 999999) (disch := first | with_reducible rfl | omega | (simp only [nA, nS, nD] <;> omega) | fail) only [go_sem], ⟨hat.1, Int.le_refl _, ok0⟩, ⟨hat.2, Int.le_refl _, ok0⟩, fun m hm => by omega, (by simp [ev_c, ev_put] <;> rfl), (by simp [ev_c, ev_put] <;> rfl), (by simp [ev_c, ev_put] <;> rfl), (by simp [ev_c, ev_put] <;> rfl), (by simp [ev_c, ev_put] <;> rfl), (by simp [ev_c, ev_put] <;> rfl), (by simp [ev_c, ev_put] <;> rfl)⟩
  · rintro n s hn ⟨tm, h', o, lo, hi, rfl, hs, g1, g2, hlo, hhi, hall, t2, t4, t6, t8, t10, t11, t41⟩
    have hn' : (n : Int) < 21 := by omega
    have hp := sd_putN (a.put j o) hj (n : Int)
    rw [put_put] at hp
    have l1 := hs.wf _ _ g2
    have s8 : h7.Sub (h'.set (h7.next + 1) (.cells .rw [.int .i64 (a.put j (n : Int)).x, .int .i64 (a.put j (n : Int)).y, .int .i64 (a.put j (n : Int)).z])) := hs.set (by omega) l1 s7.wf _
    have c2 : (h'.set (h7.next + 1) (.cells .rw [.int .i64 (a.put j (n : Int)).x, .int .i64 (a.put j (n : Int)).y, .int .i64 (a.put j (n : Int)).z])).get (h7.next + 1) = some (.cells .rw [.int .i64 (a.put j (n : Int)).x, .int .i64 (a.put j (n : Int)).y, .int .i64 (a.put j (n : Int)).z]) := get_set_same rfl
    have c1 : (h'.set (h7.next + 1) (.cells .rw [.int .i64 (a.put j (n : Int)).x, .int .i64 (a.put j (n : Int)).y, .int .i64 (a.put j (n : Int)).z])).get h7.next = some (.cells .rw [.int .i64 lo, .int .i64 hi]) := by rw [get_set_other (by omega)]; exact g1
    simp -implicitDefEqProofs (maxSteps := 999999) (disch := first | with_reducible rfl | omega | (simp only [nA, nS, nD] <;> omega) | fail) only [go_sem, t2, t4, t6, t8, t10, t11, t41, hn', q_iaa_ptr (nat_cst j) hj, Nat.mul_one, g2, hp, hs.cells q47]
    generalize h'.set (h7.next + 1) (.cells .rw [.int .i64 (a.put j (n : Int)).x, .int .i64 (a.put j (n : Int)).y, .int .i64 (a.put j (n : Int)).z]) = h8 at s8 c1 c2 ⊢
    have hal := alike_ev (h := h8) s8.wf (hd7.mono s8) g hin (put_in hin j (n := (n : Int)) (by omega))
    simp only [encD] at hal
    try simp -implicitDefEqProofs (maxSteps := 999999) (disch := first | with_reducible rfl | omega | (simp only [nA, nS, nD] <;> omega) | fail) only [go_sem, t2, t4, t6, t8, t10, t11, t41, s8.cells q47, cells_of c2]
    refine hal _ fun h9 s89 => ?_
    have s9 := s8.trans s89
    have r1 := s89.get c1
    have r2 := s89.get c2
    have l9 := s9.wf _ _ r1
    have eok : alike t a (a.put j (n : Int)) = okP t a j (n : Int) := rfl
    rw [eok]
    cases hok : okP t a j (n : Int)
    · simp -implicitDefEqProofs (maxSteps := 999999) (disch := first | with_reducible rfl | omega | (simp only [nA, nS, nD] <;> omega) | fail) only [go_sem, t2, t4, t6, t8, t10, t11, t41, wr_succ]
      refine ⟨_, _, (n : Int), lo, hi, rfl, s9, r1, r2, hlo, hhi, fun m hm hm2 => ?_, (by simp [ev_c, ev_put, t2] <;> rfl), (by simp [ev_c, ev_put, t4] <;> rfl), (by simp [ev_c, ev_put, t6] <;> rfl), (by simp [ev_c, ev_put, t8] <;> rfl), (by simp [ev_c, ev_put, t10] <;> rfl), (by simp [ev_c, ev_put, t11] <;> rfl), (by simp [ev_c, ev_put] <;> rfl)⟩
      by_cases e : m = n
      · subst e; rw [hok] at hm2; cases hm2
      · exact hall m (by omega) hm2
    · have sG := (H.Sub.refl s9.wf).add (.cells .rw [.int .i64 (n : Int)])
      have aG : SlAt (h9.add (.cells .rw [.int .i64 (n : Int)])) (.sl h9.next 0 1 (.fix 1)) 1 (([(n : Int)] : List Int).map encI) := SlAt.new _ rfl rfl (by rfl) (by simp [encI]) (by simp)
      have hgr := greatest_ev aG hi
      have ef : ([(n : Int)] : List Int).foldl max hi = max hi (n : Int) := rfl
      rw [ef] at hgr
      have g9 := sG.get r1
      have gA : (h9.add (.cells .rw [.int .i64 (n : Int)])).cells h7.next = some [.int .i64 lo, .int .i64 hi] := cells_of g9
      simp -implicitDefEqProofs (maxSteps := 999999) (disch := first | with_reducible rfl | omega | (simp only [nA, nS, nD] <;> omega) | fail) only [go_sem, t2, t4, t6, t8, t10, t11, t41, r1, cells_of r1, hgr, evQ_ld, gA, g9, wr_succ]
      have sF : h7.Sub ((h9.add (.cells .rw [.int .i64 (n : Int)])).set h7.next (.cells .rw [.int .i64 (min lo (n : Int)), .int .i64 (max hi (n : Int))])) := (s9.trans sG).set (Nat.le_refl _) (by rw [H.next_add]; omega) s7.wf _
      refine ⟨_, _, (n : Int), min lo (n : Int), max hi (n : Int), rfl, sF, get_set_same rfl, by rw [get_set_other (by omega)]; exact sG.get r2, ⟨by omega, by omega, ?_⟩, ⟨by omega, by omega, ?_⟩, fun m hm hm2 => ?_, (by simp [ev_c, ev_put, t2] <;> rfl), (by simp [ev_c, ev_put, t4] <;> rfl), (by simp [ev_c, ev_put, t6] <;> rfl), (by simp [ev_c, ev_put, t8] <;> rfl), (by simp [ev_c, ev_put, t10] <;> rfl), (by simp [ev_c, ev_put, t11] <;> rfl), (by simp [ev_c, ev_put] <;> rfl)⟩
      · rcases (by omega : min lo (n : Int) = lo ∨ min lo (n : Int) = (n : Int)) with e | e <;> rw [e]
        · exact hlo.2.2
        · exact hok
      · rcases (by omega : max hi (n : Int) = hi ∨ max hi (n : Int) = (n : Int)) with e | e <;> rw [e]
        · exact hhi.2.2
        · exact hok
      · by_cases e : m = n
        · subst e; omega
        · have := hall m (by omega) hm2; omega
  · rintro s ⟨tm, h', o, lo, hi, rfl, hs, g1, g2, hlo, hhi, hall, t2, t4, t6, t8, t10, t11, t41⟩
    have hnl : ¬ ((21 : Nat) : Int) < 21 := by omega
    have r8 := hs.get r7
    have l8 := (s7.trans hs).wf _ _ r8
    simp -implicitDefEqProofs (maxSteps := 999999) (disch := first | with_reducible rfl | omega | (simp only [nA, nS, nD] <;> omega) | fail) only [go_sem, t2, t4, t6, t8, t10, t11, t41, hnl, cells_of g1, r8]
    have q' := q lo hi _ ((s7.trans hs).set (b := h.next + 1 + 1) (by omega) l8 hw (.cells .rw [.int .i64 lo, .int .i64 hi])) (by
      unfold ShadesR
      rw [if_pos e1, Int.toNat_natCast]
      refine ⟨⟨hlo.1, hlo.2.1, hlo.2.2, ?_⟩, ⟨hhi.1, hhi.2.1, hhi.2.2, ?_⟩⟩
      · by_cases e : lo = 0
        · exact .inl e
        · refine .inr ?_
          cases hc : okP t a j (lo - 1)
          · rfl
          · have := hall (lo - 1).toNat (by omega) (by rw [Int.toNat_of_nonneg (by omega)]; exact hc)
            omega
      · by_cases e : hi = 20
        · exact .inl e
        · refine .inr ?_
          cases hc : okP t a j (hi + 1)
          · rfl
          · have := hall (hi + 1).toNat (by omega) (by rw [Int.toNat_of_nonneg (by omega)]; exact hc)
            omega)
    rw [e1] at q'; exact q'
end Go.Ab.Try
set_option linter.unusedSimpArgs false
set_option linter.unusedVariables false
namespace Go.Ab
theorem OwnSl.up {h0 h1 h : H} {x : V} {sz : Nat} {rows : List (List V)} (a : OwnSl h1 h x sz rows) (s : h0.Sub h1) : OwnSl h0 h x sz rows := by
  obtain ⟨a0, a1, a2⟩ := a
  refine ⟨s.trans a0, a1, ?_⟩
  have := s.next
  rcases a2 with a2 | ⟨b, e, l1, l2, hb⟩
  · exact .inl a2
  · exact .inr ⟨b, e, by omega, l2, hb⟩
end Go.Ab
namespace Go.Ab.Try
set_option maxHeartbeats 1000000 in
theorem refScrap_ev {h : H} {v : V} {t : Tb} (hw : h.wf) (ht : TbIs h v t) (g : Good t) {a : Sd} (ha : InS a 20) (Q : V → H → Prop) (q : ∀ x h', OwnSl h h' x 1 ((scrapK t a t.pieces.length).map encI) → Q x h') :
    Ev fnG fastA (.fn 41 [] []) [v, .agg (encD a)] h Q := by
  have ht0 := ht
  obtain ⟨E, L, P, rfl, aE, aL, aP⟩ := ht
  have hlP := aP.lenE
  have bP := aP.boundE
  refine Ev_body (fd := c41) rfl rfl rfl ?_
  have s4 : h.Sub ((h.add (.cells .rw [E, L, P])).add (.cells .rw [.int .i64 a.x, .int .i64 a.y, .int .i64 a.z])) := (by repeat (first | assumption | exact H.Sub.refl (by assumption) | refine H.Sub.add ?_ _ | refine H.Sub.set ?_ (by first | omega | (simp only [H.next_add, H.next_set, H.next_del] <;> omega)) (by first | omega | (simp only [H.next_add, H.next_set, H.next_del] <;> omega)) (by assumption) _))
  have q3 : ((h.add (.cells .rw [E, L, P])).add (.cells .rw [.int .i64 a.x, .int .i64 a.y, .int .i64 a.z])).cells h.next = some [E, L, P] := by simp -implicitDefEqProofs (maxSteps := 999999) (disch := first | with_reducible rfl | omega | (simp only [nA, nS, nD] <;> omega) | fail) only [go_sem]
  have q4 : ((h.add (.cells .rw [E, L, P])).add (.cells .rw [.int .i64 a.x, .int .i64 a.y, .int .i64 a.z])).cells (h.next + 1) = some [.int .i64 a.x, .int .i64 a.y, .int .i64 a.z] := by simp -implicitDefEqProofs (maxSteps := 999999) (disch := first | with_reducible rfl | omega | (simp only [nA, nS, nD] <;> omega) | fail) only [go_sem]
  have gp := g.pieces
  simp -implicitDefEqProofs (maxSteps := 999999) (disch := first | with_reducible rfl | omega | (simp only [nA, nS, nD] <;> omega) | fail) only [c41, go_sem, encD]
  generalize ((h.add (.cells .rw [E, L, P])).add (.cells .rw [.int .i64 a.x, .int .i64 a.y, .int .i64 a.z])) = h7 at s4 q3 q4 ⊢
  refine W_count t.pieces.length (fun n s => ∃ tm h' y, s = ⟨tm, h', []⟩ ∧ OwnSl h7 h' y 1 ((scrapK t a n).map encI) ∧ (Opd.t 2).ev tm = .ptr h.next 0 ∧ (Opd.t 3).ev tm = .ptr (h.next + 1) 0 ∧ (Opd.t 5).ev tm = y ∧ (Opd.t 6).ev tm = .int .i64 (n : Int))
    ?_ ?_ (i := 0) (Nat.zero_le _) ⟨_, _, .nils, rfl, OwnSl.nil (H.Sub.refl s4.wf) 1, (by simp [ev_c, ev_put] <;> rfl), (by simp [ev_c, ev_put] <;> rfl), (by simp [ev_c, ev_put] <;> rfl), (by simp [ev_c, ev_put] <;> rfl)⟩
  · rintro n s hn ⟨tm, h', y, rfl, oy, t2, t3, t5, t6⟩
    have hn' : (n : Int) < (t.pieces.length : Int) := by omega
    have s7' := oy.1
    have hs := s4.trans s7'
    obtain ⟨bP, oP, cP, csP, eP, hcP, hqP, hgP, _, _⟩ := (aP.mono hs).at hn
    obtain ⟨e, ee⟩ : ∃ e, t.pieces[n] = e := ⟨_, rfl⟩
    have hst := scrapK_step (s := a) hn
    have hep := g.piece _ (List.getElem_mem hn)
    rw [ee] at hgP hst hep
    simp only [encD] at hgP
    have hal := refAlike_ev hs.wf (ht0.mono hs) g hep ha
    simp only [encD] at hal
    rw [alike_comm g] at hal
    simp -implicitDefEqProofs (maxSteps := 999999) (disch := first | with_reducible rfl | omega | (simp only [nA, nS, nD] <;> omega) | fail) only [go_sem, t2, t3, t5, t6, hn', hlP, s7'.cells q3, s7'.cells q4, hqP (nat_cst n), hcP, hgP, evQ_ld]
    refine hal _ fun h8 s8 => ?_
    cases hc : alike t a e
    · rw [hc] at hst
      simp only [Bool.false_eq_true, ↓reduceIte, List.append_nil] at hst
      simp -implicitDefEqProofs (maxSteps := 999999) (disch := first | with_reducible rfl | omega | (simp only [nA, nS, nD] <;> omega) | fail) only [go_sem, t2, t3, t5, t6, wr_succ, s7'.cells q3, s7'.cells q4, hcP, hgP]
      exact ⟨_, _, y, rfl, by rw [hst]; exact oy.mono s8, (by simp [ev_c, ev_put, t2] <;> rfl), (by simp [ev_c, ev_put, t3] <;> rfl), (by simp [ev_c, ev_put, t5] <;> rfl), (by simp [ev_c, ev_put] <;> rfl)⟩
    · rw [hc] at hst
      simp only [↓reduceIte] at hst
      have hsl := scrapK_len t a n
      have oy8 := oy.mono s8
      have sC := (H.Sub.refl s8.wf).add (.cells .rw [.int .i64 (n : Int)])
      simp -implicitDefEqProofs (maxSteps := 999999) (disch := first | with_reducible rfl | omega | (simp only [nA, nS, nD] <;> omega) | fail) only [go_sem, t2, t3, t5, t6, s7'.cells q3, s7'.cells q4, hcP, hgP]
      refine (oy8.mono sC).app1 (by_ := 8) (r := encI (n : Int)) s4.wf rfl (by omega) own1_lit rfl (by simp only [List.length_map]; omega) (by simp only [List.length_map]; omega) fun h9 o9 k9 n9 => ?_
      rw [H.next_add] at o9
      simp -implicitDefEqProofs (maxSteps := 999999) (disch := first | with_reducible rfl | omega | (simp only [nA, nS, nD] <;> omega) | fail) only [go_sem, t2, t3, t5, t6, wr_succ]
      exact ⟨_, _, _, rfl, by rw [hst, List.map_append]; exact (show OwnSl h7 h9 _ 1 ((scrapK t a n).map encI ++ [encI (n : Int)]) from o9), (by simp [ev_c, ev_put, t2] <;> rfl), (by simp [ev_c, ev_put, t3] <;> rfl), (by simp [ev_c, ev_put] <;> rfl), (by simp [ev_c, ev_put] <;> rfl)⟩
  · rintro s ⟨tm, h', y, rfl, oy, t2, t3, t5, t6⟩
    have hsl := scrapK_len t a t.pieces.length
    simp -implicitDefEqProofs (maxSteps := 999999) (disch := first | with_reducible rfl | omega | (simp only [nA, nS, nD] <;> omega) | fail) only [go_sem, t2, t3, t5, t6, hlP, oy.1.cells q3, Int.lt_irrefl]
    exact q y _ (oy.up s4)
set_option maxHeartbeats 2000000 in
theorem refShades_ev {h : H} {v : V} {t : Tb} (hw : h.wf) (ht : TbIs h v t) (g : Good t) {a : Sd} (ha : InS a 20) {p : Nat} (hp : p < 3) (Q : V → H → Prop) (q : ∀ lo hi h', h.Sub h' → IsLo t a p lo → IsHi t a p hi → Q (.agg [.int .i64 lo, .int .i64 hi]) h') :
    Ev fnG fastA (.fn 42 [] []) [v, .agg (encD a), .int .i64 (p : Int)] h Q := by
  have ht0 := ht
  obtain ⟨E, L, P, rfl, aE, aL, aP⟩ := ht
  refine Ev_body (fd := c42) rfl rfl rfl ?_
  have hat := sd_bd ha hp
  have s5a : h.Sub (((((h.add (.cells .rw [E, L, P])).add (.cells .rw [.int .i64 a.x, .int .i64 a.y, .int .i64 a.z])).add (.cells .rw [.int .i64 0, .int .i64 0])).add (.cells .rw [.int .i64 0, .int .i64 0, .int .i64 0])).add (.cells .rw [.int .i64 0, .int .i64 0, .int .i64 0])) := (by repeat (first | assumption | exact H.Sub.refl (by assumption) | refine H.Sub.add ?_ _ | refine H.Sub.set ?_ (by first | omega | (simp only [H.next_add, H.next_set, H.next_del] <;> omega)) (by first | omega | (simp only [H.next_add, H.next_set, H.next_del] <;> omega)) (by assumption) _))
  have s5 : h.Sub (((((((h.add (.cells .rw [E, L, P])).add (.cells .rw [.int .i64 a.x, .int .i64 a.y, .int .i64 a.z])).add (.cells .rw [.int .i64 0, .int .i64 0])).add (.cells .rw [.int .i64 0, .int .i64 0, .int .i64 0])).add (.cells .rw [.int .i64 0, .int .i64 0, .int .i64 0])).set (h.next + 1 + 1 + 1) (.cells .rw [.int .i64 a.x, .int .i64 a.y, .int .i64 a.z])).set (h.next + 1 + 1 + 1 + 1) (.cells .rw [.int .i64 a.x, .int .i64 a.y, .int .i64 a.z])) := (s5a.set (b := h.next + 1 + 1 + 1) (by omega) (by simp only [H.next_add]; omega) hw _).set (by omega) (by simp only [H.next_set, H.next_add]; omega) hw _
  simp -implicitDefEqProofs (maxSteps := 999999) (disch := first | with_reducible rfl | omega | (simp only [nA, nS, nD] <;> omega) | fail) only [c42, go_sem, encD]
  refine W.mono (Q := fun x s => x = .ext 0 ∧ ∃ tm h' lo, s = ⟨tm, h', []⟩ ∧ h.Sub h' ∧ IsLo t a p lo ∧ h'.get h.next = some (.cells .rw [E, L, P]) ∧ h'.get (h.next + 1) = some (.cells .rw [.int .i64 a.x, .int .i64 a.y, .int .i64 a.z]) ∧ h'.get (h.next + 1 + 1) = some (.cells .rw [.int .i64 0, .int .i64 0]) ∧ h'.get (h.next + 1 + 1 + 1) = some (.cells .rw [.int .i64 (a.put p lo).x, .int .i64 (a.put p lo).y, .int .i64 (a.put p lo).z]) ∧ h'.get (h.next + 1 + 1 + 1 + 1) = some (.cells .rw [.int .i64 a.x, .int .i64 a.y, .int .i64 a.z]) ∧
    (Opd.t 2).ev tm = .int .i64 (p : Int) ∧ (Opd.t 3).ev tm = .ptr h.next 0 ∧ (Opd.t 4).ev tm = .ptr (h.next + 1) 0 ∧ (Opd.t 6).ev tm = .ptr (h.next + 1 + 1) 0 ∧ (Opd.t 7).ev tm = .ptr (h.next + 1 + 1 + 1) 0 ∧ (Opd.t 8).ev tm = .ptr (h.next + 1 + 1 + 1 + 1) 0)
    (W_loop (fun k s => ∃ tm h' lo, s = ⟨tm, h', []⟩ ∧ h.Sub h' ∧ k = lo.toNat ∧ (0 ≤ lo ∧ lo ≤ a.at p ∧ okP t a p lo = true) ∧ h'.get h.next = some (.cells .rw [E, L, P]) ∧ h'.get (h.next + 1) = some (.cells .rw [.int .i64 a.x, .int .i64 a.y, .int .i64 a.z]) ∧ h'.get (h.next + 1 + 1) = some (.cells .rw [.int .i64 0, .int .i64 0]) ∧ h'.get (h.next + 1 + 1 + 1) = some (.cells .rw [.int .i64 (a.put p lo).x, .int .i64 (a.put p lo).y, .int .i64 (a.put p lo).z]) ∧ h'.get (h.next + 1 + 1 + 1 + 1) = some (.cells .rw [.int .i64 a.x, .int .i64 a.y, .int .i64 a.z]) ∧
    (Opd.t 2).ev tm = .int .i64 (p : Int) ∧ (Opd.t 3).ev tm = .ptr h.next 0 ∧ (Opd.t 4).ev tm = .ptr (h.next + 1) 0 ∧ (Opd.t 6).ev tm = .ptr (h.next + 1 + 1) 0 ∧ (Opd.t 7).ev tm = .ptr (h.next + 1 + 1 + 1) 0 ∧ (Opd.t 8).ev tm = .ptr (h.next + 1 + 1 + 1 + 1) 0)
    ?_ (a.at p).toNat _ ⟨_, _, a.at p, rfl, s5, rfl, ⟨hat.1, Int.le_refl _, okP_self g a hp⟩, by simp -implicitDefEqProofs (maxSteps := 999999) (disch := first | with_reducible rfl | omega | (simp only [nA, nS, nD] <;> omega) | fail) only [go_sem], by simp -implicitDefEqProofs (maxSteps := 999999) (disch := first | with_reducible rfl | omega | (simp only [nA, nS, nD] <;> omega) | fail) only [go_sem], by simp -implicitDefEqProofs (maxSteps := 999999) (disch := first | with_reducible rfl | omega | (simp only [nA, nS, nD] <;> omega) | fail) only [go_sem], by rw [put_self a hp]; simp -implicitDefEqProofs (maxSteps := 999999) (disch := first | with_reducible rfl | omega | (simp only [nA, nS, nD] <;> omega) | fail) only [go_sem], by simp -implicitDefEqProofs (maxSteps := 999999) (disch := first | with_reducible rfl | omega | (simp only [nA, nS, nD] <;> omega) | fail) only [go_sem], (by simp [ev_c, ev_put] <;> rfl), (by simp [ev_c, ev_put] <;> rfl), (by simp [ev_c, ev_put] <;> rfl), (by simp [ev_c, ev_put] <;> rfl), (by simp [ev_c, ev_put] <;> rfl), (by simp [ev_c, ev_put] <;> rfl)⟩) fun x s hx => ?_
  · rintro k s ⟨tm, h', lo, rfl, hs, hk, ⟨l1, l2, l3⟩, g1, g2, g3, g4, g5, t2, t3, t4, t6, t7, t8⟩
    have nA := sd_nth (a.put p lo) hp
    simp only [encD] at nA
    rw [at_put a hp] at nA
    by_cases hc : 0 < lo
    · have hp9 := sd_putN (a.put p lo) hp (lo - 1)
      rw [put_put] at hp9
      have hI : InS (a.put p (lo - 1)) 20 := put_in ha p (by omega)
      have ge : ∀ c d : Int, (c > d) = (d < c) := fun _ _ => rfl
      have lb := hs.wf _ _ g5
      have sA := (H.Sub.refl hs.wf).add (.cells .rw [.int .i64 (a.put p (lo - 1)).x, .int .i64 (a.put p (lo - 1)).y, .int .i64 (a.put p (lo - 1)).z])
      have gA : (h'.add (.cells .rw [.int .i64 (a.put p (lo - 1)).x, .int .i64 (a.put p (lo - 1)).y, .int .i64 (a.put p (lo - 1)).z])).cells h'.next = some [.int .i64 (a.put p (lo - 1)).x, .int .i64 (a.put p (lo - 1)).y, .int .i64 (a.put p (lo - 1)).z] := cells_add_new rfl
      simp -implicitDefEqProofs (maxSteps := 999999) (disch := first | with_reducible rfl | omega | (simp only [nA, nS, nD] <;> omega) | fail) only [go_sem, t2, t3, t4, t6, t7, t8, q_iaa_ptr (nat_cst p) hp, Nat.mul_one, g4, cells_of g4, nA, hc, hp9, evQ_ld, wr_in, cells_of g1, cells_of g2]
      generalize h'.add (.cells .rw [.int .i64 (a.put p (lo - 1)).x, .int .i64 (a.put p (lo - 1)).y, .int .i64 (a.put p (lo - 1)).z]) = h8 at sA gA ⊢
      have s8 := hs.trans sA
      have hal := refAlike_ev s8.wf (ht0.mono s8) g ha hI
      simp only [encD] at hal
      refine hal _ fun h9 s9 => ?_
      have sB := sA.trans s9
      have eok : alike t a (a.put p (lo - 1)) = okP t a p (lo - 1) := rfl
      rw [eok]
      cases hok : okP t a p (lo - 1)
      · simp -implicitDefEqProofs (maxSteps := 999999) (disch := first | with_reducible rfl | omega | (simp only [nA, nS, nD] <;> omega) | fail) only [go_sem, t2, t3, t4, t6, t7, t8, Bool.not_false]
        exact ⟨_, _, lo, rfl, hs.trans sB, ⟨l1, l2, l3, .inr hok⟩, sB.get g1, sB.get g2, sB.get g3, sB.get g4, sB.get g5, (by simp [ev_c, ev_put, t2] <;> rfl), (by simp [ev_c, ev_put, t3] <;> rfl), (by simp [ev_c, ev_put, t4] <;> rfl), (by simp [ev_c, ev_put, t6] <;> rfl), (by simp [ev_c, ev_put, t7] <;> rfl), (by simp [ev_c, ev_put, t8] <;> rfl)⟩
      · have l9 := sB.next
        simp -implicitDefEqProofs (maxSteps := 999999) (disch := first | with_reducible rfl | omega | (simp only [nA, nS, nD] <;> omega) | fail) only [go_sem, t2, t3, t4, t6, t7, t8, Bool.not_true, s9.cells gA, sB.get g4]
        exact ⟨(lo - 1).toNat, by omega, _, _, lo - 1, rfl, (hs.trans sB).set (by omega) (by omega) hw _, rfl, ⟨by omega, by omega, hok⟩, by rw [get_set_other (by omega)]; exact sB.get g1, by rw [get_set_other (by omega)]; exact sB.get g2, by rw [get_set_other (by omega)]; exact sB.get g3, get_set_same rfl, by rw [get_set_other (by omega)]; exact sB.get g5, (by simp [ev_c, ev_put, t2] <;> rfl), (by simp [ev_c, ev_put, t3] <;> rfl), (by simp [ev_c, ev_put, t4] <;> rfl), (by simp [ev_c, ev_put, t6] <;> rfl), (by simp [ev_c, ev_put, t7] <;> rfl), (by simp [ev_c, ev_put, t8] <;> rfl)⟩
    · simp -implicitDefEqProofs (maxSteps := 999999) (disch := first | with_reducible rfl | omega | (simp only [nA, nS, nD] <;> omega) | fail) only [go_sem, t2, t3, t4, t6, t7, t8, q_iaa_ptr (nat_cst p) hp, Nat.mul_one, g4, cells_of g4, nA, hc, evQ_ld]
      exact ⟨_, _, lo, rfl, hs, ⟨l1, l2, l3, .inl (by omega)⟩, g1, g2, g3, g4, g5, (by simp [ev_c, ev_put, t2] <;> rfl), (by simp [ev_c, ev_put, t3] <;> rfl), (by simp [ev_c, ev_put, t4] <;> rfl), (by simp [ev_c, ev_put, t6] <;> rfl), (by simp [ev_c, ev_put, t7] <;> rfl), (by simp [ev_c, ev_put, t8] <;> rfl)⟩
  obtain ⟨rfl, tm, h1, lo, rfl, s1, hlo, g1, g2, g3, g4, g5, t2, t3, t4, t6, t7, t8⟩ := hx
  simp -implicitDefEqProofs (maxSteps := 999999) (disch := first | with_reducible rfl | omega | (simp only [nA, nS, nD] <;> omega) | fail) only [go_sem]
  refine W.mono (Q := fun x s => x = .ext 2 ∧ ∃ tm h' hi, s = ⟨tm, h', []⟩ ∧ h.Sub h' ∧ IsHi t a p hi ∧ h'.get (h.next + 1 + 1) = some (.cells .rw [.int .i64 0, .int .i64 0]) ∧ h'.get (h.next + 1 + 1 + 1) = some (.cells .rw [.int .i64 (a.put p lo).x, .int .i64 (a.put p lo).y, .int .i64 (a.put p lo).z]) ∧ h'.get (h.next + 1 + 1 + 1 + 1) = some (.cells .rw [.int .i64 (a.put p hi).x, .int .i64 (a.put p hi).y, .int .i64 (a.put p hi).z]) ∧
    (Opd.t 2).ev tm = .int .i64 (p : Int) ∧ (Opd.t 6).ev tm = .ptr (h.next + 1 + 1) 0 ∧ (Opd.t 7).ev tm = .ptr (h.next + 1 + 1 + 1) 0 ∧ (Opd.t 8).ev tm = .ptr (h.next + 1 + 1 + 1 + 1) 0)
    (W_loop (fun k s => ∃ tm h' hi, s = ⟨tm, h', []⟩ ∧ h.Sub h' ∧ k = (20 - hi).toNat ∧ (hi ≤ 20 ∧ a.at p ≤ hi ∧ okP t a p hi = true) ∧ h'.get h.next = some (.cells .rw [E, L, P]) ∧ h'.get (h.next + 1) = some (.cells .rw [.int .i64 a.x, .int .i64 a.y, .int .i64 a.z]) ∧ h'.get (h.next + 1 + 1) = some (.cells .rw [.int .i64 0, .int .i64 0]) ∧ h'.get (h.next + 1 + 1 + 1) = some (.cells .rw [.int .i64 (a.put p lo).x, .int .i64 (a.put p lo).y, .int .i64 (a.put p lo).z]) ∧ h'.get (h.next + 1 + 1 + 1 + 1) = some (.cells .rw [.int .i64 (a.put p hi).x, .int .i64 (a.put p hi).y, .int .i64 (a.put p hi).z]) ∧
    (Opd.t 2).ev tm = .int .i64 (p : Int) ∧ (Opd.t 3).ev tm = .ptr h.next 0 ∧ (Opd.t 4).ev tm = .ptr (h.next + 1) 0 ∧ (Opd.t 6).ev tm = .ptr (h.next + 1 + 1) 0 ∧ (Opd.t 7).ev tm = .ptr (h.next + 1 + 1 + 1) 0 ∧ (Opd.t 8).ev tm = .ptr (h.next + 1 + 1 + 1 + 1) 0)
    ?_ (20 - a.at p).toNat _ ⟨_, _, a.at p, rfl, s1, rfl, ⟨hat.2, Int.le_refl _, okP_self g a hp⟩, g1, g2, g3, g4, by rw [put_self a hp]; exact g5, t2, t3, t4, t6, t7, t8⟩) fun x s hx => ?_
  · rintro k s ⟨tm, h', hi, rfl, hs, hk, ⟨l1, l2, l3⟩, g1, g2, g3, g4, g5, t2, t3, t4, t6, t7, t8⟩
    have nA := sd_nth (a.put p hi) hp
    simp only [encD] at nA
    rw [at_put a hp] at nA
    by_cases hc : hi < 20
    · have hp9 := sd_putN (a.put p hi) hp (hi + 1)
      rw [put_put] at hp9
      have hI : InS (a.put p (hi + 1)) 20 := put_in ha p (by omega)
      have lb := hs.wf _ _ g5
      have sA := (H.Sub.refl hs.wf).add (.cells .rw [.int .i64 (a.put p (hi + 1)).x, .int .i64 (a.put p (hi + 1)).y, .int .i64 (a.put p (hi + 1)).z])
      have gA : (h'.add (.cells .rw [.int .i64 (a.put p (hi + 1)).x, .int .i64 (a.put p (hi + 1)).y, .int .i64 (a.put p (hi + 1)).z])).cells h'.next = some [.int .i64 (a.put p (hi + 1)).x, .int .i64 (a.put p (hi + 1)).y, .int .i64 (a.put p (hi + 1)).z] := cells_add_new rfl
      simp -implicitDefEqProofs (maxSteps := 999999) (disch := first | with_reducible rfl | omega | (simp only [nA, nS, nD] <;> omega) | fail) only [go_sem, t2, t3, t4, t6, t7, t8, q_iaa_ptr (nat_cst p) hp, Nat.mul_one, g5, cells_of g5, nA, hc, hp9, evQ_ld, wr_in, cells_of g1, cells_of g2]
      generalize h'.add (.cells .rw [.int .i64 (a.put p (hi + 1)).x, .int .i64 (a.put p (hi + 1)).y, .int .i64 (a.put p (hi + 1)).z]) = h8 at sA gA ⊢
      have s8 := hs.trans sA
      have hal := refAlike_ev s8.wf (ht0.mono s8) g ha hI
      simp only [encD] at hal
      refine hal _ fun h9 s9 => ?_
      have sB := sA.trans s9
      have eok : alike t a (a.put p (hi + 1)) = okP t a p (hi + 1) := rfl
      rw [eok]
      cases hok : okP t a p (hi + 1)
      · simp -implicitDefEqProofs (maxSteps := 999999) (disch := first | with_reducible rfl | omega | (simp only [nA, nS, nD] <;> omega) | fail) only [go_sem, t2, t3, t4, t6, t7, t8, Bool.not_false]
        exact ⟨_, _, hi, rfl, hs.trans sB, ⟨l1, l2, l3, .inr hok⟩, sB.get g3, sB.get g4, sB.get g5, (by simp [ev_c, ev_put, t2] <;> rfl), (by simp [ev_c, ev_put, t6] <;> rfl), (by simp [ev_c, ev_put, t7] <;> rfl), (by simp [ev_c, ev_put, t8] <;> rfl)⟩
      · have l9 := sB.next
        simp -implicitDefEqProofs (maxSteps := 999999) (disch := first | with_reducible rfl | omega | (simp only [nA, nS, nD] <;> omega) | fail) only [go_sem, t2, t3, t4, t6, t7, t8, Bool.not_true, s9.cells gA, sB.get g5]
        exact ⟨(20 - (hi + 1)).toNat, by omega, _, _, hi + 1, rfl, (hs.trans sB).set (by omega) (by omega) hw _, rfl, ⟨by omega, by omega, hok⟩, by rw [get_set_other (by omega)]; exact sB.get g1, by rw [get_set_other (by omega)]; exact sB.get g2, by rw [get_set_other (by omega)]; exact sB.get g3, by rw [get_set_other (by omega)]; exact sB.get g4, get_set_same rfl, (by simp [ev_c, ev_put, t2] <;> rfl), (by simp [ev_c, ev_put, t3] <;> rfl), (by simp [ev_c, ev_put, t4] <;> rfl), (by simp [ev_c, ev_put, t6] <;> rfl), (by simp [ev_c, ev_put, t7] <;> rfl), (by simp [ev_c, ev_put, t8] <;> rfl)⟩
    · simp -implicitDefEqProofs (maxSteps := 999999) (disch := first | with_reducible rfl | omega | (simp only [nA, nS, nD] <;> omega) | fail) only [go_sem, t2, t3, t4, t6, t7, t8, q_iaa_ptr (nat_cst p) hp, Nat.mul_one, g5, cells_of g5, nA, hc, evQ_ld]
      exact ⟨_, _, hi, rfl, hs, ⟨l1, l2, l3, .inl (by omega)⟩, g3, g4, g5, (by simp [ev_c, ev_put, t2] <;> rfl), (by simp [ev_c, ev_put, t6] <;> rfl), (by simp [ev_c, ev_put, t7] <;> rfl), (by simp [ev_c, ev_put, t8] <;> rfl)⟩
  obtain ⟨rfl, tm, h2, hi, rfl, s2, hhi, g3, g4, g5, t2, t6, t7, t8⟩ := hx
  have n7 := sd_nth (a.put p lo) hp
  have n8 := sd_nth (a.put p hi) hp
  simp only [encD] at n7 n8
  rw [at_put a hp] at n7 n8
  have lb := s2.wf _ _ g5
  simp -implicitDefEqProofs (maxSteps := 999999) (disch := first | with_reducible rfl | omega | (simp only [nA, nS, nD] <;> omega) | fail) only [go_sem, t2, t6, t7, t8, q_iaa_ptr (nat_cst p) hp, Nat.mul_one, cells_of g4, cells_of g5, n7, n8, evQ_ld, g3]
  exact q lo hi _ (s2.set (by omega) (by omega) hw _) hlo hhi
theorem apartK_row (t : Tb) (a b : Sd) {i k : Nat} (hk : k < t.lights.length) : apartK t a b (i * t.lights.length + k + 1) = apartK t a b (i * t.lights.length + k) ++ if tellsAt t a b i k = true then [((i : Int), (k : Int))] else [] := by
  have e1 : (i * t.lights.length + k) / t.lights.length = i := by rw [Nat.add_comm, Nat.add_mul_div_right _ _ (by omega), Nat.div_eq_of_lt hk, Nat.zero_add]
  have e2 : (i * t.lights.length + k) % t.lights.length = k := by rw [Nat.add_comm, Nat.add_mul_mod_self_right, Nat.mod_eq_of_lt hk]
  simp only [apartK, e1, e2]
set_option maxHeartbeats 2000000 in
theorem refApart_ev {h : H} {v : V} {t : Tb} (hw : h.wf) (ht : TbIs h v t) (g : Good t) {a b : Sd} (ha : InS a 20) (hb : InS b 20) (Q : V → H → Prop) (q : ∀ x h', OwnSl h h' x 2 ((apartK t a b (t.eyes.length * t.lights.length)).map encK) → Q x h') :
    Ev fnG fastA (.fn 40 [] []) [v, .agg (encD a), .agg (encD b)] h Q := by
  have ht0 := ht
  obtain ⟨E, L, P, rfl, aE, aL, aP⟩ := ht
  have hlE := aE.lenE
  have hlL := aL.lenE
  have bE := aE.boundE
  have bL := aL.boundE
  refine Ev_body (fd := c40) rfl rfl rfl ?_
  have s4 : h.Sub (((h.add (.cells .rw [E, L, P])).add (.cells .rw [.int .i64 a.x, .int .i64 a.y, .int .i64 a.z])).add (.cells .rw [.int .i64 b.x, .int .i64 b.y, .int .i64 b.z])) := (by repeat (first | assumption | exact H.Sub.refl (by assumption) | refine H.Sub.add ?_ _ | refine H.Sub.set ?_ (by first | omega | (simp only [H.next_add, H.next_set, H.next_del] <;> omega)) (by first | omega | (simp only [H.next_add, H.next_set, H.next_del] <;> omega)) (by assumption) _))
  have q3 : (((h.add (.cells .rw [E, L, P])).add (.cells .rw [.int .i64 a.x, .int .i64 a.y, .int .i64 a.z])).add (.cells .rw [.int .i64 b.x, .int .i64 b.y, .int .i64 b.z])).cells h.next = some [E, L, P] := by simp -implicitDefEqProofs (maxSteps := 999999) (disch := first | with_reducible rfl | omega | (simp only [nA, nS, nD] <;> omega) | fail) only [go_sem]
  have q4 : (((h.add (.cells .rw [E, L, P])).add (.cells .rw [.int .i64 a.x, .int .i64 a.y, .int .i64 a.z])).add (.cells .rw [.int .i64 b.x, .int .i64 b.y, .int .i64 b.z])).cells (h.next + 1) = some [.int .i64 a.x, .int .i64 a.y, .int .i64 a.z] := by simp -implicitDefEqProofs (maxSteps := 999999) (disch := first | with_reducible rfl | omega | (simp only [nA, nS, nD] <;> omega) | fail) only [go_sem]
  have q5 : (((h.add (.cells .rw [E, L, P])).add (.cells .rw [.int .i64 a.x, .int .i64 a.y, .int .i64 a.z])).add (.cells .rw [.int .i64 b.x, .int .i64 b.y, .int .i64 b.z])).cells (h.next + 1 + 1) = some [.int .i64 b.x, .int .i64 b.y, .int .i64 b.z] := by simp -implicitDefEqProofs (maxSteps := 999999) (disch := first | with_reducible rfl | omega | (simp only [nA, nS, nD] <;> omega) | fail) only [go_sem]
  have gE := g.eyes
  have gL := g.lights
  have hmul : t.eyes.length * t.lights.length ≤ 24 := Nat.le_trans (Nat.mul_le_mul gE.2 gL.2) (by decide)
  simp -implicitDefEqProofs (maxSteps := 999999) (disch := first | with_reducible rfl | omega | (simp only [nA, nS, nD] <;> omega) | fail) only [c40, go_sem, encD]
  generalize (((h.add (.cells .rw [E, L, P])).add (.cells .rw [.int .i64 a.x, .int .i64 a.y, .int .i64 a.z])).add (.cells .rw [.int .i64 b.x, .int .i64 b.y, .int .i64 b.z])) = h7 at s4 q3 q4 q5 ⊢
  refine W_count t.eyes.length (fun i s => ∃ tm h' y, s = ⟨tm, h', []⟩ ∧ OwnSl h7 h' y 2 ((apartK t a b (i * t.lights.length)).map encK) ∧ (Opd.t 3).ev tm = .ptr h.next 0 ∧ (Opd.t 4).ev tm = .ptr (h.next + 1) 0 ∧ (Opd.t 5).ev tm = .ptr (h.next + 1 + 1) 0 ∧ (Opd.t 7).ev tm = y ∧ (Opd.t 8).ev tm = .int .i64 (i : Int))
    ?_ ?_ (i := 0) (Nat.zero_le _) ⟨_, _, .nils, rfl, by rw [Nat.zero_mul]; exact OwnSl.nil (H.Sub.refl s4.wf) 2, (by simp [ev_c, ev_put] <;> rfl), (by simp [ev_c, ev_put] <;> rfl), (by simp [ev_c, ev_put] <;> rfl), (by simp [ev_c, ev_put] <;> rfl), (by simp [ev_c, ev_put] <;> rfl)⟩
  · rintro i s hi ⟨tm, h', y, rfl, oy, t3, t4, t5, t7, t8⟩
    have hi' : (i : Int) < (t.eyes.length : Int) := by omega
    have hrow : (i + 1) * t.lights.length ≤ t.eyes.length * t.lights.length := Nat.mul_le_mul_right _ hi
    simp -implicitDefEqProofs (maxSteps := 999999) (disch := first | with_reducible rfl | omega | (simp only [nA, nS, nD] <;> omega) | fail) only [go_sem, t3, t4, t5, t7, t8, hi', hlE, oy.1.cells q3, evQ_ld]
    refine W_count t.lights.length (fun k s => ∃ tm h' y, s = ⟨tm, h', []⟩ ∧ OwnSl h7 h' y 2 ((apartK t a b (i * t.lights.length + k)).map encK) ∧ (Opd.t 3).ev tm = .ptr h.next 0 ∧ (Opd.t 4).ev tm = .ptr (h.next + 1) 0 ∧ (Opd.t 5).ev tm = .ptr (h.next + 1 + 1) 0 ∧ (Opd.t 7).ev tm = y ∧ (Opd.t 8).ev tm = .int .i64 (i : Int) ∧ (Opd.t 9).ev tm = .int .i64 (k : Int))
      ?_ ?_ (i := 0) (Nat.zero_le _) ⟨_, _, y, rfl, oy, (by simp [ev_c, ev_put, t3] <;> rfl), (by simp [ev_c, ev_put, t4] <;> rfl), (by simp [ev_c, ev_put, t5] <;> rfl), (by simp [ev_c, ev_put, t7] <;> rfl), (by simp [ev_c, ev_put, t8] <;> rfl), (by simp [ev_c, ev_put] <;> rfl)⟩
    · rintro k s hk ⟨tm, h', y, rfl, oy, t3, t4, t5, t7, t8, t9⟩
      have hk' : (k : Int) < (t.lights.length : Int) := by omega
      have s7' := oy.1
      have hs := s4.trans s7'
      have hsee := refSees_ev hs.wf (ht0.mono hs) g hi hk ha hb
      simp only [encD] at hsee
      have hrow2 : i * t.lights.length + k + 1 ≤ t.eyes.length * t.lights.length := by rw [Nat.succ_mul] at hrow; omega
      have hst := apartK_row t a b (i := i) hk
      have hlen := apartK_len t a b (i * t.lights.length + k)
      rw [tellsAt_eq hi hk] at hst
      simp -implicitDefEqProofs (maxSteps := 999999) (disch := first | with_reducible rfl | omega | (simp only [nA, nS, nD] <;> omega) | fail) only [go_sem, t3, t4, t5, t7, t8, t9, s7'.cells q3, s7'.cells q4, s7'.cells q5, hlL, hk', evQ_ld]
      refine hsee _ fun h2 s2 => ?_
      obtain ⟨bE, oE, cE, csE, eE, hcE, hqE, _, hnE, _⟩ := (aE.mono (hs.trans s2)).at hi
      have hfr : nth (oE + i * 4 + 3) csE = some (.int .i64 t.eyes[i].frm) := by rw [hnE 3 (by omega)]; rfl
      have hcE1 : h'.cells bE = some csE := by
        obtain ⟨bE', oE', cE', csE', eE', hcE', _⟩ := (aE.mono hs).at hi
        rw [eE] at eE'; injection eE' with x1 x2; subst x1
        have e1 := s2.cells hcE'
        rw [hcE] at e1; cases e1
        exact hcE'
      have oy2 := oy.mono s2
      have s72 := s7'.trans s2
      simp -implicitDefEqProofs (maxSteps := 999999) (disch := first | with_reducible rfl | omega | (simp only [nA, nS, nD] <;> omega) | fail) only [go_sem, t3, t4, t5, t7, t8, t9, s7'.cells q3, s7'.cells q4, s7'.cells q5, s72.cells q3, s72.cells q4, s72.cells q5, hqE (nat_cst i), hcE, hcE1, hfr, evQ_ld]
      by_cases hc : t.eyes[i].frm ≤ seesN t.eyes[i].s t.lights[k] a b
      · rw [decide_eq_true hc] at hst
        simp only [↓reduceIte] at hst
        have sC := (H.Sub.refl s2.wf).add (.cells .rw [.int .i64 (i : Int), .int .i64 (k : Int)])
        have own2 : SlAt (h2.add (.cells .rw [.int .i64 (i : Int), .int .i64 (k : Int)])) (.sl h2.next 0 1 (.fix 1)) 2 [[.int .i64 (i : Int), .int .i64 (k : Int)]] := SlAt.new _ rfl rfl (by simp) (by simp) (by simp)
        simp -implicitDefEqProofs (maxSteps := 999999) (disch := first | with_reducible rfl | omega | (simp only [nA, nS, nD] <;> omega) | fail) only [go_sem, t3, t4, t5, t7, t8, t9, hc, hcE1, hfr]
        refine (oy2.mono sC).app1 (by_ := 16) (r := encK (i, k)) s4.wf rfl (by omega) own2 rfl (by simp only [List.length_map]; omega) (by simp only [List.length_map]; omega) fun h9 o9 k9 n9 => ?_
        rw [H.next_add] at o9
        simp -implicitDefEqProofs (maxSteps := 999999) (disch := first | with_reducible rfl | omega | (simp only [nA, nS, nD] <;> omega) | fail) only [go_sem, t3, t4, t5, t7, t8, t9, wr_succ]
        exact ⟨_, _, _, rfl, by rw [← Nat.add_assoc, hst, List.map_append]; exact o9, (by simp [ev_c, ev_put, t3] <;> rfl), (by simp [ev_c, ev_put, t4] <;> rfl), (by simp [ev_c, ev_put, t5] <;> rfl), (by simp [ev_c, ev_put] <;> rfl), (by simp [ev_c, ev_put, t8] <;> rfl), (by simp [ev_c, ev_put] <;> rfl)⟩
      · rw [decide_eq_false hc] at hst
        simp only [Bool.false_eq_true, ↓reduceIte, List.append_nil] at hst
        simp -implicitDefEqProofs (maxSteps := 999999) (disch := first | with_reducible rfl | omega | (simp only [nA, nS, nD] <;> omega) | fail) only [go_sem, t3, t4, t5, t7, t8, t9, hc, hcE1, hfr, wr_succ]
        exact ⟨_, _, y, rfl, by rw [← Nat.add_assoc, hst]; exact oy2, (by simp [ev_c, ev_put, t3] <;> rfl), (by simp [ev_c, ev_put, t4] <;> rfl), (by simp [ev_c, ev_put, t5] <;> rfl), (by simp [ev_c, ev_put, t7] <;> rfl), (by simp [ev_c, ev_put, t8] <;> rfl), (by simp [ev_c, ev_put] <;> rfl)⟩
    · rintro s ⟨tm, h', y, rfl, oy, t3, t4, t5, t7, t8, t9⟩
      simp -implicitDefEqProofs (maxSteps := 999999) (disch := first | with_reducible rfl | omega | (simp only [nA, nS, nD] <;> omega) | fail) only [go_sem, t3, t4, t5, t7, t8, t9, oy.1.cells q3, hlL, Int.lt_irrefl, evQ_ld, wr_succ]
      exact ⟨_, _, y, rfl, by rw [Nat.succ_mul]; exact oy, (by simp [ev_c, ev_put, t3] <;> rfl), (by simp [ev_c, ev_put, t4] <;> rfl), (by simp [ev_c, ev_put, t5] <;> rfl), (by simp [ev_c, ev_put, t7] <;> rfl), (by simp [ev_c, ev_put] <;> rfl)⟩
  · rintro s ⟨tm, h', y, rfl, oy, t3, t4, t5, t7, t8⟩
    have hlen := apartK_len t a b (t.eyes.length * t.lights.length)
    simp -implicitDefEqProofs (maxSteps := 999999) (disch := first | with_reducible rfl | omega | (simp only [nA, nS, nD] <;> omega) | fail) only [go_sem, t3, t4, t5, t7, t8, oy.1.cells q3, hlE, Int.lt_irrefl, evQ_ld]
    exact q y _ (oy.up s4)
end Go.Ab.Try
set_option linter.unusedSimpArgs false
set_option linter.unusedVariables false
namespace Go.Ab.Try
variable {Fn : Nat → Option FD} {fast : Nat → Option (List V → H → Option (V × H))} {N fn : Nat} {ro : Option Nat}
theorem W_assoc {A B P : C} {s : St} {R : X → St → Prop} : W Fn fast N fn ro (A.seq (B.seq P)) s R = W Fn fast N fn ro ((A.seq B).seq P) s R := by
  rw [W_seq, W_seq, W_seq]
  congr 1
  funext x s'
  cases x
  · simp only [Kseq, W_seq]
  · rfl
  · rfl
theorem W_split {A P : C} {s : St} {R : X → St → Prop} (J : St → Prop) (h : W Fn fast N fn ro A s (fun x s' => x = .nrm ∧ J s')) (k : ∀ s', J s' → W Fn fast N fn ro P s' R) : W Fn fast N fn ro (A.seq P) s R := by
  rw [W_seq]
  exact h.mono fun x s' ⟨hx, hj⟩ => by subst hx; exact k s' hj
theorem PBd_join {v : V} {c1 c2 : C} {s1 s2 : St} {K : X → St → Prop} {tg} (R : X → St → Prop) (h : PBd v (W Fn fast N fn ro c1 s1 R) (W Fn fast N fn ro c2 s2 R) ⟨⟩) (k : ∀ x s, R x s → K x s) : PBd v (W Fn fast N fn ro c1 s1 K) (W Fn fast N fn ro c2 s2 K) tg := by
  cases v
  case bool b => cases b <;> exact W.mono h k
  all_goals exact h.elim
theorem d30 : decide ((3 : Int) = 0) = false := rfl
theorem d10 : decide ((1 : Int) = 0) = false := rfl
theorem d00 : decide ((0 : Int) = 0) = true := rfl
theorem pr_feq (a b : Int) : q_feq true 2 (.agg [.int .i64 a, .int .i64 b]) (.agg [.int .i64 a, .int .i64 b]) = some (.bool false) := by
  have h := q_feq_map (n := 2) [a, b] [a, b] rfl rfl true
  rw [decide_eq_true rfl] at h
  exact h
theorem IsLo.shadesR' {t : Tb} {a : Sd} {w lo hi lo' hi' : Int} (x : ShadesR t a w lo hi) (y : ShadesR t a w lo' hi') : lo = lo' ∧ hi = hi' := by
  unfold ShadesR at *
  by_cases e : shE t a w = 0
  · rw [if_pos e] at x y
    have g : Good t := check_iff.1 (by
      unfold shE at e
      split at e
      · assumption
      · rename_i h; exact Decidable.not_not.1 h)
    have hp : w.toNat < 3 := by
      unfold shE at e
      split at e
      · omega
      · split at e
        · omega
        · split at e
          · omega
          · rename_i h; simp [inB] at h; omega
    exact ⟨x.1.uniq g hp y.1, x.2.uniq g hp y.2⟩
  · rw [if_neg e] at x y
    omega
theorem Small_of {t : Tb} (h : greatT t = false) : Small t := by
  simp only [greatT, decide_eq_false_iff_not] at h
  exact ⟨by omega, by omega, by omega⟩
set_option maxHeartbeats 4000000 in
theorem EyeMatches_ev {h : H} {v : V} {t : Tb} (hw : h.wf) (ht : TbIs h v t) (a b : Sd) (p r w : Int) :
    Ev fnG fastA (.fn 5 [] []) [v, .agg (encD a), .agg (encD b), .int .i64 p, .int .i64 r, .int .i64 w] h (fun u _ => u = .bool true) := by
  have ht0 := ht
  obtain ⟨E, L, P, rfl, aE, aL, aP⟩ := ht
  refine Ev_body (fd := c5) rfl rfl rfl ?_
  have s3 : h.Sub (((h.add (.cells .rw [E, L, P])).add (.cells .rw [.int .i64 a.x, .int .i64 a.y, .int .i64 a.z])).add (.cells .rw [.int .i64 b.x, .int .i64 b.y, .int .i64 b.z])) := (by repeat (first | assumption | exact H.Sub.refl (by assumption) | refine H.Sub.add ?_ _ | refine H.Sub.set ?_ (by first | omega | (simp only [H.next_add, H.next_set, H.next_del] <;> omega)) (by first | omega | (simp only [H.next_add, H.next_set, H.next_del] <;> omega)) (by assumption) _))
  have q3 : (((h.add (.cells .rw [E, L, P])).add (.cells .rw [.int .i64 a.x, .int .i64 a.y, .int .i64 a.z])).add (.cells .rw [.int .i64 b.x, .int .i64 b.y, .int .i64 b.z])).cells h.next = some [E, L, P] := by simp -implicitDefEqProofs (maxSteps := 999999) (disch := first | with_reducible rfl | omega | (simp only [nA, nS, nD] <;> omega) | fail) only [go_sem]
  have q4 : (((h.add (.cells .rw [E, L, P])).add (.cells .rw [.int .i64 a.x, .int .i64 a.y, .int .i64 a.z])).add (.cells .rw [.int .i64 b.x, .int .i64 b.y, .int .i64 b.z])).cells (h.next + 1) = some [.int .i64 a.x, .int .i64 a.y, .int .i64 a.z] := by simp -implicitDefEqProofs (maxSteps := 999999) (disch := first | with_reducible rfl | omega | (simp only [nA, nS, nD] <;> omega) | fail) only [go_sem]
  have q5 : (((h.add (.cells .rw [E, L, P])).add (.cells .rw [.int .i64 a.x, .int .i64 a.y, .int .i64 a.z])).add (.cells .rw [.int .i64 b.x, .int .i64 b.y, .int .i64 b.z])).cells (h.next + 1 + 1) = some [.int .i64 b.x, .int .i64 b.y, .int .i64 b.z] := by simp -implicitDefEqProofs (maxSteps := 999999) (disch := first | with_reducible rfl | omega | (simp only [nA, nS, nD] <;> omega) | fail) only [go_sem]
  have nx : (((h.add (.cells .rw [E, L, P])).add (.cells .rw [.int .i64 a.x, .int .i64 a.y, .int .i64 a.z])).add (.cells .rw [.int .i64 b.x, .int .i64 b.y, .int .i64 b.z])).next = h.next + 3 := by simp only [H.next_add]
  simp -implicitDefEqProofs (maxSteps := 999999) (disch := first | with_reducible rfl | omega | (simp only [nA, nS, nD] <;> omega) | fail) only [c5, go_sem, encD]
  generalize (((h.add (.cells .rw [E, L, P])).add (.cells .rw [.int .i64 a.x, .int .i64 a.y, .int .i64 a.z])).add (.cells .rw [.int .i64 b.x, .int .i64 b.y, .int .i64 b.z])) = h3 at s3 q3 q4 q5 nx ⊢
  refine great_ev s3.wf (ht0.mono s3) _ fun h4 s34 => ?_
  cases hg : greatT t
  case true =>
    simp -implicitDefEqProofs (maxSteps := 999999) (disch := first | with_reducible rfl | omega | (simp only [nA, nS, nD] <;> omega) | fail) only [go_sem, awake_eq]
  have hsm := Small_of hg
  simp -implicitDefEqProofs (maxSteps := 999999) (disch := first | with_reducible rfl | omega | (simp only [nA, nS, nD] <;> omega) | fail) only [go_sem, s34.cells q3]
  refine own_ev s34.wf (ht0.mono (s3.trans s34)) hsm _ fun u h5 s45 hu => ?_
  have s35 := s34.trans s45
  simp -implicitDefEqProofs (maxSteps := 999999) (disch := first | with_reducible rfl | omega | (simp only [nA, nS, nD] <;> omega) | fail) only [go_sem, s34.cells q3, s35.cells q3]
  refine theirs_ev s45.wf (ht0.mono (s3.trans s35)) hsm _ fun o h6 s56 ho => ?_
  have s36 := s35.trans s56
  have hu0 := hu.is hsm
  have ho0 := ho
  obtain ⟨a1, a2, a3, rfl, hu⟩ := hu
  obtain ⟨E2, L2, P2, rfl, o1, o2, o3⟩ := ho
  have lx := s36.next
  rw [nx] at lx
  have n1 := o1.one
  have n2 := o2.one
  have n3 := o3.one
  have s67 : h6.Sub ((((((((h6.add (.cells .rw [.nils, .nils, .nils])).add (.cells .rw [.nils, .nils, .nils])).set h6.next (.cells .rw [.sl a1 0 t.eyes.length (.fix t.eyes.length), .sl a2 0 t.lights.length (.fix t.lights.length), .sl a3 0 t.pieces.length (.fix t.pieces.length)])).set (h6.next + 1) (.cells .rw [E2, L2, P2])).add (.cells .rw [.int .i64 0, .int .i64 0, .int .i64 0])).add (.cells .rw [.int .i64 0, .int .i64 0, .int .i64 0])).set (h6.next + 1 + 1) (.cells .rw [.int .i64 a.x, .int .i64 a.y, .int .i64 a.z])).set (h6.next + 1 + 1 + 1) (.cells .rw [.int .i64 b.x, .int .i64 b.y, .int .i64 b.z])) :=
    (((((((H.Sub.refl s56.wf).add _).add _).set (b := h6.next) (Nat.le_refl _) (by simp only [H.next_add]; omega) s56.wf _).set (b := h6.next + 1) (by omega) (by simp only [H.next_set, H.next_add]; omega) s56.wf _).add _).add _).set (b := h6.next + 1 + 1) (by omega) (by simp only [H.next_set, H.next_add]; omega) s56.wf _ |>.set (b := h6.next + 1 + 1 + 1) (by omega) (by simp only [H.next_set, H.next_add]; omega) s56.wf _
  have c13 : ((((((((h6.add (.cells .rw [.nils, .nils, .nils])).add (.cells .rw [.nils, .nils, .nils])).set h6.next (.cells .rw [.sl a1 0 t.eyes.length (.fix t.eyes.length), .sl a2 0 t.lights.length (.fix t.lights.length), .sl a3 0 t.pieces.length (.fix t.pieces.length)])).set (h6.next + 1) (.cells .rw [E2, L2, P2])).add (.cells .rw [.int .i64 0, .int .i64 0, .int .i64 0])).add (.cells .rw [.int .i64 0, .int .i64 0, .int .i64 0])).set (h6.next + 1 + 1) (.cells .rw [.int .i64 a.x, .int .i64 a.y, .int .i64 a.z])).set (h6.next + 1 + 1 + 1) (.cells .rw [.int .i64 b.x, .int .i64 b.y, .int .i64 b.z])).cells h6.next = some [.sl a1 0 t.eyes.length (.fix t.eyes.length), .sl a2 0 t.lights.length (.fix t.lights.length), .sl a3 0 t.pieces.length (.fix t.pieces.length)] := by simp -implicitDefEqProofs (maxSteps := 999999) (disch := first | with_reducible rfl | omega | (simp only [nA, nS, nD] <;> omega) | fail) only [go_sem]
  have c14 : ((((((((h6.add (.cells .rw [.nils, .nils, .nils])).add (.cells .rw [.nils, .nils, .nils])).set h6.next (.cells .rw [.sl a1 0 t.eyes.length (.fix t.eyes.length), .sl a2 0 t.lights.length (.fix t.lights.length), .sl a3 0 t.pieces.length (.fix t.pieces.length)])).set (h6.next + 1) (.cells .rw [E2, L2, P2])).add (.cells .rw [.int .i64 0, .int .i64 0, .int .i64 0])).add (.cells .rw [.int .i64 0, .int .i64 0, .int .i64 0])).set (h6.next + 1 + 1) (.cells .rw [.int .i64 a.x, .int .i64 a.y, .int .i64 a.z])).set (h6.next + 1 + 1 + 1) (.cells .rw [.int .i64 b.x, .int .i64 b.y, .int .i64 b.z])).cells (h6.next + 1) = some [E2, L2, P2] := by simp -implicitDefEqProofs (maxSteps := 999999) (disch := first | with_reducible rfl | omega | (simp only [nA, nS, nD] <;> omega) | fail) only [go_sem]
  have c15 : ((((((((h6.add (.cells .rw [.nils, .nils, .nils])).add (.cells .rw [.nils, .nils, .nils])).set h6.next (.cells .rw [.sl a1 0 t.eyes.length (.fix t.eyes.length), .sl a2 0 t.lights.length (.fix t.lights.length), .sl a3 0 t.pieces.length (.fix t.pieces.length)])).set (h6.next + 1) (.cells .rw [E2, L2, P2])).add (.cells .rw [.int .i64 0, .int .i64 0, .int .i64 0])).add (.cells .rw [.int .i64 0, .int .i64 0, .int .i64 0])).set (h6.next + 1 + 1) (.cells .rw [.int .i64 a.x, .int .i64 a.y, .int .i64 a.z])).set (h6.next + 1 + 1 + 1) (.cells .rw [.int .i64 b.x, .int .i64 b.y, .int .i64 b.z])).cells (h6.next + 1 + 1) = some [.int .i64 a.x, .int .i64 a.y, .int .i64 a.z] := by simp -implicitDefEqProofs (maxSteps := 999999) (disch := first | with_reducible rfl | omega | (simp only [nA, nS, nD] <;> omega) | fail) only [go_sem]
  have c16 : ((((((((h6.add (.cells .rw [.nils, .nils, .nils])).add (.cells .rw [.nils, .nils, .nils])).set h6.next (.cells .rw [.sl a1 0 t.eyes.length (.fix t.eyes.length), .sl a2 0 t.lights.length (.fix t.lights.length), .sl a3 0 t.pieces.length (.fix t.pieces.length)])).set (h6.next + 1) (.cells .rw [E2, L2, P2])).add (.cells .rw [.int .i64 0, .int .i64 0, .int .i64 0])).add (.cells .rw [.int .i64 0, .int .i64 0, .int .i64 0])).set (h6.next + 1 + 1) (.cells .rw [.int .i64 a.x, .int .i64 a.y, .int .i64 a.z])).set (h6.next + 1 + 1 + 1) (.cells .rw [.int .i64 b.x, .int .i64 b.y, .int .i64 b.z])).cells (h6.next + 1 + 1 + 1) = some [.int .i64 b.x, .int .i64 b.y, .int .i64 b.z] := by simp -implicitDefEqProofs (maxSteps := 999999) (disch := first | with_reducible rfl | omega | (simp only [nA, nS, nD] <;> omega) | fail) only [go_sem]
  simp -implicitDefEqProofs (maxSteps := 999999) (disch := first | with_reducible rfl | omega | (simp only [nA, nS, nD] <;> omega) | fail) only [go_sem, s34.cells q3, s35.cells q3, s36.cells q3, s36.cells q4, s36.cells q5, n1, n2, n3]
  generalize ((((((((h6.add (.cells .rw [.nils, .nils, .nils])).add (.cells .rw [.nils, .nils, .nils])).set h6.next (.cells .rw [.sl a1 0 t.eyes.length (.fix t.eyes.length), .sl a2 0 t.lights.length (.fix t.lights.length), .sl a3 0 t.pieces.length (.fix t.pieces.length)])).set (h6.next + 1) (.cells .rw [E2, L2, P2])).add (.cells .rw [.int .i64 0, .int .i64 0, .int .i64 0])).add (.cells .rw [.int .i64 0, .int .i64 0, .int .i64 0])).set (h6.next + 1 + 1) (.cells .rw [.int .i64 a.x, .int .i64 a.y, .int .i64 a.z])).set (h6.next + 1 + 1 + 1) (.cells .rw [.int .i64 b.x, .int .i64 b.y, .int .i64 b.z])) = h7 at s67 c13 c14 c15 c16 ⊢
  have s37 := s36.trans s67
  have s7 := s3.trans s37
  refine refCheck_ev s7.wf (ho0.mono s67) _ fun h8 s78 => ?_
  simp -implicitDefEqProofs (maxSteps := 999999) (disch := first | with_reducible rfl | omega | (simp only [nA, nS, nD] <;> omega) | fail) only [go_sem]
  refine PBd_join (R := fun x s => x = .nrm ∧ ∃ tm h' x22 x23 b25 lo hi, s = ⟨tm, h', []⟩ ∧ h7.Sub h' ∧ SlAt h' x22 2 ((if twoE t a b = 0 then apartL t a b else []).map encK) ∧ SlAt h' x23 1 ((scrapR t a).map encI) ∧ h'.get b25 = some (.cells .rw [.int .i64 lo, .int .i64 hi]) ∧ ShadesR t a w lo hi ∧
    (Opd.t 3).ev tm = .int .i64 p ∧ (Opd.t 4).ev tm = .int .i64 r ∧ (Opd.t 5).ev tm = .int .i64 w ∧ (Opd.t 6).ev tm = .ptr h.next 0 ∧ (Opd.t 7).ev tm = .ptr (h.next + 1) 0 ∧ (Opd.t 8).ev tm = .ptr (h.next + 1 + 1) 0 ∧ (Opd.t 13).ev tm = .ptr h6.next 0 ∧ (Opd.t 14).ev tm = .ptr (h6.next + 1) 0 ∧
    (Opd.t 18).ev tm = .int .i64 (twoE t a b) ∧ (Opd.t 19).ev tm = .int .i64 (oneE t a) ∧ (Opd.t 20).ev tm = .int .i64 (shE t a w) ∧ (Opd.t 22).ev tm = x22 ∧ (Opd.t 23).ev tm = x23 ∧ (Opd.t 25).ev tm = .ptr b25 0 ∧ (Opd.t 21).ev tm = .int .i64 (matchE t p r) ∧ (Opd.t 24).ev tm = .bool (matchR t p r)) ?_ fun x s hx => ?_
  · have g25 : (h8.add (.cells .rw [.int .i64 0, .int .i64 0])).get h8.next = some (.cells .rw [.int .i64 0, .int .i64 0]) := by simp -implicitDefEqProofs (maxSteps := 999999) (disch := first | with_reducible rfl | omega | (simp only [nA, nS, nD] <;> omega) | fail) only [go_sem]
    have s89 := (H.Sub.refl s78.wf).add (.cells .rw [.int .i64 0, .int .i64 0])
    have s79 := s78.trans s89
    by_cases c : check t = 0
    case neg =>
      have e2 : twoE t a b = check t := by unfold twoE; rw [if_pos c]
      have e1 : oneE t a = check t := by unfold oneE; rw [if_pos c]
      have e3 : shE t a w = check t := by unfold shE; rw [if_pos c]
      have e4 : matchE t p r = check t := by unfold matchE; rw [if_pos c]
      have e5 : matchR t p r = false := by unfold matchR; rw [e4, decide_eq_false c]; rfl
      simp -implicitDefEqProofs (maxSteps := 999999) (disch := first | with_reducible rfl | omega | (simp only [nA, nS, nD] <;> omega) | fail) only [go_sem, c]
      exact ⟨_, _, .nils, .nils, h8.next, 0, 0, rfl, s79, by rw [e2, if_neg c]; exact (OwnSl.nil s79 2).sl (by simp), by unfold scrapR; rw [e1, if_neg c]; exact (OwnSl.nil s79 1).sl (by simp), g25, by unfold ShadesR; rw [e3, if_neg c]; exact ⟨rfl, rfl⟩,
        (by simp [ev_c, ev_put] <;> rfl), (by simp [ev_c, ev_put] <;> rfl), (by simp [ev_c, ev_put] <;> rfl), (by simp [ev_c, ev_put] <;> rfl), (by simp [ev_c, ev_put] <;> rfl), (by simp [ev_c, ev_put] <;> rfl), (by simp [ev_c, ev_put] <;> rfl), (by simp [ev_c, ev_put] <;> rfl), by rw [e2]; exact (by simp [ev_c, ev_put] <;> rfl), by rw [e1]; exact (by simp [ev_c, ev_put] <;> rfl), by rw [e3]; exact (by simp [ev_c, ev_put] <;> rfl), (by simp [ev_c, ev_put] <;> rfl), (by simp [ev_c, ev_put] <;> rfl), (by simp [ev_c, ev_put] <;> rfl), by rw [e4]; exact (by simp [ev_c, ev_put] <;> rfl), by rw [e5]; exact (by simp [ev_c, ev_put] <;> rfl)⟩
    have g := check_iff.1 c
    rw [show decide (check t = 0) = true from decide_eq_true c, PBd_true, W_assoc, W_assoc, W_assoc]
    refine W_split (fun s => ∃ tm h' x22 x23 b25 lo hi, s = ⟨tm, h', []⟩ ∧ h7.Sub h' ∧ SlAt h' x22 2 ((if twoE t a b = 0 then apartL t a b else []).map encK) ∧ SlAt h' x23 1 ((scrapR t a).map encI) ∧ h'.get b25 = some (.cells .rw [.int .i64 lo, .int .i64 hi]) ∧ ShadesR t a w lo hi ∧
    (Opd.t 3).ev tm = .int .i64 p ∧ (Opd.t 4).ev tm = .int .i64 r ∧ (Opd.t 5).ev tm = .int .i64 w ∧ (Opd.t 6).ev tm = .ptr h.next 0 ∧ (Opd.t 7).ev tm = .ptr (h.next + 1) 0 ∧ (Opd.t 8).ev tm = .ptr (h.next + 1 + 1) 0 ∧ (Opd.t 13).ev tm = .ptr h6.next 0 ∧ (Opd.t 14).ev tm = .ptr (h6.next + 1) 0 ∧
    (Opd.t 18).ev tm = .int .i64 (twoE t a b) ∧ (Opd.t 19).ev tm = .int .i64 (oneE t a) ∧ (Opd.t 20).ev tm = .int .i64 (shE t a w) ∧ (Opd.t 22).ev tm = x22 ∧ (Opd.t 23).ev tm = x23 ∧ (Opd.t 25).ev tm = .ptr b25 0 ∧ (Opd.t 24).ev tm = .bool false) ?_ ?_
    · have sl0 : ∀ sz, ∀ h', h7.Sub h' → SlAt h' .nils sz [] := fun sz h' s => (OwnSl.nil s sz).sl (by simp)
      have hr := fun hh (hw : h7.Sub hh) (s : Sd) => refRight_ev (h := hh) (hw := hw.wf) s
      simp only [encD] at hr
      simp -implicitDefEqProofs (maxSteps := 999999) (disch := first | with_reducible rfl | omega | (simp only [nA, nS, nD] <;> omega) | fail) only [go_sem, s79.cells c15]
      refine hr _ s79 a _ fun hA sA => ?_
      have s7A := s79.trans sA
      cases ca : a.within 20
      · have e2 : twoE t a b = 3 := by unfold twoE; rw [if_neg (by simp [c]), if_pos (.inl ca)]
        have e1 : oneE t a = 3 := by unfold oneE; rw [if_neg (by simp [c]), if_pos ca]
        have e3 : shE t a w = 3 := by unfold shE; rw [if_neg (by simp [c]), if_pos ca]
        simp -implicitDefEqProofs (maxSteps := 999999) (disch := first | with_reducible rfl | omega | (simp only [nA, nS, nD] <;> omega) | fail) only [go_sem, d30, Bool.false_eq_true, ↓reduceIte]
        exact ⟨_, _, .nils, .nils, h8.next, 0, 0, rfl, s7A, by rw [e2]; exact sl0 2 _ s7A, by unfold scrapR; rw [e1]; exact sl0 1 _ s7A, sA.get g25, by unfold ShadesR; rw [e3]; exact ⟨rfl, rfl⟩,
          (by simp [ev_c, ev_put] <;> rfl), (by simp [ev_c, ev_put] <;> rfl), (by simp [ev_c, ev_put] <;> rfl), (by simp [ev_c, ev_put] <;> rfl), (by simp [ev_c, ev_put] <;> rfl), (by simp [ev_c, ev_put] <;> rfl), (by simp [ev_c, ev_put] <;> rfl), (by simp [ev_c, ev_put] <;> rfl), by rw [e2]; exact (by simp [ev_c, ev_put] <;> rfl), by rw [e1]; exact (by simp [ev_c, ev_put] <;> rfl), by rw [e3]; exact (by simp [ev_c, ev_put] <;> rfl), (by simp [ev_c, ev_put] <;> rfl), (by simp [ev_c, ev_put] <;> rfl), (by simp [ev_c, ev_put] <;> rfl), (by simp [ev_c, ev_put] <;> rfl)⟩
      have e1 : oneE t a = 0 := by unfold oneE; rw [if_neg (by simp [c]), if_neg (by simp [ca])]
      have ha := within_iff.1 ca
      have hl22 : ((if twoE t a b = 0 then apartL t a b else []).map encK).length ≤ 9223372036854775807 := by
        rw [List.length_map]
        split
        · rw [apartL_eq g]
          exact Nat.le_trans (apartK_len _ _ _ _) (Nat.le_trans (Nat.mul_le_mul g.eyes.2 g.lights.2) (by decide))
        · exact Nat.zero_le _
      have hl23 : ((scrapR t a).map encI).length ≤ 9223372036854775807 := by
        rw [List.length_map]
        unfold scrapR
        rw [if_pos e1]
        exact Nat.le_trans (scrapK_len _ _ _) (Nat.le_trans g.pieces (by decide))
      simp -implicitDefEqProofs (maxSteps := 999999) (disch := first | with_reducible rfl | omega | (simp only [nA, nS, nD] <;> omega) | fail) only [go_sem, d00, ↓reduceIte, s7A.cells c16]
      refine hr _ s7A b _ fun hB sB => ?_
      have s7B := s7A.trans sB
      cases cb : b.within 20
      · have e2 : twoE t a b = 3 := by unfold twoE; rw [if_neg (by simp [c]), if_pos (.inr cb)]
        have o22 : OwnSl h7 hB .nils 2 ((if twoE t a b = 0 then apartL t a b else []).map encK) := by rw [e2]; exact OwnSl.nil s7B 2
        simp -implicitDefEqProofs (maxSteps := 999999) (disch := first | with_reducible rfl | omega | (simp only [nA, nS, nD] <;> omega) | fail) only [go_sem, d30, d00, Bool.false_eq_true, ↓reduceIte, s7B.cells c14, s7B.cells c15]
        have hsc := refScrap_ev (h := hB) s7B.wf (ho0.mono (s67.trans s7B)) g ha
        simp only [encD] at hsc
        refine hsc _ fun x23 hC oC => ?_
        have sC := oC.1
        have s7C := s7B.trans sC
        have e23 : scrapR t a = scrapK t a t.pieces.length := by unfold scrapR; rw [if_pos e1]
        rw [← e23] at oC
        have o22C := o22.mono sC
        cases cp : inB w 0 2
        · have e3 : shE t a w = 1 := by unfold shE; rw [if_neg (by simp [c]), if_neg (by simp [ca]), if_pos cp]
          simp only [inB, decide_eq_false_iff_not] at cp
          by_cases w0 : 0 ≤ w
          · have w1 : ¬ w < 3 := by omega
            simp -implicitDefEqProofs (maxSteps := 999999) (disch := first | with_reducible rfl | omega | (simp only [nA, nS, nD] <;> omega) | fail) only [go_sem, w0, w1]
            exact ⟨_, _, .nils, x23, h8.next, 0, 0, rfl, s7C, o22C.sl hl22, oC.sl hl23, sC.get (sB.get (sA.get g25)), by unfold ShadesR; rw [e3]; exact ⟨rfl, rfl⟩,
              (by simp [ev_c, ev_put] <;> rfl), (by simp [ev_c, ev_put] <;> rfl), (by simp [ev_c, ev_put] <;> rfl), (by simp [ev_c, ev_put] <;> rfl), (by simp [ev_c, ev_put] <;> rfl), (by simp [ev_c, ev_put] <;> rfl), (by simp [ev_c, ev_put] <;> rfl), (by simp [ev_c, ev_put] <;> rfl), by rw [e2]; exact (by simp [ev_c, ev_put] <;> rfl), by rw [e1]; exact (by simp [ev_c, ev_put] <;> rfl), by rw [e3]; exact (by simp [ev_c, ev_put] <;> rfl), (by simp [ev_c, ev_put] <;> rfl), (by simp [ev_c, ev_put] <;> rfl), (by simp [ev_c, ev_put] <;> rfl), (by simp [ev_c, ev_put] <;> rfl)⟩
          · simp -implicitDefEqProofs (maxSteps := 999999) (disch := first | with_reducible rfl | omega | (simp only [nA, nS, nD] <;> omega) | fail) only [go_sem, w0]
            exact ⟨_, _, .nils, x23, h8.next, 0, 0, rfl, s7C, o22C.sl hl22, oC.sl hl23, sC.get (sB.get (sA.get g25)), by unfold ShadesR; rw [e3]; exact ⟨rfl, rfl⟩,
              (by simp [ev_c, ev_put] <;> rfl), (by simp [ev_c, ev_put] <;> rfl), (by simp [ev_c, ev_put] <;> rfl), (by simp [ev_c, ev_put] <;> rfl), (by simp [ev_c, ev_put] <;> rfl), (by simp [ev_c, ev_put] <;> rfl), (by simp [ev_c, ev_put] <;> rfl), (by simp [ev_c, ev_put] <;> rfl), by rw [e2]; exact (by simp [ev_c, ev_put] <;> rfl), by rw [e1]; exact (by simp [ev_c, ev_put] <;> rfl), by rw [e3]; exact (by simp [ev_c, ev_put] <;> rfl), (by simp [ev_c, ev_put] <;> rfl), (by simp [ev_c, ev_put] <;> rfl), (by simp [ev_c, ev_put] <;> rfl), (by simp [ev_c, ev_put] <;> rfl)⟩
        · have e3 : shE t a w = 0 := by unfold shE; rw [if_neg (by simp [c]), if_neg (by simp [ca]), if_neg (by simp [cp])]
          simp only [inB, decide_eq_true_eq] at cp
          obtain ⟨j, rfl⟩ := Int.eq_ofNat_of_zero_le cp.1
          have hj : j < 3 := by omega
          have w0 : (0 : Int) ≤ (j : Int) := by omega
          have w1 : (j : Int) < 3 := by omega
          have hsh := refShades_ev (h := hC) sC.wf (ho0.mono (s67.trans s7C)) g ha hj
          simp only [encD] at hsh
          simp -implicitDefEqProofs (maxSteps := 999999) (disch := first | with_reducible rfl | omega | (simp only [nA, nS, nD] <;> omega) | fail) only [go_sem, w0, w1, s7C.cells c14, s7C.cells c15]
          refine hsh _ fun lo hi hD sD hlo hhi => ?_
          have gD := sD.get (sC.get (sB.get (sA.get g25)))
          have lD := (s7C.trans sD).wf _ _ gD
          have l78 := s78.next
          have kE := Keeps.set hD h8.next (.cells .rw [.int .i64 lo, .int .i64 hi])
          have sE := (s7C.trans sD).set (b := h8.next) l78 lD s7.wf (.cells .rw [.int .i64 lo, .int .i64 hi])
          have sE0 := (s7B.trans (sC.trans sD))
          have o22D := o22C.mono sD
          have o23D := oC.mono sD
          have o22E := o22D.keep kE sE fun b hb hc => by subst hc; exact o22D.ne gD hb
          have o23E := (o23D.up s7B).keep kE sE fun b hb hc => by subst hc; exact o23D.ne gD hb
          simp -implicitDefEqProofs (maxSteps := 999999) (disch := first | with_reducible rfl | omega | (simp only [nA, nS, nD] <;> omega) | fail) only [go_sem, gD]
          exact ⟨_, _, .nils, x23, h8.next, lo, hi, rfl, sE, o22E.sl hl22, o23E.sl hl23, get_set_same rfl, by unfold ShadesR; rw [e3, if_pos rfl, Int.toNat_natCast]; exact ⟨hlo, hhi⟩,
              (by simp [ev_c, ev_put] <;> rfl), (by simp [ev_c, ev_put] <;> rfl), (by simp [ev_c, ev_put] <;> rfl), (by simp [ev_c, ev_put] <;> rfl), (by simp [ev_c, ev_put] <;> rfl), (by simp [ev_c, ev_put] <;> rfl), (by simp [ev_c, ev_put] <;> rfl), (by simp [ev_c, ev_put] <;> rfl), by rw [e2]; exact (by simp [ev_c, ev_put] <;> rfl), by rw [e1]; exact (by simp [ev_c, ev_put] <;> rfl), by rw [e3]; exact (by simp [ev_c, ev_put] <;> rfl), (by simp [ev_c, ev_put] <;> rfl), (by simp [ev_c, ev_put] <;> rfl), (by simp [ev_c, ev_put] <;> rfl), (by simp [ev_c, ev_put] <;> rfl)⟩
      · have e2 : twoE t a b = 0 := by unfold twoE; rw [if_neg (by simp [c]), if_neg (by simp [ca, cb])]
        have hap := refApart_ev (h := hB) s7B.wf (ho0.mono (s67.trans s7B)) g ha (within_iff.1 cb)
        simp only [encD] at hap
        simp -implicitDefEqProofs (maxSteps := 999999) (disch := first | with_reducible rfl | omega | (simp only [nA, nS, nD] <;> omega) | fail) only [go_sem, d30, d00, Bool.false_eq_true, ↓reduceIte, s7B.cells c14, s7B.cells c15, s7B.cells c16]
        refine hap _ fun x22 hF o22 => ?_
        have sF := o22.1
        have s7F := s7B.trans sF
        have o22 : OwnSl h7 hF x22 2 ((if twoE t a b = 0 then apartL t a b else []).map encK) := by rw [e2, if_pos rfl, apartL_eq g]; exact o22.up s7B
        simp -implicitDefEqProofs (maxSteps := 999999) (disch := first | with_reducible rfl | omega | (simp only [nA, nS, nD] <;> omega) | fail) only [go_sem, d30, d00, Bool.false_eq_true, ↓reduceIte, s7F.cells c14, s7F.cells c15]
        have hsc := refScrap_ev (h := hF) s7F.wf (ho0.mono (s67.trans s7F)) g ha
        simp only [encD] at hsc
        refine hsc _ fun x23 hC oC => ?_
        have sC := oC.1
        have s7C := s7F.trans sC
        have e23 : scrapR t a = scrapK t a t.pieces.length := by unfold scrapR; rw [if_pos e1]
        rw [← e23] at oC
        have o22C := o22.mono sC
        cases cp : inB w 0 2
        · have e3 : shE t a w = 1 := by unfold shE; rw [if_neg (by simp [c]), if_neg (by simp [ca]), if_pos cp]
          simp only [inB, decide_eq_false_iff_not] at cp
          by_cases w0 : 0 ≤ w
          · have w1 : ¬ w < 3 := by omega
            simp -implicitDefEqProofs (maxSteps := 999999) (disch := first | with_reducible rfl | omega | (simp only [nA, nS, nD] <;> omega) | fail) only [go_sem, w0, w1]
            exact ⟨_, _, x22, x23, h8.next, 0, 0, rfl, s7C, o22C.sl hl22, oC.sl hl23, sC.get (sF.get (sB.get (sA.get g25))), by unfold ShadesR; rw [e3]; exact ⟨rfl, rfl⟩,
              (by simp [ev_c, ev_put] <;> rfl), (by simp [ev_c, ev_put] <;> rfl), (by simp [ev_c, ev_put] <;> rfl), (by simp [ev_c, ev_put] <;> rfl), (by simp [ev_c, ev_put] <;> rfl), (by simp [ev_c, ev_put] <;> rfl), (by simp [ev_c, ev_put] <;> rfl), (by simp [ev_c, ev_put] <;> rfl), by rw [e2]; exact (by simp [ev_c, ev_put] <;> rfl), by rw [e1]; exact (by simp [ev_c, ev_put] <;> rfl), by rw [e3]; exact (by simp [ev_c, ev_put] <;> rfl), (by simp [ev_c, ev_put] <;> rfl), (by simp [ev_c, ev_put] <;> rfl), (by simp [ev_c, ev_put] <;> rfl), (by simp [ev_c, ev_put] <;> rfl)⟩
          · simp -implicitDefEqProofs (maxSteps := 999999) (disch := first | with_reducible rfl | omega | (simp only [nA, nS, nD] <;> omega) | fail) only [go_sem, w0]
            exact ⟨_, _, x22, x23, h8.next, 0, 0, rfl, s7C, o22C.sl hl22, oC.sl hl23, sC.get (sF.get (sB.get (sA.get g25))), by unfold ShadesR; rw [e3]; exact ⟨rfl, rfl⟩,
              (by simp [ev_c, ev_put] <;> rfl), (by simp [ev_c, ev_put] <;> rfl), (by simp [ev_c, ev_put] <;> rfl), (by simp [ev_c, ev_put] <;> rfl), (by simp [ev_c, ev_put] <;> rfl), (by simp [ev_c, ev_put] <;> rfl), (by simp [ev_c, ev_put] <;> rfl), (by simp [ev_c, ev_put] <;> rfl), by rw [e2]; exact (by simp [ev_c, ev_put] <;> rfl), by rw [e1]; exact (by simp [ev_c, ev_put] <;> rfl), by rw [e3]; exact (by simp [ev_c, ev_put] <;> rfl), (by simp [ev_c, ev_put] <;> rfl), (by simp [ev_c, ev_put] <;> rfl), (by simp [ev_c, ev_put] <;> rfl), (by simp [ev_c, ev_put] <;> rfl)⟩
        · have e3 : shE t a w = 0 := by unfold shE; rw [if_neg (by simp [c]), if_neg (by simp [ca]), if_neg (by simp [cp])]
          simp only [inB, decide_eq_true_eq] at cp
          obtain ⟨j, rfl⟩ := Int.eq_ofNat_of_zero_le cp.1
          have hj : j < 3 := by omega
          have w0 : (0 : Int) ≤ (j : Int) := by omega
          have w1 : (j : Int) < 3 := by omega
          have hsh := refShades_ev (h := hC) sC.wf (ho0.mono (s67.trans s7C)) g ha hj
          simp only [encD] at hsh
          simp -implicitDefEqProofs (maxSteps := 999999) (disch := first | with_reducible rfl | omega | (simp only [nA, nS, nD] <;> omega) | fail) only [go_sem, w0, w1, s7C.cells c14, s7C.cells c15]
          refine hsh _ fun lo hi hD sD hlo hhi => ?_
          have gD := sD.get (sC.get (sF.get (sB.get (sA.get g25))))
          have lD := (s7C.trans sD).wf _ _ gD
          have l78 := s78.next
          have kE := Keeps.set hD h8.next (.cells .rw [.int .i64 lo, .int .i64 hi])
          have sE := (s7C.trans sD).set (b := h8.next) l78 lD s7.wf (.cells .rw [.int .i64 lo, .int .i64 hi])
          have sE0 := (s7F.trans (sC.trans sD))
          have o22D := o22C.mono sD
          have o23D := oC.mono sD
          have o22E := o22D.keep kE sE fun b hb hc => by subst hc; exact o22D.ne gD hb
          have o23E := (o23D.up s7F).keep kE sE fun b hb hc => by subst hc; exact o23D.ne gD hb
          simp -implicitDefEqProofs (maxSteps := 999999) (disch := first | with_reducible rfl | omega | (simp only [nA, nS, nD] <;> omega) | fail) only [go_sem, gD]
          exact ⟨_, _, x22, x23, h8.next, lo, hi, rfl, sE, o22E.sl hl22, o23E.sl hl23, get_set_same rfl, by unfold ShadesR; rw [e3, if_pos rfl, Int.toNat_natCast]; exact ⟨hlo, hhi⟩,
              (by simp [ev_c, ev_put] <;> rfl), (by simp [ev_c, ev_put] <;> rfl), (by simp [ev_c, ev_put] <;> rfl), (by simp [ev_c, ev_put] <;> rfl), (by simp [ev_c, ev_put] <;> rfl), (by simp [ev_c, ev_put] <;> rfl), (by simp [ev_c, ev_put] <;> rfl), (by simp [ev_c, ev_put] <;> rfl), by rw [e2]; exact (by simp [ev_c, ev_put] <;> rfl), by rw [e1]; exact (by simp [ev_c, ev_put] <;> rfl), by rw [e3]; exact (by simp [ev_c, ev_put] <;> rfl), (by simp [ev_c, ev_put] <;> rfl), (by simp [ev_c, ev_put] <;> rfl), (by simp [ev_c, ev_put] <;> rfl), (by simp [ev_c, ev_put] <;> rfl)⟩
    · rintro s ⟨tm, h', x22, x23, b25, lo, hi, rfl, sM, hx, hx3, g25', hsh, t3, t4, t5, t6, t7, t8, t13, t14, t18, t19, t20, t22, t23, t25, t24⟩
      have pc : ∀ n : Int, (if 0 ≤ n ∧ n < (t.pieces.length : Int) then (0 : Int) else 1) = if isPc t n = true then 0 else 1 := fun n => by simp [isPc]
      simp -implicitDefEqProofs (maxSteps := 999999) (disch := first | with_reducible rfl | omega | (simp only [nA, nS, nD] <;> omega) | fail) only [go_sem, t3, t4, t5, t6, t7, t8, t13, t14, t18, t19, t20, t22, t23, t25, t24, sM.cells c14]
      refine refPiece_ev sM.wf (ho0.mono (s67.trans sM)) p _ fun hA sA => ?_
      have sMA := sM.trans sA
      rw [pc]
      cases cp : isPc t p
      · have e4 : matchE t p r = 1 := by unfold matchE; rw [if_neg (by simp [c]), if_pos (.inl cp)]
        have e5 : matchR t p r = false := by unfold matchR; rw [e4]; rfl
        simp -implicitDefEqProofs (maxSteps := 999999) (disch := first | with_reducible rfl | omega | (simp only [nA, nS, nD] <;> omega) | fail) only [go_sem, t3, t4, t5, t6, t7, t8, t13, t14, t18, t19, t20, t22, t23, t25, t24, d10, Bool.false_eq_true, ↓reduceIte]
        exact ⟨_, _, x22, x23, b25, lo, hi, rfl, sMA, hx.mono sA, hx3.mono sA, sA.get g25', hsh, (by simp [ev_c, ev_put, t3] <;> rfl), (by simp [ev_c, ev_put, t4] <;> rfl), (by simp [ev_c, ev_put, t5] <;> rfl), (by simp [ev_c, ev_put, t6] <;> rfl), (by simp [ev_c, ev_put, t7] <;> rfl), (by simp [ev_c, ev_put, t8] <;> rfl), (by simp [ev_c, ev_put, t13] <;> rfl), (by simp [ev_c, ev_put, t14] <;> rfl), (by simp [ev_c, ev_put, t18] <;> rfl), (by simp [ev_c, ev_put, t19] <;> rfl), (by simp [ev_c, ev_put, t20] <;> rfl), (by simp [ev_c, ev_put, t22] <;> rfl), (by simp [ev_c, ev_put, t23] <;> rfl), (by simp [ev_c, ev_put, t25] <;> rfl), by rw [e4]; exact (by simp [ev_c, ev_put] <;> rfl), by rw [e5]; exact (by simp [ev_c, ev_put, t24] <;> rfl)⟩
      simp -implicitDefEqProofs (maxSteps := 999999) (disch := first | with_reducible rfl | omega | (simp only [nA, nS, nD] <;> omega) | fail) only [go_sem, t3, t4, t5, t6, t7, t8, t13, t14, t18, t19, t20, t22, t23, t25, t24, d00, ↓reduceIte, sMA.cells c14]
      refine refPiece_ev sMA.wf (ho0.mono (s67.trans sMA)) r _ fun hB sB => ?_
      have sMB := sMA.trans sB
      have sAB := sA.trans sB
      rw [pc]
      cases cr : isPc t r
      · have e4 : matchE t p r = 1 := by unfold matchE; rw [if_neg (by simp [c]), if_pos (.inr cr)]
        have e5 : matchR t p r = false := by unfold matchR; rw [e4]; rfl
        simp -implicitDefEqProofs (maxSteps := 999999) (disch := first | with_reducible rfl | omega | (simp only [nA, nS, nD] <;> omega) | fail) only [go_sem, t3, t4, t5, t6, t7, t8, t13, t14, t18, t19, t20, t22, t23, t25, t24, d10, Bool.false_eq_true, ↓reduceIte]
        exact ⟨_, _, x22, x23, b25, lo, hi, rfl, sMB, hx.mono sAB, hx3.mono sAB, sAB.get g25', hsh, (by simp [ev_c, ev_put, t3] <;> rfl), (by simp [ev_c, ev_put, t4] <;> rfl), (by simp [ev_c, ev_put, t5] <;> rfl), (by simp [ev_c, ev_put, t6] <;> rfl), (by simp [ev_c, ev_put, t7] <;> rfl), (by simp [ev_c, ev_put, t8] <;> rfl), (by simp [ev_c, ev_put, t13] <;> rfl), (by simp [ev_c, ev_put, t14] <;> rfl), (by simp [ev_c, ev_put, t18] <;> rfl), (by simp [ev_c, ev_put, t19] <;> rfl), (by simp [ev_c, ev_put, t20] <;> rfl), (by simp [ev_c, ev_put, t22] <;> rfl), (by simp [ev_c, ev_put, t23] <;> rfl), (by simp [ev_c, ev_put, t25] <;> rfl), by rw [e4]; exact (by simp [ev_c, ev_put] <;> rfl), by rw [e5]; exact (by simp [ev_c, ev_put, t24] <;> rfl)⟩
      have e4 : matchE t p r = 0 := by unfold matchE; rw [if_neg (by simp [c]), if_neg (by simp [cp, cr])]
      have e5 : matchR t p r = matchB t p.toNat r.toNat := by unfold matchR; rw [e4]; rfl
      simp only [isPc, decide_eq_true_eq] at cp cr
      obtain ⟨i, rfl⟩ := Int.eq_ofNat_of_zero_le cp.1
      obtain ⟨k, rfl⟩ := Int.eq_ofNat_of_zero_le cr.1
      have hi' : i < t.pieces.length := by omega
      have hk' : k < t.pieces.length := by omega
      have e6 : matchB t i k = alike t t.pieces[i] t.pieces[k] := by unfold matchB; rw [List.getElem?_eq_getElem hi', List.getElem?_eq_getElem hk']
      have o3B := o3.mono (s67.trans sMB)
      obtain ⟨bP, oP, cP, csP, eP, hcP, hqP, hgP, _, _⟩ := o3B.at hi'
      obtain ⟨bR, oR, cR, csR, eR, hcR, hqR, hgR, _, _⟩ := o3B.at hk'
      have hal := refAlike_ev (h := hB) sMB.wf (ho0.mono (s67.trans sMB)) g (g.piece _ (List.getElem_mem hi')) (g.piece _ (List.getElem_mem hk'))
      simp only [encD] at hal hgP hgR
      simp -implicitDefEqProofs (maxSteps := 999999) (disch := first | with_reducible rfl | omega | (simp only [nA, nS, nD] <;> omega) | fail) only [go_sem, t3, t4, t5, t6, t7, t8, t13, t14, t18, t19, t20, t22, t23, t25, t24, d00, ↓reduceIte, sMB.cells c14, hqP (nat_cst i), hcP, hgP, hqR (nat_cst k), hcR, hgR, evQ_ld]
      refine hal _ fun hC sC => ?_
      have sAC := sAB.trans sC
      simp -implicitDefEqProofs (maxSteps := 999999) (disch := first | with_reducible rfl | omega | (simp only [nA, nS, nD] <;> omega) | fail) only [go_sem, t3, t4, t5, t6, t7, t8, t13, t14, t18, t19, t20, t22, t23, t25, t24, sMB.cells c14, hqP (nat_cst i), hcP, hgP, hqR (nat_cst k), hcR, hgR, evQ_ld]
      exact ⟨_, _, x22, x23, b25, lo, hi, rfl, sM.trans sAC, hx.mono sAC, hx3.mono sAC, sAC.get g25', hsh, (by simp [ev_c, ev_put, t3] <;> rfl), (by simp [ev_c, ev_put, t4] <;> rfl), (by simp [ev_c, ev_put, t5] <;> rfl), (by simp [ev_c, ev_put, t6] <;> rfl), (by simp [ev_c, ev_put, t7] <;> rfl), (by simp [ev_c, ev_put, t8] <;> rfl), (by simp [ev_c, ev_put, t13] <;> rfl), (by simp [ev_c, ev_put, t14] <;> rfl), (by simp [ev_c, ev_put, t18] <;> rfl), (by simp [ev_c, ev_put, t19] <;> rfl), (by simp [ev_c, ev_put, t20] <;> rfl), (by simp [ev_c, ev_put, t22] <;> rfl), (by simp [ev_c, ev_put, t23] <;> rfl), (by simp [ev_c, ev_put, t25] <;> rfl), by rw [e4]; exact (by simp [ev_c, ev_put] <;> rfl), by rw [e5, Int.toNat_natCast, Int.toNat_natCast, e6]; exact (by simp [ev_c, ev_put] <;> rfl)⟩
  obtain ⟨rfl, tm, h', x22, x23, b25, lo, hi, rfl, sM, hx, hx3, g25', hsh, t3, t4, t5, t6, t7, t8, t13, t14, t18, t19, t20, t22, t23, t25, t21, t24⟩ := hx
  have sX := s56.trans (s67.trans sM)
  have s3M := s37.trans sM
  have ap := Apart_ev (h := h') sM.wf (hu0.mono sX) a b
  simp only [encD] at ap
  simp -implicitDefEqProofs (maxSteps := 999999) (disch := first | with_reducible rfl | omega | (simp only [nA, nS, nD] <;> omega) | fail) only [go_sem, t3, t4, t5, t6, t7, t8, t13, t14, t18, t19, t20, t22, t23, t25, t21, t24, sM.cells c13, s3M.cells q4, s3M.cells q5]
  refine ap _ fun y hA sA hy => ?_
  simp -implicitDefEqProofs (maxSteps := 999999) (disch := first | with_reducible rfl | omega | (simp only [nA, nS, nD] <;> omega) | fail) only [go_sem, t3, t4, t5, t6, t7, t8, t13, t14, t18, t19, t20, t22, t23, t25, t21, t24, (sM.trans sA).cells c13, (s3M.trans sA).cells q4]
  refine Match_ev sA.wf (hu0.mono (sX.trans sA)) p r _ fun hB sB => ?_
  have sAB := sA.trans sB
  have sc := Scrap_ev (h := hB) sB.wf (hu0.mono (sX.trans sAB)) a
  simp only [encD] at sc
  simp -implicitDefEqProofs (maxSteps := 999999) (disch := first | with_reducible rfl | omega | (simp only [nA, nS, nD] <;> omega) | fail) only [go_sem, t3, t4, t5, t6, t7, t8, t13, t14, t18, t19, t20, t22, t23, t25, t21, t24, (sM.trans sAB).cells c13, (s3M.trans sAB).cells q4]
  refine sc _ fun y3 hC sC hy3 => ?_
  have sAC := sAB.trans sC
  have sh := Shades_ev (h := hC) sC.wf (hu0.mono (sX.trans sAC)) a w
  simp only [encD] at sh
  simp -implicitDefEqProofs (maxSteps := 999999) (disch := first | with_reducible rfl | omega | (simp only [nA, nS, nD] <;> omega) | fail) only [go_sem, t3, t4, t5, t6, t7, t8, t13, t14, t18, t19, t20, t22, t23, t25, t21, t24, (sM.trans sAC).cells c13, (s3M.trans sAC).cells q4]
  refine sh _ fun lo' hi' hD sD hsh' => ?_
  obtain ⟨rfl, rfl⟩ := IsLo.shadesR' (t := t) hsh hsh'
  have sAD := sAC.trans sD
  have sE := (H.Sub.refl sD.wf).add (.cells .rw [.int .i64 lo, .int .i64 hi])
  have gE : (hD.add (.cells .rw [.int .i64 lo, .int .i64 hi])).cells hD.next = some [.int .i64 lo, .int .i64 hi] := cells_add_new rfl
  have sAE := sAD.trans sE
  generalize (if twoE t a b = 0 then apartL t a b else []) = L at hx hy
  have hxE := hx.mono sAE
  have hyE := hy.mono ((sB.trans sC).trans (sD.trans sE))
  have l1 := hxE.lenE
  have l2 := hyE.lenE
  have nn : ∀ n : Int, decide (n ≠ n) = false := fun n => by simp
  have bb : ∀ v : Bool, q_beq true (.bool v) (.bool v) = some (.bool false) := fun v => by cases v <;> rfl
  have eI := fun R => eqInt_ev (hy3.mono (sD.trans sE)) (hx3.mono sAE) R
  simp only [decide_eq_true rfl] at eI
  have g25E := sAE.get g25'
  have pf := pr_feq lo hi
  simp -implicitDefEqProofs (maxSteps := 999999) (disch := first | with_reducible rfl | omega | (simp only [nA, nS, nD] <;> omega) | fail) only [go_sem, t3, t4, t5, t6, t7, t8, t13, t14, t18, t19, t20, t22, t23, t25, t21, t24, nn, l1, l2, bb, eI, Bool.not_true, gE, cells_of g25E, pf]
  generalize (hD.add (.cells .rw [.int .i64 lo, .int .i64 hi])) = hE at sE gE sAE hxE hyE l1 l2 eI g25E ⊢
  have wl : L.length ≤ 9223372036854775807 := hxE.boundE
  have sME := sM.trans sAE
  have s3E := s3M.trans sAE
  refine W_count L.length (fun n s => ∃ tm h', s = ⟨tm, h', []⟩ ∧ hE.Sub h' ∧ (Opd.t 6).ev tm = .ptr h.next 0 ∧ (Opd.t 13).ev tm = .ptr h6.next 0 ∧ (Opd.t 22).ev tm = x22 ∧ (Opd.t 173).ev tm = y ∧ (Opd.t 174).ev tm = .int .i64 (L.length : Int) ∧ (Opd.t 175).ev tm = .int .i64 (n : Int))
    ?_ ?_ (i := 0) (Nat.zero_le _) ⟨_, _, rfl, H.Sub.refl sE.wf, (by simp [ev_c, ev_put, t6] <;> rfl), (by simp [ev_c, ev_put, t13] <;> rfl), (by simp [ev_c, ev_put, t22] <;> rfl), (by simp [ev_c, ev_put] <;> rfl), (by simp [ev_c, ev_put] <;> rfl), (by simp [ev_c, ev_put] <;> rfl)⟩
  · rintro n s hn ⟨tm, h', rfl, hs, t6, t13, t22, t173, t174, t175⟩
    have hn' : (n : Int) < (L.length : Int) := by omega
    obtain ⟨bP, oP, cP, csP, eP, hcP, hqP, hgP, _, _⟩ := (hyE.mono hs).at hn
    obtain ⟨bR, oR, cR, csR, eR, hcR, hqR, hgR, _, _⟩ := (hxE.mono hs).at hn
    obtain ⟨⟨u1, u2⟩, ee⟩ : ∃ e, L[n] = e := ⟨_, rfl⟩
    rw [ee] at hgP hgR
    simp only [encK] at hgP hgR
    have sB' := (H.Sub.refl hs.wf).add (.cells .rw [.int .i64 u1, .int .i64 u2])
    have hcR' := sB'.cells hcR
    have gB : (h'.add (.cells .rw [.int .i64 u1, .int .i64 u2])).cells h'.next = some [.int .i64 u1, .int .i64 u2] := cells_add_new rfl
    have pf2 := pr_feq u1 u2
    simp -implicitDefEqProofs (maxSteps := 999999) (disch := first | with_reducible rfl | omega | (simp only [nA, nS, nD] <;> omega) | fail) only [go_sem, t6, t13, t22, t173, t174, t175, hn', hqP (nat_cst n), hcP, hgP, hqR (nat_cst n), hcR', hgR, gB, pf2, evQ_ld, wr_succ]
    exact ⟨_, _, rfl, hs.trans sB', (by simp [ev_c, ev_put, t6] <;> rfl), (by simp [ev_c, ev_put, t13] <;> rfl), (by simp [ev_c, ev_put, t22] <;> rfl), (by simp [ev_c, ev_put, t173] <;> rfl), (by simp [ev_c, ev_put, t174] <;> rfl), (by simp [ev_c, ev_put] <;> rfl)⟩
  · rintro s ⟨tm, h', rfl, hs, t6, t13, t22, t173, t174, t175⟩
    have sF := sX.trans (sAE.trans hs)
    simp -implicitDefEqProofs (maxSteps := 999999) (disch := first | with_reducible rfl | omega | (simp only [nA, nS, nD] <;> omega) | fail) only [go_sem, t6, t13, t22, t173, t174, t175, Int.lt_irrefl, (sME.trans hs).cells c13, (s3E.trans hs).cells q3]
    refine same_ev hs.wf (hu0.mono sF) (ht0.mono (s3.trans (s3E.trans hs))) _ fun hG sG => ?_
    rw [decide_eq_true rfl]
    simp -implicitDefEqProofs (maxSteps := 999999) (disch := first | with_reducible rfl | omega | (simp only [nA, nS, nD] <;> omega) | fail) only [go_sem, awake_eq]
end Go.Ab.Try
