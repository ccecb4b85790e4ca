/- EyeMatches. How far a part of a shade can change: Shades, as the program and as the reference find it. The reference's Shades, Apart and Scrap. Add: a table with one more piece. -/
import Derived.Test.YtkjbamlcgojkmaaG4
set_option linter.unusedSimpArgs false
set_option linter.unusedVariables false
namespace Go.Ab.Try
def Sd.put (s : Sd) (p : Nat) (n : Int) : Sd := match p with
  | 0 => ⟨n, s.y, s.z⟩
  | 1 => ⟨s.x, n, s.z⟩
  | _ => ⟨s.x, s.y, n⟩
theorem put_put (s : Sd) (p : Nat) (m n : Int) : (s.put p m).put p n = s.put p n := match p with | 0 => rfl | 1 => rfl | _ + 2 => rfl
theorem put_self (s : Sd) {p : Nat} (h : p < 3) : s.put p (s.at p) = s := by
  rcases (by omega : p = 0 ∨ p = 1 ∨ p = 2) with rfl | rfl | rfl <;> rfl
theorem at_put (s : Sd) {p : Nat} (h : p < 3) (n : Int) : (s.put p n).at p = n := by
  rcases (by omega : p = 0 ∨ p = 1 ∨ p = 2) with rfl | rfl | rfl <;> rfl
theorem at_put_ne (s : Sd) {p j : Nat} (h : p < 3) (hj : j < 3) (hne : j ≠ p) (n : Int) : (s.put p n).at j = s.at j := by
  rcases (by omega : p = 0 ∨ p = 1 ∨ p = 2) with rfl | rfl | rfl <;> rcases (by omega : j = 0 ∨ j = 1 ∨ j = 2) with rfl | rfl | rfl <;> first | rfl | exact absurd rfl hne
theorem put_in {s : Sd} {m : Int} (h : InS s m) (p : Nat) {n : Int} (hn : 0 ≤ n ∧ n ≤ m) : InS (s.put p n) m := by
  unfold Sd.put
  split
  · exact ⟨hn, h.y, h.z⟩
  · exact ⟨h.x, hn, h.z⟩
  · exact ⟨h.x, h.y, hn⟩
theorem sd_putN (s : Sd) {p : Nat} (h : p < 3) (n : Int) : putN p [.int .i64 n] [.int .i64 s.x, .int .i64 s.y, .int .i64 s.z] = some [.int .i64 (s.put p n).x, .int .i64 (s.put p n).y, .int .i64 (s.put p n).z] := by
  rcases (by omega : p = 0 ∨ p = 1 ∨ p = 2) with rfl | rfl | rfl <;> rfl
def okP (t : Tb) (s : Sd) (p : Nat) (n : Int) : Bool := alike t s (s.put p n)
theorem part_put (e l s : Sd) {p : Nat} (h : p < 3) (n : Int) : seesN e l s (s.put p n) = dif (s.at p) n * e.at p * l.at p := by
  have z : ∀ j, j < 3 → j ≠ p → term e l s (s.put p n) j = 0 := fun j hj hne => by
    unfold term; rw [at_put_ne s h hj hne]; simp [dif]
  have o : term e l s (s.put p n) p = dif (s.at p) n * e.at p * l.at p := by unfold term; rw [at_put s h]
  show part e l s (s.put p n) 3 = _
  simp only [part]
  rcases (by omega : p = 0 ∨ p = 1 ∨ p = 2) with rfl | rfl | rfl
  · rw [z 1 (by omega) (by omega), z 2 (by omega) (by omega), o]; omega
  · rw [z 0 (by omega) (by omega), z 2 (by omega) (by omega), o]; omega
  · rw [z 0 (by omega) (by omega), z 1 (by omega) (by omega), o]; omega
theorem okP_mono {t : Tb} (g : Good t) {s : Sd} {p : Nat} (hp : p < 3) {m n : Int} (hd : dif (s.at p) n ≤ dif (s.at p) m) (h : okP t s p m = true) : okP t s p n = true := by
  unfold okP at *
  rw [alike_iff g] at *
  intro i k hi hk
  have h1 := h i k hi hk
  rw [tellsAt_eq hi hk, decide_eq_false_iff_not, part_put _ _ _ hp] at *
  have ge := (g.eye _ (List.getElem_mem hi)).1
  have gl := g.light _ (List.getElem_mem hk)
  have b1 := sd_bd ge hp
  have b2 := sd_bd gl hp
  have m1 := Int.mul_le_mul_of_nonneg_right hd b1.1
  have m2 := Int.mul_le_mul_of_nonneg_right m1 b2.1
  omega
theorem okP_self {t : Tb} (g : Good t) (s : Sd) {p : Nat} (hp : p < 3) : okP t s p (s.at p) = true := by
  unfold okP; rw [put_self s hp]; exact alike_self g s
structure IsLo (t : Tb) (s : Sd) (p : Nat) (x : Int) : Prop where
  nn : 0 ≤ x
  le : x ≤ s.at p
  ok : okP t s p x = true
  last : x = 0 ∨ okP t s p (x - 1) = false
structure IsHi (t : Tb) (s : Sd) (p : Nat) (x : Int) : Prop where
  le : x ≤ 20
  ge : s.at p ≤ x
  ok : okP t s p x = true
  last : x = 20 ∨ okP t s p (x + 1) = false
def shE (t : Tb) (s : Sd) (p : Int) : Int := if check t ≠ 0 then check t else if s.within 20 = false then 3 else if inB p 0 2 = false then 1 else 0
def ShadesR (t : Tb) (s : Sd) (p lo hi : Int) : Prop := if shE t s p = 0 then IsLo t s p.toNat lo ∧ IsHi t s p.toNat hi else lo = 0 ∧ hi = 0
set_option maxHeartbeats 2000000 in
theorem Shades_ev {h : H} {v : V} {t : Tb} (hw : h.wf) (ht : TbIs h v t) (a : Sd) (p : Int) (Q : V → H → Prop) (q : ∀ lo hi h', h.Sub h' → ShadesR t a p lo hi → Q (.tup [.agg [.int .i64 lo, .int .i64 hi], .int .i64 (shE t a p)]) h') :
    Ev fnG fastA (.fn 37 [] []) [v, .agg (encD a), .int .i64 p] h Q := by
  have ht0 := ht
  obtain ⟨E, L, P, rfl, aE, aL, aP⟩ := ht
  refine Ev_body (fd := c37) rfl rfl rfl ?_
  have s4 : h.Sub (((h.add (.cells .rw [E, L, P])).add (.cells .rw [.int .i64 a.x, .int .i64 a.y, .int .i64 a.z])).add (.cells .rw [.int .i64 0, .int .i64 0])) := (by repeat (first | assumption | exact H.Sub.refl (by assumption) | refine H.Sub.add ?_ _ | refine H.Sub.set ?_ (by first | omega | (simp only [H.next_add, H.next_set, H.next_del] <;> omega)) (by first | omega | (simp only [H.next_add, H.next_set, H.next_del] <;> omega)) (by assumption) _))
  have q4 : (((h.add (.cells .rw [E, L, P])).add (.cells .rw [.int .i64 a.x, .int .i64 a.y, .int .i64 a.z])).add (.cells .rw [.int .i64 0, .int .i64 0])).cells (h.next + 1) = some [.int .i64 a.x, .int .i64 a.y, .int .i64 a.z] := by simp -implicitDefEqProofs (maxSteps := 999999) (disch := first | with_reducible rfl | omega | (simp only [nA, nS, nD] <;> omega) | fail) only [go_sem]
  have q5 : (((h.add (.cells .rw [E, L, P])).add (.cells .rw [.int .i64 a.x, .int .i64 a.y, .int .i64 a.z])).add (.cells .rw [.int .i64 0, .int .i64 0])).get (h.next + 1 + 1) = some (.cells .rw [.int .i64 0, .int .i64 0]) := by simp -implicitDefEqProofs (maxSteps := 999999) (disch := first | with_reducible rfl | omega | (simp only [nA, nS, nD] <;> omega) | fail) only [go_sem]
  have n4 : (((h.add (.cells .rw [E, L, P])).add (.cells .rw [.int .i64 a.x, .int .i64 a.y, .int .i64 a.z])).add (.cells .rw [.int .i64 0, .int .i64 0])).next = h.next + 3 := by simp only [H.next_add]
  simp -implicitDefEqProofs (maxSteps := 999999) (disch := first | with_reducible rfl | omega | (simp only [nA, nS, nD] <;> omega) | fail) only [c37, go_sem, encD]
  generalize (((h.add (.cells .rw [E, L, P])).add (.cells .rw [.int .i64 a.x, .int .i64 a.y, .int .i64 a.z])).add (.cells .rw [.int .i64 0, .int .i64 0])) = h4 at s4 q4 q5 n4 ⊢
  have bad : ∀ h', h.Sub h' → ∀ e : Int, e ≠ 0 → shE t a p = e → Q (.tup [.agg [.int .i64 0, .int .i64 0], .int .i64 e]) h' := fun h' s e he e1 => by
    have q' := q 0 0 _ s (by unfold ShadesR; rw [e1, if_neg he]; exact ⟨rfl, rfl⟩)
    rw [e1] at q'; exact q'
  refine opened_use s4.wf (ht0.mono s4) _ (fun h5 s45 c => ?_) fun h5 d s45 c g hd => ?_
  · have r5 := s45.get q5
    have l5 := s45.next
    simp -implicitDefEqProofs (maxSteps := 999999) (disch := first | with_reducible rfl | omega | (simp only [nA, nS, nD] <;> omega) | fail) only [go_sem, ne_eq, c, not_false_eq_true, r5]
    exact bad _ ((s4.trans s45).set (by omega) (by omega) hw _) _ c (by unfold shE; rw [if_pos c])
  have s5 := s4.trans s45
  have hr := right_ev (h := h5) s5.wf a
  simp only [encD] at hr
  simp -implicitDefEqProofs (maxSteps := 999999) (disch := first | with_reducible rfl | omega | (simp only [nA, nS, nD] <;> omega) | fail) only [go_sem, ne_eq, not_true_eq_false, s45.cells q4]
  refine hr _ fun h7 s57 => ?_
  have s47 := s45.trans s57
  have s7 := s4.trans s47
  have r7 := s47.get q5
  have l7 := s47.next
  cases ca : a.within 20
  · simp -implicitDefEqProofs (maxSteps := 999999) (disch := first | with_reducible rfl | omega | (simp only [nA, nS, nD] <;> omega) | fail) only [go_sem, Bool.not_false, r7]
    exact bad _ (s7.set (by omega) (by omega) hw _) 3 (by decide) (by unfold shE; rw [if_neg (by simp [c]), if_pos ca])
  cases cp : inB p 0 2
  · simp -implicitDefEqProofs (maxSteps := 999999) (disch := first | with_reducible rfl | omega | (simp only [nA, nS, nD] <;> omega) | fail) only [go_sem, Bool.not_true, Bool.not_false, r7, in_ev, cp]
    exact bad _ (s7.set (by omega) (by omega) hw _) 1 (by decide) (by unfold shE; rw [if_neg (by simp [c]), if_neg (by simp [ca]), if_pos cp])
  have e1 : shE t a p = 0 := by unfold shE; rw [if_neg (by simp [c]), if_neg (by simp [ca]), if_neg (by simp [cp])]
  simp only [inB, decide_eq_true_eq] at cp
  obtain ⟨j, rfl⟩ := Int.eq_ofNat_of_zero_le cp.1
  have hj : j < 3 := by omega
  have hin := within_iff.1 ca
  have hat := sd_bd hin hj
  have na := sd_nth a hj
  simp only [encD] at na
  have cp' : inB (j : Int) 0 2 = true := by simp only [inB, decide_eq_true_eq]; omega
  have q47 := s47.cells q4
  have hd7 := hd.mono s57
  have ok0 := okP_self g a hj
  have s78 : h7.Sub ((h7.add (.cells .rw [.int .i64 (a.at j), .int .i64 (a.at j)])).add (.cells .rw [.int .i64 a.x, .int .i64 a.y, .int .i64 a.z])) := ((H.Sub.refl s7.wf).add _).add _
  simp -implicitDefEqProofs (maxSteps := 999999) (disch := first | with_reducible rfl | omega | (simp only [nA, nS, nD] <;> omega) | fail) only [go_sem, Bool.not_true, r7, in_ev, cp', q_iaa_ptr (nat_cst j) hj, Nat.mul_one, q47, na, evQ_ld]
  refine W_count 21 (fun n s => ∃ tm h' o lo hi, s = ⟨tm, h', []⟩ ∧ h7.Sub h' ∧ h'.get h7.next = some (.cells .rw [.int .i64 lo, .int .i64 hi]) ∧ h'.get (h7.next + 1) = some (.cells .rw [.int .i64 (a.put j o).x, .int .i64 (a.put j o).y, .int .i64 (a.put j o).z]) ∧ (0 ≤ lo ∧ lo ≤ a.at j ∧ okP t a j lo = true) ∧ (hi ≤ 20 ∧ a.at j ≤ hi ∧ okP t a j hi = true) ∧ (∀ m : Nat, m < n → okP t a j (m : Int) = true → lo ≤ (m : Int) ∧ (m : Int) ≤ hi) ∧
      (Opd.t 2).ev tm = .int .i64 (j : Int) ∧ (Opd.t 4).ev tm = .ptr (h.next + 1) 0 ∧ (Opd.t 6).ev tm = .ptr (h.next + 1 + 1) 0 ∧ (Opd.t 8).ev tm = .ptr d 0 ∧ (Opd.t 10).ev tm = .ptr h7.next 0 ∧ (Opd.t 11).ev tm = .ptr (h7.next + 1) 0 ∧ (Opd.t 41).ev tm = .int .i64 (n : Int))
    ?_ ?_ (i := 0) (Nat.zero_le _) ⟨_, _, a.at j, a.at j, a.at j, rfl, s78, by simp -implicitDefEqProofs (maxSteps := 999999) (disch := first | with_reducible rfl | omega | (simp only [nA, nS, nD] <;> omega) | fail) only [go_sem], by rw [put_self a hj]; simp -implicitDefEqProofs (maxSteps := 999999) (disch := first | with_reducible rfl | omega | (simp only [nA, nS, nD] <;> omega) | fail) only [go_sem], ⟨hat.1, Int.le_refl _, ok0⟩, ⟨hat.2, Int.le_refl _, ok0⟩, fun m hm => by omega, (by simp [ev_c, ev_put] <;> rfl), (by simp [ev_c, ev_put] <;> rfl), (by simp [ev_c, ev_put] <;> rfl), (by simp [ev_c, ev_put] <;> rfl), (by simp [ev_c, ev_put] <;> rfl), (by simp [ev_c, ev_put] <;> rfl), (by simp [ev_c, ev_put] <;> rfl)⟩
  · rintro n s hn ⟨tm, h', o, lo, hi, rfl, hs, g1, g2, hlo, hhi, hall, t2, t4, t6, t8, t10, t11, t41⟩
    have hn' : (n : Int) < 21 := by omega
    have hp := sd_putN (a.put j o) hj (n : Int)
    rw [put_put] at hp
    have l1 := hs.wf _ _ g2
    have s8 : h7.Sub (h'.set (h7.next + 1) (.cells .rw [.int .i64 (a.put j (n : Int)).x, .int .i64 (a.put j (n : Int)).y, .int .i64 (a.put j (n : Int)).z])) := hs.set (by omega) l1 s7.wf _
    have c2 : (h'.set (h7.next + 1) (.cells .rw [.int .i64 (a.put j (n : Int)).x, .int .i64 (a.put j (n : Int)).y, .int .i64 (a.put j (n : Int)).z])).get (h7.next + 1) = some (.cells .rw [.int .i64 (a.put j (n : Int)).x, .int .i64 (a.put j (n : Int)).y, .int .i64 (a.put j (n : Int)).z]) := get_set_same rfl
    have c1 : (h'.set (h7.next + 1) (.cells .rw [.int .i64 (a.put j (n : Int)).x, .int .i64 (a.put j (n : Int)).y, .int .i64 (a.put j (n : Int)).z])).get h7.next = some (.cells .rw [.int .i64 lo, .int .i64 hi]) := by rw [get_set_other (by omega)]; exact g1
    simp -implicitDefEqProofs (maxSteps := 999999) (disch := first | with_reducible rfl | omega | (simp only [nA, nS, nD] <;> omega) | fail) only [go_sem, t2, t4, t6, t8, t10, t11, t41, hn', q_iaa_ptr (nat_cst j) hj, Nat.mul_one, g2, hp, hs.cells q47]
    generalize h'.set (h7.next + 1) (.cells .rw [.int .i64 (a.put j (n : Int)).x, .int .i64 (a.put j (n : Int)).y, .int .i64 (a.put j (n : Int)).z]) = h8 at s8 c1 c2 ⊢
    have hal := alike_ev (h := h8) s8.wf (hd7.mono s8) g hin (put_in hin j (n := (n : Int)) (by omega))
    simp only [encD] at hal
    try simp -implicitDefEqProofs (maxSteps := 999999) (disch := first | with_reducible rfl | omega | (simp only [nA, nS, nD] <;> omega) | fail) only [go_sem, t2, t4, t6, t8, t10, t11, t41, s8.cells q47, cells_of c2]
    refine hal _ fun h9 s89 => ?_
    have s9 := s8.trans s89
    have r1 := s89.get c1
    have r2 := s89.get c2
    have l9 := s9.wf _ _ r1
    have eok : alike t a (a.put j (n : Int)) = okP t a j (n : Int) := rfl
    rw [eok]
    cases hok : okP t a j (n : Int)
    · simp -implicitDefEqProofs (maxSteps := 999999) (disch := first | with_reducible rfl | omega | (simp only [nA, nS, nD] <;> omega) | fail) only [go_sem, t2, t4, t6, t8, t10, t11, t41, wr_succ]
      refine ⟨_, _, (n : Int), lo, hi, rfl, s9, r1, r2, hlo, hhi, fun m hm hm2 => ?_, (by simp [ev_c, ev_put, t2] <;> rfl), (by simp [ev_c, ev_put, t4] <;> rfl), (by simp [ev_c, ev_put, t6] <;> rfl), (by simp [ev_c, ev_put, t8] <;> rfl), (by simp [ev_c, ev_put, t10] <;> rfl), (by simp [ev_c, ev_put, t11] <;> rfl), (by simp [ev_c, ev_put] <;> rfl)⟩
      by_cases e : m = n
      · subst e; rw [hok] at hm2; cases hm2
      · exact hall m (by omega) hm2
    · have sG := (H.Sub.refl s9.wf).add (.cells .rw [.int .i64 (n : Int)])
      have aG : SlAt (h9.add (.cells .rw [.int .i64 (n : Int)])) (.sl h9.next 0 1 (.fix 1)) 1 (([(n : Int)] : List Int).map encI) := SlAt.new _ rfl rfl (by rfl) (by simp [encI]) (by simp)
      have hgr := greatest_ev aG hi
      have ef : ([(n : Int)] : List Int).foldl max hi = max hi (n : Int) := rfl
      rw [ef] at hgr
      have g9 := sG.get r1
      have gA : (h9.add (.cells .rw [.int .i64 (n : Int)])).cells h7.next = some [.int .i64 lo, .int .i64 hi] := cells_of g9
      simp -implicitDefEqProofs (maxSteps := 999999) (disch := first | with_reducible rfl | omega | (simp only [nA, nS, nD] <;> omega) | fail) only [go_sem, t2, t4, t6, t8, t10, t11, t41, r1, cells_of r1, hgr, evQ_ld, gA, g9, wr_succ]
      have sF : h7.Sub ((h9.add (.cells .rw [.int .i64 (n : Int)])).set h7.next (.cells .rw [.int .i64 (min lo (n : Int)), .int .i64 (max hi (n : Int))])) := (s9.trans sG).set (Nat.le_refl _) (by rw [H.next_add]; omega) s7.wf _
      refine ⟨_, _, (n : Int), min lo (n : Int), max hi (n : Int), rfl, sF, get_set_same rfl, by rw [get_set_other (by omega)]; exact sG.get r2, ⟨by omega, by omega, ?_⟩, ⟨by omega, by omega, ?_⟩, fun m hm hm2 => ?_, (by simp [ev_c, ev_put, t2] <;> rfl), (by simp [ev_c, ev_put, t4] <;> rfl), (by simp [ev_c, ev_put, t6] <;> rfl), (by simp [ev_c, ev_put, t8] <;> rfl), (by simp [ev_c, ev_put, t10] <;> rfl), (by simp [ev_c, ev_put, t11] <;> rfl), (by simp [ev_c, ev_put] <;> rfl)⟩
      · rcases (by omega : min lo (n : Int) = lo ∨ min lo (n : Int) = (n : Int)) with e | e <;> rw [e]
        · exact hlo.2.2
        · exact hok
      · rcases (by omega : max hi (n : Int) = hi ∨ max hi (n : Int) = (n : Int)) with e | e <;> rw [e]
        · exact hhi.2.2
        · exact hok
      · by_cases e : m = n
        · subst e; omega
        · have := hall m (by omega) hm2; omega
  · rintro s ⟨tm, h', o, lo, hi, rfl, hs, g1, g2, hlo, hhi, hall, t2, t4, t6, t8, t10, t11, t41⟩
    have hnl : ¬ ((21 : Nat) : Int) < 21 := by omega
    have r8 := hs.get r7
    have l8 := (s7.trans hs).wf _ _ r8
    simp -implicitDefEqProofs (maxSteps := 999999) (disch := first | with_reducible rfl | omega | (simp only [nA, nS, nD] <;> omega) | fail) only [go_sem, t2, t4, t6, t8, t10, t11, t41, hnl, cells_of g1, r8]
    have q' := q lo hi _ ((s7.trans hs).set (b := h.next + 1 + 1) (by omega) l8 hw (.cells .rw [.int .i64 lo, .int .i64 hi])) (by
      unfold ShadesR
      rw [if_pos e1, Int.toNat_natCast]
      refine ⟨⟨hlo.1, hlo.2.1, hlo.2.2, ?_⟩, ⟨hhi.1, hhi.2.1, hhi.2.2, ?_⟩⟩
      · by_cases e : lo = 0
        · exact .inl e
        · refine .inr ?_
          cases hc : okP t a j (lo - 1)
          · rfl
          · have := hall (lo - 1).toNat (by omega) (by rw [Int.toNat_of_nonneg (by omega)]; exact hc)
            omega
      · by_cases e : hi = 20
        · exact .inl e
        · refine .inr ?_
          cases hc : okP t a j (hi + 1)
          · rfl
          · have := hall (hi + 1).toNat (by omega) (by rw [Int.toNat_of_nonneg (by omega)]; exact hc)
            omega)
    rw [e1] at q'; exact q'
end Go.Ab.Try
set_option linter.unusedSimpArgs false
set_option linter.unusedVariables false
namespace Go.Ab
theorem OwnSl.up {h0 h1 h : H} {x : V} {sz : Nat} {rows : List (List V)} (a : OwnSl h1 h x sz rows) (s : h0.Sub h1) : OwnSl h0 h x sz rows := by
  obtain ⟨a0, a1, a2⟩ := a
  refine ⟨s.trans a0, a1, ?_⟩
  have := s.next
  rcases a2 with a2 | ⟨b, e, l1, l2, hb⟩
  · exact .inl a2
  · exact .inr ⟨b, e, by omega, l2, hb⟩
end Go.Ab
namespace Go.Ab.Try
end Go.Ab.Try
set_option linter.unusedSimpArgs false
set_option linter.unusedVariables false
namespace Go.Ab
namespace Try
theorem nblk (b : Nat) : ¬ blkOf .nils b := fun ⟨_, _, _, e⟩ => by cases e
end Try
end Go.Ab
set_option linter.unusedSimpArgs false
set_option linter.unusedVariables false
namespace Go.Ab.Try
variable {Fn : Nat → Option FD} {fast : Nat → Option (List V → H → Option (V × H))} {N fn : Nat} {ro : Option Nat}
theorem PBd_join {v : V} {c1 c2 : C} {s1 s2 : St} {K : X → St → Prop} {tg} (R : X → St → Prop) (h : PBd v (W Fn fast N fn ro c1 s1 R) (W Fn fast N fn ro c2 s2 R) ⟨⟩) (k : ∀ x s, R x s → K x s) : PBd v (W Fn fast N fn ro c1 s1 K) (W Fn fast N fn ro c2 s2 K) tg := by
  cases v
  case bool b => cases b <;> exact W.mono h k
  all_goals exact h.elim
end Go.Ab.Try
