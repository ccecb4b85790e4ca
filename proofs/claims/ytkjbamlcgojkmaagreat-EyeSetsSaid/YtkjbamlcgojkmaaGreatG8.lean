/- EyeSets. The reference's Most. -/
import Derived.Test.YtkjbamlcgojkmaaGreatG7
set_option linter.unusedSimpArgs false
set_option linter.unusedVariables false
namespace Go.Ab.Tryz
open Go.Ab.Silk (Inc bitsL lexlt)
set_option maxHeartbeats 4000000 in
theorem refMost_ev {h : H} {v : V} {t : Tb} (hw : h.wf) (ht : TbIs h v t) (g : Good t) (mt : Bool) (pc : Int) (Q : V → H → Prop)
  (q : ∀ y h', h.Sub h' → OutAt h' y (lastOf (mostP (mB t mt) (hasP pc)) t.pieces.length t.pieces.length) → Q y h') : Ev fnG fastA (.fn 15 [] []) [v, .bool mt, .int .i64 pc] h Q := by
 have ht0 := ht
 obtain ⟨E, L, P, rfl, aE, aL, aP⟩ := ht
 have hlP := aP.lenE
 have gp := g.pieces
 have s1 : h.Sub (h.add (.cells .rw [E, L, P])) := (by repeat (first | assumption | exact H.Sub.refl (by assumption) | refine H.Sub.add ?_ _ | refine H.Sub.set ?_ (by first | omega | (simp only [H.next_add, H.next_set, H.next_del] <;> omega)) (by first | omega | (simp only [H.next_add, H.next_set, H.next_del] <;> omega)) (by assumption) _))
 have g1 : (h.add (.cells .rw [E, L, P])).cells h.next = some [E, L, P] := cells_add_new rfl
 refine Ev_body (fd := c15) rfl rfl rfl ?_
 simp -implicitDefEqProofs (maxSteps := 999999) (disch := first | with_reducible rfl | omega | (simp only [nA, nS, nD] <;> omega) | fail) only [c15, go_sem]
 generalize h.add (.cells .rw [E, L, P]) = h1 at s1 g1 ⊢
 refine Matches_ev s1.wf (ht0.mono s1) g _ fun x h2 oM => ?_
 have s12 : h1.Sub h2 := by obtain ⟨_, a1, _⟩ := oM; exact a1.1
 have g2 := s12.cells g1
 have h2p : (2 : Int) ^ t.pieces.length = ((2 ^ t.pieces.length : Nat) : Int) := by simp
 have hset := fun (hh : H) (R : V → H → Prop) => sets_ev (h := hh) (n := t.pieces.length) (by omega) R
 have hp1 : 1 ≤ 2 ^ t.pieces.length := Nat.one_le_two_pow
 have hp10 := pow_le (i := t.pieces.length) (by omega)
 simp -implicitDefEqProofs (maxSteps := 999999) (disch := first | with_reducible rfl | omega | (simp only [nA, nS, nD] <;> omega) | fail) only [go_sem]
 refine W_count (2 ^ t.pieces.length) (fun i s => ∃ tm h' y best, s = ⟨tm, h', []⟩ ∧ h2.Sub h' ∧ BestM (mostP (mB t mt) (hasP pc)) t.pieces.length (i : Int) best ∧ OutAt h' y best ∧ (Opd.t 1).ev tm = .bool mt ∧ (Opd.t 2).ev tm = .int .i64 pc ∧ (Opd.t 3).ev tm = .ptr h.next 0 ∧ (Opd.t 7).ev tm = x ∧ (Opd.t 8).ev tm = y ∧ (Opd.t 9).ev tm = .int .i64 (i : Int))
  ?_ ?_ (i := 1) hp1 ⟨_, _, .nils, none, rfl, H.Sub.refl s12.wf, ⟨Int.le_refl _, fun u a b => by omega⟩, rfl, (by simp [ev_c, ev_put] <;> rfl), (by simp [ev_c, ev_put] <;> rfl), (by simp [ev_c, ev_put] <;> rfl), (by simp [ev_c, ev_put] <;> rfl), (by simp [ev_c, ev_put] <;> rfl), (by simp [ev_c, ev_put] <;> rfl)⟩
 ·rintro i s hi ⟨tm, h', y, best, rfl, hs, hb, oy, t1, t2, t3, t7, t8, t9⟩
  have hi' : (i : Int) < ((2 ^ t.pieces.length : Nat) : Int) := by omega
  have hi2 : (i : Int) < 2 ^ t.pieces.length := by rw [h2p]; exact hi'
  have hi1 := hb.1
  have es : ((i + 1 : Nat) : Int) = (i : Int) + 1 := by omega
  simp -implicitDefEqProofs (maxSteps := 999999) (disch := first | with_reducible rfl | omega | (simp only [nA, nS, nD] <;> omega) | fail) only [go_sem, t1, t2, t3, t7, t8, t9, hs.cells g2, hlP, hset, h2p, hi']
  refine members_ev (n := t.pieces.length) hs.wf (by omega) (by omega) hi2 _ fun z h3 oz => ?_
  have incl := bits_inc0 t.pieces.length (i : Int)
  have hlz : (bitsL t.pieces.length (i : Int) 0).length ≤ 9 := by have := incl.len (by omega); omega
  have hlp := bits_pos hi1 hi2
  have pw := Inc.pw incl
  have hmem := fun x hx => incl.mem x hx
  obtain ⟨l, el⟩ : ∃ l, bitsL t.pieces.length (i : Int) 0 = l := ⟨_, rfl⟩
  have bsk := hb.skip
  have btk := hb.take hi2
  have hok := mostP_ok (mt := mt) (pc := pc) g pw
  rw [el] at oz hlz hlp pw hmem bsk btk hok
  rw [← es] at bsk btk
  have az := oz.sl (by simp only [List.length_map]; omega)
  have lz := az.lenE
  have hs3 := hs.trans oz.1
  have oy3 := oy.mono oz.1
  have pos0 : ¬ (l.length : Int) < 0 := by omega
  have pos1 : ¬ (l.length : Int) = 0 := by omega
  obtain ⟨R, hR⟩ : ∃ R : C, navK [true, true, true, false, true, true, true, true, false, true, true, true] c15.body = R := ⟨_, rfl⟩
  -- the rest, once the list is looked at
  have tail : ∀ (tm : Go.Ab.T V) (h4 : H), h3.Sub h4 → hasP pc l = true → (∀ c, best = some c → ¬ l.length < c.length ∧ (l.length = c.length → lexlt l c = true)) → (Opd.t 1).ev tm = .bool mt → (Opd.t 2).ev tm = .int .i64 pc → (Opd.t 3).ev tm = .ptr h.next 0 → (Opd.t 7).ev tm = x → (Opd.t 8).ev tm = y → (Opd.t 9).ev tm = .int .i64 (i : Int) → (Opd.t 10).ev tm = z →
    W fnG fastA 86 15 none R ⟨tm, h4, []⟩ fun x1 s => x1 = .nrm ∧ ∃ tm y best, s = ⟨tm, h4, []⟩ ∧ BestM (mostP (mB t mt) (hasP pc)) t.pieces.length ((i + 1 : Nat) : Int) best ∧ OutAt h4 y best ∧ (Opd.t 1).ev tm = .bool mt ∧ (Opd.t 2).ev tm = .int .i64 pc ∧ (Opd.t 3).ev tm = .ptr h.next 0 ∧ (Opd.t 7).ev tm = x ∧ (Opd.t 8).ev tm = y ∧ (Opd.t 9).ev tm = .int .i64 (i : Int) := by
   clear t1 t2 t3 t7 t8 t9
   intro tm h4 s34 hhp hbt t1 t2 t3 t7 t8 t9 t10
   subst hR
   have az4 := az.mono s34
   have oM4 := oM.mono (hs3.trans s34)
   simp -implicitDefEqProofs (maxSteps := 999999) (disch := first | with_reducible rfl | omega | (simp only [nA, nS, nD] <;> omega) | fail) only [navK, c15, go_sem, t1, t2, t3, t7, t8, t9, t10]
   refine W.mono (Q := fun x1 s => x1 = .ext 2 ∧ ∃ tm, s = ⟨tm, h4, []⟩ ∧ (Opd.t 1).ev tm = .bool mt ∧ (Opd.t 2).ev tm = .int .i64 pc ∧ (Opd.t 3).ev tm = .ptr h.next 0 ∧ (Opd.t 7).ev tm = x ∧ (Opd.t 8).ev tm = y ∧ (Opd.t 9).ev tm = .int .i64 (i : Int) ∧ (Opd.t 10).ev tm = z ∧ (Opd.t 11).ev tm = .bool (okTo (mB t mt) l l.length))
    (W_count l.length (fun a s => ∃ tm, s = ⟨tm, h4, []⟩ ∧ (Opd.t 1).ev tm = .bool mt ∧ (Opd.t 2).ev tm = .int .i64 pc ∧ (Opd.t 3).ev tm = .ptr h.next 0 ∧ (Opd.t 7).ev tm = x ∧ (Opd.t 8).ev tm = y ∧ (Opd.t 9).ev tm = .int .i64 (i : Int) ∧ (Opd.t 10).ev tm = z ∧ (Opd.t 11).ev tm = .bool (okTo (mB t mt) l a) ∧ (Opd.t 12).ev tm = .int .i64 (a : Int))
    ?_ ?_ (i := 0) (Nat.zero_le _) ⟨_, rfl, (by simp [ev_c, ev_put, t1] <;> rfl), (by simp [ev_c, ev_put, t2] <;> rfl), (by simp [ev_c, ev_put, t3] <;> rfl), (by simp [ev_c, ev_put, t7] <;> rfl), (by simp [ev_c, ev_put, t8] <;> rfl), (by simp [ev_c, ev_put, t9] <;> rfl), (by simp [ev_c, ev_put, t10] <;> rfl), (by simp [ev_c, ev_put] <;> rfl), (by simp [ev_c, ev_put] <;> rfl)⟩) fun x1 s hx1 => ?_
   ·clear t1 t2 t3 t7 t8 t9 t10
    rintro a s ha ⟨tm, rfl, t1, t2, t3, t7, t8, t9, t10, t11, t12⟩
    have ha' : (a : Int) < (l.length : Int) := by omega
    have ez : okTo (mB t mt) l a = (okTo (mB t mt) l a && okRow (mB t mt) l a 0) := by simp [okRow]
    simp -implicitDefEqProofs (maxSteps := 999999) (disch := first | with_reducible rfl | omega | (simp only [nA, nS, nD] <;> omega) | fail) only [go_sem, t1, t2, t3, t7, t8, t9, t10, t11, t12, lz, ha']
    refine W_count a (fun k s => ∃ tm, s = ⟨tm, h4, []⟩ ∧ (Opd.t 1).ev tm = .bool mt ∧ (Opd.t 2).ev tm = .int .i64 pc ∧ (Opd.t 3).ev tm = .ptr h.next 0 ∧ (Opd.t 7).ev tm = x ∧ (Opd.t 8).ev tm = y ∧ (Opd.t 9).ev tm = .int .i64 (i : Int) ∧ (Opd.t 10).ev tm = z ∧ (Opd.t 11).ev tm = .bool (okTo (mB t mt) l a && okRow (mB t mt) l a k) ∧ (Opd.t 12).ev tm = .int .i64 (a : Int) ∧ (Opd.t 13).ev tm = .int .i64 (k : Int))
     ?_ ?_ (i := 0) (Nat.zero_le _) ⟨_, rfl, (by simp [ev_c, ev_put, t1] <;> rfl), (by simp [ev_c, ev_put, t2] <;> rfl), (by simp [ev_c, ev_put, t3] <;> rfl), (by simp [ev_c, ev_put, t7] <;> rfl), (by simp [ev_c, ev_put, t8] <;> rfl), (by simp [ev_c, ev_put, t9] <;> rfl), (by simp [ev_c, ev_put, t10] <;> rfl), by rw [← ez]; exact (by simp [ev_c, ev_put, t11] <;> rfl), (by simp [ev_c, ev_put, t12] <;> rfl), (by simp [ev_c, ev_put] <;> rfl)⟩
    ·clear t1 t2 t3 t7 t8 t9 t10 t11 t12
     rintro k s hk ⟨tm, rfl, t1, t2, t3, t7, t8, t9, t10, t11, t12, t13⟩
     have hk' : (k : Int) < (a : Int) := by omega
     have hst := okRow_step (mB t mt) l a k
     cases hok1 : (okTo (mB t mt) l a && okRow (mB t mt) l a k)
     ·rw [hok1] at t11
      have e2 : (okTo (mB t mt) l a && okRow (mB t mt) l a (k + 1)) = false := by rw [hst, ← Bool.and_assoc, hok1]; rfl
      simp -implicitDefEqProofs (maxSteps := 999999) (disch := first | with_reducible rfl | omega | (simp only [nA, nS, nD] <;> omega) | fail) only [go_sem, t1, t2, t3, t7, t8, t9, t10, t11, t12, t13, hk', wr_succ]
      exact ⟨_, rfl, (by simp [ev_c, ev_put, t1] <;> rfl), (by simp [ev_c, ev_put, t2] <;> rfl), (by simp [ev_c, ev_put, t3] <;> rfl), (by simp [ev_c, ev_put, t7] <;> rfl), (by simp [ev_c, ev_put, t8] <;> rfl), (by simp [ev_c, ev_put, t9] <;> rfl), (by simp [ev_c, ev_put, t10] <;> rfl), by rw [e2]; exact (by simp [ev_c, ev_put] <;> rfl), (by simp [ev_c, ev_put, t12] <;> rfl), (by simp [ev_c, ev_put] <;> rfl)⟩
     ·rw [hok1] at t11
      obtain ⟨bA, oA, csA, f1, f2, f3⟩ := SlAt.elemF az4 ha
      obtain ⟨bK, oK, csK, f4, f5, f6⟩ := SlAt.elemF az4 (show k < l.length by omega)
      have ma := hmem _ (List.getElem_mem ha)
      have mk := hmem _ (List.getElem_mem (show k < l.length by omega))
      obtain ⟨b, o, cs, row, b2, o2, cs2, m1, m2, m3, m4, m5, m6⟩ := mats_int g gp oM4 (p := l[a]) (q := l[k]) ma mk
      have e2 : (okTo (mB t mt) l a && okRow (mB t mt) l a (k + 1)) = (mT t l[a] l[k] == mt) := by rw [hst, ← Bool.and_assoc, hok1, Bool.true_and, getD_at ha, getD_at (show k < l.length by omega)]; rfl
      simp -implicitDefEqProofs (maxSteps := 999999) (disch := first | with_reducible rfl | omega | (simp only [nA, nS, nD] <;> omega) | fail) only [go_sem, t1, t2, t3, t7, t8, t9, t10, t11, t12, t13, hk', f1, f2, f3, f4, f5, f6, m1, m2, m3, m4, m5, m6, wr_succ]
      exact ⟨_, rfl, (by simp [ev_c, ev_put, t1] <;> rfl), (by simp [ev_c, ev_put, t2] <;> rfl), (by simp [ev_c, ev_put, t3] <;> rfl), (by simp [ev_c, ev_put, t7] <;> rfl), (by simp [ev_c, ev_put, t8] <;> rfl), (by simp [ev_c, ev_put, t9] <;> rfl), (by simp [ev_c, ev_put, t10] <;> rfl), by rw [e2]; exact (by simp [ev_c, ev_put] <;> rfl), (by simp [ev_c, ev_put, t12] <;> rfl), (by simp [ev_c, ev_put] <;> rfl)⟩
    ·clear t1 t2 t3 t7 t8 t9 t10 t11 t12
     rintro s ⟨tm, rfl, t1, t2, t3, t7, t8, t9, t10, t11, t12, t13⟩
     simp -implicitDefEqProofs (maxSteps := 999999) (disch := first | with_reducible rfl | omega | (simp only [nA, nS, nD] <;> omega) | fail) only [go_sem, t1, t2, t3, t7, t8, t9, t10, t11, t12, t13, Int.lt_irrefl, wr_succ]
     exact ⟨_, rfl, (by simp [ev_c, ev_put, t1] <;> rfl), (by simp [ev_c, ev_put, t2] <;> rfl), (by simp [ev_c, ev_put, t3] <;> rfl), (by simp [ev_c, ev_put, t7] <;> rfl), (by simp [ev_c, ev_put, t8] <;> rfl), (by simp [ev_c, ev_put, t9] <;> rfl), (by simp [ev_c, ev_put, t10] <;> rfl), by rw [okTo_step]; exact (by simp [ev_c, ev_put, t11] <;> rfl), (by simp [ev_c, ev_put] <;> rfl)⟩
   ·clear t1 t2 t3 t7 t8 t9 t10
    rintro s ⟨tm, rfl, t1, t2, t3, t7, t8, t9, t10, t11, t12⟩
    simp -implicitDefEqProofs (maxSteps := 999999) (disch := first | with_reducible rfl | omega | (simp only [nA, nS, nD] <;> omega) | fail) only [go_sem, t1, t2, t3, t7, t8, t9, t10, t11, t12, lz, Int.lt_irrefl]
    exact ⟨_, rfl, (by simp [ev_c, ev_put, t1] <;> rfl), (by simp [ev_c, ev_put, t2] <;> rfl), (by simp [ev_c, ev_put, t3] <;> rfl), (by simp [ev_c, ev_put, t7] <;> rfl), (by simp [ev_c, ev_put, t8] <;> rfl), (by simp [ev_c, ev_put, t9] <;> rfl), (by simp [ev_c, ev_put, t10] <;> rfl), (by simp [ev_c, ev_put, t11] <;> rfl)⟩
   clear t1 t2 t3 t7 t8 t9 t10
   obtain ⟨rfl, tm, rfl, t1, t2, t3, t7, t8, t9, t10, t11⟩ := hx1
   rw [hhp, Bool.true_and] at hok
   cases hfin : okTo (mB t mt) l l.length
   ·rw [hfin] at t11 hok
    simp -implicitDefEqProofs (maxSteps := 999999) (disch := first | with_reducible rfl | omega | (simp only [nA, nS, nD] <;> omega) | fail) only [go_sem, t1, t2, t3, t7, t8, t9, t10, t11]
    exact ⟨_, y, best, rfl, bsk (.inl hok), oy3.mono s34, (by simp [ev_c, ev_put, t1] <;> rfl), (by simp [ev_c, ev_put, t2] <;> rfl), (by simp [ev_c, ev_put, t3] <;> rfl), (by simp [ev_c, ev_put, t7] <;> rfl), (by simp [ev_c, ev_put, t8] <;> rfl), (by simp [ev_c, ev_put, t9] <;> rfl)⟩
   ·rw [hfin] at t11 hok
    simp -implicitDefEqProofs (maxSteps := 999999) (disch := first | with_reducible rfl | omega | (simp only [nA, nS, nD] <;> omega) | fail) only [go_sem, t1, t2, t3, t7, t8, t9, t10, t11]
    exact ⟨_, z, some l, rfl, btk hok hbt, ⟨az4, by omega⟩, (by simp [ev_c, ev_put, t1] <;> rfl), (by simp [ev_c, ev_put, t2] <;> rfl), (by simp [ev_c, ev_put, t3] <;> rfl), (by simp [ev_c, ev_put, t7] <;> rfl), (by simp [ev_c, ev_put] <;> rfl), (by simp [ev_c, ev_put, t9] <;> rfl)⟩
  simp only [navK, c15] at hR
  rw [hR]
  have eP : hasP pc l = (decide (pc < 0) || l.any fun r => decide (r = pc)) := by
   unfold hasP; congr 1
   rw [Bool.eq_iff_iff, List.any_eq_true, List.any_eq_true]
   exact ⟨fun ⟨x, h1, h2⟩ => ⟨x, h1, by simpa using (of_decide_eq_true h2).symm⟩, fun ⟨x, h1, h2⟩ => ⟨x, h1, by simpa using (of_decide_eq_true h2).symm⟩⟩
  have c0 : ¬ l.length < 0 := by omega
  have skipP : hasP pc l = false → mostP (mB t mt) (hasP pc) l = false := fun h => by rw [hok, h]; rfl
  cases best with
  | none =>
   have ey : y = .nils := oy
   subst ey
   by_cases cp : 0 ≤ pc
   ·have e0 : hasP pc l = l.any fun r => decide (r = pc) := by rw [eP, decide_eq_false (by omega), Bool.false_or]
    simp -implicitDefEqProofs (maxSteps := 999999) (disch := first | with_reducible rfl | omega | (simp only [nA, nS, nD] <;> omega) | fail) only [go_sem, t1, t2, t3, t7, t8, t9, lz, pos0, pos1, cp]
    refine hasR_ev oz.1.wf az pc _ fun h4 s4 => ?_
    rw [← e0]
    cases hh : hasP pc l
    ·simp -implicitDefEqProofs (maxSteps := 999999) (disch := first | with_reducible rfl | omega | (simp only [nA, nS, nD] <;> omega) | fail) only [go_sem, t1, t2, t3, t7, t8, t9, wr_succ]
     exact ⟨_, _, .nils, none, rfl, hs3.trans s4, bsk (.inl (skipP hh)), rfl, (by simp [ev_c, ev_put, t1] <;> rfl), (by simp [ev_c, ev_put, t2] <;> rfl), (by simp [ev_c, ev_put, t3] <;> rfl), (by simp [ev_c, ev_put, t7] <;> rfl), (by simp [ev_c, ev_put, t8] <;> rfl), (by simp [ev_c, ev_put] <;> rfl)⟩
    ·simp -implicitDefEqProofs (maxSteps := 999999) (disch := first | with_reducible rfl | omega | (simp only [nA, nS, nD] <;> omega) | fail) only [go_sem, t1, t2, t3, t7, t8, t9]
     refine (tail _ h4 s4 hh (fun c e => by cases e) (by simp [ev_c, ev_put, t1] <;> rfl) (by simp [ev_c, ev_put, t2] <;> rfl) (by simp [ev_c, ev_put, t3] <;> rfl) (by simp [ev_c, ev_put, t7] <;> rfl) (by simp [ev_c, ev_put, t8] <;> rfl) (by simp [ev_c, ev_put, t9] <;> rfl) (by simp [ev_c, ev_put] <;> rfl)).mono fun x1 s hx1 => ?_
     obtain ⟨rfl, tm, y, best, rfl, hbm, hoa, t1, t2, t3, t7, t8, t9⟩ := hx1
     simp -implicitDefEqProofs (maxSteps := 999999) (disch := first | with_reducible rfl | omega | (simp only [nA, nS, nD] <;> omega) | fail) only [go_sem, t1, t2, t3, t7, t8, t9, wr_succ]
     exact ⟨_, _, y, best, rfl, hs3.trans s4, hbm, hoa, (by simp [ev_c, ev_put, t1] <;> rfl), (by simp [ev_c, ev_put, t2] <;> rfl), (by simp [ev_c, ev_put, t3] <;> rfl), (by simp [ev_c, ev_put, t7] <;> rfl), (by simp [ev_c, ev_put, t8] <;> rfl), (by simp [ev_c, ev_put] <;> rfl)⟩
   ·have hh : hasP pc l = true := by rw [eP, decide_eq_true (by omega), Bool.true_or]
    simp -implicitDefEqProofs (maxSteps := 999999) (disch := first | with_reducible rfl | omega | (simp only [nA, nS, nD] <;> omega) | fail) only [go_sem, t1, t2, t3, t7, t8, t9, lz, pos0, pos1, cp]
    refine (tail _ h3 (H.Sub.refl oz.1.wf) hh (fun c e => by cases e) (by simp [ev_c, ev_put, t1] <;> rfl) (by simp [ev_c, ev_put, t2] <;> rfl) (by simp [ev_c, ev_put, t3] <;> rfl) (by simp [ev_c, ev_put, t7] <;> rfl) (by simp [ev_c, ev_put, t8] <;> rfl) (by simp [ev_c, ev_put, t9] <;> rfl) (by simp [ev_c, ev_put] <;> rfl)).mono fun x1 s hx1 => ?_
    obtain ⟨rfl, tm, y, best, rfl, hbm, hoa, t1, t2, t3, t7, t8, t9⟩ := hx1
    simp -implicitDefEqProofs (maxSteps := 999999) (disch := first | with_reducible rfl | omega | (simp only [nA, nS, nD] <;> omega) | fail) only [go_sem, t1, t2, t3, t7, t8, t9, wr_succ]
    exact ⟨_, _, y, best, rfl, hs3, hbm, hoa, (by simp [ev_c, ev_put, t1] <;> rfl), (by simp [ev_c, ev_put, t2] <;> rfl), (by simp [ev_c, ev_put, t3] <;> rfl), (by simp [ev_c, ev_put, t7] <;> rfl), (by simp [ev_c, ev_put, t8] <;> rfl), (by simp [ev_c, ev_put] <;> rfl)⟩
  | some c =>
   obtain ⟨ac, hc10⟩ := oy3
   have lc := ac.lenE
   by_cases c1 : l.length < c.length
   ·have c1' : (l.length : Int) < (c.length : Int) := by omega
    simp -implicitDefEqProofs (maxSteps := 999999) (disch := first | with_reducible rfl | omega | (simp only [nA, nS, nD] <;> omega) | fail) only [go_sem, t1, t2, t3, t7, t8, t9, lz, lc, c1', wr_succ]
    exact ⟨_, _, y, some c, rfl, hs3, bsk (.inr ⟨c, rfl, .inl c1⟩), ⟨ac, hc10⟩, (by simp [ev_c, ev_put, t1] <;> rfl), (by simp [ev_c, ev_put, t2] <;> rfl), (by simp [ev_c, ev_put, t3] <;> rfl), (by simp [ev_c, ev_put, t7] <;> rfl), (by simp [ev_c, ev_put, t8] <;> rfl), (by simp [ev_c, ev_put] <;> rfl)⟩
   ·have c1' : ¬ (l.length : Int) < (c.length : Int) := by omega
    by_cases c2 : l.length = c.length
    ·have c2' : (l.length : Int) = (c.length : Int) := by omega
     have hfi := fun R => first_ev az ac c2 R
     cases hlx : lexlt l c
     ·rw [hlx] at hfi
      simp -implicitDefEqProofs (maxSteps := 999999) (disch := first | with_reducible rfl | omega | (simp only [nA, nS, nD] <;> omega) | fail) only [go_sem, t1, t2, t3, t7, t8, t9, lz, lc, c1', c2', Int.lt_irrefl, hfi, wr_succ]
      exact ⟨_, _, y, some c, rfl, hs3, bsk (.inr ⟨c, rfl, .inr ⟨c2, hlx⟩⟩), ⟨ac, hc10⟩, (by simp [ev_c, ev_put, t1] <;> rfl), (by simp [ev_c, ev_put, t2] <;> rfl), (by simp [ev_c, ev_put, t3] <;> rfl), (by simp [ev_c, ev_put, t7] <;> rfl), (by simp [ev_c, ev_put, t8] <;> rfl), (by simp [ev_c, ev_put] <;> rfl)⟩
     ·rw [hlx] at hfi
      have hbt : (∀ c', some c = some c' → ¬ l.length < c'.length ∧ (l.length = c'.length → lexlt l c' = true)) := fun c' e => by cases e; exact ⟨c1, fun _ => hlx⟩
      by_cases cp : 0 ≤ pc
      ·have e0 : hasP pc l = l.any fun r => decide (r = pc) := by rw [eP, decide_eq_false (by omega), Bool.false_or]
       simp -implicitDefEqProofs (maxSteps := 999999) (disch := first | with_reducible rfl | omega | (simp only [nA, nS, nD] <;> omega) | fail) only [go_sem, t1, t2, t3, t7, t8, t9, lz, lc, c1', c2', Int.lt_irrefl, hfi, cp]
       refine hasR_ev oz.1.wf az pc _ fun h4 s4 => ?_
       rw [← e0]
       cases hh : hasP pc l
       ·simp -implicitDefEqProofs (maxSteps := 999999) (disch := first | with_reducible rfl | omega | (simp only [nA, nS, nD] <;> omega) | fail) only [go_sem, t1, t2, t3, t7, t8, t9, wr_succ]
        exact ⟨_, _, y, some c, rfl, hs3.trans s4, bsk (.inl (skipP hh)), ⟨ac.mono s4, hc10⟩, (by simp [ev_c, ev_put, t1] <;> rfl), (by simp [ev_c, ev_put, t2] <;> rfl), (by simp [ev_c, ev_put, t3] <;> rfl), (by simp [ev_c, ev_put, t7] <;> rfl), (by simp [ev_c, ev_put, t8] <;> rfl), (by simp [ev_c, ev_put] <;> rfl)⟩
       ·simp -implicitDefEqProofs (maxSteps := 999999) (disch := first | with_reducible rfl | omega | (simp only [nA, nS, nD] <;> omega) | fail) only [go_sem, t1, t2, t3, t7, t8, t9]
        refine (tail _ h4 s4 hh hbt (by simp [ev_c, ev_put, t1] <;> rfl) (by simp [ev_c, ev_put, t2] <;> rfl) (by simp [ev_c, ev_put, t3] <;> rfl) (by simp [ev_c, ev_put, t7] <;> rfl) (by simp [ev_c, ev_put, t8] <;> rfl) (by simp [ev_c, ev_put, t9] <;> rfl) (by simp [ev_c, ev_put] <;> rfl)).mono fun x1 s hx1 => ?_
        obtain ⟨rfl, tm, y, best, rfl, hbm, hoa, t1, t2, t3, t7, t8, t9⟩ := hx1
        simp -implicitDefEqProofs (maxSteps := 999999) (disch := first | with_reducible rfl | omega | (simp only [nA, nS, nD] <;> omega) | fail) only [go_sem, t1, t2, t3, t7, t8, t9, wr_succ]
        exact ⟨_, _, y, best, rfl, hs3.trans s4, hbm, hoa, (by simp [ev_c, ev_put, t1] <;> rfl), (by simp [ev_c, ev_put, t2] <;> rfl), (by simp [ev_c, ev_put, t3] <;> rfl), (by simp [ev_c, ev_put, t7] <;> rfl), (by simp [ev_c, ev_put, t8] <;> rfl), (by simp [ev_c, ev_put] <;> rfl)⟩
      ·have hh : hasP pc l = true := by rw [eP, decide_eq_true (by omega), Bool.true_or]
       simp -implicitDefEqProofs (maxSteps := 999999) (disch := first | with_reducible rfl | omega | (simp only [nA, nS, nD] <;> omega) | fail) only [go_sem, t1, t2, t3, t7, t8, t9, lz, lc, c1', c2', Int.lt_irrefl, hfi, cp]
       refine (tail _ h3 (H.Sub.refl oz.1.wf) hh hbt (by simp [ev_c, ev_put, t1] <;> rfl) (by simp [ev_c, ev_put, t2] <;> rfl) (by simp [ev_c, ev_put, t3] <;> rfl) (by simp [ev_c, ev_put, t7] <;> rfl) (by simp [ev_c, ev_put, t8] <;> rfl) (by simp [ev_c, ev_put, t9] <;> rfl) (by simp [ev_c, ev_put] <;> rfl)).mono fun x1 s hx1 => ?_
       obtain ⟨rfl, tm, y, best, rfl, hbm, hoa, t1, t2, t3, t7, t8, t9⟩ := hx1
       simp -implicitDefEqProofs (maxSteps := 999999) (disch := first | with_reducible rfl | omega | (simp only [nA, nS, nD] <;> omega) | fail) only [go_sem, t1, t2, t3, t7, t8, t9, wr_succ]
       exact ⟨_, _, y, best, rfl, hs3, hbm, hoa, (by simp [ev_c, ev_put, t1] <;> rfl), (by simp [ev_c, ev_put, t2] <;> rfl), (by simp [ev_c, ev_put, t3] <;> rfl), (by simp [ev_c, ev_put, t7] <;> rfl), (by simp [ev_c, ev_put, t8] <;> rfl), (by simp [ev_c, ev_put] <;> rfl)⟩
    ·have c2' : ¬ (l.length : Int) = (c.length : Int) := by omega
     have hbt : (∀ c', some c = some c' → ¬ l.length < c'.length ∧ (l.length = c'.length → lexlt l c' = true)) := fun c' e => by cases e; exact ⟨c1, fun h => absurd h c2⟩
     by_cases cp : 0 ≤ pc
     ·have e0 : hasP pc l = l.any fun r => decide (r = pc) := by rw [eP, decide_eq_false (by omega), Bool.false_or]
      simp -implicitDefEqProofs (maxSteps := 999999) (disch := first | with_reducible rfl | omega | (simp only [nA, nS, nD] <;> omega) | fail) only [go_sem, t1, t2, t3, t7, t8, t9, lz, lc, c1', c2', cp]
      refine hasR_ev oz.1.wf az pc _ fun h4 s4 => ?_
      rw [← e0]
      cases hh : hasP pc l
      ·simp -implicitDefEqProofs (maxSteps := 999999) (disch := first | with_reducible rfl | omega | (simp only [nA, nS, nD] <;> omega) | fail) only [go_sem, t1, t2, t3, t7, t8, t9, wr_succ]
       exact ⟨_, _, y, some c, rfl, hs3.trans s4, bsk (.inl (skipP hh)), ⟨ac.mono s4, hc10⟩, (by simp [ev_c, ev_put, t1] <;> rfl), (by simp [ev_c, ev_put, t2] <;> rfl), (by simp [ev_c, ev_put, t3] <;> rfl), (by simp [ev_c, ev_put, t7] <;> rfl), (by simp [ev_c, ev_put, t8] <;> rfl), (by simp [ev_c, ev_put] <;> rfl)⟩
      ·simp -implicitDefEqProofs (maxSteps := 999999) (disch := first | with_reducible rfl | omega | (simp only [nA, nS, nD] <;> omega) | fail) only [go_sem, t1, t2, t3, t7, t8, t9]
       refine (tail _ h4 s4 hh hbt (by simp [ev_c, ev_put, t1] <;> rfl) (by simp [ev_c, ev_put, t2] <;> rfl) (by simp [ev_c, ev_put, t3] <;> rfl) (by simp [ev_c, ev_put, t7] <;> rfl) (by simp [ev_c, ev_put, t8] <;> rfl) (by simp [ev_c, ev_put, t9] <;> rfl) (by simp [ev_c, ev_put] <;> rfl)).mono fun x1 s hx1 => ?_
       obtain ⟨rfl, tm, y, best, rfl, hbm, hoa, t1, t2, t3, t7, t8, t9⟩ := hx1
       simp -implicitDefEqProofs (maxSteps := 999999) (disch := first | with_reducible rfl | omega | (simp only [nA, nS, nD] <;> omega) | fail) only [go_sem, t1, t2, t3, t7, t8, t9, wr_succ]
       exact ⟨_, _, y, best, rfl, hs3.trans s4, hbm, hoa, (by simp [ev_c, ev_put, t1] <;> rfl), (by simp [ev_c, ev_put, t2] <;> rfl), (by simp [ev_c, ev_put, t3] <;> rfl), (by simp [ev_c, ev_put, t7] <;> rfl), (by simp [ev_c, ev_put, t8] <;> rfl), (by simp [ev_c, ev_put] <;> rfl)⟩
     ·have hh : hasP pc l = true := by rw [eP, decide_eq_true (by omega), Bool.true_or]
      simp -implicitDefEqProofs (maxSteps := 999999) (disch := first | with_reducible rfl | omega | (simp only [nA, nS, nD] <;> omega) | fail) only [go_sem, t1, t2, t3, t7, t8, t9, lz, lc, c1', c2', cp]
      refine (tail _ h3 (H.Sub.refl oz.1.wf) hh hbt (by simp [ev_c, ev_put, t1] <;> rfl) (by simp [ev_c, ev_put, t2] <;> rfl) (by simp [ev_c, ev_put, t3] <;> rfl) (by simp [ev_c, ev_put, t7] <;> rfl) (by simp [ev_c, ev_put, t8] <;> rfl) (by simp [ev_c, ev_put, t9] <;> rfl) (by simp [ev_c, ev_put] <;> rfl)).mono fun x1 s hx1 => ?_
      obtain ⟨rfl, tm, y, best, rfl, hbm, hoa, t1, t2, t3, t7, t8, t9⟩ := hx1
      simp -implicitDefEqProofs (maxSteps := 999999) (disch := first | with_reducible rfl | omega | (simp only [nA, nS, nD] <;> omega) | fail) only [go_sem, t1, t2, t3, t7, t8, t9, wr_succ]
      exact ⟨_, _, y, best, rfl, hs3, hbm, hoa, (by simp [ev_c, ev_put, t1] <;> rfl), (by simp [ev_c, ev_put, t2] <;> rfl), (by simp [ev_c, ev_put, t3] <;> rfl), (by simp [ev_c, ev_put, t7] <;> rfl), (by simp [ev_c, ev_put, t8] <;> rfl), (by simp [ev_c, ev_put] <;> rfl)⟩
 ·rintro s ⟨tm, h', y, best, rfl, hs, hb, oy, t1, t2, t3, t7, t8, t9⟩
  simp -implicitDefEqProofs (maxSteps := 999999) (disch := first | with_reducible rfl | omega | (simp only [nA, nS, nD] <;> omega) | fail) only [go_sem, t1, t2, t3, t7, t8, t9, hs.cells g2, hlP, hset, h2p, Int.lt_irrefl]
  rw [← h2p] at hb
  rw [hb.last] at oy
  exact q _ _ (s1.trans (s12.trans hs)) oy
end Go.Ab.Tryz
set_option linter.unusedSimpArgs false
set_option linter.unusedVariables false
namespace Go.Ab.Tryz
theorem putR_hd {T : Int → Int → Bool} {most : Nat} : ∀ {k p : Nat} {S r : List (List Int)}, (∀ l ∈ S, l ≠ []) → (S.map fun l => l.headD 0).Pairwise (· < ·) → (∀ x ∈ S.map fun l => l.headD 0, x < (p : Int)) → putR T most k p S = some r → (r.map fun l => l.headD 0).Pairwise (· < ·)
 | 0, p, S, r, _, hp, _, h => by
  simp only [putR, Option.some.injEq] at h
  subst h; exact hp
 | k + 1, p, S, r, hne, hp, hlt, h => by
  simp only [putR] at h
  cases hf : (List.range S.length).findSome? fun i => if ((S.getD i []).all fun x => T x (p : Int)) = true then putR T most k (p + 1) (S.set i (S.getD i [] ++ [(p : Int)])) else none with
  | some r' =>
   rw [hf] at h
   simp only [Option.some.injEq] at h
   subst h
   obtain ⟨i, hi, h2⟩ := List.exists_of_findSome?_eq_some hf
   have hi := List.mem_range.1 hi
   split at h2
   ·have eg : S.getD i [] = S[i] := by rw [List.getD_eq_getElem?_getD, List.getElem?_eq_getElem hi, Option.getD_some]
    rw [eg] at h2
    have hni := hne _ (List.getElem_mem hi)
    have em : (S.set i (S[i] ++ [(p : Int)])).map (fun l => l.headD 0) = S.map fun l => l.headD 0 := by
     refine List.ext_getElem (by simp) fun j h1 h3 => ?_
     rw [List.getElem_map, List.getElem_map, List.getElem_set]
     split
     ·rename_i e; subst e
      cases hc : S[i] with
      | nil => exact absurd hc hni
      | cons a b => rfl
     ·rfl
    refine putR_hd (fun l hl => ?_) (by rw [em]; exact hp) (fun x hx => by rw [em] at hx; have := hlt x hx; omega) h2
    rcases List.mem_or_eq_of_mem_set hl with h4 | h4
    ·exact hne l h4
    ·rw [h4]; simp
   ·cases h2
  | none =>
   rw [hf] at h
   simp only at h
   split at h
   ·cases h
   ·refine putR_hd (fun l hl => ?_) ?_ (fun x hx => ?_) h
    ·rcases List.mem_append.1 hl with h4 | h4
     ·exact hne l h4
     ·rw [List.mem_singleton] at h4; rw [h4]; simp
    ·rw [List.map_append]
     refine List.pairwise_append.2 ⟨hp, by simp, fun a ha b hb => ?_⟩
     simp only [List.map_cons, List.map_nil, List.mem_singleton, List.headD_cons] at hb
     subst hb; exact hlt a ha
    ·rw [List.map_append] at hx
     rcases List.mem_append.1 hx with h4 | h4
     ·have := hlt x h4; omega
     ·simp only [List.map_cons, List.map_nil, List.mem_singleton, List.headD_cons] at h4
      omega
theorem sortR_hd {T : Int → Int → Bool} {n : Nat} {S : List (List Int)} (h : sortR T n = some S) : (S.map fun l => l.headD 0).Pairwise (· < ·) := by
 unfold sortR at h
 obtain ⟨m, _, h2⟩ := List.exists_of_findSome?_eq_some h
 exact putR_hd (k := n) (p := 0) (S := []) (by simp) (by simp) (by simp) h2
theorem chi_bd2 (T : Int → Int → Bool) (n : Nat) : chi T n ≤ n :=
 chi_le (g := fun x => x.toNat) ⟨fun x h0 h1 => by dsimp only; omega, fun x y a0 a1 b0 b1 hne he => by dsimp only at he; omega⟩
def Pos1 (i : Nat) : Prop := 1 ≤ i
def grL (t : Tb) (p : Int) : List Int := (grR t p).getD []
def strL (t : Tb) : List Int := if check t = 0 then (strR t).getD [] else []
theorem LsOut.slI {h' : H} {y : V} {r : Option (List Int)} (a : LsOut h' y r) (hw : h'.wf) : SlAt h' y 1 ((r.getD []).map encI) := by
 cases r with
 | some c => exact a.sl
 | none =>
  have : y = .nils := a
  rw [this]; exact (OwnSl.nil (H.Sub.refl hw) 1).sl (by simp)
theorem OutAt.slI {h' : H} {y : V} {r : Option (List Int)} (a : OutAt h' y r) (hw : h'.wf) : SlAt h' y 1 ((r.getD []).map encI) := by
 cases r with
 | some c => exact a.1
 | none =>
  have : y = .nils := a
  rw [this]; exact (OwnSl.nil (H.Sub.refl hw) 1).sl (by simp)
theorem hasP_pos {p : Int} (h : 0 ≤ p) : hasP p = fun l => l.any fun r => decide (p = r) := by
 funext l; unfold hasP; rw [decide_eq_false (by omega), Bool.false_or]
theorem hasP_neg : hasP (-1) = fun _ => true := by funext l; rfl
noncomputable def srtC (t : Tb) (S : List (List Int)) : Bool := @decide (check t = 0 ∧ SrtP t S) (Classical.propDecidable _)
theorem srtC_ok {t : Tb} (c : check t = 0) (S : List (List Int)) : srtC t S = srtB t S := by
 unfold srtC srtB
 by_cases h : SrtP t S
 ·rw [@decide_eq_true _ (Classical.propDecidable _) h, @decide_eq_true _ (Classical.propDecidable _) ⟨c, h⟩]
 ·rw [@decide_eq_false _ (Classical.propDecidable _) h, @decide_eq_false _ (Classical.propDecidable _) (fun a => h a.2)]
theorem srtC_no {t : Tb} (c : check t ≠ 0) (S : List (List Int)) : srtC t S = false := by
 unfold srtC
 rw [@decide_eq_false _ (Classical.propDecidable _) (fun a => c a.1)]
def chiC (t : Tb) : Int := if check t = 0 then (chi (mT t) t.pieces.length : Int) else 0
set_option maxRecDepth 4000 in
set_option maxHeartbeats 8000000 in
theorem EyeSets_ev {h : H} {v y : V} {t : Tb} {S : List (List Int)} (hw : h.wf) (ht : TbIs h v t) (hS : RdI h y S) (p : Int) :
  Ev fnG fastA (.fn 3 [] []) [v, .int .i64 p, y] h (fun u _ => u = .bool true) := by
 have ht0 := ht
 obtain ⟨E, L, P, rfl, aE, aL, aP⟩ := ht
 refine Ev_body (fd := c3) rfl rfl rfl ?_
 have s3 : h.Sub (h.add (.cells .rw [E, L, P])) := (by repeat (first | assumption | exact H.Sub.refl (by assumption) | refine H.Sub.add ?_ _ | refine H.Sub.set ?_ (by first | omega | (simp only [H.next_add, H.next_set, H.next_del] <;> omega)) (by first | omega | (simp only [H.next_add, H.next_set, H.next_del] <;> omega)) (by assumption) _))
 have q3 : (h.add (.cells .rw [E, L, P])).cells h.next = some [E, L, P] := cells_add_new rfl
 simp -implicitDefEqProofs (maxSteps := 999999) (disch := first | with_reducible rfl | omega | (simp only [nA, nS, nD] <;> omega) | fail) only [c3, go_sem]
 generalize (h.add (.cells .rw [E, L, P])) = h3 at s3 q3 ⊢
 refine wide_ev s3.wf (ht0.mono s3) _ fun h4 s34 => ?_
 cases hwd : wideB t
 case true =>
  simp -implicitDefEqProofs (maxSteps := 999999) (disch := first | with_reducible rfl | omega | (simp only [nA, nS, nD] <;> omega) | fail) only [go_sem, awake_eq]
 have hg : greatT t = false := by unfold wideB at hwd; rw [Bool.or_eq_false_iff] at hwd; exact hwd.1
 have hsm := Small_of hg
 simp -implicitDefEqProofs (maxSteps := 999999) (disch := first | with_reducible rfl | omega | (simp only [nA, nS, nD] <;> omega) | fail) only [go_sem]
 refine long_ev s34.wf (hS.mono (s3.trans s34)) _ ?_
 cases hlg : longB S
 case true =>
  simp -implicitDefEqProofs (maxSteps := 999999) (disch := first | with_reducible rfl | omega | (simp only [nA, nS, nD] <;> omega) | fail) only [go_sem, awake_eq]
 obtain ⟨hl15, hll15⟩ := longB_of hlg
 simp -implicitDefEqProofs (maxSteps := 999999) (disch := first | with_reducible rfl | omega | (simp only [nA, nS, nD] <;> omega) | fail) only [go_sem, s34.cells q3]
 refine own_ev s34.wf (ht0.mono (s3.trans s34)) hsm _ fun u h5 s45 hu => ?_
 have s35 := s34.trans s45
 simp -implicitDefEqProofs (maxSteps := 999999) (disch := first | with_reducible rfl | omega | (simp only [nA, nS, nD] <;> omega) | fail) only [go_sem, s34.cells q3, s35.cells q3]
 refine theirs_ev s45.wf (ht0.mono (s3.trans s35)) hsm _ fun o h6 s56 ho => ?_
 have s36 := s35.trans s56
 have hu0 := hu.is hsm
 have ho0 := ho
 obtain ⟨a1, a2, a3, rfl, hu⟩ := hu
 obtain ⟨E2, L2, P2, rfl, o1, o2, o3⟩ := ho
 have n1 := o1.one
 have n2 := o2.one
 have n3 := o3.one
 simp -implicitDefEqProofs (maxSteps := 999999) (disch := first | with_reducible rfl | omega | (simp only [nA, nS, nD] <;> omega) | fail) only [go_sem, s34.cells q3, s35.cells q3, s36.cells q3, n1, n2, n3]
 refine dupRows_ev s56.wf (hS.mono (s3.trans s36)) (by omega) (fun l hl => by have := hll15 l hl; omega) _ fun y9 hm s6m y91 hy9 => ?_
 have s67 : hm.Sub ((((hm.add (.cells .rw [.nils, .nils, .nils])).add (.cells .rw [.nils, .nils, .nils])).set hm.next (.cells .rw [.sl a1 0 t.eyes.length (.fix t.eyes.length), .sl a2 0 t.lights.length (.fix t.lights.length), .sl a3 0 t.pieces.length (.fix t.pieces.length)])).set (hm.next + 1) (.cells .rw [E2, L2, P2])) := ((((H.Sub.refl s6m.wf).add _).add _).set (b := hm.next) (Nat.le_refl _) (by simp only [H.next_add]; omega) s6m.wf _).set (b := hm.next + 1) (by omega) (by simp only [H.next_set, H.next_add]; omega) s6m.wf _
 have c7 : ((((hm.add (.cells .rw [.nils, .nils, .nils])).add (.cells .rw [.nils, .nils, .nils])).set hm.next (.cells .rw [.sl a1 0 t.eyes.length (.fix t.eyes.length), .sl a2 0 t.lights.length (.fix t.lights.length), .sl a3 0 t.pieces.length (.fix t.pieces.length)])).set (hm.next + 1) (.cells .rw [E2, L2, P2])).cells hm.next = some [.sl a1 0 t.eyes.length (.fix t.eyes.length), .sl a2 0 t.lights.length (.fix t.lights.length), .sl a3 0 t.pieces.length (.fix t.pieces.length)] := by simp -implicitDefEqProofs (maxSteps := 999999) (disch := first | with_reducible rfl | omega | (simp only [nA, nS, nD] <;> omega) | fail) only [go_sem]
 have c8 : ((((hm.add (.cells .rw [.nils, .nils, .nils])).add (.cells .rw [.nils, .nils, .nils])).set hm.next (.cells .rw [.sl a1 0 t.eyes.length (.fix t.eyes.length), .sl a2 0 t.lights.length (.fix t.lights.length), .sl a3 0 t.pieces.length (.fix t.pieces.length)])).set (hm.next + 1) (.cells .rw [E2, L2, P2])).cells (hm.next + 1) = some [E2, L2, P2] := by simp -implicitDefEqProofs (maxSteps := 999999) (disch := first | with_reducible rfl | omega | (simp only [nA, nS, nD] <;> omega) | fail) only [go_sem]
 have q3m := (s36.trans s6m).cells q3
 simp -implicitDefEqProofs (maxSteps := 999999) (disch := first | with_reducible rfl | omega | (simp only [nA, nS, nD] <;> omega) | fail) only [go_sem, s34.cells q3, s35.cells q3, s36.cells q3, q3m, n1, n2, n3, y91]
 generalize (((hm.add (.cells .rw [.nils, .nils, .nils])).add (.cells .rw [.nils, .nils, .nils])).set hm.next (.cells .rw [.sl a1 0 t.eyes.length (.fix t.eyes.length), .sl a2 0 t.lights.length (.fix t.lights.length), .sl a3 0 t.pieces.length (.fix t.pieces.length)])).set (hm.next + 1) (.cells .rw [E2, L2, P2]) = h7 at s67 c7 c8 ⊢
 have s57 := s6m.trans s67
 have s37 := s36.trans s57
 have s7 := s3.trans s37
 have hS7 := hS.mono s7
 have hy7 := hy9.mono s67
 refine refCheck_ev s7.wf (ho0.mono s57) _ fun h8 s78 => ?_
 simp -implicitDefEqProofs (maxSteps := 999999) (disch := first | with_reducible rfl | omega | (simp only [nA, nS, nD] <;> omega) | fail) only [go_sem]
 refine PBd_join (R := fun x1 s => x1 = .nrm ∧ ∃ tm h' y12 y13, s = ⟨tm, h', []⟩ ∧ h7.Sub h' ∧ SlAt h' y12 1 ((grL t p).map encI) ∧ SlAt h' y13 1 ((strL t).map encI) ∧ (Opd.t 1).ev tm = .int .i64 p ∧ (Opd.t 2).ev tm = y ∧ (Opd.t 3).ev tm = .ptr h.next 0 ∧ (Opd.t 7).ev tm = .ptr hm.next 0 ∧ (Opd.t 8).ev tm = .ptr (hm.next + 1) 0 ∧ (Opd.t 9).ev tm = y9 ∧ (Opd.t 10).ev tm = .int .i64 (check t) ∧ (Opd.t 11).ev tm = .int .i64 (grE t p) ∧ (Opd.t 12).ev tm = y12 ∧ (Opd.t 13).ev tm = y13 ∧ (Opd.t 14).ev tm = .int .i64 (chiC t) ∧ (Opd.t 15).ev tm = .bool (srtC t S)) ?_ fun x1 s hx1 => ?_
 ·by_cases c : check t = 0
  case neg =>
   have w1 : grE t p = check t := by unfold grE; rw [if_pos c]
   have w2 : grL t p = [] := by unfold grL grR; rw [w1, if_neg c]; rfl
   have w3 : strL t = [] := if_neg c
   have w4 : chiC t = 0 := if_neg c
   rw [w1, w2, w3, w4, srtC_no c]
   simp -implicitDefEqProofs (maxSteps := 999999) (disch := first | with_reducible rfl | omega | (simp only [nA, nS, nD] <;> omega) | fail) only [go_sem, c]
   exact ⟨_, _, .nils, .nils, rfl, s78, (OwnSl.nil s78 1).sl (by simp), (OwnSl.nil s78 1).sl (by simp), (by simp [ev_c, ev_put] <;> rfl), (by simp [ev_c, ev_put] <;> rfl), (by simp [ev_c, ev_put] <;> rfl), (by simp [ev_c, ev_put] <;> rfl), (by simp [ev_c, ev_put] <;> rfl), (by simp [ev_c, ev_put] <;> rfl), (by simp [ev_c, ev_put] <;> rfl), (by simp [ev_c, ev_put] <;> rfl), (by simp [ev_c, ev_put] <;> rfl), (by simp [ev_c, ev_put] <;> rfl), (by simp [ev_c, ev_put] <;> rfl), (by simp [ev_c, ev_put] <;> rfl)⟩
  have g := check_iff.1 c
  have cd : decide (check t = 0) = true := decide_eq_true c
  rw [cd]
  have gp := g.pieces
  have pc : (if 0 ≤ p ∧ p < (t.pieces.length : Int) then (0 : Int) else 1) = grE t p := by
   have e : isPc t p = decide (0 ≤ p ∧ p < (t.pieces.length : Int)) := rfl
   have e2 : grE t p = if isPc t p = false then 1 else 0 := by unfold grE; rw [if_neg (by simp [c])]
   rw [e2, e]
   by_cases h : 0 ≤ p ∧ p < (t.pieces.length : Int)
   ·rw [if_pos h, decide_eq_true h]; rfl
   ·rw [if_neg h, decide_eq_false h]; rfl
  simp -implicitDefEqProofs (maxSteps := 999999) (disch := first | with_reducible rfl | omega | (simp only [nA, nS, nD] <;> omega) | fail) only [go_sem, s78.cells c8]
  refine refPiece_ev s78.wf (ho0.mono (s57.trans s78)) p _ fun h9 s89 => ?_
  rw [pc]
  have s79 := s78.trans s89
  simp -implicitDefEqProofs (maxSteps := 999999) (disch := first | with_reducible rfl | omega | (simp only [nA, nS, nD] <;> omega) | fail) only [go_sem]
  refine PBd_join (R := fun x1 s => x1 = .nrm ∧ ∃ tm h' y12, s = ⟨tm, h', []⟩ ∧ h7.Sub h' ∧ SlAt h' y12 1 ((grL t p).map encI) ∧ (Opd.t 1).ev tm = .int .i64 p ∧ (Opd.t 2).ev tm = y ∧ (Opd.t 3).ev tm = .ptr h.next 0 ∧ (Opd.t 7).ev tm = .ptr hm.next 0 ∧ (Opd.t 8).ev tm = .ptr (hm.next + 1) 0 ∧ (Opd.t 9).ev tm = y9 ∧ (Opd.t 10).ev tm = .int .i64 0 ∧ (Opd.t 11).ev tm = .int .i64 (grE t p) ∧ (Opd.t 12).ev tm = y12) ?_ fun x1 s hx1 => ?_
  ·by_cases cg : grE t p = 0
   ·rw [decide_eq_true cg]
    have hp0 : 0 ≤ p := by
     unfold grE isPc at cg
     rw [if_neg (by simp [c])] at cg
     by_cases h : 0 ≤ p ∧ p < (t.pieces.length : Int)
     ·exact h.1
     ·rw [decide_eq_false h] at cg; simp at cg
    simp -implicitDefEqProofs (maxSteps := 999999) (disch := first | with_reducible rfl | omega | (simp only [nA, nS, nD] <;> omega) | fail) only [go_sem, s79.cells c8]
    refine refMost_ev s79.wf (ho0.mono (s57.trans s79)) g true p _ fun y12 hA sA oA => ?_
    have e1 : grL t p = (lastOf (mostP (mB t true) (hasP p)) t.pieces.length t.pieces.length).getD [] := by unfold grL grR; rw [if_pos cg, mB_true, hasP_pos hp0]
    simp -implicitDefEqProofs (maxSteps := 999999) (disch := first | with_reducible rfl | omega | (simp only [nA, nS, nD] <;> omega) | fail) only [go_sem]
    exact ⟨_, _, y12, rfl, s79.trans sA, by rw [e1]; exact oA.slI sA.wf, (by simp [ev_c, ev_put] <;> rfl), (by simp [ev_c, ev_put] <;> rfl), (by simp [ev_c, ev_put] <;> rfl), (by simp [ev_c, ev_put] <;> rfl), (by simp [ev_c, ev_put] <;> rfl), (by simp [ev_c, ev_put] <;> rfl), (by rw [← c]; exact (by simp [ev_c, ev_put] <;> rfl)), (by simp [ev_c, ev_put] <;> rfl), (by simp [ev_c, ev_put] <;> rfl)⟩
   ·rw [decide_eq_false cg]
    have e1 : grL t p = [] := by unfold grL grR; rw [if_neg cg]; rfl
    rw [e1]
    simp -implicitDefEqProofs (maxSteps := 999999) (disch := first | with_reducible rfl | omega | (simp only [nA, nS, nD] <;> omega) | fail) only [go_sem]
    exact ⟨_, _, .nils, rfl, s79, (OwnSl.nil s79 1).sl (by simp), (by simp [ev_c, ev_put] <;> rfl), (by simp [ev_c, ev_put] <;> rfl), (by simp [ev_c, ev_put] <;> rfl), (by simp [ev_c, ev_put] <;> rfl), (by simp [ev_c, ev_put] <;> rfl), (by simp [ev_c, ev_put] <;> rfl), (by rw [← c]; exact (by simp [ev_c, ev_put] <;> rfl)), (by simp [ev_c, ev_put] <;> rfl), (by simp [ev_c, ev_put] <;> rfl)⟩
  obtain ⟨rfl, tm, hA, y12, rfl, s7A, a12, t1, t2, t3, t7, t8, t9, t10, t11, t12⟩ := hx1
  simp -implicitDefEqProofs (maxSteps := 999999) (disch := first | with_reducible rfl | omega | (simp only [nA, nS, nD] <;> omega) | fail) only [go_sem, t1, t2, t3, t7, t8, t9, t10, t11, t12, s7A.cells c8]
  refine refMost_ev s7A.wf (ho0.mono (s57.trans s7A)) g false (-1) _ fun y13 hB sB oB => ?_
  have s7B := s7A.trans sB
  simp -implicitDefEqProofs (maxSteps := 999999) (disch := first | with_reducible rfl | omega | (simp only [nA, nS, nD] <;> omega) | fail) only [go_sem, t1, t2, t3, t7, t8, t9, t10, t11, t12, s7A.cells c8, s7B.cells c8]
  refine refSort_ev s7B.wf (ho0.mono (s57.trans s7B)) g _ fun hC sC => ?_
  have s7C := s7B.trans sC
  simp -implicitDefEqProofs (maxSteps := 999999) (disch := first | with_reducible rfl | omega | (simp only [nA, nS, nD] <;> omega) | fail) only [go_sem, t1, t2, t3, t7, t8, t9, t10, t11, t12, s7A.cells c8, s7B.cells c8, s7C.cells c8]
  refine refSorted_ev s7C.wf (ho0.mono (s57.trans s7C)) g (hS7.mono s7C) _ fun hD sD => ?_
  have s7D := s7C.trans sD
  have e3 : strL t = (lastOf (mostP (mB t false) (hasP (-1))) t.pieces.length t.pieces.length).getD [] := by unfold strL strR; rw [if_pos c, mB_false, hasP_neg]
  have e4 : chiC t = (chi (mT t) t.pieces.length : Int) := if_pos c
  rw [srtC_ok c, e4]
  simp -implicitDefEqProofs (maxSteps := 999999) (disch := first | with_reducible rfl | omega | (simp only [nA, nS, nD] <;> omega) | fail) only [go_sem, t1, t2, t3, t7, t8, t9, t10, t11, t12, s7A.cells c8, s7B.cells c8, s7C.cells c8]
  exact ⟨_, _, y12, y13, rfl, s7D, a12.mono (sB.trans (sC.trans sD)), by rw [e3]; exact (oB.mono (sC.trans sD)).slI sD.wf, (by simp [ev_c, ev_put, t1] <;> rfl), (by simp [ev_c, ev_put, t2] <;> rfl), (by simp [ev_c, ev_put, t3] <;> rfl), (by simp [ev_c, ev_put, t7] <;> rfl), (by simp [ev_c, ev_put, t8] <;> rfl), (by simp [ev_c, ev_put, t9] <;> rfl), (by rw [c]; exact (by simp [ev_c, ev_put, t10] <;> rfl)), (by simp [ev_c, ev_put, t11] <;> rfl), (by simp [ev_c, ev_put, t12] <;> rfl), (by simp [ev_c, ev_put] <;> rfl), (by simp [ev_c, ev_put] <;> rfl), (by simp [ev_c, ev_put] <;> rfl)⟩
 obtain ⟨rfl, tm, h', y12, y13, rfl, sM, a12, a13, t1, t2, t3, t7, t8, t9, t10, t11, t12, t13, t14, t15⟩ := hx1
 have sX := s56.trans (s57.trans sM)
 have s3M := s37.trans sM
 have nn : ∀ n : Int, decide (n ≠ n) = false := fun n => by simp
 have bb : ∀ b : Bool, (!(b == b)) = false := fun b => by cases b <;> rfl
 simp -implicitDefEqProofs (maxSteps := 999999) (disch := first | with_reducible rfl | omega | (simp only [nA, nS, nD] <;> omega) | fail) only [go_sem, t1, t2, t3, t7, t8, t9, t10, t11, t12, t13, t14, t15, sM.cells c7]
 refine Greatest_ev sM.wf (hu0.mono sX) p _ fun y16 hA sA o16 => ?_
 simp -implicitDefEqProofs (maxSteps := 999999) (disch := first | with_reducible rfl | omega | (simp only [nA, nS, nD] <;> omega) | fail) only [go_sem, t1, t2, t3, t7, t8, t9, t10, t11, t12, t13, t14, t15, (sM.trans sA).cells c7]
 refine Sort_ev sA.wf (hu0.mono (sX.trans sA)) _ fun y18 hB sB o18 => ?_
 have sAB := sA.trans sB
 simp -implicitDefEqProofs (maxSteps := 999999) (disch := first | with_reducible rfl | omega | (simp only [nA, nS, nD] <;> omega) | fail) only [go_sem, t1, t2, t3, t7, t8, t9, t10, t11, t12, t13, t14, t15, (sM.trans sAB).cells c7]
 refine Sorted_ev sB.wf (hu0.mono (sX.trans sAB)) (hy7.mono (sM.trans sAB)) (by omega) (fun l hl => by have := hll15 l hl; omega) _ fun hC sC => ?_
 have sAC := sAB.trans sC
 rw [show @decide (check t = 0 ∧ SrtP t S) (Classical.propDecidable _) = srtC t S from rfl]
 simp -implicitDefEqProofs (maxSteps := 999999) (disch := first | with_reducible rfl | omega | (simp only [nA, nS, nD] <;> omega) | fail) only [go_sem, t1, t2, t3, t7, t8, t9, t10, t11, t12, t13, t14, t15, (sM.trans sAC).cells c7]
 refine Strangers_ev sC.wf (hu0.mono (sX.trans sAC)) _ fun y22 hD sD o22 => ?_
 have sAD := sAC.trans sD
 have a16 : SlAt hD y16 1 ((grL t p).map encI) := (o16.slI sA.wf).mono (sB.trans (sC.trans sD))
 have a22 : SlAt hD y22 1 ((strL t).map encI) := by
  have := o22.slI sD.wf
  unfold strL
  by_cases c : check t = 0
  ·rw [if_pos c] at this ⊢; exact this
  ·rw [if_neg c] at this ⊢; exact this
 have e1 := fun R => eqInt_ev a16 (a12.mono sAD) R
 have e2 := fun R => eqInt_ev a22 (a13.mono sAD) R
 simp only [decide_eq_true rfl] at e1 e2
 obtain ⟨S0, eS1, aS, _⟩ := sortR_spec (mT t) t.pieces.length
 have hSl : S0.length = chi (mT t) t.pieces.length := by unfold chi; rw [eS1]; rfl
 obtain ⟨S1, hS1⟩ : ∃ S1, (if check t = 0 then (sortR (mT t) t.pieces.length).getD [] else []) = S1 := ⟨_, rfl⟩
 rw [hS1] at o18
 have hsm3 := hsm.2.2
 have hS1l : S1.length ≤ 1000 ∧ ((S1.length : Int) = chiC t) ∧ (∀ l ∈ S1, l ≠ [] ∧ l.length ≤ 1000) ∧ (S1.map fun l => l.headD 0).Pairwise (· < ·) ∧ (check t = 0 → srtB t S1 = true) := by
  by_cases c : check t = 0
  ·rw [if_pos c, eS1] at hS1
   have hS1 : S0 = S1 := hS1
   subst hS1
   have := chi_bd2 (mT t) t.pieces.length
   refine ⟨by omega, by unfold chiC; rw [if_pos c, hSl], fun l hl => ⟨aS.ne l hl, ?_⟩, sortR_hd eS1, fun _ => srt_srtB aS⟩
   have h1 := nodup_len ((aS.up l hl).imp fun h => by omega) fun x hx => aS.mem hl hx
   omega
  ·rw [if_neg c] at hS1
   subst hS1
   exact ⟨by simp, by unfold chiC; rw [if_neg c]; rfl, by simp, by simp, fun h => absurd h c⟩
 obtain ⟨k1, k2, k3, k4, k5⟩ := hS1l
 have rd := LsCut.rdI o18 k1 fun l hl => (k3 l hl).2
 have lS := rd.len
 rw [k2] at lS
 have sBD := sC.trans sD
 obtain ⟨R, hR⟩ : ∃ R : C, navK [true, true, true, true, true, true, true, true, true, true, true, true, true, true] c3.body = R := ⟨_, rfl⟩
 have tail : ∀ (tm : Go.Ab.T V) (hh : H), hD.Sub hh → (Opd.t 2).ev tm = y → (Opd.t 3).ev tm = .ptr h.next 0 → (Opd.t 7).ev tm = .ptr hm.next 0 → (Opd.t 9).ev tm = y9 → (Opd.t 18).ev tm = y18 →
   W fnG fastA 160 3 none R ⟨tm, hh, []⟩ fun x1 s => x1 = .ret ∧ ∃ tm hz, s = ⟨tm, hz, []⟩ ∧ (Opd.t 6).ev tm = .bool true := by
  clear t1 t2 t3 t7 t8 t9 t10 t11 t12 t13 t14 t15
  intro tm hh sh t2 t3 t7 t9 t18
  subst hR
  have rdh := (rd.mono sBD).mono sh
  have lSh := rdh.len
  have sMh := sM.trans (sAD.trans sh)
  simp -implicitDefEqProofs (maxSteps := 999999) (disch := first | with_reducible rfl | omega | (simp only [nA, nS, nD] <;> omega) | fail) only [navK, c3, go_sem, t2, t3, t7, t9, t18]
  refine W.mono (Q := fun x1 s => x1 = .ext 0 ∧ ∃ tm, s = ⟨tm, hh, []⟩ ∧ (Opd.t 2).ev tm = y ∧ (Opd.t 3).ev tm = .ptr h.next 0 ∧ (Opd.t 7).ev tm = .ptr hm.next 0 ∧ (Opd.t 9).ev tm = y9)
   (W_count (max S1.length 1) (fun i s => ∃ tm, s = ⟨tm, hh, []⟩ ∧ Pos1 i ∧ (Opd.t 2).ev tm = y ∧ (Opd.t 3).ev tm = .ptr h.next 0 ∧ (Opd.t 7).ev tm = .ptr hm.next 0 ∧ (Opd.t 9).ev tm = y9 ∧ (Opd.t 18).ev tm = y18 ∧ (Opd.t 24).ev tm = .int .i64 (i : Int))
   ?_ ?_ (i := 1) (by omega) ⟨_, rfl, Nat.le_refl 1, (by simp [ev_c, ev_put, t2] <;> rfl), (by simp [ev_c, ev_put, t3] <;> rfl), (by simp [ev_c, ev_put, t7] <;> rfl), (by simp [ev_c, ev_put, t9] <;> rfl), (by simp [ev_c, ev_put, t18] <;> rfl), (by simp [ev_c, ev_put] <;> rfl)⟩) fun x1 s hx1 => ?_
  ·clear t2 t3 t7 t9 t18
   rintro i s hi ⟨tm, rfl, hp1, t2, t3, t7, t9, t18, t24⟩
   have hp1 : 1 ≤ i := hp1
   obtain ⟨i, rfl⟩ : ∃ k, i = k + 1 := ⟨i - 1, by omega⟩
   have hil : i + 1 < S1.length := by omega
   have hi' : ((i + 1 : Nat) : Int) < (S1.length : Int) := by omega
   have w1 : wr .i64 (((i + 1 : Nat) : Int) - 1) = (i : Int) := by rw [wr_in (by omega) (by omega)]; omega
   obtain ⟨b1, o1', cs1, v1, r1, r2, r3, r4⟩ := rdh.row hil
   obtain ⟨b2, o2', cs2, v2, r5, r6, r7, r8⟩ := rdh.row (show i < S1.length by omega)
   have n1 := (k3 _ (List.getElem_mem hil)).1
   have n2 := (k3 _ (List.getElem_mem (show i < S1.length by omega))).1
   have l1 : 0 < (S1[i + 1]).length := List.length_pos_iff.2 n1
   have l2 : 0 < (S1[i]).length := List.length_pos_iff.2 n2
   obtain ⟨b3, o3', cs3, f1, f2, f3⟩ := SlAt.elemF (r4.sl n1) l1
   obtain ⟨b4, o4', cs4, f4, f5, f6⟩ := SlAt.elemF (r8.sl n2) l2
   have hlt : S1[i][0] < S1[i + 1][0] := by
    have := List.pairwise_iff_getElem.1 k4 i (i + 1) (by rw [List.length_map]; omega) (by rw [List.length_map]; omega) (by omega)
    rw [List.getElem_map, List.getElem_map, List.headD_eq_head?_getD, List.headD_eq_head?_getD, List.head?_eq_getElem?, List.head?_eq_getElem?, List.getElem?_eq_getElem l1, List.getElem?_eq_getElem l2] at this
    exact this
   have hnle : ¬ S1[i + 1][0] ≤ S1[i][0] := by omega
   have f1' : q_iad 1 v1 (.int .i64 0) = some (.ptr b3 o3') := f1
   have f4' : q_iad 1 v2 (.int .i64 0) = some (.ptr b4 o4') := f4
   simp -implicitDefEqProofs (maxSteps := 999999) (disch := first | with_reducible rfl | omega | (simp only [nA, nS, nD] <;> omega) | fail) only [go_sem, t2, t3, t7, t9, t18, t24, lSh, hi', w1, r1, r2, r3, r5, r6, r7, f1', f2, f3, f4', f5, f6, hnle, wr_succ]
   exact ⟨_, rfl, (by show 1 ≤ i + 1 + 1; omega), (by simp [ev_c, ev_put, t2] <;> rfl), (by simp [ev_c, ev_put, t3] <;> rfl), (by simp [ev_c, ev_put, t7] <;> rfl), (by simp [ev_c, ev_put, t9] <;> rfl), (by simp [ev_c, ev_put, t18] <;> rfl), (by simp [ev_c, ev_put] <;> rfl)⟩
  ·clear t2 t3 t7 t9 t18
   rintro s ⟨tm, rfl, hp1, t2, t3, t7, t9, t18, t24⟩
   have hnl : ¬ ((max S1.length 1 : Nat) : Int) < (S1.length : Int) := by omega
   simp -implicitDefEqProofs (maxSteps := 999999) (disch := first | with_reducible rfl | omega | (simp only [nA, nS, nD] <;> omega) | fail) only [go_sem, t2, t3, t7, t9, t18, t24, lSh, hnl]
   exact ⟨_, rfl, (by simp [ev_c, ev_put, t2] <;> rfl), (by simp [ev_c, ev_put, t3] <;> rfl), (by simp [ev_c, ev_put, t7] <;> rfl), (by simp [ev_c, ev_put, t9] <;> rfl)⟩
  clear t2 t3 t7 t9 t18
  obtain ⟨rfl, tm, rfl, t2, t3, t7, t9⟩ := hx1
  have c7h := sMh.cells c7
  have q3h := (s37.trans sMh).cells q3
  simp -implicitDefEqProofs (maxSteps := 999999) (disch := first | with_reducible rfl | omega | (simp only [nA, nS, nD] <;> omega) | fail) only [go_sem, t2, t3, t7, t9, c7h, q3h]
  refine same_ev sh.wf (hu0.mono (sX.trans (sAD.trans sh))) (ht0.mono (s3.trans (s37.trans sMh))) _ fun hE sE => ?_
  rw [decide_eq_true rfl]
  simp -implicitDefEqProofs (maxSteps := 999999) (disch := first | with_reducible rfl | omega | (simp only [nA, nS, nD] <;> omega) | fail) only [go_sem, t2, t3, t7, t9, c7h, q3h]
  refine eqRowsI_ev sE.wf (hy7.mono (sMh.trans sE)) (hS7.mono (sMh.trans sE)) _ fun hF sF => ?_
  simp -implicitDefEqProofs (maxSteps := 999999) (disch := first | with_reducible rfl | omega | (simp only [nA, nS, nD] <;> omega) | fail) only [go_sem, t2, t3, t7, t9, awake_eq]
  first | exact ⟨_, _, rfl, (by simp [ev_c, ev_put] <;> rfl)⟩ | exact ⟨rfl, _, _, rfl, (by simp [ev_c, ev_put] <;> rfl)⟩
 simp only [navK, c3] at hR
 rw [hR]
 by_cases c : check t = 0
 ·have dc : decide (check t = 0) = true := decide_eq_true c
  have g := check_iff.1 c
  have k5' := k5 c
  simp -implicitDefEqProofs (maxSteps := 999999) (disch := first | with_reducible rfl | omega | (simp only [nA, nS, nD] <;> omega) | fail) only [go_sem, t1, t2, t3, t7, t8, t9, t10, t11, t12, t13, t14, t15, nn, bb, e1, e2, lS, Bool.not_true, dc, (sM.trans sAD).cells c8]
  refine refSorted_ev sD.wf (ho0.mono (s57.trans (sM.trans sAD))) g (rd.mono sBD) _ fun hE sE => ?_
  rw [k5']
  simp -implicitDefEqProofs (maxSteps := 999999) (disch := first | with_reducible rfl | omega | (simp only [nA, nS, nD] <;> omega) | fail) only [go_sem, t1, t2, t3, t7, t8, t9, t10, t11, t12, t13, t14, t15, Bool.not_true]
  refine (tail _ hE sE (by simp [ev_c, ev_put, t2] <;> rfl) (by simp [ev_c, ev_put, t3] <;> rfl) (by simp [ev_c, ev_put, t7] <;> rfl) (by simp [ev_c, ev_put, t9] <;> rfl) (by simp [ev_c, ev_put] <;> rfl)).mono fun x1 s hx1 => ?_
  obtain ⟨rfl, tm, hz, rfl, t6⟩ := hx1
  simp -implicitDefEqProofs (maxSteps := 999999) (disch := first | with_reducible rfl | omega | (simp only [nA, nS, nD] <;> omega) | fail) only [go_sem, t6]
 ·have dc : decide (check t = 0) = false := decide_eq_false c
  simp -implicitDefEqProofs (maxSteps := 999999) (disch := first | with_reducible rfl | omega | (simp only [nA, nS, nD] <;> omega) | fail) only [go_sem, t1, t2, t3, t7, t8, t9, t10, t11, t12, t13, t14, t15, nn, bb, e1, e2, lS, Bool.not_true, dc]
  refine (tail _ hD (H.Sub.refl sD.wf) (by simp [ev_c, ev_put, t2] <;> rfl) (by simp [ev_c, ev_put, t3] <;> rfl) (by simp [ev_c, ev_put, t7] <;> rfl) (by simp [ev_c, ev_put, t9] <;> rfl) (by simp [ev_c, ev_put] <;> rfl)).mono fun x1 s hx1 => ?_
  obtain ⟨rfl, tm, hz, rfl, t6⟩ := hx1
  simp -implicitDefEqProofs (maxSteps := 999999) (disch := first | with_reducible rfl | omega | (simp only [nA, nS, nD] <;> omega) | fail) only [go_sem, t6]
end Go.Ab.Tryz
