/- EyeMore. EyeMore: what one piece more does. Plain; the first rows of a slice. -/
import Derived.Test.YtkjbamlcgojkmaaG5
import Derived.Test.YtkjbamlcgojkmaaG7
set_option linter.unusedSimpArgs false
set_option linter.unusedVariables false
namespace Go.Ab
theorem CutO.to {F : Nat → Prop} {h : H} {x : V} {sz k : Nat} {rows : List (List V)} (a : CutO F h x sz rows) (hsz : 0 < sz) (hl : rows.length ≤ 1000000) (hk : k ≤ rows.length) :
    ∃ y, slcTo h sz x (.int .i64 (k : Int)) = some y ∧ CutO F h y sz (rows.take k) ∧ ∀ b, blkOf y b → blkOf x b := by
  have hi : ∀ tm, (Opd.c (.int .i64 (k : Int))).ev tm = .int .i64 (k : Int) := fun _ => rfl
  obtain ⟨a1, a2⟩ := a
  have hr : ∀ r ∈ rows.take k, r.length = sz := fun r' hr => a1 r' (List.mem_of_mem_take hr)
  have hlt : (rows.take k).length = k := by rw [List.length_take]; omega
  have fl := flatten_len a1
  have fl2 := flatten_len hr
  rw [hlt] at fl2
  have esp : rows.flatten = (rows.take k).flatten ++ (rows.drop k).flatten := by rw [← List.flatten_append, List.take_append_drop]
  have hml := Nat.mul_le_mul_right sz hk
  have fld : (rows.drop k).flatten.length = rows.length * sz - k * sz := by
    have := congrArg List.length esp
    rw [List.length_append, fl, fl2] at this; omega
  rcases a2 with ⟨rfl, rfl⟩ | ⟨b, rest, j, rfl, l1, l2, hb, hrest⟩ | ⟨b, c, rest, rfl, l1, l2, hb, hc, hlc⟩
  · have hk0 : k = 0 := by simpa using hk
    subst hk0
    refine ⟨.nils, ?_, ⟨by simp, .inl ⟨rfl, rfl⟩⟩, fun b h => h⟩
    have e1 : Nat.ble 0 0 = true := rfl
    simp only [slcTo, q_slc, bnd3, natO, hi, natk_cst, bnds, e1, og_true]
  · rw [esp, List.append_assoc] at hb
    have e1 : Nat.ble 0 k = true := by simp
    have hall : ((rows.take k).flatten ++ ((rows.drop k).flatten ++ rest)).length = (rows.length + j) * sz := by rw [List.length_append, List.length_append, fl2, fld, hrest, Nat.add_mul]; omega
    have e2 : Nat.ble k (rows.length + j) = true := by simp; omega
    have e3 : Nat.ble (rows.length + j) (rows.length + j) = true := by simp
    have e5 : Nat.beq sz sz = true := by simp
    have e6 : Nat.beq 0 (0 * sz) = true := by simp
    have e7 : Nat.ble (0 + rows.length * sz) ((rows.take k).flatten ++ ((rows.drop k).flatten ++ rest)).length = true := by rw [hall, Nat.ble_eq, Nat.zero_add]; exact Nat.mul_le_mul_right _ (by omega)
    have e8 : slkRoom h b 0 sz = rows.length + j := by simp only [slkRoom, hb, lenN_eq, hall, Nat.sub_zero]; exact Nat.mul_div_cancel _ hsz
    have hcut : CutO F h (.sl b 0 k (.slk 0 0)) sz (rows.take k) := by
      refine ⟨hr, .inr (.inl ⟨b, (rows.drop k).flatten ++ rest, rows.length - k + j, by rw [hlt], l1, l2, hb, ?_⟩)⟩
      rw [List.length_append, fld, hrest, Nat.add_mul, Nat.sub_mul]
    by_cases h0 : 0 < rows.length + k
    · have e4 : Nat.blt 0 (rows.length + k) = true := by rw [Nat.blt_eq]; omega
      refine ⟨.sl b (0 + 0 * sz) k (.slk (0 + 0) 0), ?_, by rw [Nat.zero_mul]; exact hcut, ?_⟩
      · simp only [slcTo, q_slc, slkOk, hb, e5, e6, lenN_eq, e7, og_true, bnd3, natO, hi, natk_cst, bnds, e1, e2, e3, subS, e4, e8, Nat.sub_zero]
      · rintro b' ⟨_, _, _, e⟩; cases e; exact ⟨_, _, _, rfl⟩
    · have k0 : k = 0 := by omega
      have r0 : rows.length = 0 := by omega
      have e4 : Nat.blt 0 (rows.length + k) = false := by rw [k0, r0]; rfl
      refine ⟨.sl b 0 0 (.slk 0 0), ?_, by rw [k0] at hcut ⊢; exact hcut, ?_⟩
      · simp only [slcTo, q_slc, slkOk, hb, e5, e6, lenN_eq, e7, og_true, bnd3, natO, hi, natk_cst, bnds, e1, e2, e3, subS, e4, e8, Nat.sub_zero]
      · rintro b' ⟨_, _, _, e⟩; cases e; exact ⟨_, _, _, rfl⟩
  · rw [esp, List.append_assoc] at hb
    refine ⟨.sl b (bsel (Nat.beq c 0) 0 (0 + 0 * sz)) k (.fix c), ?_, ?_, ?_⟩
    · simp only [slcTo, q_slc]
      rw [subO_to (hi _) hk hlc]
    · have : bsel (Nat.beq c 0) 0 (0 + 0 * sz) = 0 := by cases Nat.beq c 0 <;> simp [bsel]
      rw [this]
      exact ⟨hr, .inr (.inr ⟨b, c, (rows.drop k).flatten ++ rest, by rw [hlt], l1, l2, hb, by rw [List.length_append, fld, hlt]; omega, by omega⟩)⟩
    · rintro b' ⟨_, _, _, e⟩; cases e; exact ⟨_, _, _, rfl⟩
end Go.Ab
namespace Go.Ab.Try
open Go.Ab.Silk (Inc)
def addT (t : Tb) (s : Sd) : Tb := ⟨t.eyes, t.lights, t.pieces ++ [s]⟩
theorem addT_len (t : Tb) (s : Sd) : (addT t s).pieces.length = t.pieces.length + 1 := by simp [addT]
theorem addT_good {t : Tb} {s : Sd} (g : Good t) (hs : InS s 20) (hl : t.pieces.length ≤ 8) : Good (addT t s) :=
  ⟨g.eyes, g.lights, by rw [addT_len]; omega, g.eye, g.light, fun p hp => by
    rcases List.mem_append.1 hp with h | h
    · exact g.piece p h
    · rw [List.mem_singleton] at h; rw [h]; exact hs⟩
theorem add_ok {t : Tb} {s : Sd} (g : Good t) (hs : InS s 20) (hl : t.pieces.length ≤ 8) : addE t s = 0 ∧ addR t s = addT t s := by
  have e : addE t s = 0 := by
    unfold addE
    rw [if_neg (by simp [check_iff.2 g]), if_neg (by simp [within_iff.2 hs]), if_neg (by omega)]
  exact ⟨e, by unfold addR; rw [if_pos e]; rfl⟩
theorem apartK_congr {t o : Tb} (he : o.eyes = t.eyes) (hl : o.lights = t.lights) (a b : Sd) : ∀ n, apartK o a b n = apartK t a b n
  | 0 => rfl
  | n + 1 => by
    have ih := apartK_congr he hl a b n
    have e : ∀ i k, tellsAt o a b i k = tellsAt t a b i k := fun i k => by unfold tellsAt; rw [he, hl]
    simp only [apartK, ih, hl, e]
theorem alike_congr {t o : Tb} (he : o.eyes = t.eyes) (hl : o.lights = t.lights) (a b : Sd) : alike o a b = alike t a b := by
  unfold alike apartL
  rw [apartK_congr he hl, he, hl]
theorem addT_match {t : Tb} {s : Sd} {p r : Nat} (hp : p < t.pieces.length) (hr : r < t.pieces.length) : matchB (addT t s) p r = matchB t p r := by
  unfold matchB
  have e1 : (addT t s).pieces[p]? = t.pieces[p]? := List.getElem?_append_left hp
  have e2 : (addT t s).pieces[r]? = t.pieces[r]? := List.getElem?_append_left hr
  rw [e1, e2]
  cases t.pieces[p]? <;> cases t.pieces[r]? <;> first | rfl | exact alike_congr (t := t) (o := addT t s) rfl rfl _ _
theorem addT_mT {t : Tb} {s : Sd} {x y : Int} (hx : 0 ≤ x ∧ x < (t.pieces.length : Int)) (hy : 0 ≤ y ∧ y < (t.pieces.length : Int)) : mT (addT t s) x y = mT t x y := addT_match (by omega) (by omega)
theorem addT_scrap {t : Tb} {s a : Sd} : ∀ n, n ≤ t.pieces.length → scrapK (addT t s) a n = scrapK t a n
  | 0, _ => rfl
  | n + 1, h => by
    have ih := addT_scrap (t := t) (s := s) (a := a) n (by omega)
    have e : (addT t s).pieces[n]? = t.pieces[n]? := List.getElem?_append_left (by omega)
    simp only [scrapK, ih, e, alike_congr (t := t) (o := addT t s) rfl rfl]
theorem more_scrap {t : Tb} {s a : Sd} : ∃ l, scrapK (addT t s) a (addT t s).pieces.length = scrapK t a t.pieces.length ++ l ∧ l.length ≤ 1 := by
  rw [addT_len]
  rw [scrapK_step (t := addT t s) (s := a) (n := t.pieces.length) (by rw [addT_len]; omega), addT_scrap _ (Nat.le_refl _)]
  exact ⟨_, rfl, by split <;> simp⟩
theorem more_few {t : Tb} {s : Sd} {c c' : List Int} (h : few t = some c) (h' : few (addT t s) = some c') : c.length ≤ c'.length := by
  obtain ⟨d, e, m⟩ := few_some (addT t s)
  rw [h'] at e; cases e
  refine few_le h (Inc.nd m.inc) (fun x hx => m.inc.mem x hx) (enoughB_iff.2 fun p r hp hr hne => ?_)
  have et : tellP (addT t s) r p = tellP t r p := by
    unfold tellP
    have e1 : (addT t s).pieces[p]? = t.pieces[p]? := List.getElem?_append_left hp
    have e2 : (addT t s).pieces[r]? = t.pieces[r]? := List.getElem?_append_left (by omega)
    rw [e1, e2]
    have ek : ∀ a b n, tellK (addT t s) a b n = tellK t a b n := fun a b n => by
      induction n with
      | zero => rfl
      | succ n ih => simp only [tellK, ih]; rfl
    cases t.pieces[r]? <;> cases t.pieces[p]? <;> first | rfl | exact ek _ _ _
  have := enoughB_iff.1 m.holds p r (by rw [addT_len]; omega) hr (by rw [et]; exact hne)
  rw [et] at this; exact this
theorem more_alpha {T T' : Int → Int → Bool} {n : Nat} (h : ∀ x y : Int, 0 ≤ x → x < (n : Int) → 0 ≤ y → y < (n : Int) → T' x y = T x y) : alpha T n ≤ alpha T' (n + 1) ∧ alpha T' (n + 1) ≤ alpha T n + 1 := by
  constructor
  · obtain ⟨d, inc, hc, hl⟩ := alpha_at T n
    rw [← hl]
    refine alpha_ge (Inc.nd inc) (fun x hx => by have := inc.mem x hx; omega) fun x hx y hy hne => ?_
    have h1 := inc.mem x hx
    have h2 := inc.mem y hy
    rw [h x y h1.1 h1.2 h2.1 h2.2]; exact hc x hx y hy hne
  · obtain ⟨d, inc, hc, hl⟩ := alpha_at T' (n + 1)
    have hm : ∀ x, x ∈ d.erase (n : Int) → x ∈ d ∧ 0 ≤ x ∧ x < (n : Int) := fun x hx => by
      rw [(Inc.nd inc).mem_erase_iff] at hx
      have := inc.mem x hx.2
      exact ⟨hx.2, this.1, by have := hx.1; omega⟩
    have := alpha_ge (T := T) (n := n) ((Inc.nd inc).erase (n : Int)) (fun x hx => (hm x hx).2) fun x hx y hy hne => by
      have h1 := hm x hx
      have h2 := hm y hy
      rw [← h x y h1.2.1 h1.2.2 h2.2.1 h2.2.2]; exact hc x h1.1 y h2.1 hne
    rw [List.length_erase] at this
    split at this <;> omega
theorem more_chi {T T' : Int → Int → Bool} {n : Nat} (sy : ∀ x y, T x y = T y x) (sy' : ∀ x y, T' x y = T' y x) (h : ∀ x y : Int, 0 ≤ x → x < (n : Int) → 0 ≤ y → y < (n : Int) → T' x y = T x y) : chi T n ≤ chi T' (n + 1) ∧ chi T' (n + 1) ≤ chi T n + 1 := by
  constructor
  · obtain ⟨g, g1, g2⟩ := chi_col sy' (n + 1)
    exact chi_le (g := g) ⟨fun x h0 h1 => g1 x h0 (by omega), fun x y a0 a1 b0 b1 hne he => by
      rw [← h x y a0 a1 b0 b1]; exact g2 x y a0 (by omega) b0 (by omega) hne he⟩
  · obtain ⟨g, g1, g2⟩ := chi_col sy n
    refine chi_le (g := fun x => if x = (n : Int) then chi T n else g x) ⟨fun x h0 h1 => ?_, fun x y a0 a1 b0 b1 hne he => ?_⟩
    · dsimp only
      split
      · omega
      · have := g1 x h0 (by omega); omega
    · dsimp only at he
      split at he <;> split at he
      · omega
      · have := g1 y b0 (by omega); omega
      · have := g1 x a0 (by omega); omega
      · rw [h x y a0 (by omega) b0 (by omega)]
        exact g2 x y a0 (by omega) b0 (by omega) hne he
end Go.Ab.Try
set_option linter.unusedSimpArgs false
set_option linter.unusedVariables false
namespace Go.Ab.Try
theorem InS.up {s : Sd} {m n : Int} (a : InS s m) (h : m ≤ n) : InS s n := by
  obtain ⟨a1, a2, a3⟩ := a
  exact ⟨by omega, by omega, by omega⟩
theorem sd_fne (a : Sd) : q_feq true 3 (.agg [.int .i64 a.x, .int .i64 a.y, .int .i64 a.z]) (.agg [.int .i64 a.x, .int .i64 a.y, .int .i64 a.z]) = some (.bool false) := by
  have h := q_feq_map (n := 3) [a.x, a.y, a.z] [a.x, a.y, a.z] rfl rfl true
  simpa [iv, ngB] using h
theorem LsOut.lenA {h' : H} {y : V} {T : Int → Int → Bool} {n : Nat} (hn : n ≤ 1000) (a : LsOut h' y (lastOf (mostP T fun _ => true) n n)) : q_len y = some (.int .i64 (alpha T n : Int)) := by
  unfold LsOut at a
  unfold alpha
  rcases lastOf_spec (mostP T fun _ => true) n n with ⟨c, e, b⟩ | ⟨e, b⟩
  · rw [e] at a ⊢
    exact a.lenE
  · rw [e] at a ⊢
    rw [a]; rfl
theorem LsCut.lenC {F : Nat → Prop} {h' : H} {y : V} {T : Int → Int → Bool} {n : Nat} (hn : n ≤ 1000) (a : LsCut F h' y (eS ((sortR T n).getD []))) : q_len y = some (.int .i64 (chi T n : Int)) := by
  obtain ⟨S, e, s, hm⟩ := sortR_spec T n
  have hl : ((sortR T n).getD []).length ≤ 1000 := by
    rw [e]
    have := hm n (fun x => x.toNat) ⟨fun x h0 h1 => by dsimp only; omega, fun x y a0 a1 b0 b1 hne he => by dsimp only at he; omega⟩
    simp only [Option.getD_some]; omega
  have := a.len (by simp only [eS, List.length_map]; exact hl)
  rw [this, List.length_map]; rfl
theorem alpha_bd (T : Int → Int → Bool) (n : Nat) : alpha T n ≤ n := by
  obtain ⟨d, inc, _, hl⟩ := alpha_at T n
  have := inc.len (by omega)
  omega
theorem chi_bd (T : Int → Int → Bool) (n : Nat) : chi T n ≤ n :=
  chi_le (g := fun x => x.toNat) ⟨fun x h0 h1 => by dsimp only; omega, fun x y a0 a1 b0 b1 hne he => by dsimp only at he; omega⟩
set_option maxRecDepth 4000 in
set_option maxHeartbeats 8000000 in
theorem EyeMore_ev {h : H} {x y : V} {bs cs : List Int} (hw : h.wf) (hx : SlAt h x 1 (bs.map encU8)) (hy : SlAt h y 1 (cs.map encU8)) :
    Ev fnG fastA (.fn 9 [] []) [x, y] h (fun u _ => u = .bool true) := by
  refine Ev_body (fd := c9) rfl rfl rfl ?_
  simp -implicitDefEqProofs (maxSteps := 999999) (disch := first | with_reducible rfl | omega | (simp only [nA, nS, nD] <;> omega) | fail) only [c9, go_sem]
  refine Wound_ev hw hx _ fun h1 s1 sp1 n1 => ?_
  simp -implicitDefEqProofs (maxSteps := 999999) (disch := first | with_reducible rfl | omega | (simp only [nA, nS, nD] <;> omega) | fail) only [go_sem]
  refine Made_ev s1 hw hx (Nat.le_refl _) sp1 (by omega) (by omega) (by omega) (by omega) _ fun X Y Z t hM T g hp7 he6 hl4 hT m => ?_
  obtain ⟨sM, iM, pM⟩ := m.is g hw (by omega) (by omega)
  have x1 := OwnC.one m.ox.c
  have y1 := OwnC.one m.oy.c
  have z1 := OwnC.one m.oz.c
  simp -implicitDefEqProofs (maxSteps := 999999) (disch := first | with_reducible rfl | omega | (simp only [nA, nS, nD] <;> omega) | fail) only [go_sem, x1, y1, z1, cells_one x1, cells_one y1, cells_one z1]
  have nN : (hM.set h1.next (.cells .rw [X, Y, Z])).next = hM.next := H.next_set _ _ _
  generalize hM.set h1.next (.cells .rw [X, Y, Z]) = hN at sM iM pM nN ⊢
  have s2 := (H.Sub.refl sM.wf).add (.cells .rw [X, Y, Z])
  have g7 : (hN.add (.cells .rw [X, Y, Z])).cells hN.next = some [X, Y, Z] := cells_add_new rfl
  have i2 := iM.mono s2
  have sN2 := sM.trans s2
  generalize (hN.add (.cells .rw [X, Y, Z])) = h2 at s2 g7 i2 sN2 ⊢
  rw [nN] at g7
  generalize hM.next = b7 at g7 ⊢
  refine Wound_ev s2.wf (hy.mono sN2) _ fun h3 s3 sp3 n3 => ?_
  simp -implicitDefEqProofs (maxSteps := 999999) (disch := first | with_reducible rfl | omega | (simp only [nA, nS, nD] <;> omega) | fail) only [go_sem]
  refine shade_ev s3 s2.wf (hy.mono sN2) (Nat.le_refl _) sp3 (by omega) (by omega) _ fun a h4 ha s4 sp4 k4 => ?_
  simp -implicitDefEqProofs (maxSteps := 999999) (disch := first | with_reducible rfl | omega | (simp only [nA, nS, nD] <;> omega) | fail) only [go_sem]
  refine shade_ev s4 s2.wf (hy.mono sN2) (Nat.le_refl _) sp4 (by omega) (by omega) _ fun b h5 hb s5 sp5 k5 => ?_
  have l35 := s5.next
  have s56 : h2.Sub ((((h5.add (.cells .rw [.int .i64 0, .int .i64 0, .int .i64 0])).add (.cells .rw [.int .i64 0, .int .i64 0, .int .i64 0])).set h5.next (.cells .rw [.int .i64 a.x, .int .i64 a.y, .int .i64 a.z])).set (h5.next + 1) (.cells .rw [.int .i64 b.x, .int .i64 b.y, .int .i64 b.z])) := ((((H.Sub.trans s5 (H.Sub.refl s5.wf)).add _).add _).set (b := h5.next) (by omega) (by simp only [H.next_add]; omega) s2.wf _).set (b := h5.next + 1) (by omega) (by simp only [H.next_set, H.next_add]; omega) s2.wf _
  have g9 : ((((h5.add (.cells .rw [.int .i64 0, .int .i64 0, .int .i64 0])).add (.cells .rw [.int .i64 0, .int .i64 0, .int .i64 0])).set h5.next (.cells .rw [.int .i64 a.x, .int .i64 a.y, .int .i64 a.z])).set (h5.next + 1) (.cells .rw [.int .i64 b.x, .int .i64 b.y, .int .i64 b.z])).cells h5.next = some [.int .i64 a.x, .int .i64 a.y, .int .i64 a.z] := by simp -implicitDefEqProofs (maxSteps := 999999) (disch := first | with_reducible rfl | omega | (simp only [nA, nS, nD] <;> omega) | fail) only [go_sem]
  have g10 : ((((h5.add (.cells .rw [.int .i64 0, .int .i64 0, .int .i64 0])).add (.cells .rw [.int .i64 0, .int .i64 0, .int .i64 0])).set h5.next (.cells .rw [.int .i64 a.x, .int .i64 a.y, .int .i64 a.z])).set (h5.next + 1) (.cells .rw [.int .i64 b.x, .int .i64 b.y, .int .i64 b.z])).cells (h5.next + 1) = some [.int .i64 b.x, .int .i64 b.y, .int .i64 b.z] := by simp -implicitDefEqProofs (maxSteps := 999999) (disch := first | with_reducible rfl | omega | (simp only [nA, nS, nD] <;> omega) | fail) only [go_sem]
  have ad := fun hh (s : h2.Sub hh) => Add_ev (h := hh) s.wf (i2.mono s) a
  simp only [encD] at ad
  simp -implicitDefEqProofs (maxSteps := 999999) (disch := first | with_reducible rfl | omega | (simp only [nA, nS, nD] <;> omega) | fail) only [go_sem, encD]
  generalize ((((h5.add (.cells .rw [.int .i64 0, .int .i64 0, .int .i64 0])).add (.cells .rw [.int .i64 0, .int .i64 0, .int .i64 0])).set h5.next (.cells .rw [.int .i64 a.x, .int .i64 a.y, .int .i64 a.z])).set (h5.next + 1) (.cells .rw [.int .i64 b.x, .int .i64 b.y, .int .i64 b.z])) = h6 at s56 g9 g10 ⊢
  obtain ⟨b9, hb9⟩ : ∃ b9, b9 = h5.next := ⟨_, rfl⟩
  rw [← hb9] at g9 g10 ⊢
  have ha20 := ha.up (show (7 : Int) ≤ 20 by omega)
  have hb20 := hb.up (show (7 : Int) ≤ 20 by omega)
  obtain ⟨ae, ar⟩ := add_ok g ha20 (by omega)
  simp -implicitDefEqProofs (maxSteps := 999999) (disch := first | with_reducible rfl | omega | (simp only [nA, nS, nD] <;> omega) | fail) only [go_sem, g9, g10, s56.cells g7]
  refine ad h6 s56 _ fun X' Y' Z' h7 o => ?_
  rw [ae]
  rw [ar] at o
  have sx67 : h6.Sub h7 := o.x.1
  have ox := o.x.one
  have oy := o.y.one
  have oz := o.z.one
  have s78 := (H.Sub.refl sx67.wf).add (.cells .rw [X', Y', Z'])
  have g8 : (h7.add (.cells .rw [X', Y', Z'])).cells h7.next = some [X', Y', Z'] := cells_add_new rfl
  have s68 := sx67.trans s78
  have s28 := s56.trans s68
  have gd8 := s28.cells g7
  have g98 := s68.cells g9
  have g108 := s68.cells g10
  have iT := i2.mono s28
  obtain ⟨E0, L0, P0, e0, aE, aL, aP⟩ := iT
  cases e0
  have gp := g.pieces
  have lZ := aP.lenE
  have cz := (o.z.cutO).mono s78
  have ezr : (addT t a).pieces.map encD = t.pieces.map encD ++ [encD a] := by simp [addT]
  rw [ezr] at cz
  have sz := cz.sl (by simp; omega)
  have lz' : q_len Z' = some (.int .i64 ((t.pieces.length + 1 : Nat) : Int)) := by rw [sz.len]; simp
  obtain ⟨yz, hyz, cyz, _⟩ := cz.to (k := t.pieces.length) (by omega) (by simp; omega) (by simp)
  have etk : (t.pieces.map encD ++ [encD a]).take t.pieces.length = t.pieces.map encD := by rw [List.take_left']; simp
  rw [etk] at cyz
  have syz := cyz.sl (by simp only [List.length_map]; omega)
  obtain ⟨bz, oz', czc, csz, ez, hcz, hqz, hgz, _, _⟩ := (show SlAt (h7.add (.cells .rw [X', Y', Z'])) Z' 3 ((addT t a).pieces.map encD) by rw [ezr]; exact sz).at (k := t.pieces.length) (by rw [addT_len]; omega)
  have eza : (addT t a).pieces[t.pieces.length]'(by rw [addT_len]; omega) = a := by simp [addT]
  rw [eza] at hgz
  simp only [encD] at hgz
  have sxE : SlAt (h7.add (.cells .rw [X', Y', Z'])) X' 4 (t.eyes.map encE) := (o.x.mono s78).sl (by have := g.eyes; simp only [List.length_map]; show t.eyes.length ≤ _; omega)
  have syL : SlAt (h7.add (.cells .rw [X', Y', Z'])) Y' 3 (t.lights.map encD) := (o.y.mono s78).sl (by have := g.lights; simp only [List.length_map]; show t.lights.length ≤ _; omega)
  have szP : SlAt (h7.add (.cells .rw [X', Y', Z'])) Z' 3 ((addT t a).pieces.map encD) := by rw [ezr]; exact sz
  have i' : TbIs (h7.add (.cells .rw [X', Y', Z'])) (.agg [X', Y', Z']) (addT t a) := ⟨X', Y', Z', rfl, sxE, syL, szP⟩
  have q1 := fun R => eqShades_ev syz aP R
  have q2 := fun R => eqEyes_ev sxE aE R
  have q3 := fun R => eqLights_ev syL aL R
  simp only [decide_true] at q1 q2 q3
  have w1 : wr .i64 ((t.pieces.length : Int) + 1) = ((t.pieces.length + 1 : Nat) : Int) := wr_succ (by omega)
  have nn : ∀ n : Int, decide (n ≠ n) = false := fun n => by simp
  have iT : TbIs (h7.add (.cells .rw [X', Y', Z'])) (.agg [X, Y, Z]) t := ⟨_, _, _, rfl, aE, aL, aP⟩
  simp -implicitDefEqProofs (maxSteps := 999999) (disch := first | with_reducible rfl | omega | (simp only [nA, nS, nD] <;> omega) | fail) only [go_sem, ox, oy, oz, cells_one ox, cells_one oy, cells_one oz]
  generalize h7.add (.cells .rw [X', Y', Z']) = h8 at s78 g8 s68 s28 gd8 g98 g108 aE aL aP cz sz hyz cyz syz hcz sxE syL szP i' iT q1 q2 q3 ⊢
  simp -implicitDefEqProofs (maxSteps := 999999) (disch := first | with_reducible rfl | omega | (simp only [nA, nS, nD] <;> omega) | fail) only [go_sem, nn, g8, gd8, g98, g108, lZ, lz', w1, evQ_slc, q_slc_to, hyz, q1, q2, q3, Bool.not_true, hqz (nat_cst t.pieces.length), hcz, hgz, evQ_ld, sd_fne]
  have g' := addT_good (t := t) (s := a) g ha20 (by omega)
  have c0 : check t = 0 := check_iff.2 g
  have c1 : check (addT t a) = 0 := check_iff.2 g'
  have o1 : oneE t b = 0 := by unfold oneE; rw [if_neg (by simp [c0]), if_neg (by simp [within_iff.2 hb20])]
  have o2 : oneE (addT t a) b = 0 := by unfold oneE; rw [if_neg (by simp [c1]), if_neg (by simp [within_iff.2 hb20])]
  have r1 : scrapR t b = scrapK t b t.pieces.length := by unfold scrapR; rw [if_pos o1]
  have r2 : scrapR (addT t a) b = scrapK (addT t a) b (addT t a).pieces.length := by unfold scrapR; rw [if_pos o2]
  obtain ⟨l, el, ll⟩ := more_scrap (t := t) (s := a) (a := b)
  have k1 := Scrap_own (h := h8) s78.wf iT b
  rw [o1, r1] at k1
  simp only [encD] at k1
  refine k1 _ fun u hA sA ou => ?_
  have k2 := Scrap_own (h := hA) sA.wf (i'.mono sA) b
  rw [o2, r2, el] at k2
  simp only [encD] at k2
  have lsc := scrapK_len t b t.pieces.length
  generalize scrapK t b t.pieces.length = sc at ou k2 lsc
  simp -implicitDefEqProofs (maxSteps := 999999) (disch := first | with_reducible rfl | omega | (simp only [nA, nS, nD] <;> omega) | fail) only [go_sem, sA.cells g8, sA.cells g108]
  refine k2 _ fun v hB sB ov => ?_
  have su := (ou.sl (by simp only [List.length_map]; omega)).mono sB
  have sv := ov.sl (by simp only [List.length_map, List.length_append]; omega)
  have lu := su.lenE
  have lv := sv.lenE
  rw [List.length_append] at lv
  obtain ⟨yv, hyv, cyv, _⟩ := ov.cutO.to (k := sc.length) (by omega) (by simp only [List.length_map, List.length_append]; omega) (by simp)
  have etk : ((sc ++ l).map encI).take sc.length = sc.map encI := by rw [List.map_append, List.take_left']; simp
  rw [etk] at cyv
  have q4 := fun R => eqInt_ev (cyv.sl (by simp only [List.length_map]; omega)) su R
  simp only [decide_true] at q4
  have f1 : ¬ ((sc.length + l.length : Nat) : Int) < (sc.length : Int) := by omega
  have w2 : wr .i64 ((sc.length : Int) + 1) = ((sc.length + 1 : Nat) : Int) := wr_succ (by omega)
  have f2 : ¬ ((sc.length + 1 : Nat) : Int) < ((sc.length + l.length : Nat) : Int) := by omega
  have sAB := sA.trans sB
  simp -implicitDefEqProofs (maxSteps := 999999) (disch := first | with_reducible rfl | omega | (simp only [nA, nS, nD] <;> omega) | fail) only [go_sem, nn, lu, lv, f1, w2, f2, evQ_slc, q_slc_to, hyv, q4, Bool.not_true, sAB.cells gd8]
  obtain ⟨cf, hcf, mf⟩ := few_some t
  obtain ⟨cf', hcf', mf'⟩ := few_some (addT t a)
  have hfl := more_few hcf hcf'
  refine Fewest_ev sB.wf (iT.mono sAB) _ fun y14 hC sC hy14 _ => ?_
  have l14 := (hy14 cf c0 hcf).lenE
  rw [c0]
  have sAC := sAB.trans sC
  simp -implicitDefEqProofs (maxSteps := 999999) (disch := first | with_reducible rfl | omega | (simp only [nA, nS, nD] <;> omega) | fail) only [go_sem, sAC.cells g8]
  refine Fewest_ev sC.wf (i'.mono sAC) _ fun y15 hD sD hy15 _ => ?_
  have l15 := (hy15 cf' c1 hcf').lenE
  rw [c1]
  have sAD := sAC.trans sD
  simp -implicitDefEqProofs (maxSteps := 999999) (disch := first | with_reducible rfl | omega | (simp only [nA, nS, nD] <;> omega) | fail) only [go_sem, sAD.cells gd8]
  refine Strangers_ev sD.wf (iT.mono sAD) _ fun y16 hE sE hy16 => ?_
  rw [if_pos c0] at hy16
  have l16 := LsOut.lenA (by omega) hy16
  rw [c0]
  have sAE := sAD.trans sE
  simp -implicitDefEqProofs (maxSteps := 999999) (disch := first | with_reducible rfl | omega | (simp only [nA, nS, nD] <;> omega) | fail) only [go_sem, sAE.cells g8]
  refine Strangers_ev sE.wf (i'.mono sAE) _ fun y18 hF sF hy18 => ?_
  rw [if_pos c1] at hy18
  have l18 := LsOut.lenA (by have := g'.pieces; omega) hy18
  rw [c1]
  have sAF := sAE.trans sF
  simp -implicitDefEqProofs (maxSteps := 999999) (disch := first | with_reducible rfl | omega | (simp only [nA, nS, nD] <;> omega) | fail) only [go_sem, sAF.cells gd8]
  refine Sort_ev sF.wf (iT.mono sAF) _ fun y20 hG sG hy20 => ?_
  rw [if_pos c0] at hy20
  have l20 := LsCut.lenC (by omega) hy20
  rw [c0]
  have sAG := sAF.trans sG
  simp -implicitDefEqProofs (maxSteps := 999999) (disch := first | with_reducible rfl | omega | (simp only [nA, nS, nD] <;> omega) | fail) only [go_sem, sAG.cells g8]
  refine Sort_ev sG.wf (i'.mono sAG) _ fun y22 hH sH hy22 => ?_
  rw [if_pos c1] at hy22
  have l22 := LsCut.lenC (by have := g'.pieces; omega) hy22
  rw [c1]
  rw [addT_len] at l18 l22
  have ma := more_alpha (T := fun a b => !mT t a b) (T' := fun x y => !mT (addT t a) x y) (n := t.pieces.length) fun x y h0 h1 h2 h3 => by
    show (!mT (addT t a) x y) = !mT t x y
    rw [addT_mT ⟨h0, h1⟩ ⟨h2, h3⟩]
  have mc := more_chi (n := t.pieces.length) (mT_comm g) (mT_comm g') fun x y h0 h1 h2 h3 => addT_mT (s := a) ⟨h0, h1⟩ ⟨h2, h3⟩
  have ba := alpha_bd (fun a b => !mT t a b) t.pieces.length
  have bc := chi_bd (mT t) t.pieces.length
  generalize alpha (fun a b => !mT t a b) t.pieces.length = A1 at l16 ma ba
  generalize alpha (fun x y => !mT (addT t a) x y) (t.pieces.length + 1) = A2 at l18 ma
  generalize chi (mT t) t.pieces.length = C1 at l20 mc bc
  generalize chi (mT (addT t a)) (t.pieces.length + 1) = C2 at l22 mc
  have d00 : decide ((0 : Int) = 0) = true := rfl
  have v1 : wr .i64 ((A1 : Int) + 1) = ((A1 + 1 : Nat) : Int) := wr_succ (by omega)
  have v2 : wr .i64 ((C1 : Int) + 1) = ((C1 + 1 : Nat) : Int) := wr_succ (by omega)
  have z1 : (cf.length : Int) ≤ (cf'.length : Int) := by omega
  have z2 : (A1 : Int) ≤ (A2 : Int) := by omega
  have z3 : (A2 : Int) ≤ ((A1 + 1 : Nat) : Int) := by omega
  have z4 : (C1 : Int) ≤ (C2 : Int) := by omega
  have z5 : (C2 : Int) ≤ ((C1 + 1 : Nat) : Int) := by omega
  simp -implicitDefEqProofs (maxSteps := 999999) (disch := first | with_reducible rfl | omega | (simp only [nA, nS, nD] <;> omega) | fail) only [go_sem, d00, l14, l15, l16, l18, l20, l22, v1, v2, z1, z2, z3, z4, z5, awake_eq]
end Go.Ab.Try
