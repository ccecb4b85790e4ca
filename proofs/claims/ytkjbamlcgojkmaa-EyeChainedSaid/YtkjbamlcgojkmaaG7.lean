/- EyeChained: the law's first look at the kin. The law's own match; the sum of all kin. All rising lists of so many numbers, one by one, until one holds. The eyes that tell two pieces apart, as the program finds them. enough: whether some eyes tell apart all that can be told apart. Fewest. most: the longest lists of pieces of which every two pass a test. Strangers, Greatest. Kin: the lists are apart, and hold all. Plain. What a chain is. Plain. The lists of kin rise, and so do their heads. Plain. EyeChained (under way). Sortings into sets of which any two go together: the first one that is found, and that no fewer sets do. Plain. Slices of our own that are cut short and grow again; lists of them. What the longest list for which something holds is. Plain. How far pieces are from one. Plain. -/
import Derived.Test.YtkjbamlcgojkmaaPa5
import Derived.Test.YtkjbamlcgojkmaaG6
import Derived.Test.YtkjbamlcgojkmaaG5
set_option linter.unusedSimpArgs false
set_option linter.unusedVariables false
namespace Go.Ab.Try
theorem lmatch_ev {h : H} {v : V} {t : Tb} (hw : h.wf) (ht : TbIs h v t) (g : Good t) {p r : Nat} (hp : p < t.pieces.length) (hr : r < t.pieces.length) (Q : V → H → Prop) (q : ∀ h', h.Sub h' → Q (.bool (MM t p r)) h') :
    Ev fnG fastA (.fn 53 [] []) [v, .int .i64 (p : Int), .int .i64 (r : Int)] h Q := by
  have ht0 := ht
  obtain ⟨E, L, P, rfl, aE, aL, aP⟩ := ht
  refine Ev_body (fd := c53) rfl rfl rfl ?_
  have s1 : h.Sub (h.add (.cells .rw [E, L, P])) := (by repeat (first | assumption | exact H.Sub.refl (by assumption) | refine H.Sub.add ?_ _ | refine H.Sub.set ?_ (by first | omega | (simp only [H.next_add, H.next_set, H.next_del] <;> omega)) (by first | omega | (simp only [H.next_add, H.next_set, H.next_del] <;> omega)) (by assumption) _))
  have g1 : (h.add (.cells .rw [E, L, P])).cells h.next = some [E, L, P] := cells_add_new rfl
  simp -implicitDefEqProofs (maxSteps := 999999) (disch := first | with_reducible rfl | omega | (simp only [nA, nS, nD] <;> omega) | fail) only [c53, go_sem]
  generalize h.add (.cells .rw [E, L, P]) = h5 at s1 g1 ⊢
  obtain ⟨bP, oP, cP, csP, eP, hcP, hqP, hgP, _, _⟩ := (aP.mono s1).at hp
  obtain ⟨bR, oR, cR, csR, eR, hcR, hqR, hgR, _, _⟩ := (aP.mono s1).at hr
  have hal := tellers_ev (h := h5) s1.wf (ht0.mono s1) g (g.piece _ (List.getElem_mem hp)) (g.piece _ (List.getElem_mem hr))
  simp only [encD] at hal hgP hgR
  simp -implicitDefEqProofs (maxSteps := 999999) (disch := first | with_reducible rfl | omega | (simp only [nA, nS, nD] <;> omega) | fail) only [go_sem, g1, hqP (nat_cst p), hcP, hgP, hqR (nat_cst r), hcR, hgR, evQ_ld]
  refine hal _ fun y h2 oy => ?_
  have hlen := tellK_len t t.pieces[p] t.pieces[r] t.eyes.length
  have ge := g.eyes
  have ly := (oy.sl (by simp only [List.length_map]; omega)).lenE
  have hk := tellK_alike g t.pieces[p] t.pieces[r]
  have ed : decide (((tellK t t.pieces[p] t.pieces[r] t.eyes.length).length : Int) = 0) = MM t p r := by
    rw [MM_comm g]
    unfold MM matchB
    rw [List.getElem?_eq_getElem hp, List.getElem?_eq_getElem hr]
    dsimp only
    rw [← hk, Bool.eq_iff_iff]; simp
  simp -implicitDefEqProofs (maxSteps := 999999) (disch := first | with_reducible rfl | omega | (simp only [nA, nS, nD] <;> omega) | fail) only [go_sem, g1, hqP (nat_cst p), hcP, hgP, hqR (nat_cst r), hcR, hgR, evQ_ld, ly, ed]
  exact q _ (s1.trans oy.1)
theorem kin_at {t : Tb} (g : Good t) {p : Nat} (hp : p < t.pieces.length) : ∃ l ∈ kinK t t.pieces.length, (p : Int) ∈ l := kinK_cov g (Nat.le_refl _) hp
end Go.Ab.Try
set_option linter.unusedSimpArgs false
set_option linter.unusedVariables false
namespace Go.Ab
theorem SlAt_keep2 {h h' : H} {S : Nat → Prop} {x : V} {sz : Nat} {rows : List (List V)} (a : SlAt h x sz rows) (k : Keeps S h h') (n : rows ≠ [] → ∀ b, blkOf x b → ¬ S b) : SlAt h' x sz rows := by
  obtain ⟨a1, a0, a2⟩ := a
  refine ⟨a1, a0, ?_⟩
  rcases a2 with a2 | ⟨b, o, c, cs, e1, e2, e3⟩
  · exact .inl a2
  · refine .inr ⟨b, o, c, cs, e1, ?_, e3⟩
    by_cases hr : rows = []
    · exact .inl hr
    · exact .inr (k.cells (e2.resolve_left hr) (n hr b ⟨_, _, _, e1⟩))
end Go.Ab
namespace Go.Ab.Try
open Go.Ab.Silk (comb)
theorem find_step (P : List Int → Bool) (l : List Int) (k f : Nat) (j : Int) : (comb (k + 1) (f + 1) j).find? (fun c => P (l ++ c)) =
    match (comb k f (j + 1)).find? (fun c => P ((l ++ [j]) ++ c)) with | some c => some (j :: c) | none => (comb (k + 1) f (j + 1)).find? (fun c => P (l ++ c)) := by
  simp only [comb, List.find?_append, List.find?_map]
  have e : (fun c => P (l ++ c)) ∘ (fun l' => j :: l') = fun c => P ((l ++ [j]) ++ c) := by
    funext c; simp
  rw [e]
  cases (comb k f (j + 1)).find? (fun c => P ((l ++ [j]) ++ c)) <;> simp

theorem cloneInt_ev {h : H} {x : V} {rows : List (List V)} (hw : h.wf) (hx : SlAt h x 1 rows) (hl : rows.length ≤ 1000000) (Q : V → H → Prop) (q : ∀ v h', OwnC h h' v 1 rows → Q v h') : Ev fnG fastA (.fn 135 [] []) [x] h Q := by
  refine Ev_body (fd := c135) rfl rfl rfl ?_
  rcases hx.2.2 with ⟨rfl, e⟩ | ⟨b, o, c, cs, rfl, _⟩
  · simp -implicitDefEqProofs (maxSteps := 999999) (disch := first | with_reducible rfl | omega | (simp only [nA, nS, nD] <;> omega) | fail) only [c135, go_sem]
    exact q _ _ (by rw [e]; exact (OwnSl.nil (H.Sub.refl hw) 1).c)
  · simp -implicitDefEqProofs (maxSteps := 999999) (disch := first | with_reducible rfl | omega | (simp only [nA, nS, nD] <;> omega) | fail) only [c135, go_sem]
    refine clone_core hw hx (by omega) (by omega) fun v h' ov => ?_
    simp -implicitDefEqProofs (maxSteps := 999999) (disch := first | with_reducible rfl | omega | (simp only [nA, nS, nD] <;> omega) | fail) only [go_sem]
    exact q _ _ ov
def FnHolds (hb : H) (fv : V) (oC n : Nat) (P : List Int → Bool) (Post : List Int → H → Prop) : Prop := ∀ (l : List Int) (x : V) (h1 : H), (∀ a ∈ l, 0 ≤ a ∧ a < (n : Int)) → hb.Sub h1 → SlAt h1 x 1 (l.map encI) → (∀ b, blkOf x b → b ≠ oC) → (∃ y, h1.get oC = some (.cells .rw [y])) →
  ∀ R : V → H → Prop, (∀ h2, Keeps (fun c => c = oC) h1 h2 → h2.wf → (∃ y, h2.get oC = some (.cells .rw [y])) → (P l = true → Post l h2) → R (.bool (P l)) h2) → Ev fnG fastA fv [x] h1 R
def LsRes (P : List Int → Bool) (Post : List Int → H → Prop) (l : List Int) (r : Option (List Int)) (t : Bool) (h' : H) : Prop := match r with
  | some c => t = true ∧ P (l ++ c) = true ∧ Post (l ++ c) h'
  | none => t = false
set_option maxHeartbeats 2000000 in
theorem lists1_ev {hb : H} (hwb : hb.wf) {fv : V} {P : List Int → Bool} {Post : List Int → H → Prop} {kC fC nC gC oC : Nat} {many n : Nat} (hP : FnHolds hb fv oC n P Post) (ho : hb.next ≤ oC) (n1 : kC ≠ oC) (n2 : fC ≠ oC) (n3 : nC ≠ oC) (n4 : gC ≠ oC) (hmany : many ≤ 20) (hn : n ≤ 1000) :
    ∀ (k : Nat) (h : H) (x : V) (l : List Int) (i : Nat), l.length + k = many → (∀ a ∈ l, 0 ≤ a ∧ a < (n : Int)) → hb.Sub h → h.cells kC = some [.int .i64 (many : Int)] → h.cells fC = some [fv] → h.cells nC = some [.int .i64 (n : Int)] → h.cells gC = some [.fn 134 [] [.ptr kC 0, .ptr fC 0, .ptr nC 0, .ptr gC 0]] →
      (∃ y, h.get oC = some (.cells .rw [y])) → SlAt h x 1 (l.map encI) → (∀ b, blkOf x b → b ≠ oC) → i ≤ n → ∀ (Q : V → H → Prop), (∀ t h', Keeps (fun c => c = oC) h h' → h'.wf → (∃ y, h'.get oC = some (.cells .rw [y])) → LsRes P Post l ((comb k (n - i) (i : Int)).find? fun c => P (l ++ c)) t h' → Q (.bool t) h') →
      Ev fnG fastA (.fn 134 [] [.ptr kC 0, .ptr fC 0, .ptr nC 0, .ptr gC 0]) [x, .int .i64 (i : Int)] h Q := by
  intro k
  induction k with
  | zero =>
    intro h x l i hk hlr hs cm ch cd cf go ax nx hi Q q
    have hlx := ax.lenE
    have hll : (l.length : Int) = (many : Int) := by omega
    refine Ev_body (fd := c134) rfl rfl rfl ?_
    simp -implicitDefEqProofs (maxSteps := 999999) (disch := first | with_reducible rfl | omega | (simp only [nA, nS, nD] <;> omega) | fail) only [c134, go_sem, hlx, hll, cm, ch]
    refine hP l x h hlr hs ax nx go _ fun h2 k2 w2 go2 hp => ?_
    simp -implicitDefEqProofs (maxSteps := 999999) (disch := first | with_reducible rfl | omega | (simp only [nA, nS, nD] <;> omega) | fail) only [go_sem]
    refine q _ _ k2 w2 go2 ?_
    have e : (comb 0 (n - i) (i : Int)).find? (fun c => P (l ++ c)) = if P l = true then some [] else none := by
      simp only [comb, List.find?_cons, List.find?_nil, List.append_nil]
      cases P l <;> rfl
    rw [e]
    cases hpl : P l
    · exact rfl
    · exact ⟨rfl, by rw [List.append_nil]; exact hpl, by rw [List.append_nil]; exact hp hpl⟩
  | succ k ih =>
    intro h x l i hk hlr hs cm ch cd cf hgo ax nx hi Q q
    have hlx := ax.lenE
    have hll : ¬ (l.length : Int) = (many : Int) := by omega
    refine Ev_body (fd := c134) rfl rfl rfl ?_
    simp -implicitDefEqProofs (maxSteps := 999999) (disch := first | with_reducible rfl | omega | (simp only [nA, nS, nD] <;> omega) | fail) only [c134, go_sem, hlx, hll, cm]
    refine W_count n (fun j s => ∃ tm h', s = ⟨tm, h', []⟩ ∧ Keeps (fun c => c = oC) h h' ∧ h'.wf ∧ (∃ y, h'.get oC = some (.cells .rw [y])) ∧ ((comb (k + 1) (n - i) (i : Int)).find? fun c => P (l ++ c)) = ((comb (k + 1) (n - j) (j : Int)).find? fun c => P (l ++ c)) ∧
        (Opd.t 0).ev tm = x ∧ (Opd.t 4).ev tm = .ptr nC 0 ∧ (Opd.t 5).ev tm = .ptr gC 0 ∧ (Opd.t 9).ev tm = .int .i64 (j : Int))
      ?_ ?_ (i := i) hi ⟨_, _, rfl, Keeps.refl _ _, hs.wf, hgo, rfl, (by simp [ev_c, ev_put] <;> rfl), (by simp [ev_c, ev_put] <;> rfl), (by simp [ev_c, ev_put] <;> rfl), (by simp [ev_c, ev_put] <;> rfl)⟩
    · rintro j s hj ⟨tm, h', rfl, kh, wh, ⟨y0, go⟩, hfind, t0, t4, t5, t9⟩
      have hj' : (j : Int) < (n : Int) := by omega
      have hs' : hb.Sub h' := kh.sub hs hwb (fun c hc => by omega) wh
      have cm' := kh.cells cm n1
      have ch' := kh.cells ch n2
      have cd' := kh.cells cd n3
      have cf' := kh.cells cf n4
      have ax' := SlAt_keep2 ax kh (fun _ => nx)
      have hlo := wh _ _ go
      have hll2 : (l.map encI).length ≤ 20 := by simp; omega
      simp -implicitDefEqProofs (maxSteps := 999999) (disch := first | with_reducible rfl | omega | (simp only [nA, nS, nD] <;> omega) | fail) only [go_sem, t0, t4, t5, t9, cd', hj', cf']
      refine cloneInt_ev wh ax' (by omega) _ fun v h1 ov => ?_
      have s01 := ov.1
      have cf1 := s01.cells cf'
      simp -implicitDefEqProofs (maxSteps := 999999) (disch := first | with_reducible rfl | omega | (simp only [nA, nS, nD] <;> omega) | fail) only [go_sem, t0, t4, t5, t9]
      have s12 := (H.Sub.refl s01.wf).add (.cells .rw [.int .i64 (j : Int)])
      refine (ov.mono s12).app1 (by_ := 8) (r := encI (j : Int)) wh rfl (by omega) own1_lit rfl (by omega) (by omega) fun x2 h2 ox2 dx2 kx2 => ?_
      have s02 := ox2.1
      have cf2 := s02.cells cf'
      have ax2 := ox2.sl (by simp; omega)
      have e2 : l.map encI ++ [encI (j : Int)] = (l ++ [(j : Int)]).map encI := by simp
      rw [e2] at ax2
      simp -implicitDefEqProofs (maxSteps := 999999) (disch := first | with_reducible rfl | omega | (simp only [nA, nS, nD] <;> omega) | fail) only [go_sem, t0, t4, t5, t9, wr_succ]
      refine ih h2 x2 (l ++ [(j : Int)]) (j + 1) (by simp; omega) (fun a ha => (List.mem_append.1 ha).elim (hlr a) fun h => by rw [List.mem_singleton] at h; omega) (hs'.trans s02) (s02.cells cm') (s02.cells ch') (s02.cells cd') cf2 ⟨y0, s02.get go⟩ ax2 (fun b hb => by have := (ox2.blk hb).1; omega) (by omega) _ fun t h3 k23 w3 go3 hres => ?_
      have k03 : Keeps (fun c => c = oC) h h3 := ((kh.trans (Keeps.of s02 fun c => c = oC)).trans k23).mono fun c h => by rcases h with (h | h) | h <;> exact h
      have hst := find_step P l k (n - (j + 1)) (j : Int)
      have ef : n - j = (n - (j + 1)) + 1 := by omega
      have ej : ((j : Int) + 1) = ((j + 1 : Nat) : Int) := by omega
      rw [ef, hst, ej] at hfind
      cases hr : (comb k (n - (j + 1)) ((j + 1 : Nat) : Int)).find? (fun c => P ((l ++ [(j : Int)]) ++ c)) with
      | some c =>
        rw [hr] at hres hfind
        obtain ⟨rfl, hp1, hp2⟩ := hres
        simp -implicitDefEqProofs (maxSteps := 999999) (disch := first | with_reducible rfl | omega | (simp only [nA, nS, nD] <;> omega) | fail) only [go_sem, t0, t4, t5, t9, cf', cf1, cf2]
        refine q _ _ k03 w3 go3 ?_
        rw [hfind]
        exact ⟨rfl, by rw [List.append_assoc] at hp1; exact hp1, by rw [List.append_assoc] at hp2; exact hp2⟩
      | none =>
        rw [hr] at hres hfind
        have hres : t = false := hres
        subst hres
        simp -implicitDefEqProofs (maxSteps := 999999) (disch := first | with_reducible rfl | omega | (simp only [nA, nS, nD] <;> omega) | fail) only [go_sem, t0, t4, t5, t9, cf', cf1, cf2, wr_succ]
        exact ⟨_, _, rfl, k03, w3, go3, hfind, (by simp [ev_c, ev_put, t0] <;> rfl), (by simp [ev_c, ev_put, t4] <;> rfl), (by simp [ev_c, ev_put, t5] <;> rfl), (by simp [ev_c, ev_put] <;> rfl)⟩
    · rintro s ⟨tm, h', rfl, kh, wh, hgo', hfind, t0, t4, t5, t9⟩
      have cd' := kh.cells cd n3
      simp -implicitDefEqProofs (maxSteps := 999999) (disch := first | with_reducible rfl | omega | (simp only [nA, nS, nD] <;> omega) | fail) only [go_sem, t0, t4, t5, t9, cd', Int.lt_irrefl]
      refine q _ _ kh wh hgo' ?_
      rw [hfind, Nat.sub_self]
      exact rfl
theorem lists_ev {hb h : H} (hwb : hb.wf) {fv : V} {P : List Int → Bool} {Post : List Int → H → Prop} {oC : Nat} {k n : Nat} (hP : FnHolds hb fv oC n P Post) (h1 : fv.one = true) (ho : hb.next ≤ oC) (hs : hb.Sub h) (go : ∃ y, h.get oC = some (.cells .rw [y])) (hk : k ≤ 20) (hn : n ≤ 1000) (Q : V → H → Prop)
    (q : ∀ t h', Keeps (fun c => c = oC) h h' → h'.wf → (∃ y, h'.get oC = some (.cells .rw [y])) → LsRes P Post [] ((comb k n 0).find? P) t h' → Q (.bool t) h') : Ev fnG fastA (.fn 102 [] []) [.int .i64 (k : Int), .int .i64 (n : Int), fv] h Q := by
  obtain ⟨y0, go⟩ := go
  have lo := hs.wf _ _ go
  refine Ev_body (fd := c102) rfl rfl rfl ?_
  have sA : h.Sub ((((h.add (.cells .rw [.int .i64 (k : Int)])).add (.cells .rw [.int .i64 (n : Int)])).add (.cells .rw [fv])).add (.cells .rw [.fn 134 [] [.ptr h.next 0, .ptr (h.next + 1 + 1) 0, .ptr (h.next + 1) 0, .ptr (h.next + 1 + 1 + 1) 0]])) := (((((H.Sub.refl hs.wf).add _).add _).add _).add _)
  have ck : ((((h.add (.cells .rw [.int .i64 (k : Int)])).add (.cells .rw [.int .i64 (n : Int)])).add (.cells .rw [fv])).add (.cells .rw [.fn 134 [] [.ptr h.next 0, .ptr (h.next + 1 + 1) 0, .ptr (h.next + 1) 0, .ptr (h.next + 1 + 1 + 1) 0]])).cells h.next = some [.int .i64 (k : Int)] := by simp -implicitDefEqProofs (maxSteps := 999999) (disch := first | with_reducible rfl | omega | (simp only [nA, nS, nD] <;> omega) | fail) only [go_sem]
  have cn : ((((h.add (.cells .rw [.int .i64 (k : Int)])).add (.cells .rw [.int .i64 (n : Int)])).add (.cells .rw [fv])).add (.cells .rw [.fn 134 [] [.ptr h.next 0, .ptr (h.next + 1 + 1) 0, .ptr (h.next + 1) 0, .ptr (h.next + 1 + 1 + 1) 0]])).cells (h.next + 1) = some [.int .i64 (n : Int)] := by simp -implicitDefEqProofs (maxSteps := 999999) (disch := first | with_reducible rfl | omega | (simp only [nA, nS, nD] <;> omega) | fail) only [go_sem]
  have cf : ((((h.add (.cells .rw [.int .i64 (k : Int)])).add (.cells .rw [.int .i64 (n : Int)])).add (.cells .rw [fv])).add (.cells .rw [.fn 134 [] [.ptr h.next 0, .ptr (h.next + 1 + 1) 0, .ptr (h.next + 1) 0, .ptr (h.next + 1 + 1 + 1) 0]])).cells (h.next + 1 + 1) = some [fv] := by simp -implicitDefEqProofs (maxSteps := 999999) (disch := first | with_reducible rfl | omega | (simp only [nA, nS, nD] <;> omega) | fail) only [go_sem]
  have cg : ((((h.add (.cells .rw [.int .i64 (k : Int)])).add (.cells .rw [.int .i64 (n : Int)])).add (.cells .rw [fv])).add (.cells .rw [.fn 134 [] [.ptr h.next 0, .ptr (h.next + 1 + 1) 0, .ptr (h.next + 1) 0, .ptr (h.next + 1 + 1 + 1) 0]])).cells (h.next + 1 + 1 + 1) = some [.fn 134 [] [.ptr h.next 0, .ptr (h.next + 1 + 1) 0, .ptr (h.next + 1) 0, .ptr (h.next + 1 + 1 + 1) 0]] := by simp -implicitDefEqProofs (maxSteps := 999999) (disch := first | with_reducible rfl | omega | (simp only [nA, nS, nD] <;> omega) | fail) only [go_sem]
  simp -implicitDefEqProofs (maxSteps := 999999) (disch := first | with_reducible rfl | omega | (simp only [nA, nS, nD] <;> omega) | fail) only [c102, go_sem, h1, cells_one h1]
  generalize ((((h.add (.cells .rw [.int .i64 (k : Int)])).add (.cells .rw [.int .i64 (n : Int)])).add (.cells .rw [fv])).add (.cells .rw [.fn 134 [] [.ptr h.next 0, .ptr (h.next + 1 + 1) 0, .ptr (h.next + 1) 0, .ptr (h.next + 1 + 1 + 1) 0]])) = h5 at sA ck cn cf cg ⊢
  have hl := lists1_ev hwb hP ho (kC := h.next) (fC := h.next + 1 + 1) (nC := h.next + 1) (gC := h.next + 1 + 1 + 1) (by omega) (by omega) (by omega) (by omega) (many := k) (n := n) hk hn k h5 .nils [] 0 (by simp) (by simp) (hs.trans sA) ck cf cn cg ⟨y0, sA.get go⟩ ((OwnSl.nil (H.Sub.refl sA.wf) 1).sl (by simp)) (fun b hb => absurd hb (nblk b)) (Nat.zero_le _)
  refine hl _ fun t h6 k6 w6 go6 hres => ?_
  simp -implicitDefEqProofs (maxSteps := 999999) (disch := first | with_reducible rfl | omega | (simp only [nA, nS, nD] <;> omega) | fail) only [go_sem]
  exact q t h6 (((Keeps.of sA fun c => c = oC).trans k6).mono fun c h => by rcases h with h | h <;> exact h) w6 go6 (by simpa using hres)
theorem FnHolds.mono {hb h : H} {fv : V} {oC : Nat} {n : Nat} {P : List Int → Bool} {Post : List Int → H → Prop} (a : FnHolds hb fv oC n P Post) (s : hb.Sub h) : FnHolds h fv oC n P Post := fun l x h1 hl s1 => a l x h1 hl (s.trans s1)
end Go.Ab.Try
set_option linter.unusedSimpArgs false
set_option linter.unusedVariables false
namespace Go.Ab.Try
end Go.Ab.Try
set_option linter.unusedSimpArgs false
set_option linter.unusedVariables false
namespace Go.Ab.Try
end Go.Ab.Try
set_option linter.unusedSimpArgs false
set_option linter.unusedVariables false
namespace Go.Ab.Try
open Go.Ab.Silk (comb firstOf)
def PostL (oC : Nat) (l : List Int) (h : H) : Prop := ∃ y, h.get oC = some (.cells .rw [y]) ∧ SlAt h y 1 (l.map encI)
end Go.Ab.Try
set_option linter.unusedSimpArgs false
set_option linter.unusedVariables false
namespace Go.Ab.Try
open Go.Ab.Silk (comb)
def mostP (T : Int → Int → Bool) (O : List Int → Bool) (l : List Int) : Bool := O l && l.all fun p => l.all fun q => decide (p = q) || T p q
def lastOf (P : List Int → Bool) (n : Nat) : Nat → Option (List Int)
  | 0 => none
  | k + 1 => match (comb (k + 1) n 0).find? P with
    | some c => some c
    | none => lastOf P n k
def TestOk (hb : H) (tf : V) (n : Nat) (T : Int → Int → Bool) : Prop := ∀ a b : Int, 0 ≤ a ∧ a < (n : Int) → 0 ≤ b ∧ b < (n : Int) → PureA hb tf [.int .i64 a, .int .i64 b] (.bool (T a b))
def ListOk (hb : H) (f : V) (O : List Int → Bool) : Prop := ∀ (l : List Int) (x : V) (h1 : H), hb.Sub h1 → SlAt h1 x 1 (l.map encI) → ∀ R : V → H → Prop, (∀ h2, h1.Sub h2 → R (.bool (O l)) h2) → Ev fnG fastA f [x] h1 R
theorem most3_ev {hb : H} {tf : V} {n : Nat} {T : Int → Int → Bool} (hT : TestOk hb tf n T) {h : H} (s : hb.Sub h) {bP bT : Nat} {p : Int} (hp : 0 ≤ p ∧ p < (n : Int)) (gP : h.cells bP = some [.int .i64 p]) (gT : h.cells bT = some [tf]) {a : Int} (ha : 0 ≤ a ∧ a < (n : Int)) :
    PureA h (.fn 142 [] [.ptr bP 0, .ptr bT 0]) [.int .i64 a] (.bool (decide (p = a) || T p a)) := by
  intro h1 hs
  refine Ev.gen fun Q q => ?_
  refine Ev_body (fd := c142) rfl rfl rfl ?_
  by_cases e : p = a
  · have hd : decide (p = a) = true := decide_eq_true e
    simp -implicitDefEqProofs (maxSteps := 999999) (disch := first | with_reducible rfl | omega | (simp only [nA, nS, nD] <;> omega) | fail) only [c142, go_sem, hs.cells gP, hd]
    exact q _ _ ⟨by rw [hd]; rfl, H.Sub.refl hs.wf⟩
  · have hd : decide (p = a) = false := decide_eq_false e
    simp -implicitDefEqProofs (maxSteps := 999999) (disch := first | with_reducible rfl | omega | (simp only [nA, nS, nD] <;> omega) | fail) only [c142, go_sem, hs.cells gP, hs.cells gT, hd]
    refine (hT p a hp ha).use (s.trans hs) fun h2 s2 => ?_
    simp -implicitDefEqProofs (maxSteps := 999999) (disch := first | with_reducible rfl | omega | (simp only [nA, nS, nD] <;> omega) | fail) only [go_sem]
    exact q _ _ ⟨by rw [hd]; rfl, s2⟩
theorem most2_ev {hb : H} {tf : V} {n : Nat} {T : Int → Int → Bool} (hT : TestOk hb tf n T) {h : H} (s : hb.Sub h) {bL bT : Nat} {x : V} {l : List Int} (hl : ∀ a ∈ l, 0 ≤ a ∧ a < (n : Int)) (gL : h.cells bL = some [x]) (hx : SlAt h x 1 (l.map encI)) (gT : h.cells bT = some [tf]) {p : Int} (hp : 0 ≤ p ∧ p < (n : Int)) :
    PureA h (.fn 141 [] [.ptr bL 0, .ptr bT 0]) [.int .i64 p] (.bool (l.all fun q => decide (p = q) || T p q)) := by
  intro h1 hs
  refine Ev.gen fun Q q => ?_
  refine Ev_body (fd := c141) rfl rfl rfl ?_
  have s1 := (H.Sub.refl hs.wf).add (.cells .rw [.int .i64 p])
  have g1 : (h1.add (.cells .rw [.int .i64 p])).cells h1.next = some [.int .i64 p] := cells_add_new rfl
  have hsA := hs.trans s1
  have gLA := hsA.cells gL
  simp -implicitDefEqProofs (maxSteps := 999999) (disch := first | with_reducible rfl | omega | (simp only [nA, nS, nD] <;> omega) | fail) only [c141, go_sem, gLA, hs.cells gL]
  generalize h1.add (.cells .rw [.int .i64 p]) = h2 at s1 g1 hsA gLA ⊢
  try simp -implicitDefEqProofs (maxSteps := 999999) (disch := first | with_reducible rfl | omega | (simp only [nA, nS, nD] <;> omega) | fail) only [go_sem, gLA]
  refine (everyInt_ev (p := fun q => decide (p = q) || T p q) s1.wf (hx.mono hsA) fun a ha => most3_ev hT (s.trans hsA) hp g1 (hsA.cells gT) (hl a ha)).mono fun u h3 hu => ?_
  obtain ⟨rfl, s3⟩ := hu
  simp -implicitDefEqProofs (maxSteps := 999999) (disch := first | with_reducible rfl | omega | (simp only [nA, nS, nD] <;> omega) | fail) only [go_sem]
  exact q _ _ ⟨rfl, s1.trans s3⟩
theorem most1_holds {hb : H} (hwb : hb.wf) {tf okf : V} {n : Nat} {T : Int → Int → Bool} {O : List Int → Bool} (hT : TestOk hb tf n T) (hO : ListOk hb okf O) {oC bO bT : Nat} (ho : hb.next ≤ oC) (gO : hb.cells bO = some [okf]) (gT : hb.cells bT = some [tf]) :
    FnHolds hb (.fn 140 [] [.ptr oC 0, .ptr bO 0, .ptr bT 0]) oC n (mostP T O) (PostL oC) := by
  intro l x h1 hlr s1 hx nx ⟨y0, go⟩ R r
  have hx1 := hx.one
  have lo := s1.wf _ _ go
  have sA := (H.Sub.refl s1.wf).add (.cells .rw [x])
  have gA : (h1.add (.cells .rw [x])).cells h1.next = some [x] := cells_add_new rfl
  have goA := sA.get go
  have kS := Keeps.set (h1.add (.cells .rw [x])) oC (.cells .rw [x])
  have wS := H.wf_set sA.wf (.cells .rw [x]) goA
  have sS : hb.Sub ((h1.add (.cells .rw [x])).set oC (.cells .rw [x])) := kS.sub (s1.trans sA) hwb (fun c hc => by omega) wS
  have axS : SlAt ((h1.add (.cells .rw [x])).set oC (.cells .rw [x])) x 1 (l.map encI) := SlAt_keep2 (hx.mono sA) kS (fun _ => nx)
  have gS : ((h1.add (.cells .rw [x])).set oC (.cells .rw [x])).get oC = some (.cells .rw [x]) := get_set_same rfl
  have gLS : ((h1.add (.cells .rw [x])).set oC (.cells .rw [x])).cells h1.next = some [x] := kS.cells gA (by omega)
  refine Ev_body (fd := c140) rfl rfl rfl ?_
  have gOS := sS.cells gO
  have gTS := sS.cells gT
  simp -implicitDefEqProofs (maxSteps := 999999) (disch := first | with_reducible rfl | omega | (simp only [nA, nS, nD] <;> omega) | fail) only [c140, go_sem, go, hx1, cells_one hx1]
  have kall := (Keeps.of sA fun c => c = oC).trans kS
  generalize (h1.add (.cells .rw [x])).set oC (.cells .rw [x]) = h2 at kS wS sS axS gS gLS gOS gTS kall ⊢
  generalize h1.next = bL at gLS ⊢
  simp -implicitDefEqProofs (maxSteps := 999999) (disch := first | with_reducible rfl | omega | (simp only [nA, nS, nD] <;> omega) | fail) only [go_sem, gOS, gLS]
  refine hO l x h2 sS axS _ fun h3 s3 => ?_
  cases hol : O l with
  | false =>
    have hP : mostP T O l = false := by unfold mostP; rw [hol]; rfl
    rw [hP] at r
    simp -implicitDefEqProofs (maxSteps := 999999) (disch := first | with_reducible rfl | omega | (simp only [nA, nS, nD] <;> omega) | fail) only [go_sem]
    exact r h3 ((kall.trans (Keeps.of s3 fun c => c = oC)).mono fun c h => by rcases h with (h | h) | h <;> exact h) s3.wf ⟨x, s3.get gS⟩ (fun h => by cases h)
  | true =>
    have hP : mostP T O l = l.all fun p => l.all fun q => decide (p = q) || T p q := by unfold mostP; rw [hol]; rfl
    rw [hP] at r
    simp -implicitDefEqProofs (maxSteps := 999999) (disch := first | with_reducible rfl | omega | (simp only [nA, nS, nD] <;> omega) | fail) only [go_sem, s3.cells gLS]
    refine (everyInt_ev (p := fun p => l.all fun q => decide (p = q) || T p q) s3.wf (axS.mono s3) fun a ha => most2_ev hT (sS.trans s3) hlr (s3.cells gLS) (axS.mono s3) (s3.cells gTS) (hlr a ha)).mono fun u h4 hu => ?_
    obtain ⟨rfl, s4⟩ := hu
    simp -implicitDefEqProofs (maxSteps := 999999) (disch := first | with_reducible rfl | omega | (simp only [nA, nS, nD] <;> omega) | fail) only [go_sem]
    have s34 := s3.trans s4
    exact r h4 ((kall.trans (Keeps.of s34 fun c => c = oC)).mono fun c h => by rcases h with (h | h) | h <;> exact h) s34.wf ⟨x, s34.get gS⟩ (fun _ => ⟨x, s34.get gS, axS.mono s34⟩)
theorem TestOk.mono {hb h : H} {tf : V} {n : Nat} {T : Int → Int → Bool} (a : TestOk hb tf n T) (s : hb.Sub h) : TestOk h tf n T := fun x y hx hy => (a x y hx hy).mono s
theorem ListOk.mono {hb h : H} {f : V} {O : List Int → Bool} (a : ListOk hb f O) (s : hb.Sub h) : ListOk h f O := fun l x h1 s1 => a l x h1 (s.trans s1)
set_option maxHeartbeats 1000000 in
theorem most_ev {h : H} {d : Nat} {t : Tb} (hw : h.wf) (hd : DkAt h d t) (g : Good t) {tf okf : V} {T : Int → Int → Bool} {O : List Int → Bool} (h1 : tf.one = true) (h2 : okf.one = true) (hT : TestOk h tf t.pieces.length T) (hO : ListOk h okf O) (Q : V → H → Prop)
    (q : ∀ y h', h.Sub h' → (match lastOf (mostP T O) t.pieces.length t.pieces.length with | some c => SlAt h' y 1 (c.map encI) | none => y = .nils) → Q y h') : Ev fnG fastA (.fn 106 [] []) [.ptr d 0, .agg [tf], okf] h Q := by
  obtain ⟨E, L, P, gd, aE, aL, aP⟩ := id hd
  have gp := g.pieces
  have hlP := aP.lenE
  have ld := hw _ _ gd
  refine Ev_body (fd := c106) rfl rfl rfl ?_
  have s6 : h.Sub ((h.add (.cells .rw [tf])).add (.cells .rw [okf])) := ((H.Sub.refl hw).add _).add _
  have c4 : ((h.add (.cells .rw [tf])).add (.cells .rw [okf])).cells h.next = some [tf] := by simp -implicitDefEqProofs (maxSteps := 999999) (disch := first | with_reducible rfl | omega | (simp only [nA, nS, nD] <;> omega) | fail) only [go_sem]
  have c5 : ((h.add (.cells .rw [tf])).add (.cells .rw [okf])).cells (h.next + 1) = some [okf] := by simp -implicitDefEqProofs (maxSteps := 999999) (disch := first | with_reducible rfl | omega | (simp only [nA, nS, nD] <;> omega) | fail) only [go_sem]
  have n6 : ((h.add (.cells .rw [tf])).add (.cells .rw [okf])).next = h.next + 2 := by simp only [H.next_add]
  have hH := most1_holds s6.wf (hT.mono s6) (hO.mono s6) (oC := h.next + 2) (by omega) c5 c4
  have s7 := (H.Sub.refl s6.wf).add (.cells .rw [.nils])
  have go7 : (((h.add (.cells .rw [tf])).add (.cells .rw [okf])).add (.cells .rw [.nils])).get (h.next + 2) = some (.cells .rw [.nils]) := get_add_new n6.symm
  have gd7 := s7.get (s6.get gd)
  have s07 := s6.trans s7
  simp -implicitDefEqProofs (maxSteps := 999999) (disch := first | with_reducible rfl | omega | (simp only [nA, nS, nD] <;> omega) | fail) only [c106, go_sem, h1, h2, cells_one h1, cells_one h2, gd, cells_of gd, hlP]
  generalize ((h.add (.cells .rw [tf])).add (.cells .rw [okf])).add (.cells .rw [.nils]) = h7 at s7 go7 gd7 s07 ⊢
  generalize (h.add (.cells .rw [tf])).add (.cells .rw [okf]) = h6 at s6 c4 c5 hH s7 n6
  refine W_loop (fun kk s => ∃ tm h', s = ⟨tm, h', []⟩ ∧ Keeps (fun c => c = h.next + 2) h7 h' ∧ h'.wf ∧ (∃ y, h'.get (h.next + 2) = some (.cells .rw [y])) ∧ kk ≤ t.pieces.length ∧ lastOf (mostP T O) t.pieces.length t.pieces.length = lastOf (mostP T O) t.pieces.length kk ∧
      (Opd.t 0).ev tm = .ptr d 0 ∧ (Opd.t 4).ev tm = .ptr h.next 0 ∧ (Opd.t 5).ev tm = .ptr (h.next + 1) 0 ∧ (Opd.t 7).ev tm = .ptr (h.next + 2) 0 ∧ (Opd.t 8).ev tm = .int .i64 (kk : Int))
    ?_ t.pieces.length _ ⟨_, _, rfl, Keeps.refl _ _, s7.wf, ⟨_, go7⟩, Nat.le_refl _, rfl, (by simp [ev_c, ev_put] <;> rfl), (by simp [ev_c, ev_put] <;> rfl), (by simp [ev_c, ev_put] <;> rfl), (by simp [ev_c, ev_put] <;> rfl), (by simp [ev_c, ev_put] <;> rfl)⟩
  rintro kk s ⟨tm, h', rfl, k7, wh, go, hkn, hlo, t0, t4, t5, t7, t8⟩
  have sF : h.Sub h' := k7.sub s07 hw (fun c hc => by omega) wh
  cases kk with
  | zero =>
    have hz : ¬ (0 : Int) < ((0 : Nat) : Int) := by omega
    simp -implicitDefEqProofs (maxSteps := 999999) (disch := first | with_reducible rfl | omega | (simp only [nA, nS, nD] <;> omega) | fail) only [go_sem, t0, t4, t5, t7, t8, hz]
    exact q _ _ sF (by rw [hlo]; rfl)
  | succ kk =>
    have hz : (0 : Int) < ((kk + 1 : Nat) : Int) := by omega
    have gd' := cells_of (k7.2 _ _ gd7 (by omega))
    have s6' : h6.Sub h' := k7.sub s7 s6.wf (fun c hc => by omega) wh
    simp -implicitDefEqProofs (maxSteps := 999999) (disch := first | with_reducible rfl | omega | (simp only [nA, nS, nD] <;> omega) | fail) only [go_sem, t0, t4, t5, t7, t8, hz, gd', hlP]
    refine lists_ev s6.wf hH rfl (by omega) s6' go (by omega) (by omega) _ fun tt h9 k9 w9 go9 hres => ?_
    have k79 : Keeps (fun c => c = h.next + 2) h7 h9 := (k7.trans k9).mono fun c h => by rcases h with h | h <;> exact h
    have hlo2 : lastOf (mostP T O) t.pieces.length (kk + 1) = match (comb (kk + 1) t.pieces.length 0).find? (mostP T O) with | some c => some c | none => lastOf (mostP T O) t.pieces.length kk := rfl
    rw [hlo2] at hlo
    cases hr : (comb (kk + 1) t.pieces.length 0).find? (mostP T O) with
    | some c =>
      rw [hr] at hres hlo
      obtain ⟨rfl, _, y, gy, ay⟩ := hres
      simp -implicitDefEqProofs (maxSteps := 999999) (disch := first | with_reducible rfl | omega | (simp only [nA, nS, nD] <;> omega) | fail) only [go_sem, t0, t4, t5, t7, t8, cells_of gy]
      exact q _ _ (k79.sub s07 hw (fun c hc => by omega) w9) (by rw [hlo]; exact ay)
    | none =>
      rw [hr] at hres hlo
      have hres : tt = false := hres
      subst hres
      have e1 : ((kk + 1 : Nat) : Int) - 1 = (kk : Int) := by omega
      simp -implicitDefEqProofs (maxSteps := 999999) (disch := first | with_reducible rfl | omega | (simp only [nA, nS, nD] <;> omega) | fail) only [go_sem, t0, t4, t5, t7, t8, wr_in, e1]
      exact ⟨kk, by omega, _, _, rfl, k79, w9, go9, by omega, hlo, (by simp [ev_c, ev_put, t0] <;> rfl), (by simp [ev_c, ev_put, t4] <;> rfl), (by simp [ev_c, ev_put, t5] <;> rfl), (by simp [ev_c, ev_put, t7] <;> rfl), (by simp [ev_c, ev_put] <;> rfl)⟩
end Go.Ab.Try
set_option linter.unusedSimpArgs false
set_option linter.unusedVariables false
namespace Go.Ab.Try
open Go.Ab.Silk (comb)
theorem Ev_bound {f : FuncId} {a : V} {args : List V} {h : H} {Q : V → H → Prop} (he : Ev fnG fastA (.fn f [] []) (a :: args) h Q) : Ev fnG fastA (.fn f [a] []) args h Q := by
  obtain ⟨n, v, h', e, q⟩ := he
  refine ⟨n, v, h', ?_, q⟩
  cases n with
  | zero => exact e
  | succ n => exact e
def mT (t : Tb) (a b : Int) : Bool := matchB t a.toNat b.toNat
def LsOut (h' : H) (y : V) (r : Option (List Int)) : Prop := match r with | some c => SlAt h' y 1 (c.map encI) | none => y = .nils
def grE (t : Tb) (p : Int) : Int := if check t ≠ 0 then check t else if isPc t p = false then 1 else 0
def grR (t : Tb) (p : Int) : Option (List Int) := if grE t p = 0 then lastOf (mostP (mT t) fun l => l.any fun r => decide (p = r)) t.pieces.length t.pieces.length else none
theorem matchT_ok {hb : H} {d : Nat} {t : Tb} (hd : DkAt hb d t) (g : Good t) : TestOk hb (.fn 88 [.ptr d 0] []) t.pieces.length (mT t) := by
  intro a c ha hc h1 hs
  obtain ⟨i, rfl⟩ := Int.eq_ofNat_of_zero_le ha.1
  obtain ⟨k, rfl⟩ := Int.eq_ofNat_of_zero_le hc.1
  refine Ev.gen fun Q q => ?_
  refine Ev_bound ?_
  refine match_ev hs.wf (hd.mono hs) g (by omega) (by omega) _ fun h2 s2 => ?_
  exact q _ _ ⟨rfl, s2⟩
theorem greatest1_ok {hb : H} {b : Nat} {p : Int} (hb3 : hb.cells b = some [.int .i64 p]) : ListOk hb (.fn 111 [] [.ptr b 0]) fun l => l.any fun r => decide (p = r) := by
  intro l x h1 s1 hx R r
  refine Ev_body (fd := c111) rfl rfl rfl ?_
  simp -implicitDefEqProofs (maxSteps := 999999) (disch := first | with_reducible rfl | omega | (simp only [nA, nS, nD] <;> omega) | fail) only [c111, go_sem, s1.cells hb3]
  refine hasInt_ev s1.wf hx p _ fun h2 s2 => ?_
  simp -implicitDefEqProofs (maxSteps := 999999) (disch := first | with_reducible rfl | omega | (simp only [nA, nS, nD] <;> omega) | fail) only [go_sem]
  exact r _ s2
theorem Greatest_ev {h : H} {v : V} {t : Tb} (hw : h.wf) (ht : TbIs h v t) (p : Int) (Q : V → H → Prop)
    (q : ∀ y h', h.Sub h' → LsOut h' y (grR t p) → Q (.tup [y, .int .i64 (grE t p)]) h') : Ev fnG fastA (.fn 54 [] []) [v, .int .i64 p] h Q := by
  have ht0 := ht
  obtain ⟨E, L, P, rfl, aE, aL, aP⟩ := ht
  refine Ev_body (fd := c54) rfl rfl rfl ?_
  have s1 : h.Sub ((h.add (.cells .rw [E, L, P])).add (.cells .rw [.int .i64 p])) := (by repeat (first | assumption | exact H.Sub.refl (by assumption) | refine H.Sub.add ?_ _ | refine H.Sub.set ?_ (by first | omega | (simp only [H.next_add, H.next_set, H.next_del] <;> omega)) (by first | omega | (simp only [H.next_add, H.next_set, H.next_del] <;> omega)) (by assumption) _))
  have g2 : ((h.add (.cells .rw [E, L, P])).add (.cells .rw [.int .i64 p])).cells h.next = some [E, L, P] := by simp -implicitDefEqProofs (maxSteps := 999999) (disch := first | with_reducible rfl | omega | (simp only [nA, nS, nD] <;> omega) | fail) only [go_sem]
  have g3 : ((h.add (.cells .rw [E, L, P])).add (.cells .rw [.int .i64 p])).cells (h.next + 1) = some [.int .i64 p] := by simp -implicitDefEqProofs (maxSteps := 999999) (disch := first | with_reducible rfl | omega | (simp only [nA, nS, nD] <;> omega) | fail) only [go_sem]
  have bad : ∀ h', h.Sub h' → ∀ e : Int, e ≠ 0 → grE t p = e → Q (.tup [.nils, .int .i64 e]) h' := fun h' s e he e1 => by
    have q' := q .nils _ s (by unfold grR; rw [e1, if_neg he]; exact rfl)
    rw [e1] at q'; exact q'
  simp -implicitDefEqProofs (maxSteps := 999999) (disch := first | with_reducible rfl | omega | (simp only [nA, nS, nD] <;> omega) | fail) only [c54, go_sem]
  generalize ((h.add (.cells .rw [E, L, P])).add (.cells .rw [.int .i64 p])) = h4 at s1 g2 g3 ⊢
  refine opened_use s1.wf (ht0.mono s1) _ (fun h5 s45 c => ?_) fun h5 d s15 c g hd => ?_
  · simp -implicitDefEqProofs (maxSteps := 999999) (disch := first | with_reducible rfl | omega | (simp only [nA, nS, nD] <;> omega) | fail) only [go_sem, ne_eq, c, not_false_eq_true, s45.cells g2]
    exact bad _ (s1.trans s45) _ c (by unfold grE; rw [if_pos c])
  have s5 := s1.trans s15
  simp -implicitDefEqProofs (maxSteps := 999999) (disch := first | with_reducible rfl | omega | (simp only [nA, nS, nD] <;> omega) | fail) only [go_sem, ne_eq, not_true_eq_false, s15.cells g2, s15.cells g3]
  refine Ev_bound ?_
  refine piece_ev s5.wf (ht0.mono s5) p _ fun h6 s6 => ?_
  have s16 := s15.trans s6
  cases cp : isPc t p
  · simp -implicitDefEqProofs (maxSteps := 999999) (disch := first | with_reducible rfl | omega | (simp only [nA, nS, nD] <;> omega) | fail) only [go_sem, Bool.not_false]
    exact bad _ (s1.trans s16) 1 (by decide) (by unfold grE; rw [if_neg (by simp [c]), if_pos cp])
  have e1 : grE t p = 0 := by unfold grE; rw [if_neg (by simp [c]), if_neg (by simp [cp])]
  have hd6 := hd.mono s6
  have er : grR t p = lastOf (mostP (mT t) fun l => l.any fun r => decide (p = r)) t.pieces.length t.pieces.length := by unfold grR; rw [if_pos e1]
  simp -implicitDefEqProofs (maxSteps := 999999) (disch := first | with_reducible rfl | omega | (simp only [nA, nS, nD] <;> omega) | fail) only [go_sem, Bool.not_true]
  refine most_ev s6.wf hd6 g rfl rfl (matchT_ok hd6 g) (greatest1_ok (s16.cells g3)) _ fun y h7 s7 hy => ?_
  simp -implicitDefEqProofs (maxSteps := 999999) (disch := first | with_reducible rfl | omega | (simp only [nA, nS, nD] <;> omega) | fail) only [go_sem]
  have q' := q y _ (s1.trans (s16.trans s7)) (by rw [er]; exact hy)
  rw [e1] at q'; exact q'
end Go.Ab.Try
set_option linter.unusedSimpArgs false
set_option linter.unusedVariables false
namespace Go.Ab.Try
noncomputable def inK (t : Tb) (q : Nat) : Nat → Nat
  | 0 => 0
  | c + 1 => inK t q c + if before t c = false ∧ rch t c q = true then 1 else 0
noncomputable def sumK (t : Tb) (m : Nat) : Nat → Nat
  | 0 => 0
  | c + 1 => sumK t m c + if before t c = false then (memK t c m).length else 0
theorem memK_succ_len (t : Tb) (c m : Nat) : (memK t c (m + 1)).length = (memK t c m).length + if rch t c m = true then 1 else 0 := by
  simp only [memK, List.length_append]
  split <;> rfl
theorem sumK_succ (t : Tb) (m : Nat) : ∀ c, sumK t (m + 1) c = sumK t m c + inK t m c
  | 0 => rfl
  | c + 1 => by
    have ih := sumK_succ t m c
    simp only [sumK, inK, ih, memK_succ_len]
    by_cases hb : before t c = false
    · by_cases hr : rch t c m = true
      · rw [if_pos hb, if_pos hb, if_pos hr, if_pos ⟨hb, hr⟩]; omega
      · rw [if_pos hb, if_pos hb, if_neg hr, if_neg (fun h => hr h.2)]; omega
    · rw [if_neg hb, if_neg hb, if_neg (fun h => hb h.1)]; omega
theorem inK_one {t : Tb} (g : Good t) {q : Nat} (hq : q < t.pieces.length) : inK t q t.pieces.length = 1 := by
  obtain ⟨r, hr, hmin⟩ := least (P := fun r => r < t.pieces.length ∧ rch t r q = true) ⟨q, hq, rch_refl t q⟩
  have hbr : before t r = false := by
    unfold before
    rw [List.any_eq_false]
    intro j hj h
    have hj := List.mem_range.1 hj
    have := hmin j ⟨by have := hr.1; omega, rch_trans h hr.2⟩
    omega
  have hbo : ∀ c, c < t.pieces.length → rch t c q = true → c ≠ r → before t c = true := fun c hc h hne => by
    have hle := hmin c ⟨hc, h⟩
    exact List.any_eq_true.2 ⟨r, List.mem_range.2 (by omega), rch_trans hr.2 (rch_symm g hq h)⟩
  have key : ∀ n, n ≤ t.pieces.length → inK t q n = if r < n then 1 else 0 := fun n => by
    induction n with
    | zero => intro _; rfl
    | succ n ih =>
      intro hn
      rw [inK, ih (by omega)]
      by_cases e : n = r
      · subst e; rw [if_neg (by omega), if_pos ⟨hbr, hr.2⟩, if_pos (by omega)]
      · have : ¬ (before t n = false ∧ rch t n q = true) := fun h => by
          have := hbo n (by omega) h.2 e
          rw [this] at h; cases h.1
        rw [if_neg this]
        by_cases h2 : r < n
        · rw [if_pos h2, if_pos (by omega)]
        · rw [if_neg h2, if_neg (by omega)]
  rw [key _ (Nat.le_refl _), if_pos hr.1]
theorem sumK_all {t : Tb} (g : Good t) : ∀ m, m ≤ t.pieces.length → sumK t m t.pieces.length = m
  | 0, _ => by
    have : ∀ c, sumK t 0 c = 0 := fun c => by
      induction c with
      | zero => rfl
      | succ c ih => simp [sumK, ih, memK]
    exact this _
  | m + 1, h => by rw [sumK_succ, sumK_all g m (by omega), inK_one g (by omega)]
theorem kinK_sum (t : Tb) : ∀ c, ((kinK t c).map List.length).sum = sumK t t.pieces.length c
  | 0 => rfl
  | c + 1 => by
    have ih := kinK_sum t c
    simp only [kinK, sumK, List.map_append, List.sum_append, ih]
    cases hb : before t c <;> simp
theorem kin_sum {t : Tb} (g : Good t) : ((kinK t t.pieces.length).map List.length).sum = t.pieces.length := by
  rw [kinK_sum, sumK_all g _ (Nat.le_refl _)]
end Go.Ab.Try
set_option linter.unusedSimpArgs false
set_option linter.unusedVariables false
namespace Go.Ab.Try
theorem grd_step {n : Nat} {M : Nat → Nat → Bool} {to : Nat} {f : Nat → Option Nat} (sy : ∀ p q, M p q = M q p) (D : IsD n M to f) {k v : Nat} (h : f v = some (k + 1)) : ∃ p, p < n ∧ f p = some k ∧ M v p = true ∧ grd n M f (k + 1) v = p :: grd n M f k p := by
  obtain ⟨q0, hq0, hq1, hq2⟩ := D.step v k h
  obtain ⟨p, hp, hno⟩ := least (P := fun p => p < n ∧ f p = some k ∧ M v p = true) ⟨q0, hq0, hq1, by rw [sy]; exact hq2⟩
  refine ⟨p, hp.1, hp.2.1, hp.2.2, ?_⟩
  have hf := find_first (n := n) (P := fun p => decide (f p = some k) && M v p) hp.1 (by simp [hp.2.1, hp.2.2]) fun q hq => by
    cases hc : (decide (f q = some k) && M v q) with
    | false => rfl
    | true =>
      simp only [Bool.and_eq_true, decide_eq_true_eq] at hc
      have := hno q ⟨by have := hp.1; omega, hc.1, hc.2⟩
      omega
  simp only [grd, hf]
def Way (M : Nat → Nat → Bool) : List Nat → Prop
  | [] => True
  | [_] => True
  | a :: b :: l => M a b = true ∧ Way M (b :: l)
theorem grd_way {n : Nat} {M : Nat → Nat → Bool} {to : Nat} {f : Nat → Option Nat} (sy : ∀ p q, M p q = M q p) (D : IsD n M to f) : ∀ {k v}, f v = some k → (grd n M f k v).length = k ∧ (∀ x ∈ v :: grd n M f k v, x < n) ∧ Way M (v :: grd n M f k v) ∧ (v :: grd n M f k v).getLast? = some to
  | 0, v, h => by
    have e := D.zero v h
    subst e
    exact ⟨rfl, fun x hx => by simp [grd] at hx; subst hx; exact D.lt _ _ h, trivial, rfl⟩
  | k + 1, v, h => by
    obtain ⟨p, h1, h2, h3, h4⟩ := grd_step sy D h
    obtain ⟨i1, i2, i3, i4⟩ := grd_way sy D h2
    rw [h4]
    refine ⟨by simp [i1], fun x hx => ?_, ⟨h3, i3⟩, ?_⟩
    · rcases List.mem_cons.1 hx with rfl | hx
      · exact D.lt _ _ h
      · exact i2 x hx
    · rw [List.getLast?_cons_cons]; exact i4
theorem Way.at {M : Nat → Nat → Bool} : ∀ {l : List Nat}, Way M l → ∀ i (h : i + 1 < l.length), M l[i] l[i + 1] = true
  | [], _, i, h => by simp at h
  | [a], _, i, h => by simp at h
  | a :: b :: l, ⟨h1, h2⟩, 0, _ => h1
  | a :: b :: l, ⟨h1, h2⟩, i + 1, h => Way.at h2 i (by simpa using h)
end Go.Ab.Try
set_option linter.unusedSimpArgs false
set_option linter.unusedVariables false
namespace Go.Ab.Try
theorem memK_in {t : Tb} {p : Nat} : ∀ {n} {x : Int}, x ∈ memK t p n → 0 ≤ x ∧ x < (n : Int)
  | 0, x, h => by simp [memK] at h
  | n + 1, x, h => by
    simp only [memK, List.mem_append] at h
    rcases h with h | h
    · have := memK_in h; omega
    · by_cases c : rch t p n = true
      · rw [if_pos c, List.mem_singleton] at h; omega
      · rw [if_neg c] at h; simp at h
theorem memK_up (t : Tb) (p : Nat) : ∀ n, (memK t p n).Pairwise (· < ·)
  | 0 => List.Pairwise.nil
  | n + 1 => by
    have ih := memK_up t p n
    simp only [memK]
    rw [List.pairwise_append]
    refine ⟨ih, ?_, fun x hx y hy => ?_⟩
    · split <;> simp
    · have := memK_in hx
      by_cases c : rch t p n = true
      · rw [if_pos c, List.mem_singleton] at hy; omega
      · rw [if_neg c] at hy; simp at hy
theorem kinK_heads {t : Tb} (g : Good t) : ∀ {c}, c ≤ t.pieces.length → (∀ l ∈ kinK t c, ∃ x r, l = x :: r ∧ 0 ≤ x ∧ x < (c : Int)) ∧ (kinK t c).Pairwise fun l r => ∀ x y, l.head? = some x → r.head? = some y → x < y
  | 0, _ => ⟨fun l hl => by simp [kinK] at hl, List.Pairwise.nil⟩
  | c + 1, hc => by
    obtain ⟨i1, i2⟩ := kinK_heads (t := t) g (c := c) (by omega)
    obtain ⟨x0, r0, h1, h2⟩ := memK_head g (show c < t.pieces.length by omega)
    simp only [kinK]
    by_cases hb : before t c = true
    · rw [if_pos hb, List.append_nil]
      exact ⟨fun l hl => by
        obtain ⟨x, r, e, l1, l2⟩ := i1 l hl
        exact ⟨x, r, e, l1, by omega⟩, i2⟩
    · have hbf : before t c = false := by simpa using hb
      have hx := h2.2 hbf
      rw [if_neg hb]
      refine ⟨fun l hl => ?_, ?_⟩
      · rcases List.mem_append.1 hl with hl | hl
        · obtain ⟨x, r, e, l1, l2⟩ := i1 l hl
          exact ⟨x, r, e, l1, by omega⟩
        · rw [List.mem_singleton] at hl
          subst hl
          exact ⟨x0, r0, h1, by omega, by omega⟩
      · rw [List.pairwise_append]
        refine ⟨i2, by simp, fun l hl r hr x y ex ey => ?_⟩
        rw [List.mem_singleton] at hr
        subst hr
        rw [h1] at ey
        obtain ⟨x', r', e, l1, l2⟩ := i1 l hl
        rw [e] at ex
        simp at ex ey
        omega
theorem dst_near {t : Tb} (g : Good t) {s p q k : Nat} (hs : s < t.pieces.length) (hp : p < t.pieces.length) (hq : q < t.pieces.length) (h : dst t s p = some k) (hm : MM t p q = true) : ∃ j, dst t s q = some j ∧ j ≤ k + 1 ∧ k ≤ j + 1 := by
  obtain ⟨j, e, l⟩ := (dst_isD hs).close q p k hq h hm
  obtain ⟨i, e2, l2⟩ := (dst_isD hs).close p q j hp e (by rw [MM_comm g]; exact hm)
  rw [h] at e2; cases e2
  exact ⟨j, e, l, l2⟩
theorem dst_zero {t : Tb} {s p : Nat} (hs : s < t.pieces.length) : dst t s p = some 0 ↔ p = s := by
  constructor
  · intro h; exact (dst_isD hs).zero p h
  · intro h; subst h; exact (dst_isD hs).src
theorem dst_some_rch {t : Tb} {s p : Nat} (hs : s < t.pieces.length) (hp : p < t.pieces.length) : (dst t s p).isSome = rch t s p := (dst_isD hs).rch hp
theorem kin_share {t : Tb} (g : Good t) {p q : Nat} (hp : p < t.pieces.length) (hq : q < t.pieces.length) : ((kinK t t.pieces.length).any fun l => (l.any fun r => decide ((p : Int) = r)) && l.any fun r => decide ((q : Int) = r)) = rch t p q := by
  rw [Bool.eq_iff_iff, List.any_eq_true]
  constructor
  · rintro ⟨l, hl, h⟩
    rw [Bool.and_eq_true] at h
    obtain ⟨x, hx, ex⟩ := List.any_eq_true.1 h.1
    obtain ⟨y, hy, ey⟩ := List.any_eq_true.1 h.2
    rw [← of_decide_eq_true ex] at hx
    rw [← of_decide_eq_true ey] at hy
    obtain ⟨r, hr, rfl⟩ := kinK_rep hl
    exact rch_trans (rch_symm g hp (mem_memK.1 hx).2) (mem_memK.1 hy).2
  · intro h
    obtain ⟨l, hl, hx⟩ := kin_at g hp
    obtain ⟨r, hr, rfl⟩ := kinK_rep hl
    refine ⟨_, hl, ?_⟩
    rw [Bool.and_eq_true]
    exact ⟨List.any_eq_true.2 ⟨_, hx, by simp⟩, List.any_eq_true.2 ⟨_, mem_memK.2 ⟨hq, rch_trans (mem_memK.1 hx).2 h⟩, by simp⟩⟩
end Go.Ab.Try
set_option linter.unusedSimpArgs false
set_option linter.unusedVariables false
namespace Go.Ab.Try
theorem chained1_ev {l : List Int} {h : H} {v : V} {bp bt : Nat} {p r : Int} (hp : h.cells bp = some [.int .i64 p]) (hr : h.cells bt = some [.int .i64 r]) (hv : SlAt h v 1 (l.map encI)) : PureA h (.fn 51 [] [.ptr bp 0, .ptr bt 0]) [v] (.bool ((l.any fun x => decide (p = x)) && l.any fun x => decide (r = x))) := by
  intro h1 hs
  refine Ev.gen fun Q q => ?_
  refine Ev_body (fd := c51) rfl rfl rfl ?_
  simp -implicitDefEqProofs (maxSteps := 999999) (disch := first | with_reducible rfl | omega | (simp only [nA, nS, nD] <;> omega) | fail) only [c51, go_sem, hs.cells hp]
  refine hasInt_ev hs.wf (hv.mono hs) p _ fun h2 s2 => ?_
  cases hc : l.any fun x => decide (p = x) with
  | false =>
    simp -implicitDefEqProofs (maxSteps := 999999) (disch := first | with_reducible rfl | omega | (simp only [nA, nS, nD] <;> omega) | fail) only [go_sem]
    exact q _ _ ⟨by rw [hc]; rfl, s2⟩
  | true =>
    simp -implicitDefEqProofs (maxSteps := 999999) (disch := first | with_reducible rfl | omega | (simp only [nA, nS, nD] <;> omega) | fail) only [go_sem, (hs.trans s2).cells hr]
    refine hasInt_ev s2.wf (hv.mono (hs.trans s2)) r _ fun h3 s3 => ?_
    simp -implicitDefEqProofs (maxSteps := 999999) (disch := first | with_reducible rfl | omega | (simp only [nA, nS, nD] <;> omega) | fail) only [go_sem]
    exact q _ _ ⟨by rw [hc, Bool.true_and], s2.trans s3⟩
theorem anyBoth_ev {h0 h : H} {x : V} {ls : List (List Int)} {bp bt : Nat} {p r : Int} (a : LsOwn h0 h x (ls.map fun l => l.map encI)) (hl : ls.length ≤ 1000) (hll : ∀ l ∈ ls, l.length ≤ 1000) (hp : h.cells bp = some [.int .i64 p]) (hr : h.cells bt = some [.int .i64 r]) (Q : V → H → Prop)
    (q : ∀ h', h.Sub h' → Q (.bool (ls.any fun l => (l.any fun x => decide (p = x)) && l.any fun x => decide (r = x))) h') :
    Ev fnG fastA (.fn 50 [] []) [x, .fn 51 [] [.ptr bp 0, .ptr bt 0]] h Q := by
  obtain ⟨xs, a1, a2, a3⟩ := a
  rw [List.length_map] at a2
  have ez : xs.map (fun v => [v]) = (xs.zip ls).map fun e => [e.1] := by
    conv => lhs; rw [← List.map_fst_zip (l₁ := xs) (l₂ := ls) (by omega), List.map_map]
    rfl
  have sx := a1.sl (by simp only [List.length_map]; omega)
  rw [ez] at sx
  have ea : (ls.any fun l => (l.any fun x => decide (p = x)) && l.any fun x => decide (r = x)) = (xs.zip ls).any fun e => (e.2.any fun x => decide (p = x)) && e.2.any fun x => decide (r = x) := by
    conv => lhs; rw [← List.map_snd_zip (l₁ := xs) (l₂ := ls) (by omega), List.any_map]
    rfl
  refine (containsFuncLs_ev (w := fun e : V × List Int => e.1) (p := fun e => (e.2.any fun x => decide (p = x)) && e.2.any fun x => decide (r = x)) a1.1.wf sx fun e he => ?_).mono fun u h' hu => ?_
  · obtain ⟨i, hi, rfl⟩ := List.getElem_of_mem he
    rw [List.length_zip] at hi
    rw [List.getElem_zip]
    have h1 := (a3 i (by omega) (by rw [List.length_map]; omega)).1
    rw [List.getElem_map] at h1
    exact chained1_ev hp hr (h1.sl (by have := hll _ (List.getElem_mem (show i < ls.length by omega)); simp only [List.length_map]; omega))
  · obtain ⟨rfl, s⟩ := hu
    rw [← ea]; exact q _ s
theorem chained2_ev {h : H} {bF bS n : Nat} {f : Nat → Int} (hF : h.cells bF = some [.sl bS 0 n (.fix n)]) (hS : h.cells bS = some (rowI f n)) (hn : n ≤ 1000) {a : Int} (ha : 0 ≤ a ∧ a < (n : Int)) : PureA h (.fn 56 [] [.ptr bF 0]) [.int .i64 a] (.bool (decide (1 < f a.toNat))) := by
  intro h1 hs
  obtain ⟨i, rfl⟩ := Int.eq_ofNat_of_zero_le ha.1
  have hi : i < n := by omega
  have n1 : ¬ (i : Int) < 0 := by omega
  have n2 : ¬ (n : Int) ≤ (i : Int) := by omega
  have hiad : q_iad 1 (.sl bS 0 n (.fix n)) (.int .i64 (i : Int)) = some (.ptr bS i) := by
    have e : Nat.blt i n = true := by rw [Nat.blt_eq]; exact hi
    simp only [q_iad, nat_cst, e, og_true, Nat.mul_one, Nat.zero_add]
  refine Ev.gen fun Q q => ?_
  refine Ev_body (fd := c56) rfl rfl rfl ?_
  simp -implicitDefEqProofs (maxSteps := 999999) (disch := first | with_reducible rfl | omega | (simp only [nA, nS, nD] <;> omega) | fail) only [c56, go_sem, n1, n2, hs.cells hF, hiad, hs.cells hS, rowI_nth hi]
  exact q _ _ ⟨by rw [Int.toNat_natCast], H.Sub.refl hs.wf⟩
end Go.Ab.Try
set_option linter.unusedSimpArgs false
set_option linter.unusedVariables false
namespace Go.Ab
end Go.Ab
set_option linter.unusedSimpArgs false
set_option linter.unusedVariables false
namespace Go.Ab
end Go.Ab
set_option linter.unusedSimpArgs false
set_option linter.unusedVariables false
namespace Go.Ab.Try
open Go.Ab.Silk (comb Inc lexlt mem_comb find_min)
structure LastIs (P : List Int → Bool) (n m : Nat) (c : List Int) : Prop where
  inc : Inc n 0 c
  holds : P c = true
  pos : 0 < c.length
  le : c.length ≤ m
  max : ∀ d, Inc n 0 d → P d = true → d.length ≤ m → d.length < c.length ∨ (d.length = c.length ∧ (d = c ∨ lexlt c d = true))
theorem lastOf_spec (P : List Int → Bool) (n : Nat) : ∀ m, (∃ c, lastOf P n m = some c ∧ LastIs P n m c) ∨ (lastOf P n m = none ∧ ∀ d, Inc n 0 d → P d = true → d.length ≤ m → d = [])
  | 0 => .inr ⟨rfl, fun d _ _ h => List.length_eq_zero_iff.1 (by omega)⟩
  | m + 1 => by
    have hm : ∀ d, d ∈ comb (m + 1) n 0 ↔ d.length = m + 1 ∧ Inc n 0 d := fun d => by rw [mem_comb, Int.zero_add]
    simp only [lastOf]
    cases hf : (comb (m + 1) n 0).find? P with
    | some c =>
      obtain ⟨m1, m2, m3⟩ := find_min P (m + 1) n 0 hf
      obtain ⟨c1, c2⟩ := (hm c).1 m1
      refine .inl ⟨c, rfl, c2, m2, by omega, by omega, fun d h1 h2 h3 => ?_⟩
      by_cases e : d.length = m + 1
      · exact .inr ⟨by omega, m3 d ((hm d).2 ⟨e, h1⟩) h2⟩
      · exact .inl (by omega)
    | none =>
      have hno : ∀ d, Inc n 0 d → P d = true → d.length ≠ m + 1 := fun d h1 h2 e => by
        have := List.find?_eq_none.1 hf d ((hm d).2 ⟨e, h1⟩)
        exact this h2
      rcases lastOf_spec P n m with ⟨c, e, a⟩ | ⟨e, a⟩
      · exact .inl ⟨c, e, a.inc, a.holds, a.pos, by have := a.le; omega, fun d h1 h2 h3 => a.max d h1 h2 (by have := hno d h1 h2; omega)⟩
      · exact .inr ⟨e, fun d h1 h2 h3 => a d h1 h2 (by have := hno d h1 h2; omega)⟩
end Go.Ab.Try
set_option linter.unusedSimpArgs false
set_option linter.unusedVariables false
namespace Go.Ab.Try
open Go.Ab.Silk (Inc)
noncomputable def farI (t : Tb) (k q : Nat) : Int := match dst t k q with | some j => (j : Int) | none => 1000
theorem farI_some {t : Tb} {k q j : Nat} (h : dst t k q = some j) : farI t k q = (j : Int) := by unfold farI; rw [h]
theorem farI_none {t : Tb} {k q : Nat} (h : dst t k q = none) : farI t k q = 1000 := by unfold farI; rw [h]
theorem rch_dst {t : Tb} (g : Good t) {p k : Nat} (hp : p < t.pieces.length) (hk : k < t.pieces.length) : rch t p k = (dst t k p).isSome := by
  rw [dst_some_rch hk hp, Bool.eq_iff_iff]
  exact ⟨fun h => rch_symm g hk h, fun h => rch_symm g hp h⟩
theorem ChainR.cases {t : Tb} (g : Good t) (ck : check t = 0) {p k : Nat} (hp : p < t.pieces.length) (hk : k < t.pieces.length) {l : List Int} {e : Int} (R : ChainR t p k l e) :
    (dst t k p = none ∧ rch t p k = false ∧ e = 6 ∧ l = []) ∨ ∃ j m, dst t k p = some j ∧ rch t p k = true ∧ e = 0 ∧ l = m.map (fun i : Nat => (i : Int)) ∧ m.length = j + 1 ∧ j < t.pieces.length ∧ m.head? = some p ∧ m.getLast? = some k ∧ (∀ x ∈ m, x < t.pieces.length) ∧ Way (MM t) m := by
  have pc : ∀ q : Nat, q < t.pieces.length → isPc t (q : Int) = true := fun q hq => by simp only [isPc, decide_eq_true_eq]; omega
  rcases R with ⟨c, _⟩ | ⟨_, c, _⟩ | ⟨_, _, _, f, D, R⟩
  · exact absurd ck c
  · rw [pc p hp, pc k hk] at c; rcases c with c | c <;> cases c
  · simp only [Int.toNat_natCast] at D R
    have ef : f = dst t k := funext fun q => D.uniq (dst_isD hk) q
    subst ef
    rcases R with ⟨h, rfl, rfl⟩ | ⟨j, h, rfl, rfl⟩
    · exact .inl ⟨h, by rw [rch_dst g hp hk, h]; rfl, rfl, rfl⟩
    · obtain ⟨w1, w2, w3, w4⟩ := grd_way (MM_comm g) (dst_isD hk) h
      exact .inr ⟨j, _, h, by rw [rch_dst g hp hk, h]; rfl, rfl, rfl, by simp [w1], (dst_isD hk).bd h, rfl, w4, w2, w3⟩
theorem farI_zero {t : Tb} {k q : Nat} (hk : k < t.pieces.length) : farI t k q = 0 ↔ q = k := by
  rw [← dst_zero hk]
  unfold farI
  constructor
  · intro h
    split at h
    · rename_i j e; have : j = 0 := by omega
      subst this; exact e
    · omega
  · intro h; rw [h]; rfl
theorem farI_near {t : Tb} (g : Good t) {k q r : Nat} (hk : k < t.pieces.length) (hq : q < t.pieces.length) (hr : r < t.pieces.length) (hm : MM t q r = true) : farI t k q - farI t k r ≤ 1 ∧ farI t k r - farI t k q ≤ 1 := by
  cases e : dst t k q with
  | some j =>
    obtain ⟨i, e2, l1, l2⟩ := dst_near g hk hq hr e hm
    rw [farI_some e, farI_some e2]; omega
  | none =>
    cases e2 : dst t k r with
    | some i =>
      obtain ⟨j, e3, _⟩ := dst_near g hk hr hq e2 (by rw [MM_comm g]; exact hm)
      rw [e] at e3; cases e3
    | none => rw [farI_none e, farI_none e2]; omega
theorem farI_bd {t : Tb} (g : Good t) {k q : Nat} (hk : k < t.pieces.length) : 0 ≤ farI t k q ∧ farI t k q ≤ 1000 := by
  have := g.pieces
  cases e : dst t k q with
  | some j => have := (dst_isD hk).bd e; rw [farI_some e]; omega
  | none => rw [farI_none e]; omega
theorem gr_near {t : Tb} (g : Good t) (ck : check t = 0) {k : Nat} (hk : k < t.pieces.length) {c : List Int} (h : grR t (k : Int) = some c) : ∀ a ∈ c, 0 ≤ a ∧ a < (t.pieces.length : Int) ∧ farI t k a.toNat ≤ 1 := by
  have pc : isPc t (k : Int) = true := by simp only [isPc, decide_eq_true_eq]; omega
  have e0 : grE t (k : Int) = 0 := by unfold grE; rw [if_neg (by simp [ck]), if_neg (by simp [pc])]
  unfold grR at h
  rw [if_pos e0] at h
  rcases lastOf_spec (mostP (mT t) fun l => l.any fun r => decide ((k : Int) = r)) t.pieces.length t.pieces.length with ⟨c', e, a⟩ | ⟨e, _⟩
  · rw [e] at h; cases h
    intro x hx
    have hr := a.inc.mem x hx
    have hp := a.holds
    unfold mostP at hp
    simp only [Bool.and_eq_true, List.any_eq_true, List.all_eq_true, decide_eq_true_eq, Bool.or_eq_true] at hp
    obtain ⟨⟨y, hy, rfl⟩, hall⟩ := hp
    refine ⟨hr.1, hr.2, ?_⟩
    obtain ⟨i, rfl⟩ := Int.eq_ofNat_of_zero_le hr.1
    rw [Int.toNat_natCast]
    rcases hall _ hx _ hy with e | hm
    · have : i = k := by omega
      rw [(farI_zero hk).2 this]; omega
    · simp only [mT, Int.toNat_natCast] at hm
      have hm' : MM t k i = true := hm
      have := farI_near g hk hk (show i < t.pieces.length by omega) hm'
      rw [(farI_zero hk).2 rfl] at this; omega
  · rw [e] at h; cases h
end Go.Ab.Try
set_option linter.unusedSimpArgs false
set_option linter.unusedVariables false
namespace Go.Ab.Try
theorem LsOwn.row {h0 h : H} {x : V} {ls : List (List Int)} (a : LsOwn h0 h x (ls.map fun l => l.map encI)) (hl : ls.length ≤ 1000) (hll : ∀ l ∈ ls, l.length ≤ 1000) {i : Nat} (hi : i < ls.length) :
    ∃ b o cs v, q_iad 1 x (.int .i64 (i : Int)) = some (.ptr b o) ∧ h.cells b = some cs ∧ nth o cs = some v ∧ SlAt h v 1 (ls[i].map encI) ∧ q_len x = some (.int .i64 (ls.length : Int)) := by
  obtain ⟨xs, a1, a2, a3⟩ := a
  rw [List.length_map] at a2
  have sx := a1.sl (by simp only [List.length_map]; omega)
  obtain ⟨b, o, c, cs, e1, e2, e3, _, _, e4⟩ := sx.at (k := i) (by omega)
  have e5 := e4 (by omega)
  have h1 := (a3 i (by omega) (by rw [List.length_map]; omega)).1
  rw [List.getElem_map] at h1
  have hn := sx.lenE
  rw [a2] at hn
  exact ⟨b, o + i * 1, cs, xs[i], e3 (nat_cst i), e2, e5, h1.sl (by have := hll _ (List.getElem_mem hi); simp only [List.length_map]; omega), hn⟩
theorem SlAt.elem {h : H} {v : V} {l : List Int} (a : SlAt h v 1 (l.map encI)) {j : Nat} (hj : j < l.length) : ∃ b o cs, q_iad 1 v (.int .i64 (j : Int)) = some (.ptr b o) ∧ h.cells b = some cs ∧ nth o cs = some (.int .i64 l[j]) := by
  obtain ⟨b, o, c, cs, e1, e2, e3, _, _, e4⟩ := a.at hj
  have e5 := e4 (by omega)
  exact ⟨b, o + j * 1, cs, e3 (nat_cst j), e2, by rw [e5]; rfl⟩
theorem SlAt.elemN {h : H} {v : V} {m : List Nat} (a : SlAt h v 1 ((m.map fun i : Nat => (i : Int)).map encI)) {j : Nat} (hj : j < m.length) : ∃ b o cs, q_iad 1 v (.int .i64 (j : Int)) = some (.ptr b o) ∧ h.cells b = some cs ∧ nth o cs = some (.int .i64 (m[j] : Int)) := by
  obtain ⟨b, o, cs, e1, e2, e3⟩ := SlAt.elem a (j := j) (by rw [List.length_map]; exact hj)
  exact ⟨b, o, cs, e1, e2, by rw [e3, List.getElem_map]⟩
theorem rowI_congr {f f' : Nat → Int} {n : Nat} (h : ∀ q, q < n → f q = f' q) : rowI f n = rowI f' n := List.map_congr_left fun q hq => by rw [h q (List.mem_range.1 hq)]
theorem iad_fix {b n p : Nat} (h : p < n) : q_iad 1 (.sl b 0 n (.fix n)) (.int .i64 (p : Int)) = some (.ptr b p) := by
  have e : Nat.blt p n = true := by rw [Nat.blt_eq]; exact h
  simp only [q_iad, nat_cst, e, og_true, Nat.mul_one, Nat.zero_add]
set_option maxRecDepth 4000 in
set_option maxHeartbeats 8000000 in
theorem EyeChained_ev {h : H} {x : V} {bs : List Int} (hw : h.wf) (hx : SlAt h x 1 (bs.map encU8)) :
    Ev fnG fastA (.fn 7 [] []) [x] h (fun u _ => u = .bool true) := by
  refine Ev_body (fd := c7) rfl rfl rfl ?_
  simp -implicitDefEqProofs (maxSteps := 999999) (disch := first | with_reducible rfl | omega | (simp only [nA, nS, nD] <;> omega) | fail) only [c7, go_sem]
  refine Wound_ev hw hx _ fun h1 s1 sp1 n1 => ?_
  simp -implicitDefEqProofs (maxSteps := 999999) (disch := first | with_reducible rfl | omega | (simp only [nA, nS, nD] <;> omega) | fail) only [go_sem]
  refine Made_ev s1 hw hx (Nat.le_refl _) sp1 (by omega) (by omega) (by omega) (by omega) _ fun X Y Z t hM T g hp3 he6 hl4 hT m => ?_
  obtain ⟨sM, iM, pM⟩ := m.is g hw (by omega) (by omega)
  have x1 := OwnC.one m.ox.c
  have y1 := OwnC.one m.oy.c
  have z1 := OwnC.one m.oz.c
  simp -implicitDefEqProofs (maxSteps := 999999) (disch := first | with_reducible rfl | omega | (simp only [nA, nS, nD] <;> omega) | fail) only [go_sem, x1, y1, z1, cells_one x1, cells_one y1, cells_one z1]
  have nN : (hM.set h1.next (.cells .rw [X, Y, Z])).next = hM.next := H.next_set _ _ _
  generalize hM.set h1.next (.cells .rw [X, Y, Z]) = hN at sM iM pM nN ⊢
  have s2 := (H.Sub.refl sM.wf).add (.cells .rw [X, Y, Z])
  have g3 : (hN.add (.cells .rw [X, Y, Z])).cells hN.next = some [X, Y, Z] := cells_add_new rfl
  have i2 := iM.mono s2
  generalize (hN.add (.cells .rw [X, Y, Z])) = h2 at s2 g3 i2 ⊢
  rw [nN] at g3
  generalize hM.next = b3 at g3 ⊢
  have ck : check t = 0 := check_iff.2 g
  have gp := g.pieces
  refine Kin_ev s2.wf i2 _ fun K h3 oK => ?_
  rw [ck, if_pos rfl] at *
  have s3 : h2.Sub h3 := by obtain ⟨_, a1, _⟩ := oK; exact a1.1
  have d0n : decide ((0 : Int) ≠ 0) = false := rfl
  simp -implicitDefEqProofs (maxSteps := 999999) (disch := first | with_reducible rfl | omega | (simp only [nA, nS, nD] <;> omega) | fail) only [go_sem, d0n]
  have hkl := kinK_len t t.pieces.length
  have hll : ∀ l ∈ kinK t t.pieces.length, l.length ≤ 1000 := fun l hl => by
    obtain ⟨r, _, rfl⟩ := kinK_rep hl
    have := memK_len t r t.pieces.length; omega
  obtain ⟨kh1, kh2⟩ := kinK_heads g (Nat.le_refl t.pieces.length)
  have lK : q_len K = some (.int .i64 ((kinK t t.pieces.length).length : Int)) := by
    obtain ⟨xs, a1, a2, _⟩ := oK
    have := (a1.sl (by simp only [List.length_map]; rw [List.length_map] at a2; omega)).lenE
    rw [this, a2, List.length_map]
  have hP : ∀ hh : H, h2.Sub hh → ∃ E L P, hh.cells b3 = some [E, L, P] ∧ q_len P = some (.int .i64 (t.pieces.length : Int)) := fun hh s => by
    obtain ⟨E, L, P, e, _, _, aP⟩ := i2
    cases e
    exact ⟨_, _, _, s.cells g3, aP.lenE⟩
  obtain ⟨E, L, P, gP3, lP⟩ := hP h3 s3
  have sumle : ∀ i, (((kinK t t.pieces.length).take i).map List.length).sum ≤ t.pieces.length := fun i => by
    have e := kin_sum g
    conv at e => lhs; rw [← List.take_append_drop i (kinK t t.pieces.length), List.map_append, List.sum_append]
    omega
  simp -implicitDefEqProofs (maxSteps := 999999) (disch := first | with_reducible rfl | omega | (simp only [nA, nS, nD] <;> omega) | fail) only [go_sem, lK]
  refine W.mono (Q := fun x1 s => x1 = .ext 0 ∧ ∃ tm, s = ⟨tm, h3, []⟩ ∧ (Opd.t 3).ev tm = .ptr b3 0 ∧ (Opd.t 4).ev tm = K ∧ (Opd.t 6).ev tm = .int .i64 (t.pieces.length : Int))
   (W_count (kinK t t.pieces.length).length (fun i s => ∃ tm, s = ⟨tm, h3, []⟩ ∧ (Opd.t 3).ev tm = .ptr b3 0 ∧ (Opd.t 4).ev tm = K ∧ (Opd.t 6).ev tm = .int .i64 (((((kinK t t.pieces.length).take i).map List.length).sum : Nat) : Int) ∧ (Opd.t 35).ev tm = K ∧ (Opd.t 36).ev tm = .int .i64 ((kinK t t.pieces.length).length : Int) ∧ (Opd.t 37).ev tm = .int .i64 (i : Int))
    ?_ ?_ (i := 0) (Nat.zero_le _) ⟨_, rfl, (by simp [ev_c, ev_put] <;> rfl), (by simp [ev_c, ev_put] <;> rfl), (by simp [ev_c, ev_put] <;> rfl), (by simp [ev_c, ev_put] <;> rfl), (by simp [ev_c, ev_put] <;> rfl), (by simp [ev_c, ev_put] <;> rfl)⟩) fun x1 s hx1 => ?_
  · rintro i s hi ⟨tm, rfl, t3, t4, t6, t35, t36, t37⟩
    have hi' : (i : Int) < ((kinK t t.pieces.length).length : Int) := by omega
    obtain ⟨b, o, cs, v, m1, m2, m3, sv, _⟩ := LsOwn.row oK (by omega) hll hi
    have lv := sv.lenE
    obtain ⟨l, el⟩ : ∃ l, (kinK t t.pieces.length)[i] = l := ⟨_, rfl⟩
    have hml : l ∈ kinK t t.pieces.length := el ▸ List.getElem_mem hi
    rw [el] at sv lv
    obtain ⟨xh, rh, elx, xh0, xh1⟩ := kh1 l hml
    have hs1 : (((kinK t t.pieces.length).take (i + 1)).map List.length).sum = (((kinK t t.pieces.length).take i).map List.length).sum + l.length := by
      rw [List.take_add_one, List.getElem?_eq_getElem hi, el]; simp
    have hsl := sumle (i + 1)
    have hsl0 := sumle i
    have e6 : ((((((kinK t t.pieces.length).take i).map List.length).sum : Nat) : Int) + (l.length : Int)) = (((((kinK t t.pieces.length).take (i + 1)).map List.length).sum : Nat) : Int) := by omega
    simp -implicitDefEqProofs (maxSteps := 999999) (disch := first | with_reducible rfl | omega | (simp only [nA, nS, nD] <;> omega) | fail) only [go_sem, t3, t4, t6, t35, t36, t37, hi', m1, m2, m3, lv, wr_in, e6]
    have hmk : ∀ y ∈ l, 0 ≤ y ∧ y < (t.pieces.length : Int) := fun y hy => by
      obtain ⟨r, _, rfl⟩ := kinK_rep hml
      exact memK_in hy
    have hup : l.Pairwise (· < ·) := by
      obtain ⟨r, _, rfl⟩ := kinK_rep hml
      exact memK_up t r _
    have hl9 : l.length ≤ 9 := by
      obtain ⟨r, _, rfl⟩ := kinK_rep hml
      have := memK_len t r t.pieces.length; omega
    refine W.mono (Q := fun x1 s => x1 = .ext 2 ∧ ∃ tm, s = ⟨tm, h3, []⟩ ∧ (Opd.t 3).ev tm = .ptr b3 0 ∧ (Opd.t 4).ev tm = K ∧ (Opd.t 6).ev tm = .int .i64 (((((kinK t t.pieces.length).take (i + 1)).map List.length).sum : Nat) : Int) ∧ (Opd.t 8).ev tm = v ∧ (Opd.t 35).ev tm = K ∧ (Opd.t 36).ev tm = .int .i64 ((kinK t t.pieces.length).length : Int) ∧ (Opd.t 37).ev tm = .int .i64 (i : Int))
     (W_count l.length (fun j s => ∃ tm, s = ⟨tm, h3, []⟩ ∧ (Opd.t 3).ev tm = .ptr b3 0 ∧ (Opd.t 4).ev tm = K ∧ (Opd.t 6).ev tm = .int .i64 (((((kinK t t.pieces.length).take (i + 1)).map List.length).sum : Nat) : Int) ∧ (Opd.t 7).ev tm = .int .i64 (i : Int) ∧ (Opd.t 8).ev tm = v ∧ (Opd.t 35).ev tm = K ∧ (Opd.t 36).ev tm = .int .i64 ((kinK t t.pieces.length).length : Int) ∧ (Opd.t 37).ev tm = .int .i64 (i : Int) ∧ (Opd.t 46).ev tm = v ∧ (Opd.t 47).ev tm = .int .i64 (l.length : Int) ∧ (Opd.t 48).ev tm = .int .i64 (j : Int))
      ?_ ?_ (i := 0) (Nat.zero_le _) ⟨_, rfl, (by simp [ev_c, ev_put, t3] <;> rfl), (by simp [ev_c, ev_put, t4] <;> rfl), (by simp [ev_c, ev_put] <;> rfl), (by simp [ev_c, ev_put] <;> rfl), (by simp [ev_c, ev_put] <;> rfl), (by simp [ev_c, ev_put, t35] <;> rfl), (by simp [ev_c, ev_put, t36] <;> rfl), (by simp [ev_c, ev_put, t37] <;> rfl), (by simp [ev_c, ev_put] <;> rfl), (by simp [ev_c, ev_put] <;> rfl), (by simp [ev_c, ev_put] <;> rfl)⟩) fun x1 s hx1 => ?_
    · clear t3 t4 t6 t35 t36 t37
      rintro j s hj ⟨tm, rfl, t3, t4, t6, t7, t8, t35, t36, t37, t46, t47, t48⟩
      have hj' : (j : Int) < (l.length : Int) := by omega
      obtain ⟨b1, o1, cs1, f1, f2, f3⟩ := SlAt.elem sv hj
      have hr := hmk _ (List.getElem_mem hj)
      have c1 : ¬ l[j] < 0 := by omega
      have c2 : ¬ (t.pieces.length : Int) ≤ l[j] := by omega
      cases j with
      | zero =>
        have z1 : ¬ (0 : Int) < ((0 : Nat) : Int) := by omega
        have z2 : decide (((0 : Nat) : Int) = 0) = true := rfl
        cases i with
        | zero =>
          have z3 : ¬ (0 : Int) < ((0 : Nat) : Int) := by omega
          simp -implicitDefEqProofs (maxSteps := 999999) (disch := first | with_reducible rfl | omega | (simp only [nA, nS, nD] <;> omega) | fail) only [go_sem, t3, t4, t6, t7, t8, t35, t36, t37, t46, t47, t48, hj', f1, f2, f3, c1, c2, gP3, lP, z1, z2, z3, wr_succ]
          exact ⟨_, rfl, (by simp [ev_c, ev_put, t3] <;> rfl), (by simp [ev_c, ev_put, t4] <;> rfl), (by simp [ev_c, ev_put, t6] <;> rfl), (by simp [ev_c, ev_put, t7] <;> rfl), (by simp [ev_c, ev_put, t8] <;> rfl), (by simp [ev_c, ev_put, t35] <;> rfl), (by simp [ev_c, ev_put, t36] <;> rfl), (by simp [ev_c, ev_put, t37] <;> rfl), (by simp [ev_c, ev_put, t46] <;> rfl), (by simp [ev_c, ev_put, t47] <;> rfl), (by simp [ev_c, ev_put] <;> rfl)⟩
        | succ i =>
          have z3 : (0 : Int) < ((i + 1 : Nat) : Int) := by omega
          have z4 : ((i + 1 : Nat) : Int) - 1 = (i : Int) := by omega
          have hi0 : i < (kinK t t.pieces.length).length := by omega
          obtain ⟨b2, o2, cs2, v2, p1, p2, p3, sv2, _⟩ := LsOwn.row oK (by omega) hll hi0
          obtain ⟨l2, el2⟩ : ∃ l2, (kinK t t.pieces.length)[i] = l2 := ⟨_, rfl⟩
          have hm2 : l2 ∈ kinK t t.pieces.length := el2 ▸ List.getElem_mem hi0
          rw [el2] at sv2
          obtain ⟨xh2, rh2, elx2, _⟩ := kh1 l2 hm2
          obtain ⟨b4, o4, cs4, q1, q2, q3⟩ := SlAt.elem sv2 (j := 0) (by rw [elx2]; simp)
          have e20 : l2[0]'(by rw [elx2]; simp) = xh2 := by simp [elx2]
          rw [e20] at q3
          have q1 : q_iad 1 v2 (.int .i64 0) = some (.ptr b4 o4) := q1
          have hlt := List.pairwise_iff_getElem.1 kh2 i (i + 1) hi0 hi (by omega) xh2 l[0] (by rw [el2, elx2]; rfl) (by rw [el]; simp [elx])
          have z5 : ¬ l[0] ≤ xh2 := by omega
          simp -implicitDefEqProofs (maxSteps := 999999) (disch := first | with_reducible rfl | omega | (simp only [nA, nS, nD] <;> omega) | fail) only [go_sem, t3, t4, t6, t7, t8, t35, t36, t37, t46, t47, t48, hj', f1, f2, f3, c1, c2, gP3, lP, z1, z2, z3, z4, wr_in, p1, p2, p3, q1, q2, q3, z5, wr_succ]
          exact ⟨_, rfl, (by simp [ev_c, ev_put, t3] <;> rfl), (by simp [ev_c, ev_put, t4] <;> rfl), (by simp [ev_c, ev_put, t6] <;> rfl), (by simp [ev_c, ev_put, t7] <;> rfl), (by simp [ev_c, ev_put, t8] <;> rfl), (by simp [ev_c, ev_put, t35] <;> rfl), (by simp [ev_c, ev_put, t36] <;> rfl), (by simp [ev_c, ev_put, t37] <;> rfl), (by simp [ev_c, ev_put, t46] <;> rfl), (by simp [ev_c, ev_put, t47] <;> rfl), (by simp [ev_c, ev_put] <;> rfl)⟩
      | succ j =>
        have z1 : (0 : Int) < ((j + 1 : Nat) : Int) := by omega
        have z2 : decide (((j + 1 : Nat) : Int) = 0) = false := by simp; omega
        have z4 : ((j + 1 : Nat) : Int) - 1 = (j : Int) := by omega
        obtain ⟨b2, o2, cs2, p1, p2, p3⟩ := SlAt.elem sv (j := j) (by omega)
        have hlt := List.pairwise_iff_getElem.1 hup j (j + 1) (by omega) hj (by omega)
        have z5 : ¬ l[j + 1] ≤ l[j] := by omega
        simp -implicitDefEqProofs (maxSteps := 999999) (disch := first | with_reducible rfl | omega | (simp only [nA, nS, nD] <;> omega) | fail) only [go_sem, t3, t4, t6, t7, t8, t35, t36, t37, t46, t47, t48, hj', f1, f2, f3, c1, c2, gP3, lP, z1, z2, z4, wr_in, p1, p2, p3, z5, wr_succ]
        exact ⟨_, rfl, (by simp [ev_c, ev_put, t3] <;> rfl), (by simp [ev_c, ev_put, t4] <;> rfl), (by simp [ev_c, ev_put, t6] <;> rfl), (by simp [ev_c, ev_put, t7] <;> rfl), (by simp [ev_c, ev_put, t8] <;> rfl), (by simp [ev_c, ev_put, t35] <;> rfl), (by simp [ev_c, ev_put, t36] <;> rfl), (by simp [ev_c, ev_put, t37] <;> rfl), (by simp [ev_c, ev_put, t46] <;> rfl), (by simp [ev_c, ev_put, t47] <;> rfl), (by simp [ev_c, ev_put] <;> rfl)⟩
    · clear t3 t4 t6 t35 t36 t37
      rintro s ⟨tm, rfl, t3, t4, t6, t7, t8, t35, t36, t37, t46, t47, t48⟩
      simp -implicitDefEqProofs (maxSteps := 999999) (disch := first | with_reducible rfl | omega | (simp only [nA, nS, nD] <;> omega) | fail) only [go_sem, t3, t4, t6, t7, t8, t35, t36, t37, t46, t47, t48, Int.lt_irrefl]
      exact ⟨_, rfl, (by simp [ev_c, ev_put, t3] <;> rfl), (by simp [ev_c, ev_put, t4] <;> rfl), (by simp [ev_c, ev_put, t6] <;> rfl), (by simp [ev_c, ev_put, t8] <;> rfl), (by simp [ev_c, ev_put, t35] <;> rfl), (by simp [ev_c, ev_put, t36] <;> rfl), (by simp [ev_c, ev_put, t37] <;> rfl)⟩
    clear t3 t4 t6 t35 t36 t37
    obtain ⟨rfl, tm, rfl, t3, t4, t6, t8, t35, t36, t37⟩ := hx1
    have hnz : decide ((l.length : Int) = 0) = false := by rw [elx]; simp; omega
    simp -implicitDefEqProofs (maxSteps := 999999) (disch := first | with_reducible rfl | omega | (simp only [nA, nS, nD] <;> omega) | fail) only [go_sem, t3, t4, t6, t8, t35, t36, t37, lv, hnz, wr_succ]
    exact ⟨_, rfl, (by simp [ev_c, ev_put, t3] <;> rfl), (by simp [ev_c, ev_put, t4] <;> rfl), (by simp [ev_c, ev_put, t6] <;> rfl), (by simp [ev_c, ev_put, t35] <;> rfl), (by simp [ev_c, ev_put, t36] <;> rfl), (by simp [ev_c, ev_put] <;> rfl)⟩
  · rintro s ⟨tm, rfl, t3, t4, t6, t35, t36, t37⟩
    simp -implicitDefEqProofs (maxSteps := 999999) (disch := first | with_reducible rfl | omega | (simp only [nA, nS, nD] <;> omega) | fail) only [go_sem, t3, t4, t6, t35, t36, t37, Int.lt_irrefl]
    refine ⟨_, rfl, (by simp [ev_c, ev_put, t3] <;> rfl), (by simp [ev_c, ev_put, t4] <;> rfl), ?_⟩
    rw [List.take_length, kin_sum g] at t6
    exact (by simp [ev_c, ev_put, t6] <;> rfl)
  obtain ⟨rfl, tm, rfl, t3, t4, t6⟩ := hx1
  have nn : ∀ n : Int, decide (n ≠ n) = false := fun n => by simp
  have i3 := i2.mono s3
  simp -implicitDefEqProofs (maxSteps := 999999) (disch := first | with_reducible rfl | omega | (simp only [nA, nS, nD] <;> omega) | fail) only [go_sem, t3, t4, t6, gP3, lP, nn]
  refine W_count t.pieces.length (fun k s => ∃ tm h', s = ⟨tm, h', []⟩ ∧ h3.Sub h' ∧ (Opd.t 3).ev tm = .ptr b3 0 ∧ (Opd.t 4).ev tm = K ∧ (Opd.t 106).ev tm = .int .i64 (t.pieces.length : Int) ∧ (Opd.t 107).ev tm = .int .i64 (k : Int))
    ?_ ?_ (i := 0) (Nat.zero_le _) ⟨_, _, rfl, H.Sub.refl s3.wf, (by simp [ev_c, ev_put, t3] <;> rfl), (by simp [ev_c, ev_put, t4] <;> rfl), (by simp [ev_c, ev_put] <;> rfl), (by simp [ev_c, ev_put] <;> rfl)⟩
  · clear t3 t4 t6
    rintro k s hk ⟨tm, h', rfl, hs, t3, t4, t106, t107⟩
    have hk' : (k : Int) < (t.pieces.length : Int) := by omega
    have s2' := s3.trans hs
    have lZ : q_len Z = some (.int .i64 (t.pieces.length : Int)) := by
      obtain ⟨_, _, _, e, _, _, aZ⟩ := i2
      cases e; exact aZ.lenE
    have gd' := s2'.cells g3
    have sA := (((H.Sub.refl hs.wf).add (.cells .rw [.int .i64 (k : Int)])).add (.cells .rw (rowI (fun _ => 0) t.pieces.length))).add (.cells .rw [.sl (h'.next + 1) 0 t.pieces.length (.fix t.pieces.length)])
    have g11 : (((h'.add (.cells .rw [.int .i64 (k : Int)])).add (.cells .rw (rowI (fun _ => 0) t.pieces.length))).add (.cells .rw [.sl (h'.next + 1) 0 t.pieces.length (.fix t.pieces.length)])).cells h'.next = some [.int .i64 (k : Int)] := by simp -implicitDefEqProofs (maxSteps := 999999) (disch := first | with_reducible rfl | omega | (simp only [nA, nS, nD] <;> omega) | fail) only [go_sem]
    have gS : (((h'.add (.cells .rw [.int .i64 (k : Int)])).add (.cells .rw (rowI (fun _ => 0) t.pieces.length))).add (.cells .rw [.sl (h'.next + 1) 0 t.pieces.length (.fix t.pieces.length)])).get (h'.next + 1) = some (.cells .rw (rowI (fun _ => 0) t.pieces.length)) := by simp -implicitDefEqProofs (maxSteps := 999999) (disch := first | with_reducible rfl | omega | (simp only [nA, nS, nD] <;> omega) | fail) only [go_sem]
    have g12 : (((h'.add (.cells .rw [.int .i64 (k : Int)])).add (.cells .rw (rowI (fun _ => 0) t.pieces.length))).add (.cells .rw [.sl (h'.next + 1) 0 t.pieces.length (.fix t.pieces.length)])).cells (h'.next + 1 + 1) = some [.sl (h'.next + 1) 0 t.pieces.length (.fix t.pieces.length)] := by simp -implicitDefEqProofs (maxSteps := 999999) (disch := first | with_reducible rfl | omega | (simp only [nA, nS, nD] <;> omega) | fail) only [go_sem]
    have hm := a_msl_nn (h := h'.add (.cells .rw [.int .i64 (k : Int)])) (by_ := 8) (n := t.pieces.length) (z := [.int .i64 0]) (by omega) (by omega)
    rw [repN_zero, H.next_add] at hm
    have gd1 := ((H.Sub.refl hs.wf).add (.cells .rw [.int .i64 (k : Int)])).cells gd'
    simp -implicitDefEqProofs (maxSteps := 999999) (disch := first | with_reducible rfl | omega | (simp only [nA, nS, nD] <;> omega) | fail) only [go_sem, t3, t4, t106, t107, hk', gd1, lZ, hm]
    generalize (((h'.add (.cells .rw [.int .i64 (k : Int)])).add (.cells .rw (rowI (fun _ => 0) t.pieces.length))).add (.cells .rw [.sl (h'.next + 1) 0 t.pieces.length (.fix t.pieces.length)])) = hA at sA g11 gS g12 ⊢
    have lh := hs.wf
    try simp -implicitDefEqProofs (maxSteps := 999999) (disch := first | with_reducible rfl | omega | (simp only [nA, nS, nD] <;> omega) | fail) only [go_sem, g12]
    refine W.mono (Q := fun x1 s => x1 = .ext 6 ∧ ∃ tm hh, s = ⟨tm, hh, []⟩ ∧ h'.Sub hh ∧ hh.cells h'.next = some [.int .i64 (k : Int)] ∧ hh.cells (h'.next + 1) = some (rowI (farI t k) t.pieces.length) ∧ hh.cells (h'.next + 1 + 1) = some [.sl (h'.next + 1) 0 t.pieces.length (.fix t.pieces.length)] ∧
        (Opd.t 3).ev tm = .ptr b3 0 ∧ (Opd.t 4).ev tm = K ∧ (Opd.t 11).ev tm = .ptr h'.next 0 ∧ (Opd.t 12).ev tm = .ptr (h'.next + 1 + 1) 0 ∧ (Opd.t 106).ev tm = .int .i64 (t.pieces.length : Int) ∧ (Opd.t 107).ev tm = .int .i64 (k : Int))
      (W_count t.pieces.length (fun p s => ∃ tm hh f, s = ⟨tm, hh, []⟩ ∧ Keeps (fun c => c = h'.next + 1) hA hh ∧ hh.wf ∧ hh.get (h'.next + 1) = some (.cells .rw (rowI f t.pieces.length)) ∧ (∀ q, q < p → f q = farI t k q) ∧
        (Opd.t 3).ev tm = .ptr b3 0 ∧ (Opd.t 4).ev tm = K ∧ (Opd.t 11).ev tm = .ptr h'.next 0 ∧ (Opd.t 12).ev tm = .ptr (h'.next + 1 + 1) 0 ∧ (Opd.t 106).ev tm = .int .i64 (t.pieces.length : Int) ∧ (Opd.t 107).ev tm = .int .i64 (k : Int) ∧ (Opd.t 115).ev tm = .int .i64 (t.pieces.length : Int) ∧ (Opd.t 116).ev tm = .int .i64 (p : Int))
      ?_ ?_ (i := 0) (Nat.zero_le _) ⟨_, _, _, rfl, Keeps.refl _ _, sA.wf, gS, fun q hq => by omega, (by simp [ev_c, ev_put, t3] <;> rfl), (by simp [ev_c, ev_put, t4] <;> rfl), (by simp [ev_c, ev_put] <;> rfl), (by simp [ev_c, ev_put] <;> rfl), (by simp [ev_c, ev_put, t106] <;> rfl), (by simp [ev_c, ev_put, t107] <;> rfl), (by simp [ev_c, ev_put] <;> rfl), (by simp [ev_c, ev_put] <;> rfl)⟩) fun x1 s hx1 => ?_
    · clear t3 t4 t106 t107
      rintro p s hp ⟨tm, hh, f, rfl, kk, wh, gF, hf, t3, t4, t11, t12, t106, t107, t115, t116⟩
      have hp' : (p : Int) < (t.pieces.length : Int) := by omega
      have sH : h'.Sub hh := kk.sub sA hs.wf (fun c hc => by omega) wh
      have g12' := kk.cells g12 (by omega)
      have g11' := kk.cells g11 (by omega)
      have gdH := sH.cells gd'
      have sB := (H.Sub.refl wh).add (.cells .rw [.int .i64 (p : Int)])
      have g13 : (hh.add (.cells .rw [.int .i64 (p : Int)])).cells hh.next = some [.int .i64 (p : Int)] := cells_add_new rfl
      have nB : (hh.add (.cells .rw [.int .i64 (p : Int)])).next = hh.next + 1 := H.next_add _ _
      have gl := wh _ _ gF
      have g11B := sB.cells g11'
      have gdB := sB.cells gdH
      simp -implicitDefEqProofs (maxSteps := 999999) (disch := first | with_reducible rfl | omega | (simp only [nA, nS, nD] <;> omega) | fail) only [go_sem, t3, t4, t11, t12, t106, t107, t115, t116, hp', gdH, g11', g12']
      generalize hh.add (.cells .rw [.int .i64 (p : Int)]) = hB at sB g13 nB g11B gdB ⊢
      simp -implicitDefEqProofs (maxSteps := 999999) (disch := first | with_reducible rfl | omega | (simp only [nA, nS, nD] <;> omega) | fail) only [go_sem, t3, t4, t11, t12, t106, t107, t115, t116, gdB, g11B, g13]
      have i2B := i2.mono (s2'.trans (sH.trans sB))
      refine Chain_own sB.wf i2B (p : Int) (k : Int) _ fun l e x h6 s6 R ox => ?_
      simp -implicitDefEqProofs (maxSteps := 999999) (disch := first | with_reducible rfl | omega | (simp only [nA, nS, nD] <;> omega) | fail) only [go_sem, t3, t4, t11, t12, t106, t107, t115, t116]
      refine anyBoth_ev (oK.mono (hs.trans (sH.trans (sB.trans s6)))) (by omega) hll (s6.cells g13) (s6.cells g11B) _ fun h7 s7 => ?_
      rw [kin_share g hp hk]
      have s67 := s6.trans s7
      have sB7 := sB.trans s67
      have gF7 := sB7.get gF
      have g12S := sB7.cells g12'
      have g13S := s67.cells g13
      have hiad := iad_fix (b := h'.next + 1) hp
      have hput := rowI_put (f := f) hp 1000
      have kS := Keeps.set h7 (h'.next + 1) (.cells .rw (rowI (fun i => if i = p then 1000 else f i) t.pieces.length))
      have wS := H.wf_set s67.wf (.cells .rw (rowI (fun i => if i = p then 1000 else f i) t.pieces.length)) gF7
      have gFS : (h7.set (h'.next + 1) (.cells .rw (rowI (fun i => if i = p then 1000 else f i) t.pieces.length))).get (h'.next + 1) = some (.cells .rw (rowI (fun i => if i = p then 1000 else f i) t.pieces.length)) := get_set_same rfl
      have kAS : Keeps (fun c => c = h'.next + 1) hA (h7.set (h'.next + 1) (.cells .rw (rowI (fun i => if i = p then 1000 else f i) t.pieces.length))) := ((kk.trans (Keeps.of sB7 fun c => c = h'.next + 1)).trans kS).mono fun c h => by rcases h with (h | h) | h <;> exact h
      have d60 : decide ((6 : Int) = 0) = false := rfl
      have d66 : decide ((6 : Int) ≠ 6) = false := rfl
      have d60n : decide ((6 : Int) ≠ 0) = true := rfl
      have dn00 : decide ((0 : Int) ≠ 0) = false := rfl
      rcases R.cases g (check_iff.2 g) hp hk with ⟨d1, d2, rfl, rfl⟩ | ⟨j, m, d1, d2, rfl, rfl, m1, m2, m3, m4, m5, m6⟩
      · rw [d2]
        simp -implicitDefEqProofs (maxSteps := 999999) (disch := first | with_reducible rfl | omega | (simp only [nA, nS, nD] <;> omega) | fail) only [go_sem, t3, t4, t11, t12, t106, t107, t115, t116, d60, d66, d60n, beq_self_eq_true, Bool.not_true, g12S, g13S, hiad, gF7, hput, wr_succ]
        exact ⟨_, _, _, rfl, kAS, wS, gFS, fun q hq => by
          by_cases e : q = p
          · rw [if_pos e, e, farI_none d1]
          · rw [if_neg e]; exact hf q (by omega), (by simp [ev_c, ev_put, t3] <;> rfl), (by simp [ev_c, ev_put, t4] <;> rfl), (by simp [ev_c, ev_put, t11] <;> rfl), (by simp [ev_c, ev_put, t12] <;> rfl), (by simp [ev_c, ev_put, t106] <;> rfl), (by simp [ev_c, ev_put, t107] <;> rfl), (by simp [ev_c, ev_put, t115] <;> rfl), (by simp [ev_c, ev_put] <;> rfl)⟩
      · rw [d2]
        have ml : m.length ≤ 20 := by omega
        have x7 := (ox.mono s7).sl (by simp only [List.length_map]; omega)
        have xS : SlAt (h7.set (h'.next + 1) (.cells .rw (rowI (fun i => if i = p then 1000 else f i) t.pieces.length))) x 1 ((m.map fun i : Nat => (i : Int)).map encI) := SlAt_keep2 x7 kS fun _ b hb => by have := (ox.blk hb).1; omega
        have g3S := kS.cells (sB7.cells gdH) (by have := (H.cells_eq gd').elim fun kd e => hs.wf _ _ e; omega)
        have g11S := kS.cells (s67.cells g11B) (by omega)
        have g12T := kS.cells g12S (by omega)
        have g13T := kS.cells g13S (by omega)
        have iS : TbIs (h7.set (h'.next + 1) (.cells .rw (rowI (fun i => if i = p then 1000 else f i) t.pieces.length))) (.agg [X, Y, Z]) t := i2.mono (s2'.trans (kAS.sub sA hs.wf (fun c hc => by omega) wS))
        have lx := xS.lenE
        rw [List.length_map, m1] at lx
        have mh : 0 < m.length := by omega
        have em0 : m[0] = p := by
          rw [List.head?_eq_getElem?, List.getElem?_eq_getElem mh] at m3
          simpa using m3
        have emj : m[j]'(by omega) = k := by
          rw [List.getLast?_eq_getElem?, m1, Nat.add_sub_cancel, List.getElem?_eq_getElem (by omega)] at m4
          simpa using m4
        obtain ⟨b0, o0, cs0, u1, u2, u3⟩ := SlAt.elemN xS mh
        obtain ⟨bj, oj, csj, v1, v2, v3⟩ := SlAt.elemN xS (j := j) (by omega)
        rw [em0] at u3
        rw [emj] at v3
        have u1 : q_iad 1 x (.int .i64 0) = some (.ptr b0 o0) := u1
        have gdS := g3S
        have lnz : decide (((j + 1 : Nat) : Int) = 0) = false := by simp; omega
        have lm1 : ((j + 1 : Nat) : Int) - 1 = (j : Int) := by omega
        have lgt : ¬ (t.pieces.length : Int) < ((j + 1 : Nat) : Int) := by omega
        have dn : ∀ n : Int, decide (n ≠ n) = false := fun n => by simp
        simp -implicitDefEqProofs (maxSteps := 999999) (disch := first | with_reducible rfl | omega | (simp only [nA, nS, nD] <;> omega) | fail) only [go_sem, t3, t4, t11, t12, t106, t107, t115, t116, d00, dn, beq_self_eq_true, Bool.not_true, g12S, g13S, hiad, gF7, hput]
        generalize h7.set (h'.next + 1) (.cells .rw (rowI (fun i => if i = p then 1000 else f i) t.pieces.length)) = hS at kS wS gFS kAS xS g3S g11S g12T g13T iS u2 v2 gdS ⊢
        simp -implicitDefEqProofs (maxSteps := 999999) (disch := first | with_reducible rfl | omega | (simp only [nA, nS, nD] <;> omega) | fail) only [go_sem, t3, t4, t11, t12, t106, t107, t115, t116, lx, lnz, lm1, lgt, u1, u2, u3, v1, v2, v3, dn, g11S, g12T, g13T, gdS, lZ, wr_in]
        refine W.mono (Q := fun x1 s => x1 = .ext 8 ∧ ∃ tm hq, s = ⟨tm, hq, []⟩ ∧ hS.Sub hq ∧ (Opd.t 3).ev tm = .ptr b3 0 ∧ (Opd.t 4).ev tm = K ∧ (Opd.t 11).ev tm = .ptr h'.next 0 ∧ (Opd.t 12).ev tm = .ptr (h'.next + 1 + 1) 0 ∧ (Opd.t 13).ev tm = .ptr hh.next 0 ∧ (Opd.t 14).ev tm = x ∧
            (Opd.t 106).ev tm = .int .i64 (t.pieces.length : Int) ∧ (Opd.t 107).ev tm = .int .i64 (k : Int) ∧ (Opd.t 115).ev tm = .int .i64 (t.pieces.length : Int) ∧ (Opd.t 116).ev tm = .int .i64 (p : Int))
          (W_count (j + 1) (fun i s => ∃ tm hq, s = ⟨tm, hq, []⟩ ∧ hS.Sub hq ∧ (Opd.t 3).ev tm = .ptr b3 0 ∧ (Opd.t 4).ev tm = K ∧ (Opd.t 11).ev tm = .ptr h'.next 0 ∧ (Opd.t 12).ev tm = .ptr (h'.next + 1 + 1) 0 ∧ (Opd.t 13).ev tm = .ptr hh.next 0 ∧ (Opd.t 14).ev tm = x ∧
            (Opd.t 106).ev tm = .int .i64 (t.pieces.length : Int) ∧ (Opd.t 107).ev tm = .int .i64 (k : Int) ∧ (Opd.t 115).ev tm = .int .i64 (t.pieces.length : Int) ∧ (Opd.t 116).ev tm = .int .i64 (p : Int) ∧ (Opd.t 174).ev tm = x ∧ (Opd.t 175).ev tm = .int .i64 ((j + 1 : Nat) : Int) ∧ (Opd.t 176).ev tm = .int .i64 (i : Int))
          ?_ ?_ (i := 0) (Nat.zero_le _) ⟨_, _, rfl, H.Sub.refl wS, (by simp [ev_c, ev_put, t3] <;> rfl), (by simp [ev_c, ev_put, t4] <;> rfl), (by simp [ev_c, ev_put, t11] <;> rfl), (by simp [ev_c, ev_put, t12] <;> rfl), (by simp [ev_c, ev_put] <;> rfl), (by simp [ev_c, ev_put] <;> rfl), (by simp [ev_c, ev_put, t106] <;> rfl), (by simp [ev_c, ev_put, t107] <;> rfl), (by simp [ev_c, ev_put, t115] <;> rfl), (by simp [ev_c, ev_put, t116] <;> rfl), (by simp [ev_c, ev_put] <;> rfl), (by simp [ev_c, ev_put] <;> rfl), (by simp [ev_c, ev_put] <;> rfl)⟩) fun x1 s hx1 => ?_
        · clear t3 t4 t11 t12 t106 t107 t115 t116
          rintro i s hi ⟨tm, hq, rfl, sq, t3, t4, t11, t12, t13, t14, t106, t107, t115, t116, t174, t175, t176⟩
          have hi' : (i : Int) < ((j + 1 : Nat) : Int) := by omega
          have him : i < m.length := by omega
          obtain ⟨b1, o1, cs1, f1, f2, f3⟩ := SlAt.elemN (xS.mono sq) him
          have hmi := m5 _ (List.getElem_mem him)
          have c1 : ¬ (m[i] : Int) < 0 := by omega
          have c2 : ¬ (t.pieces.length : Int) ≤ (m[i] : Int) := by omega
          cases i with
          | zero =>
            have z1 : ¬ (0 : Int) < ((0 : Nat) : Int) := by omega
            simp -implicitDefEqProofs (maxSteps := 999999) (disch := first | with_reducible rfl | omega | (simp only [nA, nS, nD] <;> omega) | fail) only [go_sem, t3, t4, t11, t12, t13, t14, t106, t107, t115, t116, t174, t175, t176, hi', f1, f2, f3, c1, c2, sq.cells gdS, lZ, z1, wr_succ]
            exact ⟨_, _, rfl, sq, (by simp [ev_c, ev_put, t3] <;> rfl), (by simp [ev_c, ev_put, t4] <;> rfl), (by simp [ev_c, ev_put, t11] <;> rfl), (by simp [ev_c, ev_put, t12] <;> rfl), (by simp [ev_c, ev_put, t13] <;> rfl), (by simp [ev_c, ev_put, t14] <;> rfl), (by simp [ev_c, ev_put, t106] <;> rfl), (by simp [ev_c, ev_put, t107] <;> rfl), (by simp [ev_c, ev_put, t115] <;> rfl), (by simp [ev_c, ev_put, t116] <;> rfl), (by simp [ev_c, ev_put, t174] <;> rfl), (by simp [ev_c, ev_put, t175] <;> rfl), (by simp [ev_c, ev_put] <;> rfl)⟩
          | succ i =>
            have z1 : (0 : Int) < ((i + 1 : Nat) : Int) := by omega
            have z4 : ((i + 1 : Nat) : Int) - 1 = (i : Int) := by omega
            obtain ⟨b2, o2, cs2, p1, p2, p3⟩ := SlAt.elemN (xS.mono sq) (j := i) (by omega)
            have hmm : MM t m[i + 1] m[i] = true := by rw [MM_comm g]; exact m6.at i him
            have hlm := lmatch_ev sq.wf (iS.mono sq) g hmi (m5 _ (List.getElem_mem (show i < m.length by omega)))
            rw [hmm] at hlm
            simp -implicitDefEqProofs (maxSteps := 999999) (disch := first | with_reducible rfl | omega | (simp only [nA, nS, nD] <;> omega) | fail) only [go_sem, t3, t4, t11, t12, t13, t14, t106, t107, t115, t116, t174, t175, t176, hi', f1, f2, f3, c1, c2, sq.cells gdS, lZ, z1, z4, wr_in, p1, p2, p3]
            refine hlm _ fun h9 s9 => ?_
            simp -implicitDefEqProofs (maxSteps := 999999) (disch := first | with_reducible rfl | omega | (simp only [nA, nS, nD] <;> omega) | fail) only [go_sem, t3, t4, t11, t12, t13, t14, t106, t107, t115, t116, t174, t175, t176, Bool.not_true, p2, p3, sq.cells gdS, s9.cells p2, s9.cells (sq.cells gdS), wr_succ]
            exact ⟨_, _, rfl, sq.trans s9, (by simp [ev_c, ev_put, t3] <;> rfl), (by simp [ev_c, ev_put, t4] <;> rfl), (by simp [ev_c, ev_put, t11] <;> rfl), (by simp [ev_c, ev_put, t12] <;> rfl), (by simp [ev_c, ev_put, t13] <;> rfl), (by simp [ev_c, ev_put, t14] <;> rfl), (by simp [ev_c, ev_put, t106] <;> rfl), (by simp [ev_c, ev_put, t107] <;> rfl), (by simp [ev_c, ev_put, t115] <;> rfl), (by simp [ev_c, ev_put, t116] <;> rfl), (by simp [ev_c, ev_put, t174] <;> rfl), (by simp [ev_c, ev_put, t175] <;> rfl), (by simp [ev_c, ev_put] <;> rfl)⟩
        · clear t3 t4 t11 t12 t106 t107 t115 t116
          rintro s ⟨tm, hq, rfl, sq, t3, t4, t11, t12, t13, t14, t106, t107, t115, t116, t174, t175, t176⟩
          simp -implicitDefEqProofs (maxSteps := 999999) (disch := first | with_reducible rfl | omega | (simp only [nA, nS, nD] <;> omega) | fail) only [go_sem, t3, t4, t11, t12, t13, t14, t106, t107, t115, t116, t174, t175, t176, Int.lt_irrefl]
          exact ⟨_, _, rfl, sq, (by simp [ev_c, ev_put, t3] <;> rfl), (by simp [ev_c, ev_put, t4] <;> rfl), (by simp [ev_c, ev_put, t11] <;> rfl), (by simp [ev_c, ev_put, t12] <;> rfl), (by simp [ev_c, ev_put, t13] <;> rfl), (by simp [ev_c, ev_put, t14] <;> rfl), (by simp [ev_c, ev_put, t106] <;> rfl), (by simp [ev_c, ev_put, t107] <;> rfl), (by simp [ev_c, ev_put, t115] <;> rfl), (by simp [ev_c, ev_put, t116] <;> rfl)⟩
        clear t3 t4 t11 t12 t106 t107 t115 t116
        obtain ⟨rfl, tm, hq, rfl, sq, t3, t4, t11, t12, t13, t14, t106, t107, t115, t116⟩ := hx1
        have gFq := sq.get gFS
        have hput2 := rowI_put (f := fun i => if i = p then 1000 else f i) hp (j : Int)
        have kq := ((kAS.trans (Keeps.of sq fun c => c = h'.next + 1)).trans (Keeps.set hq (h'.next + 1) (.cells .rw (rowI (fun i => if i = p then (j : Int) else (fun i => if i = p then 1000 else f i) i) t.pieces.length)))).mono (T := fun c => c = h'.next + 1) fun c h => by rcases h with (h | h) | h <;> exact h
        simp -implicitDefEqProofs (maxSteps := 999999) (disch := first | with_reducible rfl | omega | (simp only [nA, nS, nD] <;> omega) | fail) only [go_sem, t3, t4, t11, t12, t13, t14, t106, t107, t115, t116, sq.cells g12T, sq.cells g13T, lx, lm1, wr_in, hiad, gFq, hput2, wr_succ]
        exact ⟨_, _, _, rfl, kq, H.wf_set sq.wf _ gFq, get_set_same rfl, fun q hq => by
          by_cases e : q = p
          · simp only [if_pos e]; rw [e, farI_some d1]
          · simp only [if_neg e]; exact hf q (by omega), (by simp [ev_c, ev_put, t3] <;> rfl), (by simp [ev_c, ev_put, t4] <;> rfl), (by simp [ev_c, ev_put, t11] <;> rfl), (by simp [ev_c, ev_put, t12] <;> rfl), (by simp [ev_c, ev_put, t106] <;> rfl), (by simp [ev_c, ev_put, t107] <;> rfl), (by simp [ev_c, ev_put, t115] <;> rfl), (by simp [ev_c, ev_put] <;> rfl)⟩
    · clear t3 t4 t106 t107
      rintro s ⟨tm, hh, f, rfl, kk, wh, gF, hf, t3, t4, t11, t12, t106, t107, t115, t116⟩
      simp -implicitDefEqProofs (maxSteps := 999999) (disch := first | with_reducible rfl | omega | (simp only [nA, nS, nD] <;> omega) | fail) only [go_sem, t3, t4, t11, t12, t106, t107, t115, t116, Int.lt_irrefl]
      exact ⟨_, _, rfl, kk.sub sA hs.wf (fun c hc => by omega) wh, kk.cells g11 (by omega), by rw [← rowI_congr hf]; exact cells_of gF, kk.cells g12 (by omega), (by simp [ev_c, ev_put, t3] <;> rfl), (by simp [ev_c, ev_put, t4] <;> rfl), (by simp [ev_c, ev_put, t11] <;> rfl), (by simp [ev_c, ev_put, t12] <;> rfl), (by simp [ev_c, ev_put, t106] <;> rfl), (by simp [ev_c, ev_put, t107] <;> rfl)⟩
    clear t3 t4 t106 t107
    obtain ⟨rfl, tm, hh, rfl, sH, g11', gF, g12', t3, t4, t11, t12, t106, t107⟩ := hx1
    have iH := i2.mono (s2'.trans sH)
    have gdH := sH.cells gd'
    simp -implicitDefEqProofs (maxSteps := 999999) (disch := first | with_reducible rfl | omega | (simp only [nA, nS, nD] <;> omega) | fail) only [go_sem, t3, t4, t11, t12, t106, t107, g12']
    refine W.mono (Q := fun x1 s => x1 = .ext 10 ∧ ∃ tm hq, s = ⟨tm, hq, []⟩ ∧ hh.Sub hq ∧ (Opd.t 3).ev tm = .ptr b3 0 ∧ (Opd.t 4).ev tm = K ∧ (Opd.t 11).ev tm = .ptr h'.next 0 ∧ (Opd.t 12).ev tm = .ptr (h'.next + 1 + 1) 0 ∧ (Opd.t 106).ev tm = .int .i64 (t.pieces.length : Int) ∧ (Opd.t 107).ev tm = .int .i64 (k : Int))
      (W_count t.pieces.length (fun p s => ∃ tm hq, s = ⟨tm, hq, []⟩ ∧ hh.Sub hq ∧ (Opd.t 3).ev tm = .ptr b3 0 ∧ (Opd.t 4).ev tm = K ∧ (Opd.t 11).ev tm = .ptr h'.next 0 ∧ (Opd.t 12).ev tm = .ptr (h'.next + 1 + 1) 0 ∧ (Opd.t 106).ev tm = .int .i64 (t.pieces.length : Int) ∧ (Opd.t 107).ev tm = .int .i64 (k : Int) ∧
        (Opd.t 213).ev tm = .sl (h'.next + 1) 0 t.pieces.length (.fix t.pieces.length) ∧ (Opd.t 214).ev tm = .int .i64 (t.pieces.length : Int) ∧ (Opd.t 215).ev tm = .int .i64 (p : Int))
      ?_ ?_ (i := 0) (Nat.zero_le _) ⟨_, _, rfl, H.Sub.refl sH.wf, (by simp [ev_c, ev_put, t3] <;> rfl), (by simp [ev_c, ev_put, t4] <;> rfl), (by simp [ev_c, ev_put, t11] <;> rfl), (by simp [ev_c, ev_put, t12] <;> rfl), (by simp [ev_c, ev_put, t106] <;> rfl), (by simp [ev_c, ev_put, t107] <;> rfl), (by simp [ev_c, ev_put] <;> rfl), (by simp [ev_c, ev_put] <;> rfl), (by simp [ev_c, ev_put] <;> rfl)⟩) fun x1 s hx1 => ?_
    · clear t3 t4 t11 t12 t106 t107
      rintro p s hp ⟨tm, hq, rfl, sq, t3, t4, t11, t12, t106, t107, t213, t214, t215⟩
      have hp' : (p : Int) < (t.pieces.length : Int) := by omega
      have hiad := iad_fix (b := h'.next + 1) hp
      have np := rowI_nth (f := farI t k) hp
      have hfz : decide (farI t k p = 0) = decide ((p : Int) = (k : Int)) := by
        rw [decide_eq_decide, farI_zero hk]; omega
      have bb : ∀ b : Bool, (!(b == b)) = false := fun b => by cases b <;> rfl
      simp -implicitDefEqProofs (maxSteps := 999999) (disch := first | with_reducible rfl | omega | (simp only [nA, nS, nD] <;> omega) | fail) only [go_sem, t3, t4, t11, t12, t106, t107, t213, t214, t215, hp', hiad, sq.cells gF, np, sq.cells g11', sq.cells g12', hfz, bb]
      refine W.mono (Q := fun x1 s => x1 = .ext 12 ∧ ∃ tm hq, s = ⟨tm, hq, []⟩ ∧ hh.Sub hq ∧ (Opd.t 3).ev tm = .ptr b3 0 ∧ (Opd.t 4).ev tm = K ∧ (Opd.t 11).ev tm = .ptr h'.next 0 ∧ (Opd.t 12).ev tm = .ptr (h'.next + 1 + 1) 0 ∧ (Opd.t 106).ev tm = .int .i64 (t.pieces.length : Int) ∧ (Opd.t 107).ev tm = .int .i64 (k : Int) ∧
          (Opd.t 213).ev tm = .sl (h'.next + 1) 0 t.pieces.length (.fix t.pieces.length) ∧ (Opd.t 214).ev tm = .int .i64 (t.pieces.length : Int) ∧ (Opd.t 215).ev tm = .int .i64 (p : Int))
        (W_count t.pieces.length (fun r s => ∃ tm hq, s = ⟨tm, hq, []⟩ ∧ hh.Sub hq ∧ (Opd.t 3).ev tm = .ptr b3 0 ∧ (Opd.t 4).ev tm = K ∧ (Opd.t 11).ev tm = .ptr h'.next 0 ∧ (Opd.t 12).ev tm = .ptr (h'.next + 1 + 1) 0 ∧ (Opd.t 19).ev tm = .int .i64 (p : Int) ∧ (Opd.t 20).ev tm = .int .i64 (farI t k p) ∧ (Opd.t 106).ev tm = .int .i64 (t.pieces.length : Int) ∧ (Opd.t 107).ev tm = .int .i64 (k : Int) ∧
          (Opd.t 213).ev tm = .sl (h'.next + 1) 0 t.pieces.length (.fix t.pieces.length) ∧ (Opd.t 214).ev tm = .int .i64 (t.pieces.length : Int) ∧ (Opd.t 215).ev tm = .int .i64 (p : Int) ∧ (Opd.t 226).ev tm = .sl (h'.next + 1) 0 t.pieces.length (.fix t.pieces.length) ∧ (Opd.t 227).ev tm = .int .i64 (t.pieces.length : Int) ∧ (Opd.t 228).ev tm = .int .i64 (r : Int))
        ?_ ?_ (i := 0) (Nat.zero_le _) ⟨_, _, rfl, sq, (by simp [ev_c, ev_put, t3] <;> rfl), (by simp [ev_c, ev_put, t4] <;> rfl), (by simp [ev_c, ev_put, t11] <;> rfl), (by simp [ev_c, ev_put, t12] <;> rfl), (by simp [ev_c, ev_put] <;> rfl), (by simp [ev_c, ev_put] <;> rfl), (by simp [ev_c, ev_put, t106] <;> rfl), (by simp [ev_c, ev_put, t107] <;> rfl), (by simp [ev_c, ev_put, t213] <;> rfl), (by simp [ev_c, ev_put, t214] <;> rfl), (by simp [ev_c, ev_put, t215] <;> rfl), (by simp [ev_c, ev_put] <;> rfl), (by simp [ev_c, ev_put] <;> rfl), (by simp [ev_c, ev_put] <;> rfl)⟩) fun x1 s hx1 => ?_
      · clear t3 t4 t11 t12 t106 t107 t213 t214 t215 sq
        rintro r s hr ⟨tm, hq, rfl, sq, t3, t4, t11, t12, t19, t20, t106, t107, t213, t214, t215, t226, t227, t228⟩
        have hr' : (r : Int) < (t.pieces.length : Int) := by omega
        have hiadr := iad_fix (b := h'.next + 1) hr
        have nr := rowI_nth (f := farI t k) hr
        simp -implicitDefEqProofs (maxSteps := 999999) (disch := first | with_reducible rfl | omega | (simp only [nA, nS, nD] <;> omega) | fail) only [go_sem, t3, t4, t11, t12, t19, t20, t106, t107, t213, t214, t215, t226, t227, t228, hr', hiadr, sq.cells gF, nr, sq.cells gdH]
        refine lmatch_ev sq.wf (iH.mono sq) g hp hr _ fun h9 s9 => ?_
        cases hM : MM t p r with
        | false =>
          simp -implicitDefEqProofs (maxSteps := 999999) (disch := first | with_reducible rfl | omega | (simp only [nA, nS, nD] <;> omega) | fail) only [go_sem, t3, t4, t11, t12, t19, t20, t106, t107, t213, t214, t215, t226, t227, t228, wr_succ]
          exact ⟨_, _, rfl, sq.trans s9, (by simp [ev_c, ev_put, t3] <;> rfl), (by simp [ev_c, ev_put, t4] <;> rfl), (by simp [ev_c, ev_put, t11] <;> rfl), (by simp [ev_c, ev_put, t12] <;> rfl), (by simp [ev_c, ev_put, t19] <;> rfl), (by simp [ev_c, ev_put, t20] <;> rfl), (by simp [ev_c, ev_put, t106] <;> rfl), (by simp [ev_c, ev_put, t107] <;> rfl), (by simp [ev_c, ev_put, t213] <;> rfl), (by simp [ev_c, ev_put, t214] <;> rfl), (by simp [ev_c, ev_put, t215] <;> rfl), (by simp [ev_c, ev_put, t226] <;> rfl), (by simp [ev_c, ev_put, t227] <;> rfl), (by simp [ev_c, ev_put] <;> rfl)⟩
        | true =>
          have nb := farI_near g hk hp hr hM
          have b1 := farI_bd g (q := p) hk
          have b2 := farI_bd g (q := r) hk
          have w1 : wr .i64 (farI t k p - farI t k r) = farI t k p - farI t k r := wr_in (by omega) (by omega)
          have w2 : wr .i64 (farI t k r - farI t k p) = farI t k r - farI t k p := wr_in (by omega) (by omega)
          have w3 : ¬ 1 < max (farI t k p - farI t k r) (farI t k r - farI t k p) := by omega
          simp -implicitDefEqProofs (maxSteps := 999999) (disch := first | with_reducible rfl | omega | (simp only [nA, nS, nD] <;> omega) | fail) only [go_sem, t3, t4, t11, t12, t19, t20, t106, t107, t213, t214, t215, t226, t227, t228, w1, w2, w3, wr_succ]
          exact ⟨_, _, rfl, sq.trans s9, (by simp [ev_c, ev_put, t3] <;> rfl), (by simp [ev_c, ev_put, t4] <;> rfl), (by simp [ev_c, ev_put, t11] <;> rfl), (by simp [ev_c, ev_put, t12] <;> rfl), (by simp [ev_c, ev_put, t19] <;> rfl), (by simp [ev_c, ev_put, t20] <;> rfl), (by simp [ev_c, ev_put, t106] <;> rfl), (by simp [ev_c, ev_put, t107] <;> rfl), (by simp [ev_c, ev_put, t213] <;> rfl), (by simp [ev_c, ev_put, t214] <;> rfl), (by simp [ev_c, ev_put, t215] <;> rfl), (by simp [ev_c, ev_put, t226] <;> rfl), (by simp [ev_c, ev_put, t227] <;> rfl), (by simp [ev_c, ev_put] <;> rfl)⟩
      · clear t3 t4 t11 t12 t106 t107 t213 t214 t215 sq
        rintro s ⟨tm, hq, rfl, sq, t3, t4, t11, t12, t19, t20, t106, t107, t213, t214, t215, t226, t227, t228⟩
        simp -implicitDefEqProofs (maxSteps := 999999) (disch := first | with_reducible rfl | omega | (simp only [nA, nS, nD] <;> omega) | fail) only [go_sem, t3, t4, t11, t12, t19, t20, t106, t107, t213, t214, t215, t226, t227, t228, Int.lt_irrefl]
        exact ⟨_, _, rfl, sq, (by simp [ev_c, ev_put, t3] <;> rfl), (by simp [ev_c, ev_put, t4] <;> rfl), (by simp [ev_c, ev_put, t11] <;> rfl), (by simp [ev_c, ev_put, t12] <;> rfl), (by simp [ev_c, ev_put, t106] <;> rfl), (by simp [ev_c, ev_put, t107] <;> rfl), (by simp [ev_c, ev_put, t213] <;> rfl), (by simp [ev_c, ev_put, t214] <;> rfl), (by simp [ev_c, ev_put, t215] <;> rfl)⟩
      clear t3 t4 t11 t12 t106 t107 t213 t214 t215 sq
      obtain ⟨rfl, tm, hq, rfl, sq, t3, t4, t11, t12, t106, t107, t213, t214, t215⟩ := hx1
      simp -implicitDefEqProofs (maxSteps := 999999) (disch := first | with_reducible rfl | omega | (simp only [nA, nS, nD] <;> omega) | fail) only [go_sem, t3, t4, t11, t12, t106, t107, t213, t214, t215, wr_succ]
      exact ⟨_, _, rfl, sq, (by simp [ev_c, ev_put, t3] <;> rfl), (by simp [ev_c, ev_put, t4] <;> rfl), (by simp [ev_c, ev_put, t11] <;> rfl), (by simp [ev_c, ev_put, t12] <;> rfl), (by simp [ev_c, ev_put, t106] <;> rfl), (by simp [ev_c, ev_put, t107] <;> rfl), (by simp [ev_c, ev_put, t213] <;> rfl), (by simp [ev_c, ev_put, t214] <;> rfl), (by simp [ev_c, ev_put] <;> rfl)⟩
    · clear t3 t4 t11 t12 t106 t107
      rintro s ⟨tm, hq, rfl, sq, t3, t4, t11, t12, t106, t107, t213, t214, t215⟩
      simp -implicitDefEqProofs (maxSteps := 999999) (disch := first | with_reducible rfl | omega | (simp only [nA, nS, nD] <;> omega) | fail) only [go_sem, t3, t4, t11, t12, t106, t107, t213, t214, t215, Int.lt_irrefl]
      exact ⟨_, _, rfl, sq, (by simp [ev_c, ev_put, t3] <;> rfl), (by simp [ev_c, ev_put, t4] <;> rfl), (by simp [ev_c, ev_put, t11] <;> rfl), (by simp [ev_c, ev_put, t12] <;> rfl), (by simp [ev_c, ev_put, t106] <;> rfl), (by simp [ev_c, ev_put, t107] <;> rfl)⟩
    clear t3 t4 t11 t12 t106 t107
    obtain ⟨rfl, tm, hq, rfl, sq, t3, t4, t11, t12, t106, t107⟩ := hx1
    have pc : isPc t (k : Int) = true := by simp only [isPc, decide_eq_true_eq]; omega
    have e0 : grE t (k : Int) = 0 := by unfold grE; rw [if_neg (by simp [check_iff.2 g]), if_neg (by simp [pc])]
    simp -implicitDefEqProofs (maxSteps := 999999) (disch := first | with_reducible rfl | omega | (simp only [nA, nS, nD] <;> omega) | fail) only [go_sem, t3, t4, t11, t12, t106, t107, sq.cells gdH, sq.cells g11']
    refine Greatest_ev sq.wf (iH.mono sq) (k : Int) _ fun y h9 s9 hy => ?_
    rw [e0]
    have dn0 : decide ((0 : Int) ≠ 0) = false := rfl
    obtain ⟨c, yc, hc⟩ : ∃ c : List Int, SlAt h9 y 1 (c.map encI) ∧ ∀ a ∈ c, 0 ≤ a ∧ a < (t.pieces.length : Int) ∧ farI t k a.toNat ≤ 1 := by
      unfold LsOut at hy
      cases hg : grR t (k : Int) with
      | some c => rw [hg] at hy; exact ⟨c, hy, gr_near g (check_iff.2 g) hk hg⟩
      | none => rw [hg] at hy; exact ⟨[], by rw [hy]; exact (OwnSl.nil s9 1).sl (by simp), fun a ha => by cases ha⟩
    simp -implicitDefEqProofs (maxSteps := 999999) (disch := first | with_reducible rfl | omega | (simp only [nA, nS, nD] <;> omega) | fail) only [go_sem, t3, t4, t11, t12, t106, t107, dn0]
    have s0 := sq.trans s9
    refine (containsFuncInt_ev (p := fun a => decide (1 < farI t k a.toNat)) s9.wf yc fun a ha => chained2_ev (s0.cells g12') (s0.cells gF) (by omega) ⟨(hc a ha).1, (hc a ha).2.1⟩).mono fun u h10 hu => ?_
    obtain ⟨rfl, s10⟩ := hu
    have ea : (c.any fun a => decide (1 < farI t k a.toNat)) = false := by
      rw [List.any_eq_false]
      intro a ha
      have := (hc a ha).2.2
      simp; omega
    rw [ea]
    simp -implicitDefEqProofs (maxSteps := 999999) (disch := first | with_reducible rfl | omega | (simp only [nA, nS, nD] <;> omega) | fail) only [go_sem, t3, t4, t11, t12, t106, t107, wr_succ]
    exact ⟨_, _, rfl, hs.trans (sH.trans (s0.trans s10)), (by simp [ev_c, ev_put, t3] <;> rfl), (by simp [ev_c, ev_put, t4] <;> rfl), (by simp [ev_c, ev_put, t106] <;> rfl), (by simp [ev_c, ev_put] <;> rfl)⟩
  · clear t3 t4 t6
    rintro s ⟨tm, h', rfl, hs, t3, t4, t106, t107⟩
    simp -implicitDefEqProofs (maxSteps := 999999) (disch := first | with_reducible rfl | omega | (simp only [nA, nS, nD] <;> omega) | fail) only [go_sem, t3, t4, t106, t107, Int.lt_irrefl, awake_eq]
end Go.Ab.Try
