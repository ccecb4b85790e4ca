/- How many: strangers, sets, eyes. Plain. Sortings into sets of which any two go together: the first one that is found, and that no fewer sets do. Plain. Slices of our own that are cut short and grow again; lists of them. All rising lists of so many numbers, one by one, until one holds. The eyes that tell two pieces apart, as the program finds them. enough: whether some eyes tell apart all that can be told apart. Fewest. most: the longest lists of pieces of which every two pass a test. Strangers, Greatest. sorting: the first sorting into at most so many sets. What the longest list for which something holds is. Plain. -/
import Derived.Test.YtkjbamlcgojkmaaGreatPa5
import Derived.Test.YtkjbamlcgojkmaaGreatG5
import Derived.Test.YtkjbamlcgojkmaaGreatG6
set_option linter.unusedSimpArgs false
set_option linter.unusedVariables false
namespace Go.Ab
def upto (p : Nat) : List Int := (List.range p).map fun i : Nat => (i : Int)
theorem mem_upto {p : Nat} {x : Int} : x ∈ upto p ↔ 0 ≤ x ∧ x < (p : Int) := by
  unfold upto
  rw [List.mem_map]
  constructor
  · rintro ⟨i, hi, rfl⟩
    have := List.mem_range.1 hi; omega
  · intro h
    exact ⟨x.toNat, List.mem_range.2 (by omega), by omega⟩
end Go.Ab
set_option linter.unusedSimpArgs false
set_option linter.unusedVariables false
namespace Go.Ab
def CutO (F : Nat → Prop) (h : H) (x : V) (sz : Nat) (rows : List (List V)) : Prop :=
  (∀ r ∈ rows, r.length = sz) ∧ ((x = .nils ∧ rows = []) ∨ (∃ b rest j, x = .sl b 0 rows.length (.slk 0 0) ∧ F b ∧ b < h.next ∧ h.get b = some (.cells (.gr sz) (rows.flatten ++ rest)) ∧ rest.length = j * sz) ∨
    ∃ b c rest, x = .sl b 0 rows.length (.fix c) ∧ F b ∧ b < h.next ∧ h.get b = some (.cells .rw (rows.flatten ++ rest)) ∧ rows.length * sz + rest.length = c * sz ∧ rows.length ≤ c)
theorem OwnC.cutO {h0 h : H} {x : V} {sz : Nat} {rows : List (List V)} (a : OwnC h0 h x sz rows) : CutO (fun b => h0.next ≤ b) h x sz rows := by
  refine ⟨a.2.1, ?_⟩
  rcases a.2.2 with a2 | ⟨b, e, l1, l2, hb⟩ | ⟨b, c, rest, e, l1, l2, hb, k⟩
  · exact .inl a2
  · exact .inr (.inl ⟨b, [], 0, e, l1, l2, by rw [List.append_nil]; exact hb, by simp⟩)
  · exact .inr (.inr ⟨b, c, rest, e, l1, l2, hb, k⟩)
theorem CutO.sl {F : Nat → Prop} {h : H} {x : V} {sz : Nat} {rows : List (List V)} (a : CutO F h x sz rows) (hl : rows.length ≤ 9223372036854775807) : SlAt h x sz rows := by
  obtain ⟨a1, a2⟩ := a
  refine ⟨a1, hl, ?_⟩
  rcases a2 with a2 | ⟨b, rest, j, e, _, _, hb, _⟩ | ⟨b, c, rest, e, _, _, hb, _⟩
  · exact .inl a2
  · refine .inr ⟨b, 0, _, _, e, .inr (cells_of hb), getN_eq.2 ⟨?_, ?_⟩⟩
    · rw [List.drop_zero, ← flatten_len a1, List.take_left']; rfl
    · rw [List.length_append, flatten_len a1]; omega
  · refine .inr ⟨b, 0, _, _, e, .inr (cells_of hb), getN_eq.2 ⟨?_, ?_⟩⟩
    · rw [List.drop_zero, ← flatten_len a1, List.take_left']; rfl
    · rw [List.length_append, flatten_len a1]; omega
theorem CutO.keep {F : Nat → Prop} {h h' : H} {S : Nat → Prop} {x : V} {sz : Nat} {rows : List (List V)} (a : CutO F h x sz rows) (k : Keeps S h h') (n : ∀ b, blkOf x b → ¬ S b) : CutO F h' x sz rows := by
  obtain ⟨a1, a2⟩ := a
  refine ⟨a1, ?_⟩
  rcases a2 with a2 | ⟨b, rest, j, e, l1, l2, hb, r⟩ | ⟨b, c, rest, e, l1, l2, hb, r⟩
  · exact .inl a2
  · exact .inr (.inl ⟨b, rest, j, e, l1, Nat.lt_of_lt_of_le l2 k.1, k.2 b _ hb (n b ⟨_, _, _, e⟩), r⟩)
  · exact .inr (.inr ⟨b, c, rest, e, l1, Nat.lt_of_lt_of_le l2 k.1, k.2 b _ hb (n b ⟨_, _, _, e⟩), r⟩)
theorem CutO.mono {F : Nat → Prop} {h h' : H} {x : V} {sz : Nat} {rows : List (List V)} (a : CutO F h x sz rows) (s : h.Sub h') : CutO F h' x sz rows := a.keep (Keeps.of s fun _ => False) fun _ _ => id
theorem CutO.blk {F : Nat → Prop} {h : H} {x : V} {sz : Nat} {rows : List (List V)} (a : CutO F h x sz rows) {b : Nat} (e : blkOf x b) : F b ∧ b < h.next ∧ ∃ k cs, h.get b = some (.cells k cs) ∧ (k = .rw ∨ k = .gr sz) := by
  obtain ⟨o, n, c, rfl⟩ := e
  rcases a.2 with ⟨e, _⟩ | ⟨b', rest, j, e, l1, l2, hb, _⟩ | ⟨b', c, rest, e, l1, l2, hb, _⟩
  · cases e
  · cases e; exact ⟨l1, l2, _, _, hb, .inr rfl⟩
  · cases e; exact ⟨l1, l2, _, _, hb, .inl rfl⟩
theorem CutO.one {F : Nat → Prop} {h : H} {x : V} {sz : Nat} {rows : List (List V)} (a : CutO F h x sz rows) : x.one = true := by
  rcases a.2 with ⟨rfl, _⟩ | ⟨_, _, _, rfl, _⟩ | ⟨_, _, _, rfl, _⟩ <;> rfl
theorem CutO.up {F F' : Nat → Prop} {h : H} {x : V} {sz : Nat} {rows : List (List V)} (a : CutO F h x sz rows) (l : ∀ b, F b → b < h.next → F' b) : CutO F' h x sz rows := by
  obtain ⟨a1, a2⟩ := a
  refine ⟨a1, ?_⟩
  rcases a2 with a2 | ⟨b, rest, j, e, l1, l2, hb, r⟩ | ⟨b, c, rest, e, l1, l2, hb, r⟩
  · exact .inl a2
  · exact .inr (.inl ⟨b, rest, j, e, l b l1 l2, l2, hb, r⟩)
  · exact .inr (.inr ⟨b, c, rest, e, l b l1 l2, l2, hb, r⟩)
theorem CutO.app1 {F : Nat → Prop} {h : H} {x y : V} {sz by_ : Nat} {rows : List (List V)} {r : List V} {Q : V → H → Prop} (a : CutO F h x sz rows) (hw : h.wf) (hlo : F h.next) (hsz : r.length = sz) (hp : 0 < sz)
    (hy : SlAt h y sz [r]) (ho : allOne r = true) (h1 : (rows.length + 1) * by_ ≤ 1099511627776) (h2 : rows.length + 1 ≤ 1099511627776)
    (q : ∀ x' h', CutO F h' x' sz (rows ++ [r]) → (∀ b, blkOf x' b → blkOf x b ∨ h.next ≤ b) → Keeps (blkOf x) h h' → h'.wf → Q x' h') : P2 (e_app' h sz by_ x y) Q := by
  obtain ⟨a1, a2⟩ := a
  have hall : ∀ r' ∈ rows ++ [r], r'.length = sz := fun r' hr => (List.mem_append.1 hr).elim (a1 r') fun h => by rw [List.mem_singleton] at h; rw [h]; exact hsz
  obtain ⟨he, hl⟩ := hy.elems
  rw [e_app_eq, he, hl]
  simp only [ob_some, List.length_singleton, List.flatten_cons, List.flatten_nil, List.append_nil]
  obtain ⟨v, vs, hv⟩ : ∃ v vs, r = v :: vs := by
    cases r with
    | nil => simp at hsz; omega
    | cons v vs => exact ⟨v, vs, rfl⟩
  have kadd : ∀ cs, Keeps (blkOf x) h (h.add cs) := fun cs => ⟨by rw [H.next_add]; omega, fun c y hc _ => by rw [get_add_old (hw c y hc)]; exact hc⟩
  have wadd : ∀ cs, (h.add cs).wf := fun cs => ((H.Sub.refl hw).add cs).wf
  rcases a2 with ⟨rfl, rfl⟩ | ⟨b, rest, j, rfl, l1, l2, hb, hr⟩ | ⟨b, c, rest, rfl, l1, l2, hb, hc, hlc⟩
  · rw [e_app_nils, room_ok (by simpa using h1) (by simp), grown_eq, P2_some]
    exact q _ _ ⟨hall, .inr (.inl ⟨h.next, [], 0, by simp, hlo, by rw [H.next_add]; omega, by rw [get_add_new rfl]; simp, by simp⟩)⟩ (fun b' ⟨_, _, _, e⟩ => by cases e; exact .inr (Nat.le_refl _)) (kadd _) (wadd _)
  · cases j with
    | zero =>
      have hrest : rest = [] := List.length_eq_zero_iff.1 (by rw [hr]; simp)
      subst hrest
      rw [List.append_nil] at hb
      rw [e_app_slk hp hb (flatten_len a1) ho h1 h2, grownO_eq, P2_some]
      have hbn : h.next ≠ b := by omega
      have wS := H.wf_set (wadd (.cells (.gr sz) (rows.flatten ++ r))) (.old h.next 0 rows.flatten) (show (h.add (.cells (.gr sz) (rows.flatten ++ r))).get b = some (.cells (.gr sz) rows.flatten) by rw [get_add_old l2]; exact hb)
      exact q _ _ ⟨hall, .inr (.inl ⟨h.next, [], 0, by simp, hlo, by rw [H.next_set, H.next_add]; omega, by rw [get_set_other hbn, get_add_new rfl]; simp, by simp⟩)⟩ (fun b' ⟨_, _, _, e⟩ => by cases e; exact .inr (Nat.le_refl _))
        ⟨by rw [H.next_set, H.next_add]; omega, fun c y hc hx => by
          have hne : c ≠ b := fun e => hx ⟨_, _, _, by rw [e]⟩
          rw [get_set_other hne, get_add_old (hw c y hc)]; exact hc⟩ wS
    | succ j =>
      have hlr : sz ≤ rest.length := by rw [hr, Nat.add_mul]; omega
      have hpn : putN (0 + rows.length * sz) r (rows.flatten ++ rest) = some ((rows ++ [r]).flatten ++ rest.drop sz) := by
        have := putN_app (pre := rows.flatten) (new := r) (old := rest.take sz) (rest := rest.drop sz) (by rw [List.length_take]; omega)
        rw [List.append_assoc, List.take_append_drop, flatten_len a1] at this
        rw [Nat.zero_add, this]; simp
      have e1 : Nat.beq sz sz = true := by simp
      have e3 : Nat.beq 0 (0 * sz) = true := by simp
      have e4 : Nat.ble (0 + (rows.length + (0 + 1)) * sz) (rows.flatten ++ rest).length = true := by
        rw [Nat.ble_eq, List.length_append, flatten_len a1, Nat.add_mul]; omega
      have eA : e_app h sz by_ (.sl b 0 rows.length (.slk 0 0)) (0 + 1) r = withV (.sl b 0 (rows.length + (0 + 1)) (.slk 0 0)) (h.put b (0 + rows.length * sz) r) := by
        simp only [e_app, appSlk, hb, lenN_eq, e1, e3, e4, og_true]
      have eA' : e_app h sz by_ (.sl b 0 rows.length (.slk 0 0)) 1 r = withV (.sl b 0 (rows.length + 1) (.slk 0 0)) (h.put b (0 + rows.length * sz) r) := eA
      rw [eA']
      rw [hv] at hpn ho ⊢
      rw [H.put_gr ho hb hpn, withV_some, P2_some, ← hv]
      refine q _ _ ⟨hall, .inr (.inl ⟨b, rest.drop sz, j, by simp, l1, by rw [H.next_set]; exact l2, by rw [get_set_same rfl], ?_⟩)⟩ (fun b' ⟨_, _, _, e⟩ => by cases e; exact .inl ⟨_, _, _, rfl⟩) ?_ (H.wf_set hw _ hb)
      · rw [List.length_drop, hr, Nat.add_mul]; omega
      · exact (Keeps.set h b _).mono fun c e => by subst e; exact ⟨_, _, _, rfl⟩
  · by_cases hr : rows.length + 1 ≤ c
    · rw [e_app_fix (by omega)]
      have hlr : sz ≤ rest.length := by
        have := Nat.mul_le_mul_right sz hr; rw [Nat.add_mul] at this; omega
      have hpn : putN (0 + rows.length * sz) r (rows.flatten ++ rest) = some ((rows ++ [r]).flatten ++ rest.drop sz) := by
        have := putN_app (pre := rows.flatten) (new := r) (old := rest.take sz) (rest := rest.drop sz) (by rw [List.length_take]; omega)
        rw [List.append_assoc, List.take_append_drop, flatten_len a1] at this
        rw [Nat.zero_add, this]; simp
      rw [hv] at hpn ho ⊢
      rw [H.put_rw ho hb hpn, withV_some, P2_some, ← hv]
      refine q _ _ ⟨hall, .inr (.inr ⟨b, c, rest.drop sz, by simp, l1, by rw [H.next_set]; exact l2, by rw [get_set_same rfl], ?_, by simpa using hr⟩)⟩ (fun b' ⟨_, _, _, e⟩ => by cases e; exact .inl ⟨_, _, _, rfl⟩) ?_ (H.wf_set hw _ hb)
      · rw [List.length_append, List.length_singleton, List.length_drop, Nat.add_mul]; omega
      · exact (Keeps.set h b _).mono fun c e => by subst e; exact ⟨_, _, _, rfl⟩
    · have hce : c = rows.length := by omega
      have hel : elems h sz (.sl b 0 rows.length (.fix c)) = some rows.flatten := by
        have o : CutO F h (.sl b 0 rows.length (.fix c)) sz rows := ⟨a1, .inr (.inr ⟨b, c, rest, rfl, l1, l2, hb, hc, hlc⟩)⟩
        exact (o.sl (by omega)).elems.1
      rw [e_app_full (by omega) hel (by omega) (by omega), grown_eq, P2_some]
      exact q _ _ ⟨hall, .inr (.inl ⟨h.next, [], 0, by simp, hlo, by rw [H.next_add]; omega, by rw [get_add_new rfl]; simp, by simp⟩)⟩ (fun b' ⟨_, _, _, e⟩ => by cases e; exact .inr (Nat.le_refl _)) (kadd _) (wadd _)
noncomputable def slcTo (h : H) (sz : Nat) (x k : V) : Option V := q_slc .nil h sz x none (some (.c k)) none
theorem q_slc_to (tm : T V) (h : H) (sz : Nat) (x : V) (y : Opd) : q_slc tm h sz x none (some y) none = slcTo h sz x (y.ev tm) := rfl
theorem subO_to {b o sz n c k : Nat} {tm : T V} {x : Opd} {kd : IntKind} (hx : x.ev tm = .int kd (k : Int)) (hk : k ≤ n) (hc : n ≤ c) : subO b o sz (bnd3 tm n c none (some x) none) = some (.sl b (bsel (Nat.beq c 0) o (o + 0 * sz)) k (.fix c)) := by
  have e1 : Nat.ble 0 k = true := by simp
  have e2 : Nat.ble k c = true := by simp; omega
  have e3 : Nat.ble c c = true := by simp
  simp only [bnd3, natO, hx, natk_cst, bnds, e1, e2, e3, og_true, subO, sub, Nat.sub_zero]
namespace Tryz
def CutI (h : H) (x : V) (l : List Int) : Prop := CutO (fun _ => True) h x 1 (l.map encI) ∧ l.length ≤ 20
theorem CutI.nil (h : H) : CutI h .nils [] := ⟨⟨by simp, .inl ⟨rfl, rfl⟩⟩, by simp⟩
theorem CutI.sl {h : H} {x : V} {l : List Int} (a : CutI h x l) : SlAt h x 1 (l.map encI) := a.1.sl (by have := a.2; simp only [List.length_map]; omega)
theorem CutI.one {h : H} {x : V} {l : List Int} (a : CutI h x l) : x.one = true := a.1.one
theorem CutI.keep {h h' : H} {S : Nat → Prop} {x : V} {l : List Int} (a : CutI h x l) (k : Keeps S h h') (n : ∀ b, blkOf x b → ¬ S b) : CutI h' x l := ⟨a.1.keep k n, a.2⟩
theorem CutI.mono {h h' : H} {x : V} {l : List Int} (a : CutI h x l) (s : h.Sub h') : CutI h' x l := ⟨a.1.mono s, a.2⟩
theorem CutI.lenE {h : H} {x : V} {l : List Int} (a : CutI h x l) : q_len x = some (.int .i64 (l.length : Int)) := a.sl.lenE
end Tryz
end Go.Ab
set_option linter.unusedSimpArgs false
set_option linter.unusedVariables false
namespace Go.Ab
end Go.Ab
namespace Go.Ab.Tryz
open Go.Ab.Silk (comb)
theorem find_step (P : List Int → Bool) (l : List Int) (k f : Nat) (j : Int) : (comb (k + 1) (f + 1) j).find? (fun c => P (l ++ c)) =
    match (comb k f (j + 1)).find? (fun c => P ((l ++ [j]) ++ c)) with | some c => some (j :: c) | none => (comb (k + 1) f (j + 1)).find? (fun c => P (l ++ c)) := by
  simp only [comb, List.find?_append, List.find?_map]
  have e : (fun c => P (l ++ c)) ∘ (fun l' => j :: l') = fun c => P ((l ++ [j]) ++ c) := by
    funext c; simp
  rw [e]
  cases (comb k f (j + 1)).find? (fun c => P ((l ++ [j]) ++ c)) <;> simp

theorem cloneInt_ev {h : H} {x : V} {rows : List (List V)} (hw : h.wf) (hx : SlAt h x 1 rows) (hl : rows.length ≤ 1000000) (Q : V → H → Prop) (q : ∀ v h', OwnC h h' v 1 rows → Q v h') : Ev fnG fastA (.fn 134 [] []) [x] h Q := by
  refine Ev_body (fd := c134) rfl rfl rfl ?_
  rcases hx.2.2 with ⟨rfl, e⟩ | ⟨b, o, c, cs, rfl, _⟩
  · simp -implicitDefEqProofs (maxSteps := 999999) (disch := first | with_reducible rfl | omega | (simp only [nA, nS, nD] <;> omega) | fail) only [c134, go_sem]
    exact q _ _ (by rw [e]; exact (OwnSl.nil (H.Sub.refl hw) 1).c)
  · simp -implicitDefEqProofs (maxSteps := 999999) (disch := first | with_reducible rfl | omega | (simp only [nA, nS, nD] <;> omega) | fail) only [c134, go_sem]
    refine clone_core hw hx (by omega) (by omega) fun v h' ov => ?_
    simp -implicitDefEqProofs (maxSteps := 999999) (disch := first | with_reducible rfl | omega | (simp only [nA, nS, nD] <;> omega) | fail) only [go_sem]
    exact q _ _ ov
def FnHolds (hb : H) (fv : V) (oC n : Nat) (P : List Int → Bool) (Post : List Int → H → Prop) : Prop := ∀ (l : List Int) (x : V) (h1 : H), (∀ a ∈ l, 0 ≤ a ∧ a < (n : Int)) → hb.Sub h1 → CutI h1 x l → (∀ b, blkOf x b → hb.next ≤ b ∧ b ≠ oC) → (∃ y, h1.get oC = some (.cells .rw [y])) →
  ∀ R : V → H → Prop, (∀ h2, Keeps (fun c => c = oC) h1 h2 → h2.wf → (∃ y, h2.get oC = some (.cells .rw [y])) → (P l = true → Post l h2) → R (.bool (P l)) h2) → Ev fnG fastA fv [x] h1 R
def LsRes (P : List Int → Bool) (Post : List Int → H → Prop) (l : List Int) (r : Option (List Int)) (t : Bool) (h' : H) : Prop := match r with
  | some c => t = true ∧ P (l ++ c) = true ∧ Post (l ++ c) h'
  | none => t = false
set_option maxHeartbeats 2000000 in
theorem lists1_ev {hb : H} (hwb : hb.wf) {fv : V} {P : List Int → Bool} {Post : List Int → H → Prop} {kC fC nC gC oC : Nat} {many n : Nat} (hP : FnHolds hb fv oC n P Post) (ho : hb.next ≤ oC) (n1 : kC ≠ oC) (n2 : fC ≠ oC) (n3 : nC ≠ oC) (n4 : gC ≠ oC) (hmany : many ≤ 20) (hn : n ≤ 1000) :
    ∀ (k : Nat) (h : H) (x : V) (l : List Int) (i : Nat), l.length + k = many → (∀ a ∈ l, 0 ≤ a ∧ a < (n : Int)) → hb.Sub h → h.cells kC = some [.int .i64 (many : Int)] → h.cells fC = some [fv] → h.cells nC = some [.int .i64 (n : Int)] → h.cells gC = some [.fn 142 [] [.ptr kC 0, .ptr fC 0, .ptr nC 0, .ptr gC 0]] →
      (∃ y, h.get oC = some (.cells .rw [y])) → CutI h x l → (∀ b, blkOf x b → hb.next ≤ b ∧ b ≠ oC) → i ≤ n → ∀ (Q : V → H → Prop), (∀ t h', Keeps (fun c => c = oC) h h' → h'.wf → (∃ y, h'.get oC = some (.cells .rw [y])) → LsRes P Post l ((comb k (n - i) (i : Int)).find? fun c => P (l ++ c)) t h' → Q (.bool t) h') →
      Ev fnG fastA (.fn 142 [] [.ptr kC 0, .ptr fC 0, .ptr nC 0, .ptr gC 0]) [x, .int .i64 (i : Int)] h Q := by
  intro k
  induction k with
  | zero =>
    intro h x l i hk hlr hs cm ch cd cf go ax nx hi Q q
    have hlx := ax.lenE
    have hll : (l.length : Int) = (many : Int) := by omega
    refine Ev_body (fd := c142) rfl rfl rfl ?_
    simp -implicitDefEqProofs (maxSteps := 999999) (disch := first | with_reducible rfl | omega | (simp only [nA, nS, nD] <;> omega) | fail) only [c142, go_sem, hlx, hll, cm, ch]
    refine hP l x h hlr hs ax nx go _ fun h2 k2 w2 go2 hp => ?_
    simp -implicitDefEqProofs (maxSteps := 999999) (disch := first | with_reducible rfl | omega | (simp only [nA, nS, nD] <;> omega) | fail) only [go_sem]
    refine q _ _ k2 w2 go2 ?_
    have e : (comb 0 (n - i) (i : Int)).find? (fun c => P (l ++ c)) = if P l = true then some [] else none := by
      simp only [comb, List.find?_cons, List.find?_nil, List.append_nil]
      cases P l <;> rfl
    rw [e]
    cases hpl : P l
    · exact rfl
    · exact ⟨rfl, by rw [List.append_nil]; exact hpl, by rw [List.append_nil]; exact hp hpl⟩
  | succ k ih =>
    intro h x l i hk hlr hs cm ch cd cf hgo ax nx hi Q q
    have hlx := ax.lenE
    have hll : ¬ (l.length : Int) = (many : Int) := by omega
    refine Ev_body (fd := c142) rfl rfl rfl ?_
    simp -implicitDefEqProofs (maxSteps := 999999) (disch := first | with_reducible rfl | omega | (simp only [nA, nS, nD] <;> omega) | fail) only [c142, go_sem, hlx, hll, cm]
    refine W_count n (fun j s => ∃ tm h', s = ⟨tm, h', []⟩ ∧ Keeps (fun c => c = oC) h h' ∧ h'.wf ∧ (∃ y, h'.get oC = some (.cells .rw [y])) ∧ ((comb (k + 1) (n - i) (i : Int)).find? fun c => P (l ++ c)) = ((comb (k + 1) (n - j) (j : Int)).find? fun c => P (l ++ c)) ∧
        (Opd.t 0).ev tm = x ∧ (Opd.t 4).ev tm = .ptr nC 0 ∧ (Opd.t 5).ev tm = .ptr gC 0 ∧ (Opd.t 9).ev tm = .int .i64 (j : Int))
      ?_ ?_ (i := i) hi ⟨_, _, rfl, Keeps.refl _ _, hs.wf, hgo, rfl, (by simp [ev_c, ev_put] <;> rfl), (by simp [ev_c, ev_put] <;> rfl), (by simp [ev_c, ev_put] <;> rfl), (by simp [ev_c, ev_put] <;> rfl)⟩
    · rintro j s hj ⟨tm, h', rfl, kh, wh, ⟨y0, go⟩, hfind, t0, t4, t5, t9⟩
      have hj' : (j : Int) < (n : Int) := by omega
      have hs' : hb.Sub h' := kh.sub hs hwb (fun c hc => by omega) wh
      have cm' := kh.cells cm n1
      have ch' := kh.cells ch n2
      have cd' := kh.cells cd n3
      have cf' := kh.cells cf n4
      have ax' := ax.keep kh fun b h0 => (nx b h0).2
      have hlo := wh _ _ go
      have hll2 : (l.map encI).length ≤ 20 := by simp; omega
      simp -implicitDefEqProofs (maxSteps := 999999) (disch := first | with_reducible rfl | omega | (simp only [nA, nS, nD] <;> omega) | fail) only [go_sem, t0, t4, t5, t9, cd', hj', cf']
      refine cloneInt_ev wh ax'.sl (by omega) _ fun v h1 ov => ?_
      have s01 := ov.1
      have cf1 := s01.cells cf'
      simp -implicitDefEqProofs (maxSteps := 999999) (disch := first | with_reducible rfl | omega | (simp only [nA, nS, nD] <;> omega) | fail) only [go_sem, t0, t4, t5, t9]
      have s12 := (H.Sub.refl s01.wf).add (.cells .rw [.int .i64 (j : Int)])
      refine (ov.mono s12).app1 (by_ := 8) (r := encI (j : Int)) wh rfl (by omega) own1_lit rfl (by omega) (by omega) fun x2 h2 ox2 dx2 kx2 => ?_
      have s02 := ox2.1
      have cf2 := s02.cells cf'
      have e2 : l.map encI ++ [encI (j : Int)] = (l ++ [(j : Int)]).map encI := by simp
      have ox2' := ox2
      rw [e2] at ox2'
      have ax2 : CutI h2 x2 (l ++ [(j : Int)]) := ⟨ox2'.cutO.up fun _ _ _ => trivial, by simp; omega⟩
      simp -implicitDefEqProofs (maxSteps := 999999) (disch := first | with_reducible rfl | omega | (simp only [nA, nS, nD] <;> omega) | fail) only [go_sem, t0, t4, t5, t9, wr_succ]
      refine ih h2 x2 (l ++ [(j : Int)]) (j + 1) (by simp; omega) (fun a ha => (List.mem_append.1 ha).elim (hlr a) fun h => by rw [List.mem_singleton] at h; omega) (hs'.trans s02) (s02.cells cm') (s02.cells ch') (s02.cells cd') cf2 ⟨y0, s02.get go⟩ ax2 (fun b h0 => by have := (ox2.blk h0).1; have := hs'.next; have := s01.next; omega) (by omega) _ fun t h3 k23 w3 go3 hres => ?_
      have k03 : Keeps (fun c => c = oC) h h3 := ((kh.trans (Keeps.of s02 fun c => c = oC)).trans k23).mono fun c h => by rcases h with (h | h) | h <;> exact h
      have hst := find_step P l k (n - (j + 1)) (j : Int)
      have ef : n - j = (n - (j + 1)) + 1 := by omega
      have ej : ((j : Int) + 1) = ((j + 1 : Nat) : Int) := by omega
      rw [ef, hst, ej] at hfind
      cases hr : (comb k (n - (j + 1)) ((j + 1 : Nat) : Int)).find? (fun c => P ((l ++ [(j : Int)]) ++ c)) with
      | some c =>
        rw [hr] at hres hfind
        obtain ⟨rfl, hp1, hp2⟩ := hres
        simp -implicitDefEqProofs (maxSteps := 999999) (disch := first | with_reducible rfl | omega | (simp only [nA, nS, nD] <;> omega) | fail) only [go_sem, t0, t4, t5, t9, cf', cf1, cf2]
        refine q _ _ k03 w3 go3 ?_
        rw [hfind]
        exact ⟨rfl, by rw [List.append_assoc] at hp1; exact hp1, by rw [List.append_assoc] at hp2; exact hp2⟩
      | none =>
        rw [hr] at hres hfind
        have hres : t = false := hres
        subst hres
        simp -implicitDefEqProofs (maxSteps := 999999) (disch := first | with_reducible rfl | omega | (simp only [nA, nS, nD] <;> omega) | fail) only [go_sem, t0, t4, t5, t9, cf', cf1, cf2, wr_succ]
        exact ⟨_, _, rfl, k03, w3, go3, hfind, (by simp [ev_c, ev_put, t0] <;> rfl), (by simp [ev_c, ev_put, t4] <;> rfl), (by simp [ev_c, ev_put, t5] <;> rfl), (by simp [ev_c, ev_put] <;> rfl)⟩
    · rintro s ⟨tm, h', rfl, kh, wh, hgo', hfind, t0, t4, t5, t9⟩
      have cd' := kh.cells cd n3
      simp -implicitDefEqProofs (maxSteps := 999999) (disch := first | with_reducible rfl | omega | (simp only [nA, nS, nD] <;> omega) | fail) only [go_sem, t0, t4, t5, t9, cd', Int.lt_irrefl]
      refine q _ _ kh wh hgo' ?_
      rw [hfind, Nat.sub_self]
      exact rfl
theorem lists_ev {hb h : H} (hwb : hb.wf) {fv : V} {P : List Int → Bool} {Post : List Int → H → Prop} {oC : Nat} {k n : Nat} (hP : FnHolds hb fv oC n P Post) (h1 : fv.one = true) (ho : hb.next ≤ oC) (hs : hb.Sub h) (go : ∃ y, h.get oC = some (.cells .rw [y])) (hk : k ≤ 20) (hn : n ≤ 1000) (Q : V → H → Prop)
    (q : ∀ t h', Keeps (fun c => c = oC) h h' → h'.wf → (∃ y, h'.get oC = some (.cells .rw [y])) → LsRes P Post [] ((comb k n 0).find? P) t h' → Q (.bool t) h') : Ev fnG fastA (.fn 94 [] []) [.int .i64 (k : Int), .int .i64 (n : Int), fv] h Q := by
  obtain ⟨y0, go⟩ := go
  have lo := hs.wf _ _ go
  refine Ev_body (fd := c94) rfl rfl rfl ?_
  have sA : h.Sub ((((h.add (.cells .rw [.int .i64 (k : Int)])).add (.cells .rw [.int .i64 (n : Int)])).add (.cells .rw [fv])).add (.cells .rw [.fn 142 [] [.ptr h.next 0, .ptr (h.next + 1 + 1) 0, .ptr (h.next + 1) 0, .ptr (h.next + 1 + 1 + 1) 0]])) := (((((H.Sub.refl hs.wf).add _).add _).add _).add _)
  have ck : ((((h.add (.cells .rw [.int .i64 (k : Int)])).add (.cells .rw [.int .i64 (n : Int)])).add (.cells .rw [fv])).add (.cells .rw [.fn 142 [] [.ptr h.next 0, .ptr (h.next + 1 + 1) 0, .ptr (h.next + 1) 0, .ptr (h.next + 1 + 1 + 1) 0]])).cells h.next = some [.int .i64 (k : Int)] := by simp -implicitDefEqProofs (maxSteps := 999999) (disch := first | with_reducible rfl | omega | (simp only [nA, nS, nD] <;> omega) | fail) only [go_sem]
  have cn : ((((h.add (.cells .rw [.int .i64 (k : Int)])).add (.cells .rw [.int .i64 (n : Int)])).add (.cells .rw [fv])).add (.cells .rw [.fn 142 [] [.ptr h.next 0, .ptr (h.next + 1 + 1) 0, .ptr (h.next + 1) 0, .ptr (h.next + 1 + 1 + 1) 0]])).cells (h.next + 1) = some [.int .i64 (n : Int)] := by simp -implicitDefEqProofs (maxSteps := 999999) (disch := first | with_reducible rfl | omega | (simp only [nA, nS, nD] <;> omega) | fail) only [go_sem]
  have cf : ((((h.add (.cells .rw [.int .i64 (k : Int)])).add (.cells .rw [.int .i64 (n : Int)])).add (.cells .rw [fv])).add (.cells .rw [.fn 142 [] [.ptr h.next 0, .ptr (h.next + 1 + 1) 0, .ptr (h.next + 1) 0, .ptr (h.next + 1 + 1 + 1) 0]])).cells (h.next + 1 + 1) = some [fv] := by simp -implicitDefEqProofs (maxSteps := 999999) (disch := first | with_reducible rfl | omega | (simp only [nA, nS, nD] <;> omega) | fail) only [go_sem]
  have cg : ((((h.add (.cells .rw [.int .i64 (k : Int)])).add (.cells .rw [.int .i64 (n : Int)])).add (.cells .rw [fv])).add (.cells .rw [.fn 142 [] [.ptr h.next 0, .ptr (h.next + 1 + 1) 0, .ptr (h.next + 1) 0, .ptr (h.next + 1 + 1 + 1) 0]])).cells (h.next + 1 + 1 + 1) = some [.fn 142 [] [.ptr h.next 0, .ptr (h.next + 1 + 1) 0, .ptr (h.next + 1) 0, .ptr (h.next + 1 + 1 + 1) 0]] := by simp -implicitDefEqProofs (maxSteps := 999999) (disch := first | with_reducible rfl | omega | (simp only [nA, nS, nD] <;> omega) | fail) only [go_sem]
  simp -implicitDefEqProofs (maxSteps := 999999) (disch := first | with_reducible rfl | omega | (simp only [nA, nS, nD] <;> omega) | fail) only [c94, go_sem, h1, cells_one h1]
  generalize ((((h.add (.cells .rw [.int .i64 (k : Int)])).add (.cells .rw [.int .i64 (n : Int)])).add (.cells .rw [fv])).add (.cells .rw [.fn 142 [] [.ptr h.next 0, .ptr (h.next + 1 + 1) 0, .ptr (h.next + 1) 0, .ptr (h.next + 1 + 1 + 1) 0]])) = h5 at sA ck cn cf cg ⊢
  have hl := lists1_ev hwb hP ho (kC := h.next) (fC := h.next + 1 + 1) (nC := h.next + 1) (gC := h.next + 1 + 1 + 1) (by omega) (by omega) (by omega) (by omega) (many := k) (n := n) hk hn k h5 .nils [] 0 (by simp) (by simp) (hs.trans sA) ck cf cn cg ⟨y0, sA.get go⟩ (CutI.nil _) (fun b hb => absurd hb (nblk b)) (Nat.zero_le _)
  refine hl _ fun t h6 k6 w6 go6 hres => ?_
  simp -implicitDefEqProofs (maxSteps := 999999) (disch := first | with_reducible rfl | omega | (simp only [nA, nS, nD] <;> omega) | fail) only [go_sem]
  exact q t h6 (((Keeps.of sA fun c => c = oC).trans k6).mono fun c h => by rcases h with h | h <;> exact h) w6 go6 (by simpa using hres)
theorem FnHolds.mono {hb h : H} {fv : V} {oC : Nat} {n : Nat} {P : List Int → Bool} {Post : List Int → H → Prop} (a : FnHolds hb fv oC n P Post) (s : hb.Sub h) : FnHolds h fv oC n P Post := fun l x h1 hl s1 hx nx => a l x h1 hl (s.trans s1) hx fun b h0 => ⟨Nat.le_trans s.next (nx b h0).1, (nx b h0).2⟩
end Go.Ab.Tryz
set_option linter.unusedSimpArgs false
set_option linter.unusedVariables false
namespace Go.Ab.Tryz
def ddStep (acc : List Int) (e : Int × Int) : List Int := if (acc.any fun r => decide (e.1 = r)) = true then acc else acc ++ [e.1]
theorem tellK_mem {t : Tb} {a b : Sd} : ∀ {n} {x : Int}, x ∈ tellK t a b n → 0 ≤ x ∧ x < n
  | 0, x, h => by simp [tellK] at h
  | n + 1, x, h => by
    simp only [tellK, List.mem_append] at h
    rcases h with h | h
    · have := tellK_mem h; omega
    · by_cases c : tellsE t n a b = true
      · rw [if_pos c, List.mem_singleton] at h; omega
      · rw [if_neg c] at h; simp at h
theorem dd_row (t : Tb) (a b : Sd) {i : Nat} (h0 : (apartK t a b (i * t.lights.length)).foldl ddStep [] = tellK t a b i) : ∀ k, k ≤ t.lights.length → (apartK t a b (i * t.lights.length + k)).foldl ddStep [] = tellK t a b i ++ if ((List.range k).any fun k => tellsAt t a b i k) = true then [(i : Int)] else []
  | 0, _ => by simp [h0]
  | k + 1, hk => by
    have ih := dd_row t a b h0 k (by omega)
    have hr := apartK_row t a b (i := i) (k := k) (by omega)
    have e : i * t.lights.length + (k + 1) = i * t.lights.length + k + 1 := by omega
    rw [e, hr, List.foldl_append, ih]
    have hst := any_range_step (p := fun k => tellsAt t a b i k) k
    rw [hst]
    have hni : ((tellK t a b i).any fun r => decide ((i : Int) = r)) = false := by
      rw [List.any_eq_false]
      intro x hx
      have := tellK_mem hx
      simp; omega
    cases hc : tellsAt t a b i k with
    | false => simp
    | true =>
      cases hp : (List.range k).any fun k => tellsAt t a b i k with
      | false => simp [ddStep, hni]
      | true => simp [ddStep, List.any_append]
theorem dd_all (t : Tb) (a b : Sd) : ∀ i, (apartK t a b (i * t.lights.length)).foldl ddStep [] = tellK t a b i
  | 0 => by simp [apartK, tellK]
  | i + 1 => by
    have h := dd_row t a b (dd_all t a b i) t.lights.length (Nat.le_refl _)
    rw [Nat.succ_mul, h]
    simp only [tellK, tellsE]
    rfl
theorem dd_len : ∀ (l : List (Int × Int)) (acc : List Int), (l.foldl ddStep acc).length ≤ acc.length + l.length
  | [], acc => by simp
  | e :: l, acc => by
    have := dd_len l (ddStep acc e)
    simp only [List.foldl_cons, List.length_cons]
    have h2 : (ddStep acc e).length ≤ acc.length + 1 := by unfold ddStep; split <;> simp
    omega
def tellP (t : Tb) (p q : Nat) : List Int := match t.pieces[p]?, t.pieces[q]? with
  | some a, some b => tellK t a b t.eyes.length
  | _, _ => []
set_option maxHeartbeats 1000000 in
theorem dtellers_ev {h : H} {d : Nat} {t : Tb} (hw : h.wf) (hd : DkAt h d t) (g : Good t) {p r : Nat} (hp : p < t.pieces.length) (hr : r < t.pieces.length) (Q : V → H → Prop) (q : ∀ y h', OwnSl h h' y 1 ((tellP t p r).map encI) → Q y h') :
    Ev fnG fastA (.fn 140 [] []) [.ptr d 0, .int .i64 (p : Int), .int .i64 (r : Int)] h Q := by
  obtain ⟨E, L, P, gd, aE, aL, aP⟩ := id hd
  have gE := g.eyes
  have gL := g.lights
  have hmul : t.eyes.length * t.lights.length ≤ 24 := Nat.le_trans (Nat.mul_le_mul gE.2 gL.2) (by decide)
  refine Ev_body (fd := c140) rfl rfl rfl ?_
  obtain ⟨bP, oP, cP, csP, eP, hcP, hqP, hgP, _, _⟩ := aP.at hp
  obtain ⟨bR, oR, cR, csR, eR, hcR, hqR, hgR, _, _⟩ := aP.at hr
  have e1 : tellP t p r = (apartL t t.pieces[p] t.pieces[r]).foldl ddStep [] := by
    unfold tellP
    rw [List.getElem?_eq_getElem hp, List.getElem?_eq_getElem hr, apartL_eq g, dd_all]
  have hpa := g.piece _ (List.getElem_mem hp)
  have hpb := g.piece _ (List.getElem_mem hr)
  have hal := apart_ev (h := h) hw hd g hpa hpb
  have hle : (apartL t t.pieces[p] t.pieces[r]).length ≤ 24 := by
    rw [apartL_eq g]; exact Nat.le_trans (apartK_len _ _ _ _) hmul
  rw [e1] at q
  generalize apartL t t.pieces[p] t.pieces[r] = AL at q hal hle
  simp only [encD] at hal hgP hgR
  simp -implicitDefEqProofs (maxSteps := 999999) (disch := first | with_reducible rfl | omega | (simp only [nA, nS, nD] <;> omega) | fail) only [c140, go_sem, cells_of gd, hqP (nat_cst p), hcP, hgP, hqR (nat_cst r), hcR, hgR, evQ_ld]
  refine hal _ fun x h1 ox _ => ?_
  have s1 := ox.1
  have sx := ox.sl (by simp only [List.length_map]; omega)
  have lx := sx.lenE
  simp -implicitDefEqProofs (maxSteps := 999999) (disch := first | with_reducible rfl | omega | (simp only [nA, nS, nD] <;> omega) | fail) only [go_sem, cells_of gd, hqP (nat_cst p), hcP, hgP, hqR (nat_cst r), hcR, hgR, evQ_ld, lx]
  refine W_count AL.length (fun j s => ∃ tm h' y, s = ⟨tm, h', []⟩ ∧ OwnSl h1 h' y 1 (((AL.take j).foldl ddStep []).map encI) ∧ (Opd.t 7).ev tm = y ∧ (Opd.t 27).ev tm = x ∧ (Opd.t 28).ev tm = .int .i64 (AL.length : Int) ∧ (Opd.t 29).ev tm = .int .i64 (j : Int))
    ?_ ?_ (i := 0) (Nat.zero_le _) ⟨_, _, .nils, rfl, OwnSl.nil (H.Sub.refl s1.wf) 1, (by simp [ev_c, ev_put] <;> rfl), (by simp [ev_c, ev_put] <;> rfl), (by simp [ev_c, ev_put] <;> rfl), (by simp [ev_c, ev_put] <;> rfl)⟩
  · rintro j s hj ⟨tm, h', y, rfl, oy, t7, t27, t28, t29⟩
    have hj' : (j : Int) < (AL.length : Int) := by omega
    have hs := oy.1
    obtain ⟨b, o, c, cs, ex, hc, hq, hgg, _, _⟩ := (sx.mono hs).at hj
    obtain ⟨e, ee⟩ : ∃ e, AL[j] = e := ⟨_, rfl⟩
    rw [ee] at hgg
    simp only [encK] at hgg
    have hstep : (AL.take (j + 1)).foldl ddStep [] = ddStep ((AL.take j).foldl ddStep []) e := by
      rw [List.take_add_one, List.getElem?_eq_getElem hj, ee, List.foldl_append]; rfl
    have hlen : ((AL.take j).foldl ddStep []).length ≤ 24 := by
      have := dd_len (AL.take j) []
      simp only [List.length_nil, Nat.zero_add, List.length_take] at this
      omega
    generalize (AL.take j).foldl ddStep [] = acc at oy hstep hlen
    have sB := (H.Sub.refl hs.wf).add (.cells .rw [.int .i64 e.1, .int .i64 e.2])
    have gB : (h'.add (.cells .rw [.int .i64 e.1, .int .i64 e.2])).cells h'.next = some [.int .i64 e.1, .int .i64 e.2] := cells_add_new rfl
    have oyB := oy.mono sB
    have hha := hasInt_ev sB.wf (oyB.sl (by simp only [List.length_map]; omega)) e.1
    simp -implicitDefEqProofs (maxSteps := 999999) (disch := first | with_reducible rfl | omega | (simp only [nA, nS, nD] <;> omega) | fail) only [go_sem, t7, t27, t28, t29, hj', hq (nat_cst j), hc, hgg]
    generalize (h'.add (.cells .rw [.int .i64 e.1, .int .i64 e.2])) = h5 at sB gB oyB hha ⊢
    refine hha _ fun h6 s6 => ?_
    have oy6 := oyB.mono s6
    cases hh : acc.any fun r => decide (e.1 = r) with
    | true =>
      have : ddStep acc e = acc := by unfold ddStep; rw [if_pos hh]
      rw [this] at hstep
      simp -implicitDefEqProofs (maxSteps := 999999) (disch := first | with_reducible rfl | omega | (simp only [nA, nS, nD] <;> omega) | fail) only [go_sem, t7, t27, t28, t29, Bool.not_true, wr_succ]
      exact ⟨_, _, y, rfl, by rw [hstep]; exact oy6, (by simp [ev_c, ev_put, t7] <;> rfl), (by simp [ev_c, ev_put, t27] <;> rfl), (by simp [ev_c, ev_put, t28] <;> rfl), (by simp [ev_c, ev_put] <;> rfl)⟩
    | false =>
      have : ddStep acc e = acc ++ [e.1] := by unfold ddStep; rw [if_neg (by rw [hh]; simp)]
      rw [this] at hstep
      have sC := (H.Sub.refl s6.wf).add (.cells .rw [.int .i64 e.1])
      simp -implicitDefEqProofs (maxSteps := 999999) (disch := first | with_reducible rfl | omega | (simp only [nA, nS, nD] <;> omega) | fail) only [go_sem, t7, t27, t28, t29, Bool.not_false, s6.cells gB]
      refine (oy6.mono sC).app1 (by_ := 8) (r := encI e.1) s1.wf rfl (by omega) own1_lit rfl (by simp only [List.length_map]; omega) (by simp only [List.length_map]; omega) fun h9 o9 k9 n9 => ?_
      rw [H.next_add, List.length_map] at o9
      simp -implicitDefEqProofs (maxSteps := 999999) (disch := first | with_reducible rfl | omega | (simp only [nA, nS, nD] <;> omega) | fail) only [go_sem, t7, t27, t28, t29, wr_succ]
      exact ⟨_, _, _, rfl, by rw [hstep, List.map_append]; exact o9, (by simp [ev_c, ev_put] <;> rfl), (by simp [ev_c, ev_put, t27] <;> rfl), (by simp [ev_c, ev_put, t28] <;> rfl), (by simp [ev_c, ev_put] <;> rfl)⟩
  · rintro s ⟨tm, h', y, rfl, oy, t7, t27, t28, t29⟩
    simp -implicitDefEqProofs (maxSteps := 999999) (disch := first | with_reducible rfl | omega | (simp only [nA, nS, nD] <;> omega) | fail) only [go_sem, t7, t27, t28, t29, Int.lt_irrefl]
    rw [List.take_length] at oy
    exact q y _ (oy.up s1)
end Go.Ab.Tryz
set_option linter.unusedSimpArgs false
set_option linter.unusedVariables false
namespace Go.Ab.Tryz
def okPair (t : Tb) (l : List Int) (r p : Nat) : Bool := decide ((tellP t r p).length = 0) || (tellP t r p).any fun e => l.any fun x => decide (e = x)
def enoughB (t : Tb) (l : List Int) : Bool := (List.range t.pieces.length).all fun p => (List.range p).all fun r => okPair t l r p
theorem enough1_ev {l : List Int} {h : H} {x : V} {b : Nat} (hb : h.cells b = some [x]) (hx : SlAt h x 1 (l.map encI)) (e : Int) : PureA h (.fn 141 [] [.ptr b 0]) [.int .i64 e] (.bool (l.any fun r => decide (e = r))) := by
  intro h1 hs
  refine Ev.gen fun Q q => ?_
  refine Ev_body (fd := c141) rfl rfl rfl ?_
  simp -implicitDefEqProofs (maxSteps := 999999) (disch := first | with_reducible rfl | omega | (simp only [nA, nS, nD] <;> omega) | fail) only [c141, go_sem, hs.cells hb]
  refine hasInt_ev hs.wf (hx.mono hs) e _ fun h2 s2 => ?_
  simp -implicitDefEqProofs (maxSteps := 999999) (disch := first | with_reducible rfl | omega | (simp only [nA, nS, nD] <;> omega) | fail) only [go_sem]
  exact q _ _ ⟨rfl, s2⟩
set_option maxHeartbeats 1000000 in
theorem enough_ev {h : H} {d : Nat} {t : Tb} {x : V} {l : List Int} (hw : h.wf) (hd : DkAt h d t) (g : Good t) (hx : SlAt h x 1 (l.map encI)) (Q : V → H → Prop) (q : ∀ h', h.Sub h' → Q (.bool (enoughB t l)) h') :
    Ev fnG fastA (.fn 93 [] []) [.ptr d 0, x] h Q := by
  obtain ⟨E, L, P, gd, aE, aL, aP⟩ := id hd
  have gE := g.eyes
  have gp := g.pieces
  have hlP := aP.lenE
  have hx1 := hx.one
  have ld := hw _ _ gd
  refine Ev_body (fd := c93) rfl rfl rfl ?_
  have s1 := (H.Sub.refl hw).add (.cells .rw [x])
  have g1 : (h.add (.cells .rw [x])).cells h.next = some [x] := cells_add_new rfl
  have hd1 := hd.mono s1
  simp -implicitDefEqProofs (maxSteps := 999999) (disch := first | with_reducible rfl | omega | (simp only [nA, nS, nD] <;> omega) | fail) only [c93, go_sem, hx1, cells_one hx1, cells_of gd, hlP]
  generalize h.add (.cells .rw [x]) = h5 at s1 g1 hd1 ⊢
  have okAll : (∀ p, p < t.pieces.length → ∀ r, r < p → okPair t l r p = true) → enoughB t l = true := fun hh => by
    unfold enoughB
    rw [List.all_eq_true]
    intro p hp
    rw [List.all_eq_true]
    intro r hr
    exact hh p (List.mem_range.1 hp) r (List.mem_range.1 hr)
  refine W_count t.pieces.length (fun p s => ∃ tm h', s = ⟨tm, h', []⟩ ∧ h5.Sub h' ∧ (∀ p', p' < p → ∀ r, r < p' → okPair t l r p' = true) ∧ (Opd.t 0).ev tm = .ptr d 0 ∧ (Opd.t 3).ev tm = .ptr h.next 0 ∧ (Opd.t 13).ev tm = .int .i64 (t.pieces.length : Int) ∧ (Opd.t 14).ev tm = .int .i64 (p : Int))
    ?_ ?_ (i := 0) (Nat.zero_le _) ⟨_, _, rfl, H.Sub.refl s1.wf, fun p' h0 => by omega, (by simp [ev_c, ev_put] <;> rfl), (by simp [ev_c, ev_put] <;> rfl), (by simp [ev_c, ev_put] <;> rfl), (by simp [ev_c, ev_put] <;> rfl)⟩
  · rintro p s hp ⟨tm, h', rfl, hs, hok, t0, t3, t13, t14⟩
    have hp' : (p : Int) < (t.pieces.length : Int) := by omega
    simp -implicitDefEqProofs (maxSteps := 999999) (disch := first | with_reducible rfl | omega | (simp only [nA, nS, nD] <;> omega) | fail) only [go_sem, t0, t3, t13, t14, hp']
    refine W_count p (fun r s => ∃ tm h', s = ⟨tm, h', []⟩ ∧ h5.Sub h' ∧ (∀ r', r' < r → okPair t l r' p = true) ∧ (Opd.t 0).ev tm = .ptr d 0 ∧ (Opd.t 3).ev tm = .ptr h.next 0 ∧ (Opd.t 5).ev tm = .int .i64 (p : Int) ∧ (Opd.t 13).ev tm = .int .i64 (t.pieces.length : Int) ∧ (Opd.t 14).ev tm = .int .i64 (p : Int) ∧ (Opd.t 17).ev tm = .int .i64 (p : Int) ∧ (Opd.t 18).ev tm = .int .i64 (r : Int))
      ?_ ?_ (i := 0) (Nat.zero_le _) ⟨_, _, rfl, hs, fun r' h0 => by omega, (by simp [ev_c, ev_put, t0] <;> rfl), (by simp [ev_c, ev_put, t3] <;> rfl), (by simp [ev_c, ev_put] <;> rfl), (by simp [ev_c, ev_put, t13] <;> rfl), (by simp [ev_c, ev_put, t14] <;> rfl), (by simp [ev_c, ev_put] <;> rfl), (by simp [ev_c, ev_put] <;> rfl)⟩
    · rintro r s hr ⟨tm, h', rfl, hs, hokr, t0, t3, t5, t13, t14, t17, t18⟩
      have hr' : (r : Int) < (p : Int) := by omega
      simp -implicitDefEqProofs (maxSteps := 999999) (disch := first | with_reducible rfl | omega | (simp only [nA, nS, nD] <;> omega) | fail) only [go_sem, t0, t3, t5, t13, t14, t17, t18, hr']
      refine dtellers_ev hs.wf (hd1.mono hs) g (by omega) hp _ fun y h2 oy => ?_
      have s2 := hs.trans oy.1
      have htl : (tellP t r p).length ≤ 24 := by
        unfold tellP
        split
        · exact Nat.le_trans (tellK_len _ _ _ _) (by omega)
        · simp
      have sly := oy.sl (by simp only [List.length_map]; omega)
      have ly := sly.lenE
      have nxt : okPair t l r p = true → ∀ r', r' < r + 1 → okPair t l r' p = true := fun h0 r' h1 => by
        by_cases e : r' = r
        · subst e; exact h0
        · exact hokr r' (by omega)
      by_cases hz : (tellP t r p).length = 0
      · have hn : ¬ (0 : Int) < ((tellP t r p).length : Int) := by omega
        simp -implicitDefEqProofs (maxSteps := 999999) (disch := first | with_reducible rfl | omega | (simp only [nA, nS, nD] <;> omega) | fail) only [go_sem, t0, t3, t5, t13, t14, t17, t18, ly, hn, wr_succ]
        exact ⟨_, _, rfl, s2, nxt (by unfold okPair; rw [decide_eq_true hz]; rfl), (by simp [ev_c, ev_put, t0] <;> rfl), (by simp [ev_c, ev_put, t3] <;> rfl), (by simp [ev_c, ev_put, t5] <;> rfl), (by simp [ev_c, ev_put, t13] <;> rfl), (by simp [ev_c, ev_put, t14] <;> rfl), (by simp [ev_c, ev_put, t17] <;> rfl), (by simp [ev_c, ev_put] <;> rfl)⟩
      · have hn : (0 : Int) < ((tellP t r p).length : Int) := by omega
        simp -implicitDefEqProofs (maxSteps := 999999) (disch := first | with_reducible rfl | omega | (simp only [nA, nS, nD] <;> omega) | fail) only [go_sem, t0, t3, t5, t13, t14, t17, t18, ly, hn]
        refine (containsFuncInt_ev (p := fun e => l.any fun x => decide (e = x)) s2.wf sly fun e _ => enough1_ev (s2.cells g1) (hx.mono (s1.trans s2)) e).mono fun u h3 hu => ?_
        obtain ⟨rfl, s3⟩ := hu
        have hok' : okPair t l r p = (tellP t r p).any fun e => l.any fun x => decide (e = x) := by
          unfold okPair; rw [decide_eq_false hz, Bool.false_or]
        cases hc : (tellP t r p).any fun e => l.any fun x => decide (e = x) with
        | true =>
          simp -implicitDefEqProofs (maxSteps := 999999) (disch := first | with_reducible rfl | omega | (simp only [nA, nS, nD] <;> omega) | fail) only [go_sem, t0, t3, t5, t13, t14, t17, t18, Bool.not_true, wr_succ]
          exact ⟨_, _, rfl, s2.trans s3, nxt (by rw [hok', hc]), (by simp [ev_c, ev_put, t0] <;> rfl), (by simp [ev_c, ev_put, t3] <;> rfl), (by simp [ev_c, ev_put, t5] <;> rfl), (by simp [ev_c, ev_put, t13] <;> rfl), (by simp [ev_c, ev_put, t14] <;> rfl), (by simp [ev_c, ev_put, t17] <;> rfl), (by simp [ev_c, ev_put] <;> rfl)⟩
        | false =>
          have hf : enoughB t l = false := by
            unfold enoughB
            rw [List.all_eq_false]
            refine ⟨p, List.mem_range.2 hp, ?_⟩
            have : ((List.range p).all fun r => okPair t l r p) = false := List.all_eq_false.2 ⟨r, List.mem_range.2 hr, by rw [hok', hc]; simp⟩
            rw [this]; simp
          rw [hf] at q
          simp -implicitDefEqProofs (maxSteps := 999999) (disch := first | with_reducible rfl | omega | (simp only [nA, nS, nD] <;> omega) | fail) only [go_sem, Bool.not_false]
          exact q _ (s1.trans (s2.trans s3))
    · rintro s ⟨tm, h', rfl, hs, hokr, t0, t3, t5, t13, t14, t17, t18⟩
      simp -implicitDefEqProofs (maxSteps := 999999) (disch := first | with_reducible rfl | omega | (simp only [nA, nS, nD] <;> omega) | fail) only [go_sem, t0, t3, t5, t13, t14, t17, t18, Int.lt_irrefl, wr_succ]
      exact ⟨_, _, rfl, hs, fun p' h1 => by
        by_cases e : p' = p
        · subst e; exact hokr
        · exact hok p' (by omega), (by simp [ev_c, ev_put, t0] <;> rfl), (by simp [ev_c, ev_put, t3] <;> rfl), (by simp [ev_c, ev_put, t13] <;> rfl), (by simp [ev_c, ev_put] <;> rfl)⟩
  · rintro s ⟨tm, h', rfl, hs, hok, t0, t3, t13, t14⟩
    rw [okAll hok] at q
    simp -implicitDefEqProofs (maxSteps := 999999) (disch := first | with_reducible rfl | omega | (simp only [nA, nS, nD] <;> omega) | fail) only [go_sem, t0, t3, t13, t14, Int.lt_irrefl]
    exact q _ (s1.trans hs)
end Go.Ab.Tryz
set_option linter.unusedSimpArgs false
set_option linter.unusedVariables false
namespace Go.Ab.Tryz
open Go.Ab.Silk (comb firstOf)
def PostL (n0 oC : Nat) (l : List Int) (h : H) : Prop := ∃ y, h.get oC = some (.cells .rw [y]) ∧ CutI h y l ∧ ∀ b, blkOf y b → n0 ≤ b
theorem fewest1_holds {hb : H} (hwb : hb.wf) {d : Nat} {t : Tb} (hd : DkAt hb d t) (g : Good t) {oC dC : Nat} (ho : hb.next ≤ oC) (hdc : hb.cells dC = some [.ptr d 0]) : FnHolds hb (.fn 95 [] [.ptr oC 0, .ptr dC 0]) oC t.eyes.length (enoughB t) (PostL hb.next oC) := by
  intro l x h1 _ s1 hx nx ⟨y0, go⟩ R r
  have hx1 := hx.one
  have kS := Keeps.set h1 oC (.cells .rw [x])
  have wS := H.wf_set s1.wf (.cells .rw [x]) go
  have sS : hb.Sub (h1.set oC (.cells .rw [x])) := kS.sub s1 hwb (fun c hc => by omega) wS
  have axS : CutI (h1.set oC (.cells .rw [x])) x l := hx.keep kS fun b h0 => (nx b h0).2
  have gS : (h1.set oC (.cells .rw [x])).get oC = some (.cells .rw [x]) := get_set_same rfl
  refine Ev_body (fd := c95) rfl rfl rfl ?_
  have hdS := sS.cells hdc
  simp -implicitDefEqProofs (maxSteps := 999999) (disch := first | with_reducible rfl | omega | (simp only [nA, nS, nD] <;> omega) | fail) only [c95, go_sem, go, hx1, cells_one hx1]
  generalize h1.set oC (.cells .rw [x]) = h2 at kS wS sS axS gS hdS ⊢
  simp -implicitDefEqProofs (maxSteps := 999999) (disch := first | with_reducible rfl | omega | (simp only [nA, nS, nD] <;> omega) | fail) only [go_sem, hdS]
  refine enough_ev wS (hd.mono sS) g axS.sl _ fun h3 s3 => ?_
  simp -implicitDefEqProofs (maxSteps := 999999) (disch := first | with_reducible rfl | omega | (simp only [nA, nS, nD] <;> omega) | fail) only [go_sem]
  exact r h3 ((kS.trans (Keeps.of s3 fun c => c = oC)).mono fun c h => by rcases h with h | h <;> exact h) s3.wf ⟨x, s3.get gS⟩ (fun _ => ⟨x, s3.get gS, axS.mono s3, fun b h0 => (nx b h0).1⟩)
set_option maxHeartbeats 1000000 in
theorem Fewest_own {h : H} {v : V} {t : Tb} (hw : h.wf) (ht : TbIs h v t) (Q : V → H → Prop)
    (q : ∀ y h', h.Sub h' → (∀ c, check t = 0 → firstOf (enoughB t) t.eyes.length (t.eyes.length + 1) 0 = some c → SlAt h' y 1 (c.map encI) ∧ ∀ b, blkOf y b → h.next ≤ b) → (check t ≠ 0 → y = .nils) → Q (.tup [y, .int .i64 (check t)]) h') :
    Ev fnG fastA (.fn 33 [] []) [v] h Q := by
  have ht0 := ht
  obtain ⟨E, L, P, rfl, aE, aL, aP⟩ := ht
  refine Ev_body (fd := c33) rfl rfl rfl ?_
  have s1 : h.Sub (h.add (.cells .rw [E, L, P])) := (by repeat (first | assumption | exact H.Sub.refl (by assumption) | refine H.Sub.add ?_ _ | refine H.Sub.set ?_ (by first | omega | (simp only [H.next_add, H.next_set, H.next_del] <;> omega)) (by first | omega | (simp only [H.next_add, H.next_set, H.next_del] <;> omega)) (by assumption) _))
  have g1 : (h.add (.cells .rw [E, L, P])).cells h.next = some [E, L, P] := cells_add_new rfl
  simp -implicitDefEqProofs (maxSteps := 999999) (disch := first | with_reducible rfl | omega | (simp only [nA, nS, nD] <;> omega) | fail) only [c33, go_sem]
  refine opened_use s1.wf (ht0.mono s1) _ (fun h5 s45 c => ?_) fun h5 d s15 c g hd => ?_
  · simp -implicitDefEqProofs (maxSteps := 999999) (disch := first | with_reducible rfl | omega | (simp only [nA, nS, nD] <;> omega) | fail) only [go_sem, ne_eq, c, not_false_eq_true]
    exact q _ _ (s1.trans (s45.add _)) (fun _ h0 => absurd h0 c) (fun _ => rfl)
  have s5 := s1.trans s15
  have gE := g.eyes
  have hlE := aE.lenE
  have s6 := (H.Sub.refl s15.wf).add (.cells .rw [.ptr d 0])
  have c4 : (h5.add (.cells .rw [.ptr d 0])).cells h5.next = some [.ptr d 0] := cells_add_new rfl
  have hH := fewest1_holds s6.wf (hd.mono s6) g (oC := (h5.add (.cells .rw [.ptr d 0])).next) (Nat.le_refl _) c4
  have g6 := (s15.trans s6).cells g1
  have s7 := (H.Sub.refl s6.wf).add (.cells .rw [.nils])
  have go7 : ((h5.add (.cells .rw [.ptr d 0])).add (.cells .rw [.nils])).get (h5.add (.cells .rw [.ptr d 0])).next = some (.cells .rw [.nils]) := get_add_new rfl
  have n6 : (h5.add (.cells .rw [.ptr d 0])).next = h5.next + 1 := H.next_add _ _
  have g7 := s7.cells g6
  simp -implicitDefEqProofs (maxSteps := 999999) (disch := first | with_reducible rfl | omega | (simp only [nA, nS, nD] <;> omega) | fail) only [go_sem, ne_eq, not_true_eq_false, g7, hlE, wr_succ]
  rw [n6] at hH go7
  have s57 := s5.trans (s6.trans s7)
  generalize (h5.add (.cells .rw [.ptr d 0])).add (.cells .rw [.nils]) = h7 at s7 go7 g7 s57 ⊢
  generalize (h5.add (.cells .rw [.ptr d 0])) = h6 at s6 c4 hH g6 s7 n6
  rw [c] at q
  refine W.mono (Q := fun x1 s => x1 = .ext 0 ∧ ∃ tm h', s = ⟨tm, h', []⟩ ∧ Keeps (fun c => c = h5.next + 1) h7 h' ∧ h'.wf ∧ (∃ y, h'.get (h5.next + 1) = some (.cells .rw [y]) ∧ ∀ c, firstOf (enoughB t) t.eyes.length (t.eyes.length + 1) 0 = some c → SlAt h' y 1 (c.map encI) ∧ ∀ b, blkOf y b → h.next ≤ b) ∧ (Opd.t 6).ev tm = .ptr (h5.next + 1) 0)
   (W_count (t.eyes.length + 1) (fun k s => ∃ tm h', s = ⟨tm, h', []⟩ ∧ Keeps (fun c => c = h5.next + 1) h7 h' ∧ h'.wf ∧ (∃ y, h'.get (h5.next + 1) = some (.cells .rw [y])) ∧ firstOf (enoughB t) t.eyes.length (t.eyes.length + 1) 0 = firstOf (enoughB t) t.eyes.length (t.eyes.length + 1 - k) k ∧
      (Opd.t 1).ev tm = .ptr h.next 0 ∧ (Opd.t 4).ev tm = .ptr h5.next 0 ∧ (Opd.t 6).ev tm = .ptr (h5.next + 1) 0 ∧ (Opd.t 19).ev tm = .int .i64 ((t.eyes.length + 1 : Nat) : Int) ∧ (Opd.t 20).ev tm = .int .i64 (k : Int))
    ?_ ?_ (i := 0) (Nat.zero_le _) ⟨_, _, rfl, Keeps.refl _ _, s7.wf, ⟨_, go7⟩, rfl, (by simp [ev_c, ev_put] <;> rfl), (by simp [ev_c, ev_put] <;> rfl), (by simp [ev_c, ev_put] <;> rfl), (by simp [ev_c, ev_put] <;> rfl), (by simp [ev_c, ev_put] <;> rfl)⟩) fun x1 s hx1 => ?_
  · rintro k s hk ⟨tm, h', rfl, kk, wh, go, hfo, t1, t4, t6, t19, t20⟩
    have hk' : (k : Int) < ((t.eyes.length + 1 : Nat) : Int) := by omega
    have l5 := s15.next
    have lg := s1.next
    have gl := (H.cells_eq g1).elim fun kd e => s1.wf _ _ e
    have g7' := kk.cells g7 (by omega)
    have s6' : h6.Sub h' := kk.sub s7 s6.wf (fun c hc => by omega) wh
    simp -implicitDefEqProofs (maxSteps := 999999) (disch := first | with_reducible rfl | omega | (simp only [nA, nS, nD] <;> omega) | fail) only [go_sem, t1, t4, t6, t19, t20, hk', g7', hlE]
    refine lists_ev s6.wf hH rfl (by omega) s6' go (by omega) (by omega) _ fun tt h9 k9 w9 go9 hres => ?_
    have k79 : Keeps (fun c => c = h5.next + 1) h7 h9 := (kk.trans k9).mono fun c h => by rcases h with h | h <;> exact h
    have hfo2 : firstOf (enoughB t) t.eyes.length (t.eyes.length + 1 - k) k = match (comb k t.eyes.length 0).find? (enoughB t) with | some c => some c | none => firstOf (enoughB t) t.eyes.length (t.eyes.length + 1 - (k + 1)) (k + 1) := by
      rw [show t.eyes.length + 1 - k = (t.eyes.length + 1 - (k + 1)) + 1 by omega]; rfl
    rw [hfo2] at hfo
    cases hr : (comb k t.eyes.length 0).find? (enoughB t) with
    | some c =>
      rw [hr] at hres hfo
      obtain ⟨rfl, _, y, gy, ay, ny⟩ := hres
      simp -implicitDefEqProofs (maxSteps := 999999) (disch := first | with_reducible rfl | omega | (simp only [nA, nS, nD] <;> omega) | fail) only [go_sem, t1, t4, t6, t19, t20]
      exact ⟨_, _, rfl, k79, w9, ⟨y, gy, fun c' hc' => by rw [hfo] at hc'; cases hc'; exact ⟨ay.sl, fun b h0 => by have := ny b h0; have := s5.next; omega⟩⟩, (by simp [ev_c, ev_put, t6] <;> rfl)⟩
    | none =>
      rw [hr] at hres hfo
      have hres : tt = false := hres
      subst hres
      simp -implicitDefEqProofs (maxSteps := 999999) (disch := first | with_reducible rfl | omega | (simp only [nA, nS, nD] <;> omega) | fail) only [go_sem, t1, t4, t6, t19, t20, wr_succ]
      exact ⟨_, _, rfl, k79, w9, go9, hfo, (by simp [ev_c, ev_put, t1] <;> rfl), (by simp [ev_c, ev_put, t4] <;> rfl), (by simp [ev_c, ev_put, t6] <;> rfl), (by simp [ev_c, ev_put, t19] <;> rfl), (by simp [ev_c, ev_put] <;> rfl)⟩
  · rintro s ⟨tm, h', rfl, kk, wh, ⟨y, go⟩, hfo, t1, t4, t6, t19, t20⟩
    simp -implicitDefEqProofs (maxSteps := 999999) (disch := first | with_reducible rfl | omega | (simp only [nA, nS, nD] <;> omega) | fail) only [go_sem, t1, t4, t6, t19, t20, Int.lt_irrefl]
    rw [Nat.sub_self] at hfo
    exact ⟨_, _, rfl, kk, wh, ⟨y, go, fun c hc => by rw [hfo] at hc; cases hc⟩, (by simp [ev_c, ev_put, t6] <;> rfl)⟩
  obtain ⟨rfl, tm, h', rfl, kk, wh, ⟨y, go, hy⟩, t6⟩ := hx1
  have sF : h.Sub h' := kk.sub s57 hw (fun c hc => by have := s5.next; omega) wh
  simp -implicitDefEqProofs (maxSteps := 999999) (disch := first | with_reducible rfl | omega | (simp only [nA, nS, nD] <;> omega) | fail) only [go_sem, t6, cells_of go]
  exact q y h' sF (fun c _ hc => hy c hc) (fun h0 => absurd rfl h0)
theorem Fewest_ev {h : H} {v : V} {t : Tb} (hw : h.wf) (ht : TbIs h v t) (Q : V → H → Prop)
    (q : ∀ y h', h.Sub h' → (∀ c, check t = 0 → firstOf (enoughB t) t.eyes.length (t.eyes.length + 1) 0 = some c → SlAt h' y 1 (c.map encI)) → (check t ≠ 0 → y = .nils) → Q (.tup [y, .int .i64 (check t)]) h') :
    Ev fnG fastA (.fn 33 [] []) [v] h Q := Fewest_own hw ht Q fun y h' s h1 h2 => q y h' s (fun c hc hf => (h1 c hc hf).1) h2
end Go.Ab.Tryz
set_option linter.unusedSimpArgs false
set_option linter.unusedVariables false
namespace Go.Ab.Tryz
open Go.Ab.Silk (comb)
end Go.Ab.Tryz
set_option linter.unusedSimpArgs false
set_option linter.unusedVariables false
namespace Go.Ab.Tryz
open Go.Ab.Silk (comb)
theorem Ev_bound {f : FuncId} {a : V} {args : List V} {h : H} {Q : V → H → Prop} (he : Ev fnG fastA (.fn f [] []) (a :: args) h Q) : Ev fnG fastA (.fn f [a] []) args h Q := by
  obtain ⟨n, v, h', e, q⟩ := he
  refine ⟨n, v, h', ?_, q⟩
  cases n with
  | zero => exact e
  | succ n => exact e
end Go.Ab.Tryz
set_option linter.unusedSimpArgs false
set_option linter.unusedVariables false
namespace Go.Ab
end Go.Ab
namespace Go.Ab.Tryz
end Go.Ab.Tryz
set_option linter.unusedSimpArgs false
set_option linter.unusedVariables false
namespace Go.Ab.Tryz
open Go.Ab.Silk (comb Inc lexlt mem_comb find_min)
end Go.Ab.Tryz
set_option linter.unusedSimpArgs false
set_option linter.unusedVariables false
namespace Go.Ab.Tryz
open Go.Ab.Silk (comb Inc lexlt mem_comb find_min firstOf firstOf_spec IsMin before)
theorem Inc.of {hi : Int} : ∀ {i : Int} {l : List Int}, l.Pairwise (· < ·) → (∀ x ∈ l, i ≤ x ∧ x < hi) → Inc hi i l
  | _, [], _, _ => trivial
  | i, a :: l, h, hr => by
    rw [List.pairwise_cons] at h
    have ha := hr a (by simp)
    exact ⟨ha.1, ha.2, Inc.of h.2 fun x hx => by have := h.1 x hx; have := hr x (by simp [hx]); omega⟩
def few (t : Tb) : Option (List Int) := firstOf (enoughB t) t.eyes.length (t.eyes.length + 1) 0
theorem tellP_mem {t : Tb} {r p : Nat} {e : Int} (h : e ∈ tellP t r p) : 0 ≤ e ∧ e < (t.eyes.length : Int) := by
  unfold tellP at h
  split at h
  · exact tellK_mem h
  · cases h
theorem enoughB_iff {t : Tb} {l : List Int} : enoughB t l = true ↔ ∀ p r, p < t.pieces.length → r < p → tellP t r p ≠ [] → ∃ e ∈ tellP t r p, e ∈ l := by
  unfold enoughB okPair
  simp only [List.all_eq_true, List.mem_range, Bool.or_eq_true, decide_eq_true_eq, List.any_eq_true, List.length_eq_zero_iff]
  constructor
  · intro h p r hp hr hne
    rcases h p hp r hr with h | ⟨e, he, y, hy, rfl⟩
    · exact absurd h hne
    · exact ⟨_, he, hy⟩
  · intro h p hp r hr
    by_cases e : tellP t r p = []
    · exact .inl e
    · obtain ⟨x, hx, hl⟩ := h p r hp hr e
      exact .inr ⟨x, hx, x, hl, rfl⟩
theorem few_some (t : Tb) : ∃ c, few t = some c ∧ IsMin (enoughB t) t.eyes.length c := by
  rcases firstOf_spec (enoughB t) t.eyes.length (t.eyes.length + 1) 0 (by omega) (fun d _ h => by omega) with h | ⟨_, h⟩
  · exact h
  · have inc : Inc t.eyes.length 0 (upto t.eyes.length) := Inc.of (by
      unfold upto
      rw [List.pairwise_map]
      exact List.pairwise_lt_range.imp fun h => by omega) fun x hx => mem_upto.1 hx
    have hh := h _ inc
    have : enoughB t (upto t.eyes.length) = true := enoughB_iff.2 fun p r hp hr hne => by
      obtain ⟨e, he⟩ := List.exists_mem_of_ne_nil _ hne
      exact ⟨e, he, mem_upto.2 (tellP_mem he)⟩
    rw [hh] at this; cases this
end Go.Ab.Tryz
