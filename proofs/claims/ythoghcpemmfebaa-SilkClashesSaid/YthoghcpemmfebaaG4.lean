/- The law SilkClashes, on our machine. Bounds of all lots, as narrow as can be: the contracts of narrow, tight. The bounds of all lots by the weighings that count: silk.bounds, told. Copies of a mill; one weighing more; a lot that is split. told, Bounds, Widest: contracts. Weights and Fits: contracts. Fits, of the program and of the reference: contracts. Fits of the reference: contract. The reference's bounds: All, own, up, Agree, Bounds. Which weighings agree: Contains, agree, Agree, Listed. The first of the shortest lists: the contracts of first, Clash, Wrong. The reference's searches: sets, choice, list, before, Listed. The reference's Clash. The reference's Wrong. The reference's Listed. -/
import Derived.Test.YthoghcpemmfebaaG2
import Derived.Test.YthoghcpemmfebaaPa2
import Derived.Test.YthoghcpemmfebaaAc4
import Derived.Test.YthoghcpemmfebaaPa5
set_option linter.unusedSimpArgs false
set_option linter.unusedVariables false
namespace Go.Ab
/-- A block that was not there at first is all that is changed. -/
theorem Keeps.sub {S : Nat → Prop} {h0 h h' : H} (k : Keeps S h h') (s : h0.Sub h) (hw0 : h0.wf) (hS : ∀ c, S c → h0.next ≤ c) (hw : h'.wf) : h0.Sub h' :=
  ⟨⟨Nat.le_trans s.next k.1, fun b x e => k.2 b x (s.get e) fun hs => by have := hS b hs; have := hw0 b x e; omega⟩, hw⟩
theorem Keeps.wf_set {h : H} (hw : h.wf) {b : Nat} {y : Blk} (x : Blk) (hb : h.get b = some y) : Keeps (fun c => c = b) h (h.set b x) ∧ (h.set b x).wf := ⟨Keeps.set h b x, H.wf_set hw x hb⟩
namespace Try
open Go.Ab.Silk
theorem mem_partsL {k : Int} : ∀ {l : List Lt} {i : Nat} {p : Int}, p ∈ partsL k l i ↔ ∃ j, ∃ hj : j < l.length, p = ((i + j : Nat) : Int) ∧ l[j].frm = k
  | [], i, p => by simp [partsL]
  | a :: l, i, p => by
    have ih := mem_partsL (k := k) (l := l) (i := i + 1) (p := p)
    have e : (∃ j, ∃ hj : j < (a :: l).length, p = ((i + j : Nat) : Int) ∧ (a :: l)[j].frm = k) ↔ (p = (i : Int) ∧ a.frm = k) ∨ ∃ j, ∃ hj : j < l.length, p = ((i + 1 + j : Nat) : Int) ∧ l[j].frm = k := by
      constructor
      · rintro ⟨j, hj, h1, h2⟩
        cases j with
        | zero => exact .inl ⟨by simpa using h1, h2⟩
        | succ j => exact .inr ⟨j, by simpa using hj, by omega, h2⟩
      · rintro (⟨h1, h2⟩ | ⟨j, hj, h1, h2⟩)
        · exact ⟨0, by simp, by simpa using h1, h2⟩
        · exact ⟨j + 1, by simpa using hj, by omega, h2⟩
    rw [e, ← ih]
    simp only [partsL]
    by_cases h : a.frm = k
    · simp [h]
    · simp [h]
theorem partsL_nodup {k : Int} : ∀ (l : List Lt) (i : Nat), (partsL k l i).Nodup
  | [], i => by simp [partsL]
  | a :: l, i => by
    have ih := partsL_nodup (k := k) l (i + 1)
    simp only [partsL]
    by_cases h : a.frm = k
    · rw [if_pos h, List.nodup_cons]
      refine ⟨fun hm => ?_, ih⟩
      obtain ⟨j, hj, e, _⟩ := mem_partsL.1 hm
      omega
    · rw [if_neg h]; exact ih
theorem forest {m : Ml} (g : Good m) : Forest m.lots.length (frmAt m) (parts m) := by
  refine ⟨fun i i0 i1 => ?_, fun i p => ?_, fun i => partsL_nodup _ _⟩
  · have := frmAt_lt g i0 i1; omega
  · unfold parts
    rw [mem_partsL]
    constructor
    · rintro ⟨j, hj, rfl, hf⟩
      simp only [Nat.zero_add]
      exact ⟨by omega, by omega, by rw [frmAt_nat hj]; exact hf⟩
    · rintro ⟨p0, p1, hf⟩
      obtain ⟨j, rfl⟩ := Int.eq_ofNat_of_zero_le p0
      exact ⟨j, by omega, by simp, by rw [← frmAt_nat (by omega)]; exact hf⟩
/-! ### Boxes as arrays -/
def intsB (b : Box) : List Int := [(b 0).1, (b 0).2, (b 1).1, (b 1).2, (b 2).1, (b 2).2, (b 3).1, (b 3).2, (b 4).1, (b 4).2, (b 5).1, (b 5).2, (b 6).1, (b 6).2, (b 7).1, (b 7).2, (b 8).1, (b 8).2, (b 9).1, (b 9).2, (b 10).1, (b 10).2, (b 11).1, (b 11).2]
def encB (b : Box) : List V := (intsB b).map iv
def updB (b : Box) (i : Int) (p : Int × Int) : Box := fun k => if k = i then p else b k
theorem lt12 {i : Nat} (h : i < 12) : i = 0 ∨ i = 1 ∨ i = 2 ∨ i = 3 ∨ i = 4 ∨ i = 5 ∨ i = 6 ∨ i = 7 ∨ i = 8 ∨ i = 9 ∨ i = 10 ∨ i = 11 := by omega
theorem encB_at (b : Box) {i : Nat} (hi : i < 12) : nth (i * 2) (encB b) = some (.int .i64 (b i).1) ∧ nth (i * 2 + 1) (encB b) = some (.int .i64 (b i).2) ∧ getN (i * 2) 2 (encB b) = some [.int .i64 (b i).1, .int .i64 (b i).2] := by
  rcases lt12 hi with rfl | rfl | rfl | rfl | rfl | rfl | rfl | rfl | rfl | rfl | rfl | rfl <;> exact ⟨rfl, rfl, rfl⟩
theorem encB_put (b : Box) {i : Nat} (hi : i < 12) (x y : Int) : putN (i * 2) [.int .i64 x, .int .i64 y] (encB b) = some (encB (updB b i (x, y))) := by
  rcases lt12 hi with rfl | rfl | rfl | rfl | rfl | rfl | rfl | rfl | rfl | rfl | rfl | rfl <;> rfl
theorem encB_put2 (b : Box) {i : Nat} (hi : i < 12) (y : Int) : putN (i * 2 + 1) [.int .i64 y] (encB b) = some (encB (updB b i ((b i).1, y))) := by
  rcases lt12 hi with rfl | rfl | rfl | rfl | rfl | rfl | rfl | rfl | rfl | rfl | rfl | rfl <;> rfl
theorem intsB_iff (b c : Box) : intsB b = intsB c ↔ ∀ i : Int, 0 ≤ i → i < 12 → b i = c i := by
  constructor
  · intro h i i0 i1
    obtain ⟨j, rfl⟩ := Int.eq_ofNat_of_zero_le i0
    have hj : j < 12 := by omega
    simp only [intsB, List.cons.injEq, and_true] at h
    obtain ⟨a0, a1, a2, a3, a4, a5, a6, a7, a8, a9, b0, b1, b2, b3, b4, b5, b6, b7, b8, b9, d0, d1, d2, d3⟩ := h
    rcases lt12 hj with rfl | rfl | rfl | rfl | rfl | rfl | rfl | rfl | rfl | rfl | rfl | rfl <;> exact Prod.ext (by assumption) (by assumption)
  · intro h
    simp only [intsB, h 0 (by omega) (by omega), h 1 (by omega) (by omega), h 2 (by omega) (by omega), h 3 (by omega) (by omega), h 4 (by omega) (by omega), h 5 (by omega) (by omega), h 6 (by omega) (by omega), h 7 (by omega) (by omega), h 8 (by omega) (by omega), h 9 (by omega) (by omega), h 10 (by omega) (by omega), h 11 (by omega) (by omega)]
theorem q_feq_B (ng : Bool) (b c : Box) : q_feq ng 24 (.agg (encB b)) (.agg (encB c)) = some (.bool (ngB ng (decide (intsB b = intsB c)))) := q_feq_map (n := 24) (intsB b) (intsB c) rfl rfl ng
def zeroB : Box := fun _ => (0, 0)
theorem narrow_upd (b : Box) (i lo hi : Int) : narrow b i lo hi = updB b i (max (b i).1 lo, min (b i).2 hi) := rfl
theorem updB_same (b : Box) (i : Int) : updB b i (b i) = b := by
  funext k
  by_cases h : k = i
  · subst h; simp [updB]
  · simp [updB, h]
theorem ld_B (b : Box) : getN 0 24 (encB b) = some (encB b) := rfl

/-- tight$1: narrow. -/
theorem narrow_ev {h : H} {p i : Nat} {b : Box} (hw : h.wf) (hp : h.get p = some (.cells .rw (encB b))) (hi : i < 12) (lo hi' : Int) (Q : V → H → Prop)
    (q : ∀ h', h'.get p = some (.cells .rw (encB (narrow b i lo hi'))) → Keeps (fun c => c = p) h h' → h'.wf → Q (.tup []) h') : Ev fnG fastA (.fn 152 [] [.ptr p 0]) [.int .i64 (i : Int), .int .i64 lo, .int .i64 hi'] h Q := by
  obtain ⟨n1, n2, n3⟩ := encB_at b hi
  have hc := cells_of hp
  have hlp := hw _ _ hp
  refine Ev_body (fd := c152) rfl rfl rfl ?_
  simp (maxSteps := 1000000) (implicitDefEqProofs := false) (disch := first | with_reducible rfl | omega | (simp only [nA, nS, nD] <;> omega) | fail) only [c152, go_sem, ↓reduceIte, Nat.reduceEqDiff, Nat.reduceAdd, Nat.reduceSub, Nat.reduceMul, reduceCtorEq, Nat.reduceLeDiff, q_iaa_ptr (nat_cst i) hi, hc, n1, n2]
  refine least_use (l := [hi']) (SlAt.new _ rfl (by rfl) (by rfl) (by simp [encI]) (by simp)) ?_
  have s1 : h.Sub ((h.add (.cells .rw [.int .i64 hi'])).add (.cells .rw [.int .i64 (max (b i).1 lo), .int .i64 (min (b i).2 hi')])) := (by repeat (first | assumption | exact H.Sub.refl (by assumption) | refine H.Sub.add ?_ _ | refine H.Sub.set ?_ (by first | omega | (simp only [H.next_add, H.next_set, H.next_del] <;> omega)) (by first | omega | (simp only [H.next_add, H.next_set, H.next_del] <;> omega)) (by assumption) _))
  have k1 := Keeps.of s1 (fun c => c = p)
  have hp1 := s1.get hp
  by_cases e : max (b i).1 lo = (b i).1 ∧ min (b i).2 hi' = (b i).2
  · have hnb : narrow b i lo hi' = b := by
      rw [narrow_upd, e.1, e.2]; exact updB_same b i
    simp (maxSteps := 1000000) (implicitDefEqProofs := false) (disch := first | with_reducible rfl | omega | (simp only [nA, nS, nD] <;> omega) | fail) only [go_sem, ↓reduceIte, Nat.reduceEqDiff, Nat.reduceAdd, Nat.reduceSub, Nat.reduceMul, reduceCtorEq, Nat.reduceLeDiff, q_iaa_ptr (nat_cst i) hi, hc, n1, n2, n3, List.foldl, q_feq_2, e.1, e.2, ngB, and_self, Bool.not_true]
    have := q _ (by rw [hnb]; exact hp1) k1 s1.wf
    rw [e.1, e.2] at this; exact this
  · simp (maxSteps := 1000000) (implicitDefEqProofs := false) (disch := first | with_reducible rfl | omega | (simp only [nA, nS, nD] <;> omega) | fail) only [go_sem, ↓reduceIte, Nat.reduceEqDiff, Nat.reduceAdd, Nat.reduceSub, Nat.reduceMul, reduceCtorEq, Nat.reduceLeDiff, q_iaa_ptr (nat_cst i) hi, hc, n1, n2, n3, List.foldl, q_feq_2, e, ngB, Bool.not_false, hp, encB_put b hi]
    obtain ⟨k2, w2⟩ := Keeps.wf_set s1.wf (.cells .rw (encB (narrow b i lo hi'))) hp1
    exact q _ (get_set_same rfl) ((k1.trans k2).mono fun c h => by rcases h with h | h <;> exact h) w2
/-! ### How great numbers become -/
def Bd (C : Int) (b : Box) : Prop := ∀ k : Int, -C ≤ (b k).1 ∧ (b k).1 ≤ C ∧ -C ≤ (b k).2 ∧ (b k).2 ≤ C
theorem Bd.mono {C D : Int} {b : Box} (h : Bd C b) (hc : C ≤ D) : Bd D b := fun k => by have := h k; omega
theorem Bd.narrow {C : Int} {b : Box} (h : Bd C b) {i lo hi : Int} (h1 : -C ≤ lo ∧ lo ≤ C) (h2 : -C ≤ hi ∧ hi ≤ C) : Bd C (narrow b i lo hi) := fun k => by
  have hk := h k
  by_cases e : k = i
  · subst e; rw [narrow_same]; simp only; omega
  · rw [narrow_ne _ _ _ e]; exact hk
theorem sum_bd {x : Int → Int} {C : Int} : ∀ {l : List Int}, (∀ p, -C ≤ x p ∧ x p ≤ C) → 0 ≤ C → (l.length : Int) ≤ 12 → -(12 * C) ≤ sumL x l ∧ sumL x l ≤ 12 * C := by
  have : ∀ (l : List Int), (∀ p, -C ≤ x p ∧ x p ≤ C) → -((l.length : Int) * C) ≤ sumL x l ∧ sumL x l ≤ (l.length : Int) * C := by
    intro l h
    induction l with
    | nil => simp [sumL]
    | cons p l ih =>
      have := h p
      simp only [sumL, List.length_cons]
      rw [Int.natCast_add, Int.add_mul]
      omega
  intro l h h0 hl
  have h1 := this l h
  have h2 := Int.mul_le_mul_of_nonneg_right hl h0
  omega
theorem downs_bd {bf : Box} {K C lo hi : Int} {i : Int} (hK : 0 ≤ K) (hKC : K ≤ C) (hbf : Bd K bf) (hlo : -(12 * K) ≤ lo ∧ lo ≤ 12 * K) (hhi : -(12 * K) ≤ hi ∧ hi ≤ 12 * K) : ∀ (l : List Int) (b : Box), i ∉ l → Bd (C + 25 * K) b → (-(C + 12 * K) ≤ (b i).1 ∧ (b i).1 ≤ C + 12 * K ∧ -(C + 12 * K) ≤ (b i).2 ∧ (b i).2 ≤ C + 12 * K) →
    Bd (C + 25 * K) (downs bf i lo hi l b)
  | [], b, _, h, _ => h
  | p :: l, b, hi', h, hb => by
    rw [List.mem_cons, not_or] at hi'
    have hp := hbf p
    simp only [downs]
    refine downs_bd hK hKC hbf hlo hhi l _ hi'.2 (h.narrow (by omega) (by omega)) ?_
    rw [narrow_ne _ _ _ hi'.1]; exact hb
theorem lotStep_bd {m : Ml} (g : Good m) {bf b c : Box} {K C : Int} {i : Int} (hK : 0 ≤ K) (hKC : K ≤ C) (hbf : Bd K bf) (hb : Bd C b) (he : ∀ p ∈ parts m i, b p = bf p) (h0 : 0 ≤ i) (h : lotStep (parts m) bf b i = some c) : Bd (C + 25 * K) c := by
  unfold lotStep at h
  split at h
  · cases h
  · split at h
    · cases h; exact hb.mono (by omega)
    · cases h
      have hl : ((parts m i).length : Int) ≤ 12 := by have := parts_len m i; have := g.lots; omega
      have e1 : sumL (lo1 b) (parts m i) = sumL (lo1 bf) (parts m i) := sumL_congr fun p hp => by simp only [lo1, he p hp]
      have e2 : sumL (hi1 b) (parts m i) = sumL (hi1 bf) (parts m i) := sumL_congr fun p hp => by simp only [hi1, he p hp]
      have b1 := sum_bd (x := lo1 bf) (C := K) (l := parts m i) (fun p => by have := hbf p; simp only [lo1]; omega) hK hl
      have b2 := sum_bd (x := hi1 bf) (C := K) (l := parts m i) (fun p => by have := hbf p; simp only [hi1]; omega) hK hl
      rw [e1, e2]
      have hbi := hb i
      refine downs_bd hK hKC hbf b1 b2 _ _ (fun hm => ?_) ((hb.mono (by omega)).narrow (by omega) (by omega)) ?_
      · obtain ⟨p0, p1, pf⟩ := ((forest g).mem _ _).1 hm
        have := (forest g).lt i p0 p1; omega
      · rw [narrow_same]; simp only; omega
theorem passF_bd {m : Ml} (g : Good m) {bf : Box} {K : Int} (hK : 0 ≤ K) (hbf : Bd K bf) : ∀ (k : Nat) (i : Int) (b c : Box) (C : Int), K ≤ C → 0 ≤ i → Bd C b → Silk.Fresh m.lots.length (frmAt m) bf b i → passF (parts m) bf k i b = some c → Bd (C + 25 * K * k) c
  | 0, i, b, c, C, _, _, hb, _, h => by cases h; exact hb.mono (by simp)
  | k + 1, i, b, c, C, hC, i0, hb, hf, h => by
    simp only [passF] at h
    cases h1 : lotStep (parts m) bf b i with
    | none => rw [h1] at h; cases h
    | some d =>
      rw [h1] at h
      have := passF_bd g hK hbf k (i + 1) d c (C + 25 * K) (by omega) (by omega) (lotStep_bd g hK hC hbf hb (hf.at (forest g)) i0 h1) (hf.step (forest g) i0 h1) h
      have e : C + 25 * K + 25 * K * (k : Int) = C + 25 * K * ((k + 1 : Nat) : Int) := by
        rw [Int.natCast_add, Int.mul_add]; omega
      rw [← e]; exact this
/-- Bounds as they come to a pass. -/
def InvB (b : Box) : Prop := ∀ k : Int, 0 ≤ (b k).1 ∧ (b k).1 ≤ 4000000 ∧ -4000000 ≤ (b k).2 ∧ (b k).2 ≤ 10000
theorem InvB.bd {b : Box} (h : InvB b) : Bd 4000000 b := fun k => by have := h k; omega
/-- A pass that succeeds. -/
theorem InvB.pass {m : Ml} (g : Good m) {b c : Box} (h : InvB b) (hout : ∀ j : Int, ¬ (0 ≤ j ∧ j < m.lots.length) → b j = (0, 0)) (hp : passF (parts m) b m.lots.length 0 b = some c) : InvB c ∧ ∀ j : Int, ¬ (0 ≤ j ∧ j < m.lots.length) → c j = (0, 0) := by
  have hs : ∀ j : Int, 0 ≤ (b j).1 ∧ (b j).1 ≤ 10000 ∧ -10000 ≤ (b j).2 ∧ (b j).2 ≤ 10000 := fun j => by
    by_cases hj : 0 ≤ j ∧ j < m.lots.length
    · have := passF_start _ _ _ _ hp j hj.1 (by omega)
      have := h j; omega
    · rw [hout j hj]; omega
  have hbd : Bd 10000 b := fun k => by have := hs k; omega
  have h2 := passF_bd g (by omega) hbd m.lots.length 0 b c 10000 (by omega) (by omega) hbd (fun _ _ _ _ => rfl) hp
  have hn := passF_nrw _ _ hp
  have gl := g.lots
  refine ⟨fun k => ?_, fun j hj => by rw [passF_out (forest g) _ _ _ _ (by omega) (by omega) hp j hj]; exact hout j hj⟩
  have a1 := h2 k
  have a2 := hn k
  have a3 := hs k
  omega
theorem zerosB : ([.int .i64 0, .int .i64 0, .int .i64 0, .int .i64 0, .int .i64 0, .int .i64 0, .int .i64 0, .int .i64 0, .int .i64 0, .int .i64 0, .int .i64 0, .int .i64 0, .int .i64 0, .int .i64 0, .int .i64 0, .int .i64 0, .int .i64 0, .int .i64 0, .int .i64 0, .int .i64 0, .int .i64 0, .int .i64 0, .int .i64 0, .int .i64 0] : List V) = encB zeroB := rfl
theorem lenB (b : Box) : lenN (encB b) = 24 := rfl
theorem put_B {h : H} {p : Nat} (b c : Box) (hp : h.get p = some (.cells .rw (encB c))) : h.put p 0 (encB b) = some (h.set p (.cells .rw (encB b))) := by
  have hpn : putN 0 (encB b) (encB c) = some (encB b) := by
    rw [putN_0]; exact over_eq.2 ⟨rfl, Nat.le_refl _⟩
  exact H.put_rw (v := iv (b 0).1) rfl hp hpn
def tightV (r : Option Box) : V := match r with
  | none => .tup [.agg (encB zeroB), .bool false]
  | some c => .tup [.agg (encB c), .bool true]
theorem sum_take (x : Int → Int) {l : List Int} {j : Nat} (hj : j < l.length) : sumL x (l.take (j + 1)) = sumL x (l.take j) + x l[j] := by
  rw [List.take_succ_eq_append_getElem hj, sumL_append]; simp [sumL]
theorem downs_drop {bf : Box} {i lo hi : Int} {l : List Int} {j : Nat} (hj : j < l.length) (b : Box) : downs bf i lo hi (l.drop j) b = downs bf i lo hi (l.drop (j + 1)) (narrow b l[j] ((b i).1 - (hi - (bf l[j]).2)) ((b i).2 - (lo - (bf l[j]).1))) := by
  rw [List.drop_eq_getElem_cons hj]; rfl
set_option maxHeartbeats 4000000 in
/-- tight -/
theorem tight_ev {h : H} {d : Nat} {m : Ml} {b : Box} (hw : h.wf) (hd : DkAt h d m) (g : Good m) (hb : InvB b) (hout : ∀ j : Int, ¬ (0 ≤ j ∧ j < m.lots.length) → b j = (0, 0)) (Q : V → H → Prop)
    (q : ∀ r h', h.Sub h' → TightR m.lots.length (parts m) b r → Q (tightV r) h') : Ev fnG fastA (.fn 126 [] []) [.ptr d 0, .agg (encB b)] h Q := by
  obtain ⟨pm, l, L, W, g1, g2, aL, aW, ap⟩ := hd
  have F := forest g
  have gl := g.lots
  have hld := hw _ _ g1
  have hlp := hw _ _ g2
  have hlenL := aL.lenE
  refine Ev_body (fd := c126) rfl rfl rfl ?_
  have s1 : h.Sub ((h.add (.cells .rw (encB b))).add (.cells .rw (encB zeroB))) := (by repeat (first | assumption | exact H.Sub.refl (by assumption) | refine H.Sub.add ?_ _ | refine H.Sub.set ?_ (by first | omega | (simp only [H.next_add, H.next_set, H.next_del] <;> omega)) (by first | omega | (simp only [H.next_add, H.next_set, H.next_del] <;> omega)) (by assumption) _))
  simp (maxSteps := 1000000) (implicitDefEqProofs := false) (disch := first | with_reducible rfl | omega | (simp only [nA, nS, nD] <;> omega) | fail) only [c126, go_sem, ↓reduceIte, Nat.reduceEqDiff, Nat.reduceAdd, Nat.reduceSub, Nat.reduceMul, reduceCtorEq, Nat.reduceLeDiff, zerosB]
  refine W_loop (fun k s => ∃ tm h' c, s = ⟨tm, h', []⟩ ∧ h.Sub h' ∧ h.next + 1 < h'.next ∧ h'.get h.next = some (.cells .rw (encB c)) ∧ h'.get (h.next + 1) = some (.cells .rw (encB zeroB)) ∧ InvB c ∧ (∀ j : Int, ¬ (0 ≤ j ∧ j < m.lots.length) → c j = (0, 0)) ∧
      (∀ r, TightR m.lots.length (parts m) c r → TightR m.lots.length (parts m) b r) ∧ (Silk.room m.lots.length c + 1).toNat ≤ k ∧ (Opd.t 0).ev tm = .ptr d 0 ∧ (Opd.t 3).ev tm = .ptr h.next 0 ∧ (Opd.t 4).ev tm = .ptr (h.next + 1) 0 ∧ (Opd.t 6).ev tm = .fn 152 [] [.ptr h.next 0])
    ?_ (Silk.room m.lots.length b + 1).toNat _ ⟨_, _, b, rfl, s1, by simp only [H.next_add]; omega, by simp (maxSteps := 1000000) (implicitDefEqProofs := false) (disch := first | with_reducible rfl | omega | (simp only [nA, nS, nD] <;> omega) | fail) only [go_sem, ↓reduceIte, Nat.reduceEqDiff, Nat.reduceAdd, Nat.reduceSub, Nat.reduceMul, reduceCtorEq, Nat.reduceLeDiff], by simp (maxSteps := 1000000) (implicitDefEqProofs := false) (disch := first | with_reducible rfl | omega | (simp only [nA, nS, nD] <;> omega) | fail) only [go_sem, ↓reduceIte, Nat.reduceEqDiff, Nat.reduceAdd, Nat.reduceSub, Nat.reduceMul, reduceCtorEq, Nat.reduceLeDiff], hb, hout, fun r h => h, Nat.le_refl _, (by simp [ev_c, ev_put] <;> rfl), (by simp [ev_c, ev_put] <;> rfl), (by simp [ev_c, ev_put] <;> rfl), (by simp [ev_c, ev_put] <;> rfl)⟩
  rintro k s ⟨tm, h', c, rfl, hs, lt, gb, gz, hi, ho, hR, hk, t0, t3, t4, t6⟩
  have gz' : (h'.add (.cells .rw (encB zeroB))).get h'.next = some (.cells .rw (encB zeroB)) := get_add_new rfl
  simp (maxSteps := 1000000) (implicitDefEqProofs := false) (disch := first | with_reducible rfl | omega | (simp only [nA, nS, nD] <;> omega) | fail) only [go_sem, ↓reduceIte, Nat.reduceEqDiff, Nat.reduceAdd, Nat.reduceSub, Nat.reduceMul, reduceCtorEq, Nat.reduceLeDiff, t0, t3, t4, t6, cells_of gb, ld_B, zerosB, lenB, put_B c zeroB gz', cells_of (hs.get g1), hlenL]
  have sB := (H.Sub.refl hs.wf).add (.cells .rw (encB c))
  have hs1 := hs.trans sB
  have gb1 := sB.get gb
  have gz1 := sB.get gz
  have gf1 : (h'.add (.cells .rw (encB c))).get h'.next = some (.cells .rw (encB c)) := get_add_new rfl
  have l1 : (h'.add (.cells .rw (encB c))).next = h'.next + 1 := H.next_add _ _
  generalize h'.add (.cells .rw (encB c)) = h1 at sB hs1 gb1 gz1 gf1 l1 ⊢
  clear gz'
  refine W_count m.lots.length (fun i s => ∃ tm h2 e, s = ⟨tm, h2, []⟩ ∧ h.Sub h2 ∧ h'.next < h2.next ∧ h2.get h.next = some (.cells .rw (encB e)) ∧ h2.get (h.next + 1) = some (.cells .rw (encB zeroB)) ∧ h2.get h'.next = some (.cells .rw (encB c)) ∧
      passF (parts m) c m.lots.length 0 c = passF (parts m) c (m.lots.length - i) (i : Int) e ∧ Silk.Fresh m.lots.length (frmAt m) c e (i : Int) ∧ Bd (4000000 + 100000000 * i) e ∧
      (Opd.t 0).ev tm = .ptr d 0 ∧ (Opd.t 3).ev tm = .ptr h.next 0 ∧ (Opd.t 4).ev tm = .ptr (h.next + 1) 0 ∧ (Opd.t 6).ev tm = .fn 152 [] [.ptr h.next 0] ∧ (Opd.t 7).ev tm = .ptr h'.next 0 ∧ (Opd.t 23).ev tm = .int .i64 (m.lots.length : Int) ∧ (Opd.t 24).ev tm = .int .i64 (i : Int))
    ?_ ?_ (i := 0) (Nat.zero_le _) ⟨_, _, c, rfl, hs1, by omega, gb1, gz1, gf1, rfl, fun _ _ _ _ => rfl, hi.bd.mono (by omega), (by simp [ev_c, ev_put, t0] <;> rfl), (by simp [ev_c, ev_put, t3] <;> rfl), (by simp [ev_c, ev_put, t4] <;> rfl), (by simp [ev_c, ev_put, t6] <;> rfl), (by simp [ev_c, ev_put] <;> rfl), (by simp [ev_c, ev_put] <;> rfl), (by simp [ev_c, ev_put] <;> rfl)⟩ <;> clear t0 t3 t4 t6 tm
  · rintro i s hin ⟨tm, h2, e, rfl, hs2, lt2, gb2, gz2, gf2, hpass, hfr, hbd, t0, t3, t4, t6, t7, t23, t24⟩
    have hin' : (i : Int) < (m.lots.length : Int) := by omega
    have hi12 : i < 12 := by omega
    obtain ⟨n1, n2, n3⟩ := encB_at e hi12
    have hstep : m.lots.length - i = (m.lots.length - (i + 1)) + 1 := by omega
    rw [hstep, passF] at hpass
    have hbdi := hbd (i : Int)
    by_cases hc : (e i).2 < (e i).1
    · simp (maxSteps := 1000000) (implicitDefEqProofs := false) (disch := first | with_reducible rfl | omega | (simp only [nA, nS, nD] <;> omega) | fail) only [go_sem, ↓reduceIte, Nat.reduceEqDiff, Nat.reduceAdd, Nat.reduceSub, Nat.reduceMul, reduceCtorEq, Nat.reduceLeDiff, t0, t3, t4, t6, t7, t23, t24, hin', q_iaa_ptr (nat_cst i) hi12, cells_of gb2, n1, n2, hc, zerosB, lenB, put_B zeroB zeroB gz2, ld_B]
      have hnone : lotStep (parts m) c e (i : Int) = none := by unfold lotStep; rw [if_pos hc]
      rw [hnone] at hpass
      exact q none _ (hs2.set (by omega) (by have := hs2.next; omega) hw _) (hR none (.bad hpass))
    have hap := (ap (i : Int)).mono hs2
    have hlp := parts_len m (i : Int)
    have hlenP := hap.lenE
    by_cases hps : parts m (i : Int) = []
    · have h0 : ((parts m (i : Int)).length : Int) = 0 := by rw [hps]; rfl
      have hsome : lotStep (parts m) c e (i : Int) = some e := by unfold lotStep; rw [if_neg hc, if_pos hps]
      have hfr' := hfr.step F (by omega) hsome
      rw [hsome] at hpass
      simp (maxSteps := 1000000) (implicitDefEqProofs := false) (disch := first | with_reducible rfl | omega | (simp only [nA, nS, nD] <;> omega) | fail) only [go_sem, ↓reduceIte, Nat.reduceEqDiff, Nat.reduceAdd, Nat.reduceSub, Nat.reduceMul, reduceCtorEq, Nat.reduceLeDiff, t0, t3, t4, t6, t7, t23, t24, hin', q_iaa_ptr (nat_cst i) hi12, cells_of gb2, n1, n2, hc, cells_of (hs2.get g1), hs2.get g2, hlenP, h0, wr_succ]
      exact ⟨_, _, e, rfl, hs2, lt2, gb2, gz2, gf2, hpass, hfr', hbd.mono (by omega), (by simp [ev_c, ev_put, t0] <;> rfl), (by simp [ev_c, ev_put, t3] <;> rfl), (by simp [ev_c, ev_put, t4] <;> rfl), (by simp [ev_c, ev_put, t6] <;> rfl), (by simp [ev_c, ev_put, t7] <;> rfl), (by simp [ev_c, ev_put, t23] <;> rfl), (by simp [ev_c, ev_put] <;> rfl)⟩
    have h0 : ¬ ((parts m (i : Int)).length : Int) = 0 := by have := List.length_pos_iff.2 hps; omega
    obtain ⟨ps, eps⟩ : ∃ ps, parts m (i : Int) = ps := ⟨_, rfl⟩
    obtain ⟨X, eX⟩ : ∃ X, found .nils false (lkA (i : Int) l) = X := ⟨_, rfl⟩
    rw [eX] at hlenP hap
    rw [eps] at hlp hlenP hap h0 hps
    have hpsm : ∀ p ∈ ps, 0 ≤ p ∧ p < m.lots.length ∧ frmAt m p = (i : Int) := fun p hp => (F.mem _ _).1 (by rw [eps]; exact hp)
    simp (maxSteps := 1000000) (implicitDefEqProofs := false) (disch := first | with_reducible rfl | omega | (simp only [nA, nS, nD] <;> omega) | fail) only [go_sem, ↓reduceIte, Nat.reduceEqDiff, Nat.reduceAdd, Nat.reduceSub, Nat.reduceMul, reduceCtorEq, Nat.reduceLeDiff, t0, t3, t4, t6, t7, t23, t24, hin', q_iaa_ptr (nat_cst i) hi12, cells_of gb2, n1, n2, hc, cells_of (hs2.get g1), hs2.get g2, eX, hlenP, h0]
    have bdS : ∀ (x : Int → Int) (l' : List Int), (∀ p, -(4000000 + 100000000 * (i : Int)) ≤ x p ∧ x p ≤ 4000000 + 100000000 * (i : Int)) → (l'.length : Int) ≤ 12 → -(12 * (4000000 + 100000000 * (i : Int))) ≤ sumL x l' ∧ sumL x l' ≤ 12 * (4000000 + 100000000 * (i : Int)) := fun x l' h1 h2 => sum_bd h1 (by omega) h2
    refine W_count ps.length (fun j s => ∃ tm, s = ⟨tm, h2, []⟩ ∧ (Opd.t 0).ev tm = .ptr d 0 ∧ (Opd.t 3).ev tm = .ptr h.next 0 ∧ (Opd.t 4).ev tm = .ptr (h.next + 1) 0 ∧ (Opd.t 6).ev tm = .fn 152 [] [.ptr h.next 0] ∧ (Opd.t 7).ev tm = .ptr h'.next 0 ∧ (Opd.t 8).ev tm = .int .i64 (i : Int) ∧ (Opd.t 9).ev tm = X ∧
        (Opd.t 10).ev tm = .int .i64 (sumL (lo1 e) (ps.take j)) ∧ (Opd.t 11).ev tm = .int .i64 (sumL (hi1 e) (ps.take j)) ∧ (Opd.t 23).ev tm = .int .i64 (m.lots.length : Int) ∧ (Opd.t 24).ev tm = .int .i64 (i : Int) ∧ (Opd.t 46).ev tm = X ∧ (Opd.t 47).ev tm = .int .i64 (ps.length : Int) ∧ (Opd.t 48).ev tm = .int .i64 (j : Int))
      ?_ ?_ (i := 0) (Nat.zero_le _) ⟨_, rfl, (by simp [ev_c, ev_put, t0] <;> rfl), (by simp [ev_c, ev_put, t3] <;> rfl), (by simp [ev_c, ev_put, t4] <;> rfl), (by simp [ev_c, ev_put, t6] <;> rfl), (by simp [ev_c, ev_put, t7] <;> rfl), (by simp [ev_c, ev_put] <;> rfl), (by simp [ev_c, ev_put] <;> rfl), (by simp [ev_c, ev_put] <;> rfl), (by simp [ev_c, ev_put] <;> rfl), (by simp [ev_c, ev_put, t23] <;> rfl), (by simp [ev_c, ev_put, t24] <;> rfl), (by simp [ev_c, ev_put] <;> rfl), (by simp [ev_c, ev_put] <;> rfl), (by simp [ev_c, ev_put] <;> rfl)⟩ <;> clear t0 t3 t4 t6 t7 t23 t24 tm
    · rintro j s hj ⟨tm, rfl, t0, t3, t4, t6, t7, t8, t9, t10, t11, t23, t24, t46, t47, t48⟩
      have hj' : (j : Int) < (ps.length : Int) := by omega
      obtain ⟨bb, o, cc, cs, eb, hcs, hq, hgg, hn, hn0⟩ := hap.at hj
      obtain ⟨p0, p1, pf⟩ := hpsm _ (List.getElem_mem hj)
      obtain ⟨p, ep⟩ := Int.eq_ofNat_of_zero_le p0
      have hp12 : p < 12 := by omega
      obtain ⟨m1, m2, m3⟩ := encB_at e hp12
      have v1 := bdS (lo1 e) (ps.take j) (fun p => by have := hbd p; simp only [lo1]; omega) (by simp only [List.length_take]; omega)
      have v2 := bdS (hi1 e) (ps.take j) (fun p => by have := hbd p; simp only [hi1]; omega) (by simp only [List.length_take]; omega)
      have hbp := hbd (p : Int)
      have e1 := sum_take (lo1 e) hj
      have e2 := sum_take (hi1 e) hj
      rw [ep] at e1 e2
      simp only [lo1, hi1] at e1 e2 v1 v2
      simp (maxSteps := 1000000) (implicitDefEqProofs := false) (disch := first | with_reducible rfl | omega | (simp only [nA, nS, nD] <;> omega) | fail) only [go_sem, ↓reduceIte, Nat.reduceEqDiff, Nat.reduceAdd, Nat.reduceSub, Nat.reduceMul, reduceCtorEq, Nat.reduceLeDiff, t0, t3, t4, t6, t7, t8, t9, t10, t11, t23, t24, t46, t47, t48, hj', hq (nat_cst j), hcs, hn0 (by omega), encI, ep, q_iaa_ptr (nat_cst p) hp12, cells_of gb2, m1, m2, wr_in, wr_succ, lo1, hi1]
      exact ⟨_, rfl, (by simp [ev_c, ev_put, t0] <;> rfl), (by simp [ev_c, ev_put, t3] <;> rfl), (by simp [ev_c, ev_put, t4] <;> rfl), (by simp [ev_c, ev_put, t6] <;> rfl), (by simp [ev_c, ev_put, t7] <;> rfl), (by simp [ev_c, ev_put, t8] <;> rfl), (by simp [ev_c, ev_put, t9] <;> rfl), by rw [e1]; exact (by simp [ev_c, ev_put] <;> rfl), by rw [e2]; exact (by simp [ev_c, ev_put] <;> rfl), (by simp [ev_c, ev_put, t23] <;> rfl), (by simp [ev_c, ev_put, t24] <;> rfl), (by simp [ev_c, ev_put, t46] <;> rfl), (by simp [ev_c, ev_put, t47] <;> rfl), (by simp [ev_c, ev_put] <;> rfl)⟩
    · rintro s ⟨tm, rfl, t0, t3, t4, t6, t7, t8, t9, t10, t11, t23, t24, t46, t47, t48⟩
      rw [List.take_length] at t10 t11
      have v1 := bdS (lo1 e) ps (fun p => by have := hbd p; simp only [lo1]; omega) (by omega)
      have v2 := bdS (hi1 e) ps (fun p => by have := hbd p; simp only [hi1]; omega) (by omega)
      obtain ⟨slo, eslo⟩ : ∃ x, sumL (lo1 e) ps = x := ⟨_, rfl⟩
      obtain ⟨shi, eshi⟩ : ∃ x, sumL (hi1 e) ps = x := ⟨_, rfl⟩
      rw [eslo] at t10 v1
      rw [eshi] at t11 v2
      have hsome : lotStep (parts m) c e (i : Int) = some (downs c (i : Int) slo shi ps (narrow e (i : Int) slo shi)) := by
        unfold lotStep
        rw [if_neg hc, eps, if_neg hps, eslo, eshi]
      rw [hsome] at hpass
      have hfr' := hfr.step F (by omega) hsome
      have hbd' := lotStep_bd g (K := 4000000) (by omega) (by omega) hi.bd hbd (hfr.at F) (by omega) hsome
      have hcf : ∀ p ∈ ps, e p = c p := fun p hp => hfr.at F p (by rw [eps]; exact hp)
      simp (maxSteps := 1000000) (implicitDefEqProofs := false) (disch := first | with_reducible rfl | omega | (simp only [nA, nS, nD] <;> omega) | fail) only [go_sem, ↓reduceIte, Nat.reduceEqDiff, Nat.reduceAdd, Nat.reduceSub, Nat.reduceMul, reduceCtorEq, Nat.reduceLeDiff, t0, t3, t4, t6, t7, t8, t9, t10, t11, t23, t24, t46, t47, t48, Int.lt_irrefl]
      refine narrow_ev hs2.wf gb2 hi12 slo shi _ fun h3 gb3 k3 w3 => ?_
      have hs3 : h.Sub h3 := k3.sub hs2 hw (fun c hc => by omega) w3
      have gz3 := k3.2 _ _ gz2 (by omega)
      have gf3 := k3.2 _ _ gf2 (by omega)
      have l3 := k3.1
      have hx2 := hap.elems
      simp (maxSteps := 1000000) (implicitDefEqProofs := false) (disch := first | with_reducible rfl | omega | (simp only [nA, nS, nD] <;> omega) | fail) only [go_sem, ↓reduceIte, Nat.reduceEqDiff, Nat.reduceAdd, Nat.reduceSub, Nat.reduceMul, reduceCtorEq, Nat.reduceLeDiff, t0, t3, t4, t6, t7, t8, t9, t10, t11, t23, t24, t46, t47, t48, hlenP]
      refine W_count ps.length (fun j s => ∃ tm h4 e4, s = ⟨tm, h4, []⟩ ∧ h.Sub h4 ∧ h'.next < h4.next ∧ h4.get h.next = some (.cells .rw (encB e4)) ∧ h4.get (h.next + 1) = some (.cells .rw (encB zeroB)) ∧ h4.get h'.next = some (.cells .rw (encB c)) ∧
          downs c (i : Int) slo shi ps (narrow e (i : Int) slo shi) = downs c (i : Int) slo shi (ps.drop j) e4 ∧ e4 (i : Int) = narrow e (i : Int) slo shi (i : Int) ∧
          (Opd.t 0).ev tm = .ptr d 0 ∧ (Opd.t 3).ev tm = .ptr h.next 0 ∧ (Opd.t 4).ev tm = .ptr (h.next + 1) 0 ∧ (Opd.t 6).ev tm = .fn 152 [] [.ptr h.next 0] ∧ (Opd.t 7).ev tm = .ptr h'.next 0 ∧ (Opd.t 8).ev tm = .int .i64 (i : Int) ∧
          (Opd.t 10).ev tm = .int .i64 slo ∧ (Opd.t 11).ev tm = .int .i64 shi ∧ (Opd.t 23).ev tm = .int .i64 (m.lots.length : Int) ∧ (Opd.t 24).ev tm = .int .i64 (i : Int) ∧ (Opd.t 70).ev tm = X ∧ (Opd.t 71).ev tm = .int .i64 (ps.length : Int) ∧ (Opd.t 72).ev tm = .int .i64 (j : Int))
        ?_ ?_ (i := 0) (Nat.zero_le _) ⟨_, _, _, rfl, hs3, by omega, gb3, gz3, gf3, rfl, rfl, (by simp [ev_c, ev_put, t0] <;> rfl), (by simp [ev_c, ev_put, t3] <;> rfl), (by simp [ev_c, ev_put, t4] <;> rfl), (by simp [ev_c, ev_put, t6] <;> rfl), (by simp [ev_c, ev_put, t7] <;> rfl), (by simp [ev_c, ev_put, t8] <;> rfl), (by simp [ev_c, ev_put, t10] <;> rfl), (by simp [ev_c, ev_put, t11] <;> rfl), (by simp [ev_c, ev_put, t23] <;> rfl), (by simp [ev_c, ev_put, t24] <;> rfl), (by simp [ev_c, ev_put] <;> rfl), (by simp [ev_c, ev_put] <;> rfl), (by simp [ev_c, ev_put] <;> rfl)⟩ <;> clear t0 t3 t4 t6 t7 t8 t9 t10 t11 t23 t24 t46 t47 t48 tm
      · rintro j s hj ⟨tm, h4, e4, rfl, hs4, lt4, gb4, gz4, gf4, hdn, hei, t0, t3, t4, t6, t7, t8, t10, t11, t23, t24, t70, t71, t72⟩
        have hj' : (j : Int) < (ps.length : Int) := by omega
        have hap4 := (ap (i : Int)).mono hs4
        rw [eX, eps] at hap4
        obtain ⟨bb, o, cc, cs, eb, hcs, hq, hgg, hn, hn0⟩ := hap4.at hj
        obtain ⟨p0, p1, pf⟩ := hpsm _ (List.getElem_mem hj)
        have hlt := F.lt _ p0 p1
        obtain ⟨p, ep⟩ := Int.eq_ofNat_of_zero_le p0
        have hp12 : p < 12 := by omega
        obtain ⟨m1, m2, m3⟩ := encB_at c hp12
        obtain ⟨u1, u2, u3⟩ := encB_at e4 hi12
        rw [downs_drop hj, ep] at hdn
        have hcp := hi (p : Int)
        have b4 : -60000000000 ≤ (e4 (i : Int)).1 ∧ (e4 (i : Int)).1 ≤ 60000000000 ∧ -60000000000 ≤ (e4 (i : Int)).2 ∧ (e4 (i : Int)).2 ≤ 60000000000 := by
          rw [hei, narrow_same]; simp only; omega
        simp (maxSteps := 1000000) (implicitDefEqProofs := false) (disch := first | with_reducible rfl | omega | (simp only [nA, nS, nD] <;> omega) | fail) only [go_sem, ↓reduceIte, Nat.reduceEqDiff, Nat.reduceAdd, Nat.reduceSub, Nat.reduceMul, reduceCtorEq, Nat.reduceLeDiff, t0, t3, t4, t6, t7, t8, t10, t11, t23, t24, t70, t71, t72, hj', hq (nat_cst j), hcs, hn0 (by omega), encI, ep, q_iaa_ptr (nat_cst p) hp12, q_iaa_ptr (nat_cst i) hi12, cells_of gb4, cells_of gf4, m1, m2, u1, u2, wr_in]
        refine narrow_ev hs4.wf gb4 hp12 _ _ _ fun h5 gb5 k5 w5 => ?_
        have hs5 : h.Sub h5 := k5.sub hs4 hw (fun c hc => by omega) w5
        have gz5 := k5.2 _ _ gz4 (by omega)
        have gf5 := k5.2 _ _ gf4 (by omega)
        have l5 := k5.1
        simp (maxSteps := 1000000) (implicitDefEqProofs := false) (disch := first | with_reducible rfl | omega | (simp only [nA, nS, nD] <;> omega) | fail) only [go_sem, ↓reduceIte, Nat.reduceEqDiff, Nat.reduceAdd, Nat.reduceSub, Nat.reduceMul, reduceCtorEq, Nat.reduceLeDiff, t0, t3, t4, t6, t7, t8, t10, t11, t23, t24, t70, t71, t72, wr_succ, cells_of gb4, cells_of gf4, m1, m2, u1, u2]
        exact ⟨_, _, _, rfl, hs5, by omega, gb5, gz5, gf5, hdn, by rw [narrow_ne _ _ _ (by omega)]; exact hei, (by simp [ev_c, ev_put, t0] <;> rfl), (by simp [ev_c, ev_put, t3] <;> rfl), (by simp [ev_c, ev_put, t4] <;> rfl), (by simp [ev_c, ev_put, t6] <;> rfl), (by simp [ev_c, ev_put, t7] <;> rfl), (by simp [ev_c, ev_put, t8] <;> rfl), (by simp [ev_c, ev_put, t10] <;> rfl), (by simp [ev_c, ev_put, t11] <;> rfl), (by simp [ev_c, ev_put, t23] <;> rfl), (by simp [ev_c, ev_put, t24] <;> rfl), (by simp [ev_c, ev_put, t70] <;> rfl), (by simp [ev_c, ev_put, t71] <;> rfl), (by simp [ev_c, ev_put] <;> rfl)⟩
      · rintro s ⟨tm, h4, e4, rfl, hs4, lt4, gb4, gz4, gf4, hdn, hei, t0, t3, t4, t6, t7, t8, t10, t11, t23, t24, t70, t71, t72⟩
        rw [List.drop_length] at hdn
        have hdn' : downs c (i : Int) slo shi ps (narrow e (i : Int) slo shi) = e4 := hdn
        rw [hdn'] at hpass hfr' hbd'
        simp (maxSteps := 1000000) (implicitDefEqProofs := false) (disch := first | with_reducible rfl | omega | (simp only [nA, nS, nD] <;> omega) | fail) only [go_sem, ↓reduceIte, Nat.reduceEqDiff, Nat.reduceAdd, Nat.reduceSub, Nat.reduceMul, reduceCtorEq, Nat.reduceLeDiff, t0, t3, t4, t6, t7, t8, t10, t11, t23, t24, t70, t71, t72, Int.lt_irrefl, wr_succ]
        exact ⟨_, _, e4, rfl, hs4, lt4, gb4, gz4, gf4, hpass, hfr', hbd'.mono (by omega), (by simp [ev_c, ev_put, t0] <;> rfl), (by simp [ev_c, ev_put, t3] <;> rfl), (by simp [ev_c, ev_put, t4] <;> rfl), (by simp [ev_c, ev_put, t6] <;> rfl), (by simp [ev_c, ev_put, t7] <;> rfl), (by simp [ev_c, ev_put, t23] <;> rfl), (by simp [ev_c, ev_put] <;> rfl)⟩
  · rintro s ⟨tm, h2, e, rfl, hs2, lt2, gb2, gz2, gf2, hpass, hfr, hbd, t0, t3, t4, t6, t7, t23, t24⟩
    rw [Nat.sub_self] at hpass
    have hpass' : passF (parts m) c m.lots.length 0 c = some e := hpass
    obtain ⟨hie, hoe⟩ := hi.pass g ho hpass'
    by_cases hec : intsB e = intsB c
    · have hEq : e = c := funext fun j => by
        by_cases hj : 0 ≤ j ∧ j < m.lots.length
        · exact (intsB_iff e c).1 hec j hj.1 (by omega)
        · rw [hoe j hj, ho j hj]
      subst hEq
      simp (maxSteps := 1000000) (implicitDefEqProofs := false) (disch := first | with_reducible rfl | omega | (simp only [nA, nS, nD] <;> omega) | fail) only [go_sem, ↓reduceIte, Nat.reduceEqDiff, Nat.reduceAdd, Nat.reduceSub, Nat.reduceMul, reduceCtorEq, Nat.reduceLeDiff, t0, t3, t4, t6, t7, t23, t24, Int.lt_irrefl, cells_of gb2, cells_of gf2, ld_B, q_feq_B, ngB, zerosB, lenB, put_B e zeroB gz2]
      exact q (some e) _ (hs2.set (by omega) (by have := hs2.next; omega) hw _) (hR _ (.done hpass'))
    · simp (maxSteps := 1000000) (implicitDefEqProofs := false) (disch := first | with_reducible rfl | omega | (simp only [nA, nS, nD] <;> omega) | fail) only [go_sem, ↓reduceIte, Nat.reduceEqDiff, Nat.reduceAdd, Nat.reduceSub, Nat.reduceMul, reduceCtorEq, Nat.reduceLeDiff, t0, t3, t4, t6, t7, t23, t24, Int.lt_irrefl, cells_of gb2, cells_of gf2, ld_B, q_feq_B, ngB, hec]
      have hne : ∃ j : Int, 0 ≤ j ∧ j < m.lots.length ∧ e j ≠ c j := by
        by_cases hall : ∃ j : Int, 0 ≤ j ∧ j < m.lots.length ∧ e j ≠ c j
        · exact hall
        · exfalso
          refine hec ((intsB_iff e c).2 fun j j0 j1 => ?_)
          by_cases hj : j < m.lots.length
          · by_cases he : e j = c j
            · exact he
            · exact absurd ⟨j, j0, hj, he⟩ hall
          · rw [hoe j (by omega), ho j (by omega)]
      obtain ⟨j, j0, j1, hj⟩ := hne
      have r1 := room_lt (passF_nrw _ _ hpass') m.lots.length j j0 j1 hj
      have r2 := room_nonneg (b := c) m.lots.length fun i i0 i1 => passF_start _ _ _ _ hpass' i i0 (by omega)
      exact ⟨(Silk.room m.lots.length e + 1).toNat, by omega, _, _, e, rfl, hs2, by omega, gb2, gz2, hie, hoe, fun r hr => hR r (.more hpass' hr), Nat.le_refl _, (by simp [ev_c, ev_put, t0] <;> rfl), (by simp [ev_c, ev_put, t3] <;> rfl), (by simp [ev_c, ev_put, t4] <;> rfl), (by simp [ev_c, ev_put, t6] <;> rfl)⟩
end Try
end Go.Ab
set_option linter.unusedSimpArgs false
set_option linter.unusedVariables false
namespace Go.Ab.Try
open Go.Ab.Silk
/-- What the first weighings of a lot that count say. -/
def ownK (m : Ml) (c : Nat → Bool) (lot : Int) : Nat → Int × Int
  | 0 => (0, 10000)
  | k + 1 => match m.wgs[k]? with
    | none => ownK m c lot k
    | some w => if c k = true ∧ w.lot = lot then (max (ownK m c lot k).1 (sayLo m w), min (ownK m c lot k).2 (sayHi m w)) else ownK m c lot k
theorem ownK_hit {m : Ml} {c : Nat → Bool} {lot : Int} {k : Nat} (hk : k < m.wgs.length) (hc : c k = true) (hl : m.wgs[k].lot = lot) : ownK m c lot (k + 1) = (max (ownK m c lot k).1 (sayLo m m.wgs[k]), min (ownK m c lot k).2 (sayHi m m.wgs[k])) := by
  simp only [ownK]
  rw [List.getElem?_eq_getElem hk]
  simp [hc, hl]
theorem ownK_miss {m : Ml} {c : Nat → Bool} {lot : Int} {k : Nat} (hk : k < m.wgs.length) (h : c k = false ∨ m.wgs[k].lot ≠ lot) : ownK m c lot (k + 1) = ownK m c lot k := by
  simp only [ownK]
  rw [List.getElem?_eq_getElem hk]
  simp only
  rw [if_neg]
  rintro ⟨h1, h2⟩
  rcases h with h | h
  · rw [h] at h1; cases h1
  · exact h h2
theorem say_bd {m : Ml} (g : Good m) {k : Nat} (hk : k < m.wgs.length) : 0 ≤ sayLo m m.wgs[k] ∧ sayLo m m.wgs[k] ≤ 20000 ∧ 0 ≤ sayHi m m.wgs[k] ∧ sayHi m m.wgs[k] ≤ 10000 := by
  have w1 := g.wg _ (List.getElem_mem hk)
  have w2 := g.errs
  have q2 := tdiv_le (a := 100 * (m.wgs[k].reads + m.errs)) (b := 100 + m.wgs[k].lo) (by omega) (by omega)
  have h1 := sayLo_nonneg (m := m) (w := m.wgs[k]) (by omega)
  refine ⟨h1, ?_, ?_, ?_⟩
  · rw [sayLo_le (by omega) (by omega)]
    have := Int.mul_le_mul_of_nonneg_left (show (100 : Int) ≤ 100 + m.wgs[k].hi by omega) (show (0 : Int) ≤ 20000 by omega)
    omega
  · unfold sayHi; omega
  · unfold sayHi; omega
theorem ownK_bd {m : Ml} (g : Good m) (c : Nat → Bool) (lot : Int) : ∀ k, 0 ≤ (ownK m c lot k).1 ∧ (ownK m c lot k).1 ≤ 20000 ∧ 0 ≤ (ownK m c lot k).2 ∧ (ownK m c lot k).2 ≤ 10000
  | 0 => by simp [ownK]
  | k + 1 => by
    have ih := ownK_bd g c lot k
    by_cases hk : k < m.wgs.length
    · by_cases h : c k = true ∧ m.wgs[k].lot = lot
      · have := say_bd g hk
        rw [ownK_hit hk h.1 h.2]; simp only; omega
      · rw [ownK_miss hk (by
          by_cases h1 : c k = true
          · exact .inr fun h2 => h ⟨h1, h2⟩
          · exact .inl (by simpa using h1))]
        exact ih
    · simp only [ownK]
      rw [List.getElem?_eq_none (by omega)]
      exact ih
def boxK (m : Ml) (c : Nat → Bool) (k : Nat) : Box := fun lot => if 0 ≤ lot ∧ lot < m.lots.length then ownK m c lot k else (0, 0)
def ownB (m : Ml) (c : Nat → Bool) : Box := boxK m c m.wgs.length
theorem boxK_out {m : Ml} {c : Nat → Bool} {k : Nat} : ∀ j : Int, ¬ (0 ≤ j ∧ j < m.lots.length) → boxK m c k j = (0, 0) := fun j h => by unfold boxK; rw [if_neg h]
theorem boxK_inv {m : Ml} (g : Good m) (c : Nat → Bool) (k : Nat) : InvB (boxK m c k) := fun j => by
  unfold boxK
  split
  · have := ownK_bd g c j k; omega
  · simp
theorem boxK_hit {m : Ml} (g : Good m) {c : Nat → Bool} {k : Nat} (hk : k < m.wgs.length) (hc : c k = true) : boxK m c (k + 1) = updB (boxK m c k) m.wgs[k].lot (max (boxK m c k m.wgs[k].lot).1 (sayLo m m.wgs[k]), min (boxK m c k m.wgs[k].lot).2 (sayHi m m.wgs[k])) := by
  have hl := g.lot _ (List.getElem_mem hk)
  funext lot
  unfold boxK updB
  by_cases e : lot = m.wgs[k].lot
  · subst e
    rw [if_pos ⟨hl.1, by omega⟩, if_pos rfl, if_pos ⟨hl.1, by omega⟩, ownK_hit hk hc rfl]
  · rw [if_neg e]
    dsimp only
    rw [ownK_miss hk (.inr fun e' => e e'.symm)]
theorem boxK_miss {m : Ml} {c : Nat → Bool} {k : Nat} (hk : k < m.wgs.length) (hc : c k = false) : boxK m c (k + 1) = boxK m c k := by
  funext lot
  unfold boxK
  rw [ownK_miss hk (.inl hc)]
def lotsB (i : Nat) : Box := fun lot => if 0 ≤ lot ∧ lot < i then (0, 10000) else (0, 0)
theorem lotsB_step (i : Nat) : lotsB (i + 1) = updB (lotsB i) (i : Int) ((lotsB i (i : Int)).1, 10000) := by
  funext lot
  unfold lotsB updB
  by_cases e : lot = (i : Int)
  · subst e
    rw [if_pos (by omega), if_pos rfl, if_neg (by omega)]
  · rw [if_neg e]
    dsimp only
    by_cases h : 0 ≤ lot ∧ lot < (i : Int)
    · rw [if_pos (by omega), if_pos h]
    · rw [if_neg (by omega), if_neg h]
theorem lotsB_all (m : Ml) (c : Nat → Bool) : lotsB m.lots.length = boxK m c 0 := rfl
set_option maxHeartbeats 2000000 in
/-- (*desk).bounds -/
theorem bounds_ev {h : H} {d : Nat} {m : Ml} {f : V} {c : Nat → Bool} (hw : h.wf) (hd : DkAt h d m) (g : Good m) (hf1 : f.one = true) (hf : ∀ i, i < m.wgs.length → PureA h f [.int .i64 (i : Int)] (.bool (c i))) (Q : V → H → Prop)
    (q : ∀ r h', h.Sub h' → TightR m.lots.length (parts m) (ownB m c) r → Q (tightV r) h') : Ev fnG fastA (.fn 124 [] []) [.ptr d 0, .agg [f]] h Q := by
  have hd0 := hd
  obtain ⟨pm, l, L, W, g1, g2, aL, aW, ap⟩ := hd
  have gl := g.lots
  have hld := hw _ _ g1
  have hlenL := aL.lenE
  have hlenW := aW.lenE
  refine Ev_body (fd := c124) rfl rfl rfl ?_
  have s1 : h.Sub (((h.add (.cells .rw [f])).add (.cells .rw (encB zeroB))).add (.cells .rw (encB zeroB))) := (by repeat (first | assumption | exact H.Sub.refl (by assumption) | refine H.Sub.add ?_ _ | refine H.Sub.set ?_ (by first | omega | (simp only [H.next_add, H.next_set, H.next_del] <;> omega)) (by first | omega | (simp only [H.next_add, H.next_set, H.next_del] <;> omega)) (by assumption) _))
  have ez : encB zeroB = encB (lotsB 0) := by
    rw [show lotsB 0 = zeroB from funext fun lot => by unfold lotsB zeroB; rw [if_neg (by omega)]]
  have gw := g.wgs
  simp (maxSteps := 1000000) (implicitDefEqProofs := false) (disch := first | with_reducible rfl | omega | (simp only [nA, nS, nD] <;> omega) | fail) only [c124, go_sem, ↓reduceIte, Nat.reduceEqDiff, Nat.reduceAdd, Nat.reduceSub, Nat.reduceMul, reduceCtorEq, Nat.reduceLeDiff, zerosB, hf1, cells_of g1, hlenL]
  refine W_count m.lots.length (fun i s => ∃ tm h', s = ⟨tm, h', []⟩ ∧ h.Sub h' ∧ h.next + 2 < h'.next ∧ h'.get h.next = some (.cells .rw [f]) ∧ h'.get (h.next + 1) = some (.cells .rw (encB zeroB)) ∧ h'.get (h.next + 1 + 1) = some (.cells .rw (encB (lotsB i))) ∧
      (Opd.t 0).ev tm = .ptr d 0 ∧ (Opd.t 3).ev tm = .ptr h.next 0 ∧ (Opd.t 4).ev tm = .ptr (h.next + 1) 0 ∧ (Opd.t 6).ev tm = .ptr (h.next + 1 + 1) 0 ∧ (Opd.t 16).ev tm = .int .i64 (m.lots.length : Int) ∧ (Opd.t 17).ev tm = .int .i64 (i : Int))
    ?_ ?_ (i := 0) (Nat.zero_le _) ⟨_, _, rfl, s1, by simp only [H.next_add]; omega, by simp (maxSteps := 1000000) (implicitDefEqProofs := false) (disch := first | with_reducible rfl | omega | (simp only [nA, nS, nD] <;> omega) | fail) only [go_sem, ↓reduceIte, Nat.reduceEqDiff, Nat.reduceAdd, Nat.reduceSub, Nat.reduceMul, reduceCtorEq, Nat.reduceLeDiff], by simp (maxSteps := 1000000) (implicitDefEqProofs := false) (disch := first | with_reducible rfl | omega | (simp only [nA, nS, nD] <;> omega) | fail) only [go_sem, ↓reduceIte, Nat.reduceEqDiff, Nat.reduceAdd, Nat.reduceSub, Nat.reduceMul, reduceCtorEq, Nat.reduceLeDiff], by rw [← ez]; simp (maxSteps := 1000000) (implicitDefEqProofs := false) (disch := first | with_reducible rfl | omega | (simp only [nA, nS, nD] <;> omega) | fail) only [go_sem, ↓reduceIte, Nat.reduceEqDiff, Nat.reduceAdd, Nat.reduceSub, Nat.reduceMul, reduceCtorEq, Nat.reduceLeDiff], (by simp [ev_c, ev_put] <;> rfl), (by simp [ev_c, ev_put] <;> rfl), (by simp [ev_c, ev_put] <;> rfl), (by simp [ev_c, ev_put] <;> rfl), (by simp [ev_c, ev_put] <;> rfl), (by simp [ev_c, ev_put] <;> rfl)⟩
  · rintro i s hi ⟨tm, h', rfl, hs, lt, ga, gb, gc, t0, t3, t4, t6, t16, t17⟩
    have hi' : (i : Int) < (m.lots.length : Int) := by omega
    have hi12 : i < 12 := by omega
    have hput := encB_put2 (lotsB i) hi12 10000
    rw [← lotsB_step] at hput
    simp (maxSteps := 1000000) (implicitDefEqProofs := false) (disch := first | with_reducible rfl | omega | (simp only [nA, nS, nD] <;> omega) | fail) only [go_sem, ↓reduceIte, Nat.reduceEqDiff, Nat.reduceAdd, Nat.reduceSub, Nat.reduceMul, reduceCtorEq, Nat.reduceLeDiff, t0, t3, t4, t6, t16, t17, hi', q_iaa_ptr (nat_cst i) hi12, gc, hput, wr_succ]
    have s2 := hs.set (b := h.next + 1 + 1) (by omega) (by omega) hw (.cells .rw (encB (lotsB (i + 1))))
    exact ⟨_, _, rfl, s2, by rw [H.next_set]; omega, by rw [get_set_other (by omega)]; exact ga, by rw [get_set_other (by omega)]; exact gb, get_set_same rfl, (by simp [ev_c, ev_put, t0] <;> rfl), (by simp [ev_c, ev_put, t3] <;> rfl), (by simp [ev_c, ev_put, t4] <;> rfl), (by simp [ev_c, ev_put, t6] <;> rfl), (by simp [ev_c, ev_put, t16] <;> rfl), (by simp [ev_c, ev_put] <;> rfl)⟩
  rintro s ⟨tm, h', rfl, hs, lt, ga, gb, gc, t0, t3, t4, t6, t16, t17⟩
  rw [lotsB_all m c] at gc
  simp (maxSteps := 1000000) (implicitDefEqProofs := false) (disch := first | with_reducible rfl | omega | (simp only [nA, nS, nD] <;> omega) | fail) only [go_sem, ↓reduceIte, Nat.reduceEqDiff, Nat.reduceAdd, Nat.reduceSub, Nat.reduceMul, reduceCtorEq, Nat.reduceLeDiff, t0, t3, t4, t6, t16, t17, Int.lt_irrefl, cells_of (hs.get g1), hlenW]
  refine W_count m.wgs.length (fun i s => ∃ tm h', s = ⟨tm, h', []⟩ ∧ h.Sub h' ∧ h.next + 2 < h'.next ∧ h'.get h.next = some (.cells .rw [f]) ∧ h'.get (h.next + 1) = some (.cells .rw (encB zeroB)) ∧ h'.get (h.next + 1 + 1) = some (.cells .rw (encB (boxK m c i))) ∧
      (Opd.t 0).ev tm = .ptr d 0 ∧ (Opd.t 3).ev tm = .ptr h.next 0 ∧ (Opd.t 4).ev tm = .ptr (h.next + 1) 0 ∧ (Opd.t 6).ev tm = .ptr (h.next + 1 + 1) 0 ∧ (Opd.t 28).ev tm = W ∧ (Opd.t 29).ev tm = .int .i64 (m.wgs.length : Int) ∧ (Opd.t 30).ev tm = .int .i64 (i : Int))
    ?_ ?_ (i := 0) (Nat.zero_le _) ⟨_, _, rfl, hs, lt, ga, gb, gc, (by simp [ev_c, ev_put, t0] <;> rfl), (by simp [ev_c, ev_put, t3] <;> rfl), (by simp [ev_c, ev_put, t4] <;> rfl), (by simp [ev_c, ev_put, t6] <;> rfl), (by simp [ev_c, ev_put] <;> rfl), (by simp [ev_c, ev_put] <;> rfl), (by simp [ev_c, ev_put] <;> rfl)⟩ <;> clear t0 t3 t4 t6 t16 t17 ga gb gc lt hs h' tm
  · rintro i s hi ⟨tm, h', rfl, hs, lt, ga, gb, gc, t0, t3, t4, t6, t28, t29, t30⟩
    have hi' : (i : Int) < (m.wgs.length : Int) := by omega
    obtain ⟨bb, o, cc, cs, rfl, hcs, hq, hgg, hn, hn0⟩ := (aW.mono hs).at hi
    have hl := g.lot _ (List.getElem_mem hi)
    obtain ⟨lt', elt⟩ := Int.eq_ofNat_of_zero_le hl.1
    have hlt12 : lt' < 12 := by omega
    have hsay := say_bd g hi
    have sA := (H.Sub.refl hs.wf).add (.cells .rw (encW m.wgs[i]))
    have hsA := hs.trans sA
    simp (maxSteps := 1000000) (implicitDefEqProofs := false) (disch := first | with_reducible rfl | omega | (simp only [nA, nS, nD] <;> omega) | fail) only [go_sem, ↓reduceIte, Nat.reduceEqDiff, Nat.reduceAdd, Nat.reduceSub, Nat.reduceMul, reduceCtorEq, Nat.reduceLeDiff, t0, t3, t4, t6, t28, t29, t30, hi', hq (nat_cst i), hcs, hgg, encW]
    refine (says_ev hsA.wf (hd0.mono hsA) g hi).mono fun u h3 hu => ?_
    obtain ⟨rfl, s23⟩ := hu
    have hs3 := hsA.trans s23
    have l3 := s23.next
    rw [H.next_add] at l3
    have s34 := (H.Sub.refl hs3.wf).add (.cells .rw [.int .i64 (sayLo m m.wgs[i]), .int .i64 (sayHi m m.wgs[i])])
    have hs4 := hs3.trans s34
    have ga3 := (sA.trans s23).get ga
    have gb3 := (sA.trans s23).get gb
    have gc3 := (sA.trans s23).get gc
    have gw3 : h3.cells h'.next = some (encW m.wgs[i]) := s23.cells (cells_add_new rfl)
    simp (maxSteps := 1000000) (implicitDefEqProofs := false) (disch := first | with_reducible rfl | omega | (simp only [nA, nS, nD] <;> omega) | fail) only [go_sem, ↓reduceIte, Nat.reduceEqDiff, Nat.reduceAdd, Nat.reduceSub, Nat.reduceMul, reduceCtorEq, Nat.reduceLeDiff, t0, t3, t4, t6, t28, t29, t30, cells_of ga3]
    refine (hf i hi).use hs4 fun h5 s45 => ?_
    have hs5 := hs4.trans s45
    have l5 := s45.next
    rw [H.next_add] at l5
    have ga5 := (s34.trans s45).get ga3
    have gb5 := (s34.trans s45).get gb3
    have gc5 := (s34.trans s45).get gc3
    have gw5 := (s34.trans s45).cells gw3
    have gs5 : h5.cells h3.next = some [.int .i64 (sayLo m m.wgs[i]), .int .i64 (sayHi m m.wgs[i])] := s45.cells (cells_add_new rfl)
    cases hc : c i
    · simp (maxSteps := 1000000) (implicitDefEqProofs := false) (disch := first | with_reducible rfl | omega | (simp only [nA, nS, nD] <;> omega) | fail) only [go_sem, ↓reduceIte, Nat.reduceEqDiff, Nat.reduceAdd, Nat.reduceSub, Nat.reduceMul, reduceCtorEq, Nat.reduceLeDiff, t0, t3, t4, t6, t28, t29, t30, hc, wr_succ]
      exact ⟨_, _, rfl, hs5, by omega, ga5, gb5, by rw [boxK_miss hi hc]; exact gc5, (by simp [ev_c, ev_put, t0] <;> rfl), (by simp [ev_c, ev_put, t3] <;> rfl), (by simp [ev_c, ev_put, t4] <;> rfl), (by simp [ev_c, ev_put, t6] <;> rfl), (by simp [ev_c, ev_put, t28] <;> rfl), (by simp [ev_c, ev_put, t29] <;> rfl), (by simp [ev_c, ev_put] <;> rfl)⟩
    · obtain ⟨n1, n2, n3⟩ := encB_at (boxK m c i) hlt12
      have hput := fun x y => encB_put (boxK m c i) hlt12 x y
      simp (maxSteps := 1000000) (implicitDefEqProofs := false) (disch := first | with_reducible rfl | omega | (simp only [nA, nS, nD] <;> omega) | fail) only [go_sem, ↓reduceIte, Nat.reduceEqDiff, Nat.reduceAdd, Nat.reduceSub, Nat.reduceMul, reduceCtorEq, Nat.reduceLeDiff, t0, t3, t4, t6, t28, t29, t30, hc, gw5, encW, gs5, elt, q_iaa_ptr (nat_cst lt') hlt12, cells_of gc5, n1, n2]
      refine least_use (l := [sayHi m m.wgs[i]]) (SlAt.new _ rfl (by rfl) (by rfl) (by simp [encI]) (by simp)) ?_
      have s56 := (H.Sub.refl hs5.wf).add (.cells .rw [.int .i64 (sayHi m m.wgs[i])])
      have gc6 := s56.get gc5
      have hhit := boxK_hit g hi hc
      rw [elt] at hhit
      have hs6 := (hs5.trans s56).set (b := h.next + 1 + 1) (by omega) (by rw [H.next_add]; omega) hw (.cells .rw (encB (boxK m c (i + 1))))
      simp (maxSteps := 1000000) (implicitDefEqProofs := false) (disch := first | with_reducible rfl | omega | (simp only [nA, nS, nD] <;> omega) | fail) only [go_sem, ↓reduceIte, Nat.reduceEqDiff, Nat.reduceAdd, Nat.reduceSub, Nat.reduceMul, reduceCtorEq, Nat.reduceLeDiff, t0, t3, t4, t6, t28, t29, t30, hc, gw5, encW, gs5, elt, q_iaa_ptr (nat_cst lt') hlt12, cells_of gc5, cells_of gc6, gc6, n1, n2, List.foldl, hput, ← hhit, wr_succ]
      exact ⟨_, _, rfl, hs6, by rw [H.next_set, H.next_add]; omega, by rw [get_set_other (by omega)]; exact s56.get ga5, by rw [get_set_other (by omega)]; exact s56.get gb5, get_set_same rfl, (by simp [ev_c, ev_put, t0] <;> rfl), (by simp [ev_c, ev_put, t3] <;> rfl), (by simp [ev_c, ev_put, t4] <;> rfl), (by simp [ev_c, ev_put, t6] <;> rfl), (by simp [ev_c, ev_put, t28] <;> rfl), (by simp [ev_c, ev_put, t29] <;> rfl), (by simp [ev_c, ev_put] <;> rfl)⟩
  · rintro s ⟨tm, h', rfl, hs, lt, ga, gb, gc, t0, t3, t4, t6, t28, t29, t30⟩
    simp (maxSteps := 1000000) (implicitDefEqProofs := false) (disch := first | with_reducible rfl | omega | (simp only [nA, nS, nD] <;> omega) | fail) only [go_sem, ↓reduceIte, Nat.reduceEqDiff, Nat.reduceAdd, Nat.reduceSub, Nat.reduceMul, reduceCtorEq, Nat.reduceLeDiff, t0, t3, t4, t6, t28, t29, t30, Int.lt_irrefl, cells_of gc, ld_B]
    refine tight_ev hs.wf (hd0.mono hs) g (boxK_inv g c _) boxK_out _ fun r h2 s12 hr => ?_
    have gb2 := s12.get gb
    have hs2 := hs.trans s12
    have l2 := s12.next
    cases r with
    | none =>
      simp (maxSteps := 1000000) (implicitDefEqProofs := false) (disch := first | with_reducible rfl | omega | (simp only [nA, nS, nD] <;> omega) | fail) only [go_sem, ↓reduceIte, Nat.reduceEqDiff, Nat.reduceAdd, Nat.reduceSub, Nat.reduceMul, reduceCtorEq, Nat.reduceLeDiff, tightV, t0, t3, t4, t6, lenB, put_B zeroB zeroB gb2, ld_B]
      exact q none _ (hs2.set (by omega) (by omega) hw _) hr
    | some b =>
      simp (maxSteps := 1000000) (implicitDefEqProofs := false) (disch := first | with_reducible rfl | omega | (simp only [nA, nS, nD] <;> omega) | fail) only [go_sem, ↓reduceIte, Nat.reduceEqDiff, Nat.reduceAdd, Nat.reduceSub, Nat.reduceMul, reduceCtorEq, Nat.reduceLeDiff, tightV, t0, t3, t4, t6, lenB, put_B b zeroB gb2, ld_B]
      exact q (some b) _ (hs2.set (by omega) (by omega) hw _) hr
end Go.Ab.Try
set_option linter.unusedSimpArgs false
set_option linter.unusedVariables false
namespace Go.Ab
theorem a_msl_nm {h : H} {by_ n m : Nat} {z : List V} (h0 : n ≤ m) (h1 : m * by_ ≤ 1099511627776) (h2 : m ≤ 1099511627776) :
    a_msl h by_ z (.int .i64 (n : Int)) (.int .i64 (m : Int)) = some (.sl h.next 0 n (.fix m), h.add (.cells .rw (repN m z))) := by
  have e1 : Nat.ble (m * by_) 1099511627776 = true := by simpa using h1
  have e2 : Nat.ble m 1099511627776 = true := by simpa using h2
  have e3 : Nat.ble n m = true := by simpa using h0
  simp only [a_msl, nat_cst, e1, e2, e3, og_true, lf_eq]
end Go.Ab
namespace Go.Ab.Try
theorem MlOwn.keep {h0 h h' : H} {S : Nat → Prop} {v : V} {m : Ml} (a : MlOwn h0 h v m) (k : Keeps S h h') (hs : h0.Sub h') (n : ∀ b, S b → ∀ kd cs, h.get b ≠ some (.cells kd cs) ∨ b < h0.next) : MlOwn h0 h' v m := by
  obtain ⟨L, W, e, a1, a2, a3⟩ := a
  refine ⟨L, W, e, a1.keep k hs fun b hb hS => ?_, a2.keep k hs fun b hb hS => ?_, a3⟩
  · obtain ⟨l1, _, kd, cs, hg, _⟩ := a1.blk hb
    rcases n b hS kd cs with h | h
    · exact h hg
    · omega
  · obtain ⟨l1, _, kd, cs, hg, _⟩ := a2.blk hb
    rcases n b hS kd cs with h | h
    · exact h hg
    · omega
end Go.Ab.Try
namespace Go.Ab
theorem H.Sub.lt {h h' : H} (s : h.Sub h') {n : Nat} (l : n < h.next) : n < h'.next := Nat.lt_of_lt_of_le l s.next
namespace Try
/-- A mill's value is at no such block. -/
def vOff (v : V) (S : Nat → Prop) : Prop := ∀ e L W, v = .agg [e, L, W] → (∀ b, blkOf L b → ¬ S b) ∧ ∀ b, blkOf W b → ¬ S b
theorem MlIs.keep {h h' : H} {S : Nat → Prop} {v : V} {m : Ml} (a : MlIs h v m) (k : Keeps S h h') (n : vOff v S) : MlIs h' v m := by
  obtain ⟨L, W, rfl, a1, a2⟩ := a
  obtain ⟨n1, n2⟩ := n _ _ _ rfl
  exact ⟨L, W, rfl, SlAt_keep a1 k n1, SlAt_keep a2 k n2⟩
theorem MlOwn.off {h0 h : H} {v : V} {m : Ml} (a : MlOwn h0 h v m) {S : Nat → Prop} (n : ∀ b, h0.next ≤ b → ¬ S b) : vOff v S := by
  obtain ⟨L, W, rfl, a1, a2, _⟩ := a
  intro e L' W' e'
  cases e'
  exact ⟨fun b hb => n b (a1.blk hb).1, fun b hb => n b (a2.blk hb).1⟩
/-- Own, as a mill of our own. -/
theorem Own_own {h : H} {v : V} {m : Ml} (hw : h.wf) (hm : MlIs h v m) (hl : m.lots.length ≤ 1000 ∧ m.wgs.length ≤ 1000) (Q : V → H → Prop) (q : ∀ L W h', h.Sub h' → MlOwn h h' (.agg [.int .i64 m.errs, L, W]) m → L.one = true → W.one = true → Q (.agg [.int .i64 m.errs, L, W]) h') : Ev fnG fastA (.fn 18 [] []) [v] h Q := by
  refine (own_ev hw hm hl).mono fun u h3 hu => ?_
  obtain ⟨s23, a, b, rfl, la1, la2, lb1, lb2, nab, ga, gb⟩ := hu
  refine q _ _ _ s23 ⟨_, _, rfl, ⟨s23, by simp [encL], .inr (.inr ⟨a, m.lots.length, [], by simp, la1, la2, by simpa using ga, by simp, by simp⟩)⟩, ⟨s23, by simp [encW], .inr (.inr ⟨b, m.wgs.length, [], by simp, lb1, lb2, by simpa using gb, by simp, by simp⟩)⟩, fun c ⟨_, _, _, e1⟩ ⟨_, _, _, e2⟩ => ?_⟩ rfl rfl
  cases e1; cases e2; exact nab rfl
end Try
end Go.Ab
set_option linter.unusedSimpArgs false
set_option linter.unusedVariables false
namespace Go.Ab
/-- slices.Clone, behind the test for nil. -/
theorem clone_core {h : H} {x : V} {sz by_ : Nat} {rows : List (List V)} {Q : V → H → Prop} (hw : h.wf) (hx : SlAt h x sz rows) (hl : rows.length * by_ ≤ 1000000000) (hl2 : rows.length ≤ 1000000000) (q : ∀ v h', OwnC h h' v sz rows → Q v h') :
    P2 (e_app' (h.add (.cells .rw [])) sz by_ (.sl h.next 0 0 (.fix 0)) x) Q := by
  have s1 : h.Sub (h.add (.cells .rw [])) := (H.Sub.refl hw).add _
  have hx1 := (hx.mono s1).elems
  rw [e_app_eq, hx1.1, hx1.2]
  simp only [ob_some]
  cases hn : rows.length with
  | zero =>
    have e : rows = [] := List.length_eq_zero_iff.1 hn
    rw [e_app_fix0]
    have : Nat.ble 0 0 = true := rfl
    rw [this, og_true, P2_some]
    exact q _ _ (by rw [e]; exact ⟨s1, by simp, .inr (.inr ⟨h.next, 0, [], rfl, Nat.le_refl _, by rw [H.next_add]; omega, get_add_new rfl, by simp, Nat.le_refl _⟩)⟩)
  | succ k =>
    rw [e_app_full (by omega) (elems_0 _ _ _ _ _) (by rw [hn] at hl; simp only [Nat.zero_add]; omega) (by omega), grown_eq, P2_some]
    exact q _ _ ⟨s1.add _, hx.1, .inr (.inl ⟨(h.add (.cells .rw [])).next, by rw [hn, Nat.zero_add], by rw [H.next_add]; omega, by simp only [H.next_add]; omega, by rw [get_add_new rfl]; rfl⟩)⟩
namespace Try
open Go.Ab.Silk
theorem cloneInt_ev {h : H} {x : V} {rows : List (List V)} (hw : h.wf) (hx : SlAt h x 1 rows) (hl : rows.length ≤ 1000000) (Q : V → H → Prop) (q : ∀ v h', OwnC h h' v 1 rows → Q v h') : Ev fnG fastA (.fn 63 [] []) [x] h Q := by
  refine Ev_body (fd := c63) rfl rfl rfl ?_
  rcases hx.2.2 with ⟨rfl, e⟩ | ⟨b, o, c, cs, rfl, _⟩
  · simp (maxSteps := 1000000) (implicitDefEqProofs := false) (disch := first | with_reducible rfl | omega | (simp only [nA, nS, nD] <;> omega) | fail) only [c63, go_sem, ↓reduceIte, Nat.reduceEqDiff, Nat.reduceAdd, Nat.reduceSub, Nat.reduceMul, reduceCtorEq, Nat.reduceLeDiff]
    exact q _ _ (by rw [e]; exact (OwnSl.nil (H.Sub.refl hw) 1).c)
  · simp (maxSteps := 1000000) (implicitDefEqProofs := false) (disch := first | with_reducible rfl | omega | (simp only [nA, nS, nD] <;> omega) | fail) only [c63, go_sem, ↓reduceIte, Nat.reduceEqDiff, Nat.reduceAdd, Nat.reduceSub, Nat.reduceMul, reduceCtorEq, Nat.reduceLeDiff]
    refine clone_core hw hx (by omega) (by omega) fun v h' ov => ?_
    simp (maxSteps := 1000000) (implicitDefEqProofs := false) (disch := first | with_reducible rfl | omega | (simp only [nA, nS, nD] <;> omega) | fail) only [go_sem, ↓reduceIte, Nat.reduceEqDiff, Nat.reduceAdd, Nat.reduceSub, Nat.reduceMul, reduceCtorEq, Nat.reduceLeDiff]
    exact q _ _ ov
def allC : Nat → Bool := fun _ => true
def FeasM (m : Ml) (c : Nat → Bool) (w : Int → Int) : Prop := Feas m.lots.length (parts m) (ownB m c) w
def ExactM (m : Ml) (c : Nat → Bool) (b : Box) : Prop := Exact m.lots.length (parts m) (ownB m c) b ∧ ∀ j : Int, ¬ (0 ≤ j ∧ j < m.lots.length) → b j = (0, 0)
theorem tightR_sem {m : Ml} (g : Good m) {c : Nat → Bool} {r : Option Box} (h : TightR m.lots.length (parts m) (ownB m c) r) : (r = none ∧ ¬ ∃ w, FeasM m c w) ∨ ∃ b, r = some b ∧ ExactM m c b ∧ Tight m.lots.length (parts m) b := by
  have gl := g.lots
  cases r with
  | none => exact .inl ⟨rfl, (h.none_iff (forest g) (by omega)).1 rfl⟩
  | some b => exact .inr ⟨b, rfl, ⟨h.exact (forest g), fun j hj => by rw [h.out (forest g) j hj]; exact boxK_out j hj⟩, h.nrw.2⟩
theorem ExactM.feas {m : Ml} (g : Good m) {c : Nat → Bool} {b : Box} (h : ExactM m c b) : ∃ w, FeasM m c w := by
  have gl := g.lots
  obtain ⟨w, f, _⟩ := h.1.full 0 _ (by omega) (by omega) (Int.le_refl _) (h.1.ne 0 (by omega) (by omega))
  exact ⟨w, f⟩
theorem ownB_bd {m : Ml} (g : Good m) (c : Nat → Bool) (j : Int) : 0 ≤ (ownB m c j).1 ∧ (ownB m c j).2 ≤ 10000 := by
  have := boxK_inv g c m.wgs.length j
  exact ⟨this.1, this.2.2.2⟩
theorem ExactM.bd {m : Ml} (g : Good m) {c : Nat → Bool} {b : Box} (h : ExactM m c b) (j : Int) : 0 ≤ (b j).1 ∧ (b j).1 ≤ 10000 ∧ 0 ≤ (b j).2 ∧ (b j).2 ≤ 10000 := by
  by_cases hj : 0 ≤ j ∧ j < m.lots.length
  · have hn := h.1.ne j hj.1 hj.2
    obtain ⟨w1, f1, e1⟩ := h.1.full j _ hj.1 hj.2 (Int.le_refl _) hn
    obtain ⟨w2, f2, e2⟩ := h.1.full j _ hj.1 hj.2 hn (Int.le_refl _)
    have h1 := f1.1 j hj.1 hj.2
    have h2 := f2.1 j hj.1 hj.2
    have := ownB_bd g c j
    omega
  · rw [h.2 j hj]; simp
end Try
end Go.Ab
set_option linter.unusedSimpArgs false
set_option linter.unusedVariables false
namespace Go.Ab.Try
open Go.Ab.Silk
theorem InvB.of {m : Ml} (g : Good m) {b : Box} (ht : Tight m.lots.length (parts m) b) (hn : Nrw (ownB m allC) b) (ho : ∀ j : Int, ¬ (0 ≤ j ∧ j < m.lots.length) → b j = (0, 0)) : ∀ j : Int, 0 ≤ (b j).1 ∧ (b j).1 ≤ 10000 ∧ 0 ≤ (b j).2 ∧ (b j).2 ≤ 10000 := fun j => by
  by_cases hj : 0 ≤ j ∧ j < m.lots.length
  · have h1 := ht.ne j hj.1 hj.2
    have h2 := hn j
    have h3 := ownB_bd g allC j
    omega
  · rw [ho j hj]; simp
end Go.Ab.Try
set_option linter.unusedSimpArgs false
set_option linter.unusedVariables false
namespace Go.Ab.Try
open Go.Ab.Silk
theorem ownK_iff {m : Ml} {c : Nat → Bool} {lot x : Int} : ∀ k, k ≤ m.wgs.length → (((ownK m c lot k).1 ≤ x ∧ x ≤ (ownK m c lot k).2) ↔ (0 ≤ x ∧ x ≤ 10000) ∧ ∀ j (hj : j < m.wgs.length), j < k → c j = true → m.wgs[j].lot = lot → sayLo m m.wgs[j] ≤ x ∧ x ≤ sayHi m m.wgs[j])
  | 0, _ => by simp [ownK]
  | k + 1, hk => by
    have ih := ownK_iff (m := m) (c := c) (lot := lot) (x := x) k (by omega)
    have hk' : k < m.wgs.length := by omega
    by_cases h : c k = true ∧ m.wgs[k].lot = lot
    · rw [ownK_hit hk' h.1 h.2]
      simp only
      constructor
      · intro h1
        obtain ⟨a1, a2⟩ := ih.1 ⟨by omega, by omega⟩
        refine ⟨a1, fun j hj hjk hc hl => ?_⟩
        by_cases e : j = k
        · subst e; omega
        · exact a2 j hj (by omega) hc hl
      · rintro ⟨a1, a2⟩
        have h1 := ih.2 ⟨a1, fun j hj hjk hc hl => a2 j hj (by omega) hc hl⟩
        have h2 := a2 k hk' (by omega) h.1 h.2
        omega
    · rw [ownK_miss hk' (by
        by_cases h1 : c k = true
        · exact .inr fun h2 => h ⟨h1, h2⟩
        · exact .inl (by simpa using h1)), ih]
      constructor
      · rintro ⟨a1, a2⟩
        refine ⟨a1, fun j hj hjk hc hl => ?_⟩
        by_cases e : j = k
        · subst e; exact absurd ⟨hc, hl⟩ h
        · exact a2 j hj (by omega) hc hl
      · rintro ⟨a1, a2⟩
        exact ⟨a1, fun j hj hjk hc hl => a2 j hj (by omega) hc hl⟩
theorem own_iff {m : Ml} (g : Good m) {c : Nat → Bool} {w : Int → Int} : (∀ i : Int, 0 ≤ i → i < m.lots.length → (ownB m c i).1 ≤ w i ∧ w i ≤ (ownB m c i).2) ↔
    (∀ i : Int, 0 ≤ i → i < m.lots.length → 0 ≤ w i ∧ w i ≤ 10000) ∧ ∀ k (hk : k < m.wgs.length), c k = true → sayLo m m.wgs[k] ≤ w m.wgs[k].lot ∧ w m.wgs[k].lot ≤ sayHi m m.wgs[k] := by
  have e : ∀ i : Int, 0 ≤ i → i < m.lots.length → ownB m c i = ownK m c i m.wgs.length := fun i i0 i1 => by unfold ownB boxK; rw [if_pos ⟨i0, i1⟩]
  constructor
  · intro h
    refine ⟨fun i i0 i1 => ?_, fun k hk hc => ?_⟩
    · have h1 := h i i0 i1
      rw [e i i0 i1] at h1
      exact ((ownK_iff m.wgs.length (Nat.le_refl _)).1 h1).1
    · have hl := g.lot _ (List.getElem_mem hk)
      have h1 := h _ hl.1 (by omega)
      rw [e _ hl.1 (by omega)] at h1
      exact ((ownK_iff m.wgs.length (Nat.le_refl _)).1 h1).2 k hk hk hc rfl
  · rintro ⟨h1, h2⟩ i i0 i1
    rw [e i i0 i1]
    exact (ownK_iff m.wgs.length (Nat.le_refl _)).2 ⟨h1 i i0 i1, fun j hj _ hc hl => by have := h2 j hj hc; rw [hl] at this; exact this⟩
end Go.Ab.Try
set_option linter.unusedSimpArgs false
set_option linter.unusedVariables false
namespace Go.Ab.Try
open Go.Ab.Silk
end Go.Ab.Try
set_option linter.unusedSimpArgs false
set_option linter.unusedVariables false
namespace Go.Ab.Try
open Go.Ab.Silk
def encBo (b : Bool) : List V := [.bool b]
theorem bools_flat (l : List Bool) : (l.map encBo).flatten = l.map V.bool := by
  induction l with
  | nil => rfl
  | cons a l ih => simp [encBo, ih]
theorem bools_put : ∀ (l : List Bool) (i : Nat) (b : Bool), i < l.length → putN i [.bool b] (l.map V.bool) = some ((l.set i b).map V.bool)
  | [], i, b, h => by simp at h
  | a :: l, 0, b, _ => by simp [putN_0, over_s, over_0, consV_some]
  | a :: l, i + 1, b, h => by
    have ih := bools_put l i b (by simpa using h)
    simp only [List.map_cons, putN_s, ih, consV_some, List.set_cons_succ]
theorem bools_nth : ∀ (l : List Bool) (i : Nat) (h : i < l.length), nth i (l.map V.bool) = some (.bool l[i])
  | [], i, h => by simp at h
  | a :: l, 0, _ => rfl
  | a :: l, i + 1, h => by
    have ih := bools_nth l i (by simpa using h)
    simp only [List.map_cons, List.getElem_cons_succ]
    exact ih
theorem repN_bools (n : Nat) (b : Bool) : repN n [V.bool b] = (List.replicate n b).map V.bool := by
  induction n with
  | zero => rfl
  | succ n ih => rw [repN, appN_eq, ih]; rfl
/-- The choice that a list of truths is. -/
def cOf (l : List Bool) : Nat → Bool := fun k => l.getD k false
theorem cOf_at {l : List Bool} {k : Nat} (h : k < l.length) : cOf l k = l[k] := by
  unfold cOf
  rw [List.getD_eq_getElem?_getD, List.getElem?_eq_getElem h]; rfl
/-- A slice of truths, all of a block that has just been made. -/
theorem bools_sl {h : H} {b n : Nat} {l : List Bool} (hb : h.cells b = some (l.map V.bool)) (hn : n = l.length) (hl : l.length ≤ 1000000) : SlAt h (.sl b 0 n (.fix n)) 1 (l.map encBo) := by
  subst hn
  refine ⟨fun r hr => by (obtain ⟨b, _, rfl⟩ := List.mem_map.1 hr; rfl), by simp; omega, .inr ⟨b, 0, .fix l.length, _, by simp, .inr hb, ?_⟩⟩
  rw [bools_flat]
  exact getN_full (by simp)
/-- own -/
theorem refOwn_ev {h : H} {v C : V} {m : Ml} {cl : List Bool} (hw : h.wf) (hm : MlIs h v m) (g : Good m) (hC : SlAt h C 1 (cl.map encBo)) (hcl : cl.length = m.wgs.length) (lot : Int) (Q : V → H → Prop)
    (q : ∀ h', h.Sub h' → Q (.tup [.int .i64 (ownK m (cOf cl) lot m.wgs.length).1, .int .i64 (ownK m (cOf cl) lot m.wgs.length).2]) h') : Ev fnG fastA (.fn 130 [] []) [v, C, .int .i64 lot] h Q := by
  have hm0 := hm
  obtain ⟨L, W, rfl, aL, aW⟩ := hm
  refine Ev_body (fd := c130) rfl rfl rfl ?_
  have hlenW := aW.lenE
  have gw := g.wgs
  have s2 : h.Sub (h.add (.cells .rw [.int .i64 m.errs, L, W])) := (by repeat (first | assumption | exact H.Sub.refl (by assumption) | refine H.Sub.add ?_ _ | refine H.Sub.set ?_ (by first | omega | (simp only [H.next_add, H.next_set, H.next_del] <;> omega)) (by first | omega | (simp only [H.next_add, H.next_set, H.next_del] <;> omega)) (by assumption) _))
  have g1 : (h.add (.cells .rw [.int .i64 m.errs, L, W])).cells h.next = some [.int .i64 m.errs, L, W] := cells_add_new rfl
  simp (maxSteps := 1000000) (implicitDefEqProofs := false) (disch := first | with_reducible rfl | omega | (simp only [nA, nS, nD] <;> omega) | fail) only [c130, go_sem, ↓reduceIte, Nat.reduceEqDiff, Nat.reduceAdd, Nat.reduceSub, Nat.reduceMul, reduceCtorEq, Nat.reduceLeDiff]
  refine W_count m.wgs.length (fun i s => ∃ tm h', s = ⟨tm, h', []⟩ ∧ (h.add (.cells .rw [.int .i64 m.errs, L, W])).Sub h' ∧ (Opd.t 1).ev tm = C ∧ (Opd.t 2).ev tm = .int .i64 lot ∧ (Opd.t 3).ev tm = .ptr h.next 0 ∧ (Opd.t 8).ev tm = .int .i64 (ownK m (cOf cl) lot i).1 ∧ (Opd.t 9).ev tm = .int .i64 (ownK m (cOf cl) lot i).2 ∧ (Opd.t 10).ev tm = .int .i64 (i : Int))
    ?_ ?_ (i := 0) (Nat.zero_le _) ⟨_, _, rfl, H.Sub.refl s2.wf, (by simp [ev_c, ev_put] <;> rfl), (by simp [ev_c, ev_put] <;> rfl), (by simp [ev_c, ev_put] <;> rfl), (by simp [ev_c, ev_put] <;> rfl), (by simp [ev_c, ev_put] <;> rfl), (by simp [ev_c, ev_put] <;> rfl)⟩
  · rintro i s hi ⟨tm, h', rfl, hs1, t1, t2, t3, t8, t9, t10⟩
    have hi' : (i : Int) < (m.wgs.length : Int) := by omega
    have hic : i < cl.length := by omega
    have hs := s2.trans hs1
    have gm := hs1.cells g1
    obtain ⟨b1, o1, c1, cs1, rfl, hcs1, hq1, hgg1, hn1, hn01⟩ := (hC.mono hs).at hic
    obtain ⟨bb, o, cc, cs, rfl, hcs, hq, hgg, hn, hn0⟩ := (aW.mono hs).at hi
    have hc0 := cOf_at hic
    cases hc : cl[i]
    · rw [hc] at hc0
      simp (maxSteps := 1000000) (implicitDefEqProofs := false) (disch := first | with_reducible rfl | omega | (simp only [nA, nS, nD] <;> omega) | fail) only [go_sem, ↓reduceIte, Nat.reduceEqDiff, Nat.reduceAdd, Nat.reduceSub, Nat.reduceMul, reduceCtorEq, Nat.reduceLeDiff, t1, t2, t3, t8, t9, t10, gm, hlenW, hi', hq1 (nat_cst i), hcs1, hn01 (by omega), encBo, hc, wr_succ]
      exact ⟨_, _, rfl, hs1, (by simp [ev_c, ev_put, t1] <;> rfl), (by simp [ev_c, ev_put, t2] <;> rfl), (by simp [ev_c, ev_put, t3] <;> rfl), by rw [ownK_miss hi (.inl hc0)]; exact (by simp [ev_c, ev_put, t8] <;> rfl), by rw [ownK_miss hi (.inl hc0)]; exact (by simp [ev_c, ev_put, t9] <;> rfl), (by simp [ev_c, ev_put] <;> rfl)⟩
    · rw [hc] at hc0
      by_cases hl : m.wgs[i].lot = lot
      · have hh := ownK_hit hi hc0 hl
        simp (maxSteps := 1000000) (implicitDefEqProofs := false) (disch := first | with_reducible rfl | omega | (simp only [nA, nS, nD] <;> omega) | fail) only [go_sem, ↓reduceIte, Nat.reduceEqDiff, Nat.reduceAdd, Nat.reduceSub, Nat.reduceMul, reduceCtorEq, Nat.reduceLeDiff, t1, t2, t3, t8, t9, t10, gm, hlenW, hi', hq1 (nat_cst i), hcs1, hn01 (by omega), encBo, hc, hq (nat_cst i), hcs, hn0 (by omega), encW, hl]
        refine refSays_ev hs.wf (hm0.mono hs) g hi _ fun h5 s15 => ?_
        simp (maxSteps := 1000000) (implicitDefEqProofs := false) (disch := first | with_reducible rfl | omega | (simp only [nA, nS, nD] <;> omega) | fail) only [go_sem, ↓reduceIte, Nat.reduceEqDiff, Nat.reduceAdd, Nat.reduceSub, Nat.reduceMul, reduceCtorEq, Nat.reduceLeDiff, t1, t2, t3, t8, t9, t10, wr_succ]
        exact ⟨_, _, rfl, hs1.trans s15, (by simp [ev_c, ev_put, t1] <;> rfl), (by simp [ev_c, ev_put, t2] <;> rfl), (by simp [ev_c, ev_put, t3] <;> rfl), by rw [hh]; exact (by simp [ev_c, ev_put] <;> rfl), by rw [hh]; exact (by simp [ev_c, ev_put] <;> rfl), (by simp [ev_c, ev_put] <;> rfl)⟩
      · simp (maxSteps := 1000000) (implicitDefEqProofs := false) (disch := first | with_reducible rfl | omega | (simp only [nA, nS, nD] <;> omega) | fail) only [go_sem, ↓reduceIte, Nat.reduceEqDiff, Nat.reduceAdd, Nat.reduceSub, Nat.reduceMul, reduceCtorEq, Nat.reduceLeDiff, t1, t2, t3, t8, t9, t10, gm, hlenW, hi', hq1 (nat_cst i), hcs1, hn01 (by omega), encBo, hc, hq (nat_cst i), hcs, hn0 (by omega), encW, hl, wr_succ]
        exact ⟨_, _, rfl, hs1, (by simp [ev_c, ev_put, t1] <;> rfl), (by simp [ev_c, ev_put, t2] <;> rfl), (by simp [ev_c, ev_put, t3] <;> rfl), by rw [ownK_miss hi (.inr hl)]; exact (by simp [ev_c, ev_put, t8] <;> rfl), by rw [ownK_miss hi (.inr hl)]; exact (by simp [ev_c, ev_put, t9] <;> rfl), (by simp [ev_c, ev_put] <;> rfl)⟩
  · rintro s ⟨tm, h', rfl, hs1, t1, t2, t3, t8, t9, t10⟩
    simp (maxSteps := 1000000) (implicitDefEqProofs := false) (disch := first | with_reducible rfl | omega | (simp only [nA, nS, nD] <;> omega) | fail) only [go_sem, ↓reduceIte, Nat.reduceEqDiff, Nat.reduceAdd, Nat.reduceSub, Nat.reduceMul, reduceCtorEq, Nat.reduceLeDiff, t1, t2, t3, t8, t9, t10, hs1.cells g1, hlenW, Int.lt_irrefl]
    exact q _ (s2.trans hs1)
/-- The bounds from below. -/
def Um (m : Ml) (c : Nat → Bool) : Box := Uo m.lots.length (parts m) (ownB m c)
/-- No bounds cross in a branch. -/
def OkB (m : Ml) (c : Nat → Bool) (lot : Int) : Prop := ∀ j : Int, 0 ≤ j → j < m.lots.length → Anc (frmAt m) j lot → (Um m c j).1 ≤ (Um m c j).2
theorem OkB_iff {m : Ml} (g : Good m) {c : Nat → Bool} {lot : Int} (l0 : 0 ≤ lot) (l1 : lot < m.lots.length) : OkB m c lot ↔ (Um m c lot).1 ≤ (Um m c lot).2 ∧ ∀ p ∈ parts m lot, OkB m c p := by
  have F := forest g
  constructor
  · intro h
    refine ⟨h lot l0 l1 .self, fun p hp j j0 j1 ha => h j j0 j1 ?_⟩
    obtain ⟨p0, p1, pf⟩ := (F.mem _ _).1 hp
    rw [← pf]; exact .up ha (by omega)
  · rintro ⟨h1, h2⟩ j j0 j1 ha
    cases ha with
    | self => exact h1
    | @up k hk h0 =>
      have hl := hk.le F j0 j1
      exact h2 k ((F.mem _ _).2 ⟨hl.1, by omega, rfl⟩) j j0 j1 hk
theorem Um_bd {m : Ml} (g : Good m) (c : Nat → Bool) {i : Int} (i0 : 0 ≤ i) (i1 : i < m.lots.length) : 0 ≤ (Um m c i).1 ∧ (Um m c i).2 ≤ 10000 := by
  have h1 := Uo_own (forest g) (ownB m c) i0 i1
  have h2 := ownB_bd g c i
  unfold Um; omega
theorem ownB_at {m : Ml} {c : Nat → Bool} {i : Int} (i0 : 0 ≤ i) (i1 : i < m.lots.length) : ownB m c i = ownK m c i m.wgs.length := by unfold ownB boxK; rw [if_pos ⟨i0, i1⟩]
set_option maxHeartbeats 2000000 in
/-- up -/
theorem up_ev {m : Ml} (g : Good m) {cl : List Bool} (hcl : cl.length = m.wgs.length) : ∀ (k : Nat) {h : H} {v C : V} (lot : Nat), m.lots.length - lot ≤ k → lot < m.lots.length → h.wf → MlIs h v m → SlAt h C 1 (cl.map encBo) →
    Ev fnG fastA (.fn 76 [] []) [v, C, .int .i64 (lot : Int)] h fun u h' => h.Sub h' ∧ ∃ t lo hi, u = .tup [.int .i64 lo, .int .i64 hi, .bool t] ∧ (t = true ↔ OkB m (cOf cl) (lot : Int)) ∧ (t = true → lo = (Um m (cOf cl) (lot : Int)).1 ∧ hi = (Um m (cOf cl) (lot : Int)).2) := by
  intro k
  induction k with
  | zero => intro h v C lot h1 h2; omega
  | succ k ih =>
    intro h v C lot hk hlot hw hm hC
    refine Ev.gen fun Q q => ?_
    have F := forest g
    have gl := g.lots
    have hm0 := hm
    obtain ⟨L, W, rfl, aL, aW⟩ := hm
    have hl0 : (0 : Int) ≤ (lot : Int) := by omega
    have hl1 : (lot : Int) < (m.lots.length : Int) := by omega
    have hOk := OkB_iff g (c := cOf cl) hl0 hl1
    refine Ev_body (fd := c76) rfl rfl rfl ?_
    have s2 : h.Sub (h.add (.cells .rw [.int .i64 m.errs, L, W])) := (by repeat (first | assumption | exact H.Sub.refl (by assumption) | refine H.Sub.add ?_ _ | refine H.Sub.set ?_ (by first | omega | (simp only [H.next_add, H.next_set, H.next_del] <;> omega)) (by first | omega | (simp only [H.next_add, H.next_set, H.next_del] <;> omega)) (by assumption) _))
    have g1 : (h.add (.cells .rw [.int .i64 m.errs, L, W])).cells h.next = some [.int .i64 m.errs, L, W] := cells_add_new rfl
    simp (maxSteps := 1000000) (implicitDefEqProofs := false) (disch := first | with_reducible rfl | omega | (simp only [nA, nS, nD] <;> omega) | fail) only [c76, go_sem, ↓reduceIte, Nat.reduceEqDiff, Nat.reduceAdd, Nat.reduceSub, Nat.reduceMul, reduceCtorEq, Nat.reduceLeDiff]
    refine refOwn_ev s2.wf (hm0.mono s2) g (hC.mono s2) hcl _ _ fun h3 s23 => ?_
    have s3 := s2.trans s23
    simp (maxSteps := 1000000) (implicitDefEqProofs := false) (disch := first | with_reducible rfl | omega | (simp only [nA, nS, nD] <;> omega) | fail) only [go_sem, ↓reduceIte, Nat.reduceEqDiff, Nat.reduceAdd, Nat.reduceSub, Nat.reduceMul, reduceCtorEq, Nat.reduceLeDiff, s23.cells g1]
    refine refParts_ev s3.wf (hm0.mono s3) g hlot _ fun P h4 oP => ?_
    have s34 := oP.1
    have s4 := s3.trans s34
    have hpl := parts_len m (lot : Int)
    have aP := oP.sl (by simp only [List.length_map]; omega)
    have hlenP := aP.lenE
    obtain ⟨ps, eps⟩ : ∃ ps, parts m (lot : Int) = ps := ⟨_, rfl⟩
    have hps : ∀ p ∈ ps, 0 ≤ p ∧ p < m.lots.length ∧ (lot : Int) < p := fun p hp => by
      obtain ⟨p0, p1, pf⟩ := (F.mem (lot : Int) p).1 (by rw [eps]; exact hp)
      have := F.lt p p0 p1
      omega
    rw [eps] at aP hlenP hpl hOk
    have hown := ownB_at (c := cOf cl) hl0 hl1
    rw [← hown]
    have bdS : ∀ l : List Int, (∀ p ∈ l, p ∈ ps ∧ OkB m (cOf cl) p) → (l.length : Int) ≤ 12 → 0 ≤ sumL (lo1 (Um m (cOf cl))) l ∧ sumL (lo1 (Um m (cOf cl))) l ≤ 120000 ∧ 0 ≤ sumL (hi1 (Um m (cOf cl))) l ∧ sumL (hi1 (Um m (cOf cl))) l ≤ 120000 := fun l h1 h2 => by
      have hb : ∀ p ∈ l, 0 ≤ (Um m (cOf cl) p).1 ∧ (Um m (cOf cl) p).1 ≤ (Um m (cOf cl) p).2 ∧ (Um m (cOf cl) p).2 ≤ 10000 := fun p hp => by
        obtain ⟨p0, p1, _⟩ := hps p (h1 p hp).1
        have a := Um_bd g (cOf cl) p0 p1
        have b := (h1 p hp).2 p p0 p1 .self
        omega
      have e1 : ∀ (l : List Int), sumL (fun _ => (10000 : Int)) l = l.length * 10000 := fun l => by
        induction l with
        | nil => simp [sumL]
        | cons a l ih => simp only [sumL, ih, List.length_cons, Int.natCast_add]; omega
      have a1 := sumL_nonneg (x := lo1 (Um m (cOf cl))) (l := l) fun p hp => (hb p hp).1
      have a2 := sumL_mono (x := lo1 (Um m (cOf cl))) (y := fun _ => 10000) (l := l) fun p hp => by have := hb p hp; simp only [lo1]; omega
      have a3 := sumL_nonneg (x := hi1 (Um m (cOf cl))) (l := l) fun p hp => by have := hb p hp; simp only [hi1]; omega
      have a4 := sumL_mono (x := hi1 (Um m (cOf cl))) (y := fun _ => 10000) (l := l) fun p hp => (hb p hp).2.2
      rw [e1] at a2 a4
      omega
    simp (maxSteps := 1000000) (implicitDefEqProofs := false) (disch := first | with_reducible rfl | omega | (simp only [nA, nS, nD] <;> omega) | fail) only [go_sem, ↓reduceIte, Nat.reduceEqDiff, Nat.reduceAdd, Nat.reduceSub, Nat.reduceMul, reduceCtorEq, Nat.reduceLeDiff]
    refine W_count ps.length (fun j s => ∃ tm h', s = ⟨tm, h', []⟩ ∧ h4.Sub h' ∧ (∀ p ∈ ps.take j, OkB m (cOf cl) p) ∧ (Opd.t 1).ev tm = C ∧ (Opd.t 3).ev tm = .ptr h.next 0 ∧ (Opd.t 9).ev tm = .int .i64 (ownB m (cOf cl) (lot : Int)).1 ∧ (Opd.t 10).ev tm = .int .i64 (ownB m (cOf cl) (lot : Int)).2 ∧ (Opd.t 11).ev tm = P ∧
        (Opd.t 12).ev tm = .int .i64 (sumL (lo1 (Um m (cOf cl))) (ps.take j)) ∧ (Opd.t 13).ev tm = .int .i64 (sumL (hi1 (Um m (cOf cl))) (ps.take j)) ∧ (Opd.t 14).ev tm = .int .i64 (j : Int))
      ?_ ?_ (i := 0) (Nat.zero_le _) ⟨_, _, rfl, H.Sub.refl s4.wf, fun p hp => by simp at hp, (by simp [ev_c, ev_put] <;> rfl), (by simp [ev_c, ev_put] <;> rfl), (by simp [ev_c, ev_put] <;> rfl), (by simp [ev_c, ev_put] <;> rfl), (by simp [ev_c, ev_put] <;> rfl), (by simp [ev_c, ev_put] <;> rfl), (by simp [ev_c, ev_put] <;> rfl), (by simp [ev_c, ev_put] <;> rfl)⟩
    · rintro j s hj ⟨tm, h', rfl, hs, hok, t1, t3, t9, t10, t11, t12, t13, t14⟩
      have hj' : (j : Int) < (ps.length : Int) := by omega
      have hs4 := s4.trans hs
      have gm := (s23.trans (s34.trans hs)).cells g1
      obtain ⟨b2, o2, c2, cs2, rfl, hcs2, hq2, hgg2, hn2, hn02⟩ := (aP.mono hs).at hj
      obtain ⟨p0, p1, p2⟩ := hps _ (List.getElem_mem hj)
      obtain ⟨p, ep⟩ := Int.eq_ofNat_of_zero_le p0
      simp (maxSteps := 1000000) (implicitDefEqProofs := false) (disch := first | with_reducible rfl | omega | (simp only [nA, nS, nD] <;> omega) | fail) only [go_sem, ↓reduceIte, Nat.reduceEqDiff, Nat.reduceAdd, Nat.reduceSub, Nat.reduceMul, reduceCtorEq, Nat.reduceLeDiff, t1, t3, t9, t10, t11, t12, t13, t14, hlenP, hj', gm, hq2 (nat_cst j), hcs2, hn02 (by omega), encI, ep]
      refine (ih p (by omega) (by omega) hs4.wf (hm0.mono hs4) (hC.mono hs4)).mono fun u h5 hu => ?_
      obtain ⟨s45, t, lo, hi, rfl, hiff, hval⟩ := hu
      cases t
      · simp (maxSteps := 1000000) (implicitDefEqProofs := false) (disch := first | with_reducible rfl | omega | (simp only [nA, nS, nD] <;> omega) | fail) only [go_sem, ↓reduceIte, Nat.reduceEqDiff, Nat.reduceAdd, Nat.reduceSub, Nat.reduceMul, reduceCtorEq, Nat.reduceLeDiff, t1, t3, t9, t10, t11, t12, t13, t14, gm, hcs2, hn02 (by omega), encI, ep, Bool.not_false]
        refine q _ _ ⟨hs4.trans s45, false, 0, 0, rfl, ?_, fun h => by cases h⟩
        simp only [Bool.false_eq_true, false_iff]
        intro hb
        have h1 := (hOk.1 hb).2 _ (List.getElem_mem hj)
        rw [ep] at h1
        have := hiff.2 h1
        cases this
      · obtain ⟨rfl, rfl⟩ := hval rfl
        have hokp := hiff.1 rfl
        have hb1 := bdS (ps.take j) (fun p hp => ⟨List.mem_of_mem_take hp, hok p hp⟩) (by simp only [List.length_take]; omega)
        have hup := Um_bd g (cOf cl) (i := (p : Int)) (by omega) (by omega)
        have hup2 := hokp (p : Int) (by omega) (by omega) .self
        have e1 := sum_take (lo1 (Um m (cOf cl))) hj
        have e2 := sum_take (hi1 (Um m (cOf cl))) hj
        rw [ep] at e1 e2
        have f1 : lo1 (Um m (cOf cl)) (p : Int) = (Um m (cOf cl) (p : Int)).1 := rfl
        have f2 : hi1 (Um m (cOf cl)) (p : Int) = (Um m (cOf cl) (p : Int)).2 := rfl
        rw [f1] at e1
        rw [f2] at e2
        simp (maxSteps := 1000000) (implicitDefEqProofs := false) (disch := first | with_reducible rfl | omega | (simp only [nA, nS, nD] <;> omega) | fail) only [go_sem, ↓reduceIte, Nat.reduceEqDiff, Nat.reduceAdd, Nat.reduceSub, Nat.reduceMul, reduceCtorEq, Nat.reduceLeDiff, t1, t3, t9, t10, t11, t12, t13, t14, gm, hcs2, hn02 (by omega), encI, ep, Bool.not_true, wr_in, wr_succ]
        refine ⟨_, _, rfl, hs.trans s45, fun r hr => ?_, (by simp [ev_c, ev_put, t1] <;> rfl), (by simp [ev_c, ev_put, t3] <;> rfl), (by simp [ev_c, ev_put, t9] <;> rfl), (by simp [ev_c, ev_put, t10] <;> rfl), (by simp [ev_c, ev_put, t11] <;> rfl), by rw [e1]; exact (by simp [ev_c, ev_put] <;> rfl), by rw [e2]; exact (by simp [ev_c, ev_put] <;> rfl), (by simp [ev_c, ev_put] <;> rfl)⟩
        rw [List.take_succ_eq_append_getElem hj, List.mem_append, List.mem_singleton] at hr
        rcases hr with hr | rfl
        · exact hok r hr
        · rw [ep]; exact hokp
    · rintro s ⟨tm, h', rfl, hs, hok, t1, t3, t9, t10, t11, t12, t13, t14⟩
      rw [List.take_length] at t12 t13 hok
      have hs4 := s4.trans hs
      by_cases hne : ps = []
      · have h0 : (ps.length : Int) = 0 := by rw [hne]; rfl
        have hU : Um m (cOf cl) (lot : Int) = ownB m (cOf cl) (lot : Int) := Uo_leaf F _ hl0 hl1 (by rw [eps]; exact hne)
        have h00 : ¬ (0 : Int) < 0 := by omega
        have hiff : ((ownB m (cOf cl) (lot : Int)).1 ≤ (ownB m (cOf cl) (lot : Int)).2) ↔ OkB m (cOf cl) (lot : Int) := by
          rw [hOk, hU]; exact ⟨fun h => ⟨h, fun p hp => hok p hp⟩, fun h => h.1⟩
        have h0' : ¬ (0 : Int) < (ps.length : Int) := by omega
        simp (maxSteps := 1000000) (implicitDefEqProofs := false) (disch := first | with_reducible rfl | omega | (simp only [nA, nS, nD] <;> omega) | fail) only [go_sem, ↓reduceIte, Nat.reduceEqDiff, Nat.reduceAdd, Nat.reduceSub, Nat.reduceMul, reduceCtorEq, Nat.reduceLeDiff, t1, t3, t9, t10, t11, t12, t13, t14, hlenP, Int.lt_irrefl, h0', h0, h00]
        exact q _ _ ⟨hs4, _, _, _, rfl, by rw [decide_eq_true_eq]; exact hiff, fun _ => by rw [hU]; exact ⟨rfl, rfl⟩⟩
      · have h0 : (0 : Int) < (ps.length : Int) := by have := List.length_pos_iff.2 hne; omega
        have hU : Um m (cOf cl) (lot : Int) = (max (ownB m (cOf cl) (lot : Int)).1 (sumL (lo1 (Um m (cOf cl))) ps), min (ownB m (cOf cl) (lot : Int)).2 (sumL (hi1 (Um m (cOf cl))) ps)) := by
          have := Uo_node F (ownB m (cOf cl)) hl0 hl1 (by rw [eps]; exact hne)
          rw [eps] at this; exact this
        have hiff : (max (ownB m (cOf cl) (lot : Int)).1 (sumL (lo1 (Um m (cOf cl))) ps) ≤ min (ownB m (cOf cl) (lot : Int)).2 (sumL (hi1 (Um m (cOf cl))) ps)) ↔ OkB m (cOf cl) (lot : Int) := by
          rw [hOk, hU]; exact ⟨fun h => ⟨h, fun p hp => hok p hp⟩, fun h => h.1⟩
        simp (maxSteps := 1000000) (implicitDefEqProofs := false) (disch := first | with_reducible rfl | omega | (simp only [nA, nS, nD] <;> omega) | fail) only [go_sem, ↓reduceIte, Nat.reduceEqDiff, Nat.reduceAdd, Nat.reduceSub, Nat.reduceMul, reduceCtorEq, Nat.reduceLeDiff, t1, t3, t9, t10, t11, t12, t13, t14, hlenP, Int.lt_irrefl, h0]
        exact q _ _ ⟨hs4, _, _, _, rfl, by rw [decide_eq_true_eq]; exact hiff, fun _ => by rw [hU]; exact ⟨rfl, rfl⟩⟩
theorem OkB_all {m : Ml} {c : Nat → Bool} : (∀ i : Int, 0 ≤ i → i < m.lots.length → OkB m c i) ↔ ∀ i : Int, 0 ≤ i → i < m.lots.length → (Um m c i).1 ≤ (Um m c i).2 :=
  ⟨fun h i i0 i1 => h i i0 i1 i i0 i1 .self, fun h i _ _ j j0 j1 _ => h j j0 j1⟩
theorem agree_iff {m : Ml} (g : Good m) {c : Nat → Bool} : (∃ w, FeasM m c w) ↔ ∀ i : Int, 0 ≤ i → i < m.lots.length → (Um m c i).1 ≤ (Um m c i).2 := by
  have gl := g.lots
  exact feas_iff (forest g) (ownB m c) (by omega)
/-- Agree -/
theorem refAgree_ev {h : H} {v C : V} {m : Ml} {cl : List Bool} (hw : h.wf) (hm : MlIs h v m) (g : Good m) (hC : SlAt h C 1 (cl.map encBo)) (hcl : cl.length = m.wgs.length) :
    Ev fnG fastA (.fn 21 [] []) [v, C] h fun u h' => h.Sub h' ∧ ∃ t, u = .bool t ∧ (t = true ↔ ∃ w, FeasM m (cOf cl) w) := by
  refine Ev.gen fun Q q => ?_
  have gl := g.lots
  have hm0 := hm
  obtain ⟨L, W, rfl, aL, aW⟩ := hm
  refine Ev_body (fd := c21) rfl rfl rfl ?_
  have hlenL := aL.lenE
  have s2 : h.Sub (h.add (.cells .rw [.int .i64 m.errs, L, W])) := (by repeat (first | assumption | exact H.Sub.refl (by assumption) | refine H.Sub.add ?_ _ | refine H.Sub.set ?_ (by first | omega | (simp only [H.next_add, H.next_set, H.next_del] <;> omega)) (by first | omega | (simp only [H.next_add, H.next_set, H.next_del] <;> omega)) (by assumption) _))
  have g1 : (h.add (.cells .rw [.int .i64 m.errs, L, W])).cells h.next = some [.int .i64 m.errs, L, W] := cells_add_new rfl
  simp (maxSteps := 1000000) (implicitDefEqProofs := false) (disch := first | with_reducible rfl | omega | (simp only [nA, nS, nD] <;> omega) | fail) only [c21, go_sem, ↓reduceIte, Nat.reduceEqDiff, Nat.reduceAdd, Nat.reduceSub, Nat.reduceMul, reduceCtorEq, Nat.reduceLeDiff]
  refine W_count m.lots.length (fun i s => ∃ tm h', s = ⟨tm, h', []⟩ ∧ (h.add (.cells .rw [.int .i64 m.errs, L, W])).Sub h' ∧ (∀ j : Int, 0 ≤ j → j < i → OkB m (cOf cl) j) ∧ (Opd.t 1).ev tm = C ∧ (Opd.t 2).ev tm = .ptr h.next 0 ∧ (Opd.t 5).ev tm = .int .i64 (i : Int))
    ?_ ?_ (i := 0) (Nat.zero_le _) ⟨_, _, rfl, H.Sub.refl s2.wf, fun j j0 j1 => by omega, (by simp [ev_c, ev_put] <;> rfl), (by simp [ev_c, ev_put] <;> rfl), (by simp [ev_c, ev_put] <;> rfl)⟩
  · rintro i s hi ⟨tm, h', rfl, hs1, hok, t1, t2, t5⟩
    have hi' : (i : Int) < (m.lots.length : Int) := by omega
    have hs := s2.trans hs1
    simp (maxSteps := 1000000) (implicitDefEqProofs := false) (disch := first | with_reducible rfl | omega | (simp only [nA, nS, nD] <;> omega) | fail) only [go_sem, ↓reduceIte, Nat.reduceEqDiff, Nat.reduceAdd, Nat.reduceSub, Nat.reduceMul, reduceCtorEq, Nat.reduceLeDiff, t1, t2, t5, hs1.cells g1, hlenL, hi']
    refine (up_ev g hcl _ i (Nat.le_refl _) hi hs.wf (hm0.mono hs) (hC.mono hs)).mono fun u h5 hu => ?_
    obtain ⟨s15, t, lo, hi2, rfl, hiff, hval⟩ := hu
    cases t
    · simp (maxSteps := 1000000) (implicitDefEqProofs := false) (disch := first | with_reducible rfl | omega | (simp only [nA, nS, nD] <;> omega) | fail) only [go_sem, ↓reduceIte, Nat.reduceEqDiff, Nat.reduceAdd, Nat.reduceSub, Nat.reduceMul, reduceCtorEq, Nat.reduceLeDiff, t1, t2, t5, Bool.not_false]
      refine q _ _ ⟨hs.trans s15, false, rfl, ?_⟩
      simp only [Bool.false_eq_true, false_iff, agree_iff g]
      intro hall
      have := hiff.2 (OkB_all.2 hall (i : Int) (by omega) hi')
      cases this
    · simp (maxSteps := 1000000) (implicitDefEqProofs := false) (disch := first | with_reducible rfl | omega | (simp only [nA, nS, nD] <;> omega) | fail) only [go_sem, ↓reduceIte, Nat.reduceEqDiff, Nat.reduceAdd, Nat.reduceSub, Nat.reduceMul, reduceCtorEq, Nat.reduceLeDiff, t1, t2, t5, Bool.not_true, wr_succ]
      refine ⟨_, _, rfl, hs1.trans s15, fun j j0 j1 => ?_, (by simp [ev_c, ev_put, t1] <;> rfl), (by simp [ev_c, ev_put, t2] <;> rfl), (by simp [ev_c, ev_put] <;> rfl)⟩
      by_cases e : j = (i : Int)
      · subst e; exact hiff.1 rfl
      · exact hok j j0 (by omega)
  · rintro s ⟨tm, h', rfl, hs1, hok, t1, t2, t5⟩
    simp (maxSteps := 1000000) (implicitDefEqProofs := false) (disch := first | with_reducible rfl | omega | (simp only [nA, nS, nD] <;> omega) | fail) only [go_sem, ↓reduceIte, Nat.reduceEqDiff, Nat.reduceAdd, Nat.reduceSub, Nat.reduceMul, reduceCtorEq, Nat.reduceLeDiff, t1, t2, t5, hs1.cells g1, hlenL, Int.lt_irrefl]
    refine q _ _ ⟨s2.trans hs1, true, rfl, ?_⟩
    simp only [true_iff, agree_iff g]
    exact OkB_all.1 hok
theorem ownK_congr {m : Ml} {c c' : Nat → Bool} {lot : Int} : ∀ k, k ≤ m.wgs.length → (∀ j, j < m.wgs.length → c j = c' j) → ownK m c lot k = ownK m c' lot k
  | 0, _, _ => rfl
  | k + 1, hk, h => by
    have ih := ownK_congr (lot := lot) k (by omega) h
    simp only [ownK]
    rw [List.getElem?_eq_getElem (by omega : k < m.wgs.length)]
    simp only
    rw [h k (by omega), ih]
theorem ownB_congr {m : Ml} {c c' : Nat → Bool} (h : ∀ j, j < m.wgs.length → c j = c' j) : ownB m c = ownB m c' := by
  funext lot
  unfold ownB boxK
  rw [ownK_congr m.wgs.length (Nat.le_refl _) h]
end Go.Ab.Try
set_option linter.unusedSimpArgs false
set_option linter.unusedVariables false
namespace Go.Ab
theorem subO_to {b o sz n c k : Nat} {tm : T V} {x : Opd} (hx : x.ev tm = .int .i64 (k : Int)) (hk : k ≤ n) (hc : n ≤ c) : subO b o sz (bnd3 tm n c none (some x) none) = some (.sl b (bsel (Nat.beq c 0) o (o + 0 * sz)) k (.fix c)) := by
  have e1 : Nat.ble 0 k = true := by simp
  have e2 : Nat.ble k c = true := by simp; omega
  have e3 : Nat.ble c c = true := by simp
  simp only [bnd3, natO, hx, nat_cst, bnds, e1, e2, e3, og_true, subO, sub, Nat.sub_zero]
/-- A slice up to a number. -/
noncomputable def slcTo (h : H) (sz : Nat) (x k : V) : Option V := q_slc .nil h sz x none (some (.c k)) none
theorem q_slc_to (tm : T V) (h : H) (sz : Nat) (x : V) (y : Opd) : q_slc tm h sz x none (some y) none = slcTo h sz x (y.ev tm) := rfl
/-- The first rows of a slice of our own. -/
theorem OwnC.to {h0 h : H} {x : V} {sz k : Nat} {rows : List (List V)} (a : OwnC h0 h x sz rows) (hl : rows.length ≤ 1000000) (hk : k ≤ rows.length) (hk0 : 0 < rows.length) :
    ∃ y, slcTo h sz x (.int .i64 (k : Int)) = some y ∧ SlAt h y sz (rows.take k) := by
  have hi : ∀ tm, (Opd.c (.int .i64 (k : Int))).ev tm = .int .i64 (k : Int) := fun _ => rfl
  obtain ⟨a0, a1, a2⟩ := a
  have hr : ∀ r ∈ rows.take k, r.length = sz := fun r hr => a1 r (List.mem_of_mem_take hr)
  have hlt : (rows.take k).length = k := by rw [List.length_take]; omega
  have hfl : (rows.take k).flatten = rows.flatten.take (k * sz) := by
    have h1 := flatten_len hr
    rw [hlt] at h1
    have e : rows.flatten = (rows.take k).flatten ++ (rows.drop k).flatten := by rw [← List.flatten_append, List.take_append_drop]
    rw [e, List.take_left' h1]
  rcases a2 with ⟨rfl, rfl⟩ | ⟨b, rfl, l1, l2, hb⟩ | ⟨b, c, rest, rfl, l1, l2, hb, hc, hlc⟩
  · simp at hk0
  · have fl := flatten_len a1
    have e1 : Nat.ble 0 k = true := by simp
    have e2 : Nat.ble k rows.length = true := by simpa using hk
    have e3 : Nat.ble rows.length rows.length = true := by simp
    have e4 : Nat.blt 0 rows.length = true := by simpa using hk0
    have e5 : Nat.beq sz sz = true := by simp
    have e6 : Nat.beq 0 (0 * sz) = true := by simp
    have e7 : Nat.ble (0 + rows.length * sz) rows.flatten.length = true := by rw [fl]; simp
    refine ⟨.sl b (0 + 0 * sz) k (.slk (0 + 0) 0), ?_, ?_⟩
    · simp only [slcTo, q_slc, slkOk, hb, e5, e6, lenN_eq, e7, og_true, bnd3, natO, hi, nat_cst, bnds, e1, e2, e3, subS, e4, Nat.sub_zero]
    · refine ⟨hr, by rw [hlt]; omega, .inr ⟨b, 0 + 0 * sz, _, _, by rw [hlt], .inr (cells_of hb), ?_⟩⟩
      refine getN_eq.2 ⟨by rw [hlt]; simp [hfl], ?_⟩
      rw [hlt, fl]
      have := Nat.mul_le_mul_right sz hk; omega
  · have fl := flatten_len a1
    have hz : bsel (Nat.beq c 0) 0 (0 + 0 * sz) = 0 := by cases Nat.beq c 0 <;> simp [bsel]
    refine ⟨.sl b 0 k (.fix c), ?_, ?_⟩
    · simp only [slcTo, q_slc]
      rw [subO_to (hi _) hk hlc, hz]
    · refine ⟨hr, by rw [hlt]; omega, .inr ⟨b, 0, _, _, by rw [hlt], .inr (cells_of hb), ?_⟩⟩
      have := Nat.mul_le_mul_right sz hk
      refine getN_eq.2 ⟨?_, by rw [hlt, List.length_append, fl]; omega⟩
      rw [hlt, List.drop_zero, hfl, List.take_append_of_le_length (by rw [fl]; omega)]
namespace Try
open Go.Ab.Silk
theorem index_ev {h : H} {x : V} {l : List Int} (hx : SlAt h x 1 (l.map encI)) (n : Int) : Ev fnG fastA (.fn 121 [] []) [x, .int .i64 n] h fun v h' => v = .int .i64 (fidx (fun a => decide (n = a)) l 0) ∧ h' = h := by
  have hb := hx.boundE
  refine Ev_body (fd := c121) rfl rfl rfl ?_
  simp (maxSteps := 1000000) (implicitDefEqProofs := false) (disch := first | with_reducible rfl | omega | (simp only [nA, nS, nD] <;> omega) | fail) only [c121, go_sem, ↓reduceIte, Nat.reduceEqDiff, Nat.reduceAdd, Nat.reduceSub, Nat.reduceMul, reduceCtorEq, Nat.reduceLeDiff, hx.lenE]
  refine W_count l.length (fun i s => ∃ tm, s = ⟨tm, h, []⟩ ∧ (Opd.t 0).ev tm = x ∧ (Opd.t 1).ev tm = .int .i64 n ∧ (Opd.t 7).ev tm = .int .i64 (l.length : Int) ∧ (Opd.t 8).ev tm = .int .i64 (i : Int) ∧ fidx (fun a => decide (n = a)) l 0 = fidx (fun a => decide (n = a)) (l.drop i) i)
    ?_ ?_ (i := 0) (Nat.zero_le _) ⟨_, rfl, (by simp [ev_c, ev_put] <;> rfl), (by simp [ev_c, ev_put] <;> rfl), (by simp [ev_c, ev_put] <;> rfl), (by simp [ev_c, ev_put] <;> rfl), rfl⟩
  · rintro i s hi ⟨tm, rfl, t0, t1, t7, t8, e9⟩
    have hi' : (i : Int) < (l.length : Int) := by omega
    obtain ⟨b, o, c, cs, rfl, hc, hq, hg, hn, hn0⟩ := hx.at hi
    by_cases he : n = l[i]
    · simp (maxSteps := 1000000) (implicitDefEqProofs := false) (disch := first | with_reducible rfl | omega | (simp only [nA, nS, nD] <;> omega) | fail) only [go_sem, ↓reduceIte, Nat.reduceEqDiff, Nat.reduceAdd, Nat.reduceSub, Nat.reduceMul, reduceCtorEq, Nat.reduceLeDiff, t0, t1, t7, t8, hi', hq (nat_cst i), hc, hn0 (by omega), encI, he]
      rw [fidx_hit (p := fun a => decide (n = a)) hi (by simp [he])] at e9
      rw [← he, e9]
    · simp (maxSteps := 1000000) (implicitDefEqProofs := false) (disch := first | with_reducible rfl | omega | (simp only [nA, nS, nD] <;> omega) | fail) only [go_sem, ↓reduceIte, Nat.reduceEqDiff, Nat.reduceAdd, Nat.reduceSub, Nat.reduceMul, reduceCtorEq, Nat.reduceLeDiff, t0, t1, t7, t8, hi', hq (nat_cst i), hc, hn0 (by omega), encI, he, wr_succ]
      exact ⟨_, rfl, (by simp [ev_c, ev_put, t0] <;> rfl), (by simp [ev_c, ev_put, t1] <;> rfl), (by simp [ev_c, ev_put, t7] <;> rfl), (by simp [ev_c, ev_put] <;> rfl), by rw [e9, fidx_miss hi (by simp [he])]⟩
  · rintro s ⟨tm, rfl, t0, t1, t7, t8, e9⟩
    simp (maxSteps := 1000000) (implicitDefEqProofs := false) (disch := first | with_reducible rfl | omega | (simp only [nA, nS, nD] <;> omega) | fail) only [go_sem, ↓reduceIte, Nat.reduceEqDiff, Nat.reduceAdd, Nat.reduceSub, Nat.reduceMul, reduceCtorEq, Nat.reduceLeDiff, t0, t1, t7, t8, Int.lt_irrefl]
    rw [e9]; simp [fidx]
theorem contains_ev {h : H} {x : V} {l : List Int} (hx : SlAt h x 1 (l.map encI)) (n : Int) (Q : V → H → Prop) : Ev fnG fastA (.fn 61 [] []) [x, .int .i64 n] h Q = Q (.bool (decide (n ∈ l))) h := by
  refine Ev.det (Ev_body (fd := c61) rfl rfl rfl ?_) Q
  simp (maxSteps := 1000000) (implicitDefEqProofs := false) (disch := first | with_reducible rfl | omega | (simp only [nA, nS, nD] <;> omega) | fail) only [c61, go_sem, ↓reduceIte, Nat.reduceEqDiff, Nat.reduceAdd, Nat.reduceSub, Nat.reduceMul, reduceCtorEq, Nat.reduceLeDiff]
  refine (index_ev hx n).mono fun v h' hv => ?_
  obtain ⟨rfl, rfl⟩ := hv
  simp (maxSteps := 1000000) (implicitDefEqProofs := false) (disch := first | with_reducible rfl | omega | (simp only [nA, nS, nD] <;> omega) | fail) only [go_sem, ↓reduceIte, Nat.reduceEqDiff, Nat.reduceAdd, Nat.reduceSub, Nat.reduceMul, reduceCtorEq, Nat.reduceLeDiff]
  congr 1
  rw [fidx_any, Bool.eq_iff_iff, List.any_eq_true, decide_eq_true_eq]
  exact ⟨fun ⟨a, ha, e⟩ => by (have := of_decide_eq_true e; subst this; exact ha), fun ha => ⟨n, ha, by simp⟩⟩
/-- The weighings of a list count, or all others. -/
def inL (l : List Int) (o : Bool) : Nat → Bool := fun i => !(decide ((i : Int) ∈ l) == o)
theorem agree1_pure {h : H} {a b : Nat} {x : V} {l : List Int} {o : Bool} (ha : h.cells a = some [x]) (hx : SlAt h x 1 (l.map encI)) (hb : h.cells b = some [.bool o]) (i : Nat) : PureA h (.fn 143 [] [.ptr a 0, .ptr b 0]) [.int .i64 (i : Int)] (.bool (inL l o i)) := fun h1 hs => by
  have ha1 := hs.cells ha
  have hb1 := hs.cells hb
  refine Ev_body (fd := c143) rfl rfl rfl ?_
  simp (maxSteps := 1000000) (implicitDefEqProofs := false) (disch := first | with_reducible rfl | omega | (simp only [nA, nS, nD] <;> omega) | fail) only [c143, go_sem, ↓reduceIte, Nat.reduceEqDiff, Nat.reduceAdd, Nat.reduceSub, Nat.reduceMul, reduceCtorEq, Nat.reduceLeDiff, ha1, contains_ev (hx.mono hs), hb1]
  exact ⟨rfl, H.Sub.refl hs.wf⟩
/-- Whether the weighings that count agree. -/
noncomputable def agreeB (m : Ml) (c : Nat → Bool) : Bool := @decide (∃ w, FeasM m c w) (Classical.propDecidable _)
theorem agreeB_iff {m : Ml} {c : Nat → Bool} {t : Bool} (h : t = true ↔ ∃ w, FeasM m c w) : t = agreeB m c := by
  by_cases e : ∃ w, FeasM m c w
  · rw [h.2 e]; exact (@decide_eq_true _ (Classical.propDecidable _) e).symm
  · have ht : t = false := by
      cases t with
      | false => rfl
      | true => exact absurd (h.1 rfl) e
    rw [ht]; exact (@decide_eq_false _ (Classical.propDecidable _) e).symm
theorem agreeB_congr {m : Ml} {c c' : Nat → Bool} (h : ∀ j, j < m.wgs.length → c j = c' j) : agreeB m c = agreeB m c' := by
  unfold agreeB FeasM
  rw [ownB_congr h]
/-- agree -/
theorem agree_ev {h : H} {d : Nat} {m : Ml} {x : V} {l : List Int} (hw : h.wf) (hd : DkAt h d m) (g : Good m) (hx : SlAt h x 1 (l.map encI)) (o : Bool) (Q : V → H → Prop) (q : ∀ h', h.Sub h' → Q (.bool (agreeB m (inL l o))) h') :
    Ev fnG fastA (.fn 105 [] []) [.ptr d 0, x, .bool o] h Q := by
  have gl := g.lots
  refine Ev_body (fd := c105) rfl rfl rfl ?_
  have s2 : h.Sub ((h.add (.cells .rw [x])).add (.cells .rw [.bool o])) := (by repeat (first | assumption | exact H.Sub.refl (by assumption) | refine H.Sub.add ?_ _ | refine H.Sub.set ?_ (by first | omega | (simp only [H.next_add, H.next_set, H.next_del] <;> omega)) (by first | omega | (simp only [H.next_add, H.next_set, H.next_del] <;> omega)) (by assumption) _))
  have hx1 := hx.one
  have ga : ((h.add (.cells .rw [x])).add (.cells .rw [.bool o])).cells h.next = some [x] := by simp (maxSteps := 1000000) (implicitDefEqProofs := false) (disch := first | with_reducible rfl | omega | (simp only [nA, nS, nD] <;> omega) | fail) only [go_sem, ↓reduceIte, Nat.reduceEqDiff, Nat.reduceAdd, Nat.reduceSub, Nat.reduceMul, reduceCtorEq, Nat.reduceLeDiff]
  have gb : ((h.add (.cells .rw [x])).add (.cells .rw [.bool o])).cells (h.next + 1) = some [.bool o] := by simp (maxSteps := 1000000) (implicitDefEqProofs := false) (disch := first | with_reducible rfl | omega | (simp only [nA, nS, nD] <;> omega) | fail) only [go_sem, ↓reduceIte, Nat.reduceEqDiff, Nat.reduceAdd, Nat.reduceSub, Nat.reduceMul, reduceCtorEq, Nat.reduceLeDiff]
  simp (maxSteps := 1000000) (implicitDefEqProofs := false) (disch := first | with_reducible rfl | omega | (simp only [nA, nS, nD] <;> omega) | fail) only [c105, go_sem, ↓reduceIte, Nat.reduceEqDiff, Nat.reduceAdd, Nat.reduceSub, Nat.reduceMul, reduceCtorEq, Nat.reduceLeDiff, hx1, cells_one hx1, zerosB]
  refine bounds_ev (c := inL l o) s2.wf (hd.mono s2) g rfl (fun i _ => agree1_pure ga (hx.mono s2) gb i) _ fun r h3 s23 hr => ?_
  have hz : (h3.add (.cells .rw (encB zeroB))).get h3.next = some (.cells .rw (encB zeroB)) := get_add_new rfl
  have s3 := s2.trans s23
  rcases tightR_sem g hr with ⟨rfl, hno⟩ | ⟨b, rfl, hex, ht⟩
  · simp (maxSteps := 1000000) (implicitDefEqProofs := false) (disch := first | with_reducible rfl | omega | (simp only [nA, nS, nD] <;> omega) | fail) only [go_sem, ↓reduceIte, Nat.reduceEqDiff, Nat.reduceAdd, Nat.reduceSub, Nat.reduceMul, reduceCtorEq, Nat.reduceLeDiff, tightV, zerosB, lenB, put_B zeroB zeroB hz]
    have := q _ (s3.add (.cells .rw (encB zeroB)))
    rw [← agreeB_iff (t := false) (by simpa using hno)] at this; exact this
  · simp (maxSteps := 1000000) (implicitDefEqProofs := false) (disch := first | with_reducible rfl | omega | (simp only [nA, nS, nD] <;> omega) | fail) only [go_sem, ↓reduceIte, Nat.reduceEqDiff, Nat.reduceAdd, Nat.reduceSub, Nat.reduceMul, reduceCtorEq, Nat.reduceLeDiff, tightV, zerosB, lenB, put_B b zeroB hz]
    have := q _ (s3.add (.cells .rw (encB b)))
    rw [← agreeB_iff (t := true) (by simpa using hex.feas g)] at this; exact this
/-- Whether a number comes twice. -/
def dupAt (l : List Int) : Nat → Bool
  | 0 => false
  | k + 1 => dupAt l k || (match l[k]? with | some n => decide (n ∈ l.take k) | none => false)
theorem dupAt_step {l : List Int} {k : Nat} (h : k < l.length) : dupAt l (k + 1) = (dupAt l k || decide (l[k] ∈ l.take k)) := by
  simp only [dupAt]
  rw [List.getElem?_eq_getElem h]
theorem dupAt_up {l : List Int} {k : Nat} (h : dupAt l k = true) : ∀ j, k ≤ j → dupAt l j = true := by
  intro j hj
  induction j with
  | zero => rw [show k = 0 by omega] at h; exact h
  | succ j ih =>
    by_cases e : k = j + 1
    · rw [← e]; exact h
    · simp only [dupAt, ih (by omega), Bool.true_or]
def knownB (m : Ml) (l : List Int) : Bool := l.all fun n => inB n 0 ((m.wgs.length : Int) - 1)
/-- The error of a list of weighings. -/
def listE (m : Ml) (l : List Int) : Int := if check m ≠ 0 then check m else if knownB m l = false then 1 else if dupAt l l.length = true then 5 else 0
set_option maxHeartbeats 2000000 in
/-- Agree -/
theorem Agree_ev {h h0 : H} {v x : V} {m : Ml} {l : List Int} (hw : h.wf) (hm : MlIs h v m) (hx : OwnC h0 h x 1 (l.map encI)) (hl : l.length ≤ 1000) : Ev fnG fastA (.fn 46 [] []) [v, x] h fun u h' => h.Sub h' ∧ ∃ t, u = .tup [.bool t, .int .i64 (listE m l)] ∧
    ((listE m l ≠ 0 ∧ t = false) ∨ (listE m l = 0 ∧ t = agreeB m (inL l false))) := by
  refine Ev.gen fun Q q => ?_
  have hm0 := hm
  have aX := hx.sl (by simp; omega)
  obtain ⟨L, W, rfl, aL, aW⟩ := hm
  have hlenX := aX.lenE
  refine Ev_body (fd := c46) rfl rfl rfl ?_
  have s2 : h.Sub (h.add (.cells .rw [.int .i64 m.errs, L, W])) := (by repeat (first | assumption | exact H.Sub.refl (by assumption) | refine H.Sub.add ?_ _ | refine H.Sub.set ?_ (by first | omega | (simp only [H.next_add, H.next_set, H.next_del] <;> omega)) (by first | omega | (simp only [H.next_add, H.next_set, H.next_del] <;> omega)) (by assumption) _))
  simp (maxSteps := 1000000) (implicitDefEqProofs := false) (disch := first | with_reducible rfl | omega | (simp only [nA, nS, nD] <;> omega) | fail) only [c46, go_sem, ↓reduceIte, Nat.reduceEqDiff, Nat.reduceAdd, Nat.reduceSub, Nat.reduceMul, reduceCtorEq, Nat.reduceLeDiff]
  refine (opened_dk s2.wf (hm0.mono s2)).mono fun u h3 hu => ?_
  obtain ⟨s23, hu⟩ := hu
  have s3 := s2.trans s23
  have g1 : h3.cells h.next = some [.int .i64 m.errs, L, W] := s23.cells (cells_add_new rfl)
  rcases hu with ⟨c, rfl⟩ | ⟨c, d, rfl, hd⟩
  · have e1 : listE m l = check m := by simp [listE, c]
    simp (maxSteps := 1000000) (implicitDefEqProofs := false) (disch := first | with_reducible rfl | omega | (simp only [nA, nS, nD] <;> omega) | fail) only [go_sem, ↓reduceIte, Nat.reduceEqDiff, Nat.reduceAdd, Nat.reduceSub, Nat.reduceMul, reduceCtorEq, Nat.reduceLeDiff, ne_eq, c, not_false_eq_true]
    exact q _ _ ⟨s3, false, by rw [e1], .inl ⟨by rw [e1]; exact c, rfl⟩⟩
  have g := good_of c
  simp (maxSteps := 1000000) (implicitDefEqProofs := false) (disch := first | with_reducible rfl | omega | (simp only [nA, nS, nD] <;> omega) | fail) only [go_sem, ↓reduceIte, Nat.reduceEqDiff, Nat.reduceAdd, Nat.reduceSub, Nat.reduceMul, reduceCtorEq, Nat.reduceLeDiff, ne_eq, not_true_eq_false, g1]
  refine (everyInt_ev (p := fun n => inB n 0 ((m.wgs.length : Int) - 1)) s3.wf (aX.mono s3) fun n _ h1 hs => by
    rw [Ev_fn]
    exact weighing_ev ((hm0.mono s3).mono hs) n _ (fun h' s => ⟨rfl, s⟩) hs.wf).mono fun u h4 hu => ?_
  obtain ⟨rfl, s34⟩ := hu
  have s4 := s3.trans s34
  cases ck : l.all fun n => inB n 0 ((m.wgs.length : Int) - 1)
  · have e1 : listE m l = 1 := by simp only [listE, c, ne_eq, not_true_eq_false, ↓reduceIte, knownB, ck]
    simp (maxSteps := 1000000) (implicitDefEqProofs := false) (disch := first | with_reducible rfl | omega | (simp only [nA, nS, nD] <;> omega) | fail) only [go_sem, ↓reduceIte, Nat.reduceEqDiff, Nat.reduceAdd, Nat.reduceSub, Nat.reduceMul, reduceCtorEq, Nat.reduceLeDiff, Bool.not_false]
    exact q _ _ ⟨s4, false, by rw [e1], .inl ⟨by rw [e1]; omega, rfl⟩⟩
  have hx4 := hx.mono s4
  have aX4 := aX.mono s4
  simp (maxSteps := 1000000) (implicitDefEqProofs := false) (disch := first | with_reducible rfl | omega | (simp only [nA, nS, nD] <;> omega) | fail) only [go_sem, ↓reduceIte, Nat.reduceEqDiff, Nat.reduceAdd, Nat.reduceSub, Nat.reduceMul, reduceCtorEq, Nat.reduceLeDiff, Bool.not_true, hlenX]
  refine W_count l.length (fun i s => ∃ tm, s = ⟨tm, h4, []⟩ ∧ dupAt l i = false ∧ (Opd.t 1).ev tm = x ∧ (Opd.t 6).ev tm = .ptr d 0 ∧ (Opd.t 25).ev tm = x ∧ (Opd.t 26).ev tm = .int .i64 (l.length : Int) ∧ (Opd.t 27).ev tm = .int .i64 (i : Int))
    ?_ ?_ (i := 0) (Nat.zero_le _) ⟨_, rfl, rfl, (by simp [ev_c, ev_put] <;> rfl), (by simp [ev_c, ev_put] <;> rfl), (by simp [ev_c, ev_put] <;> rfl), (by simp [ev_c, ev_put] <;> rfl), (by simp [ev_c, ev_put] <;> rfl)⟩
  · rintro i s hi ⟨tm, rfl, hdup, t1, t6, t25, t26, t27⟩
    have hi' : (i : Int) < (l.length : Int) := by omega
    obtain ⟨b, o, cc, cs, rfl, hc, hq, hg, hn, hn0⟩ := aX4.at hi
    have hst := dupAt_step hi
    rw [hdup, Bool.false_or] at hst
    obtain ⟨y, hy, aY⟩ := hx4.to (k := i) (by simp; omega) (by simp; omega) (by simp; omega)
    rw [← List.map_take] at aY
    simp (maxSteps := 1000000) (implicitDefEqProofs := false) (disch := first | with_reducible rfl | omega | (simp only [nA, nS, nD] <;> omega) | fail) only [go_sem, ↓reduceIte, Nat.reduceEqDiff, Nat.reduceAdd, Nat.reduceSub, Nat.reduceMul, reduceCtorEq, Nat.reduceLeDiff, t1, t6, t25, t26, t27, hi', hq (nat_cst i), hc, hn0 (by omega), encI, q_slc_to, hy, contains_ev aY]
    by_cases hd2 : l[i] ∈ l.take i
    · have e1 : listE m l = 5 := by
        have := dupAt_up (l := l) (k := i + 1) (by rw [hst]; simp [hd2]) l.length (by omega)
        simp only [listE, c, ne_eq, not_true_eq_false, ↓reduceIte, knownB, ck, this, Bool.true_eq_false]
      simp (maxSteps := 1000000) (implicitDefEqProofs := false) (disch := first | with_reducible rfl | omega | (simp only [nA, nS, nD] <;> omega) | fail) only [go_sem, ↓reduceIte, Nat.reduceEqDiff, Nat.reduceAdd, Nat.reduceSub, Nat.reduceMul, reduceCtorEq, Nat.reduceLeDiff, hd2]
      exact q _ _ ⟨s4, false, by rw [e1], .inl ⟨by rw [e1]; omega, rfl⟩⟩
    · simp (maxSteps := 1000000) (implicitDefEqProofs := false) (disch := first | with_reducible rfl | omega | (simp only [nA, nS, nD] <;> omega) | fail) only [go_sem, ↓reduceIte, Nat.reduceEqDiff, Nat.reduceAdd, Nat.reduceSub, Nat.reduceMul, reduceCtorEq, Nat.reduceLeDiff, hd2, t27, wr_succ]
      exact ⟨_, rfl, by rw [hst]; simp [hd2], (by simp [ev_c, ev_put, t1] <;> rfl), (by simp [ev_c, ev_put, t6] <;> rfl), (by simp [ev_c, ev_put, t25] <;> rfl), (by simp [ev_c, ev_put, t26] <;> rfl), (by simp [ev_c, ev_put] <;> rfl)⟩
  · rintro s ⟨tm, rfl, hdup, t1, t6, t25, t26, t27⟩
    have e1 : listE m l = 0 := by simp only [listE, c, ne_eq, not_true_eq_false, ↓reduceIte, knownB, ck, hdup, Bool.true_eq_false, Bool.false_eq_true]
    simp (maxSteps := 1000000) (implicitDefEqProofs := false) (disch := first | with_reducible rfl | omega | (simp only [nA, nS, nD] <;> omega) | fail) only [go_sem, ↓reduceIte, Nat.reduceEqDiff, Nat.reduceAdd, Nat.reduceSub, Nat.reduceMul, reduceCtorEq, Nat.reduceLeDiff, t1, t6, t25, t26, t27, Int.lt_irrefl]
    refine agree_ev s4.wf (hd.mono s34) g aX4 false _ fun h5 s45 => ?_
    simp (maxSteps := 1000000) (implicitDefEqProofs := false) (disch := first | with_reducible rfl | omega | (simp only [nA, nS, nD] <;> omega) | fail) only [go_sem, ↓reduceIte, Nat.reduceEqDiff, Nat.reduceAdd, Nat.reduceSub, Nat.reduceMul, reduceCtorEq, Nat.reduceLeDiff]
    exact q _ _ ⟨s4.trans s45, _, by rw [e1], .inr ⟨e1, rfl⟩⟩
end Try
end Go.Ab
set_option linter.unusedSimpArgs false
set_option linter.unusedVariables false
namespace Go.Ab.Try
open Go.Ab.Silk
theorem find_step (P : List Int → Bool) (l : List Int) (k f : Nat) (j : Int) : (comb (k + 1) (f + 1) j).find? (fun c => P (l ++ c)) =
    match (comb k f (j + 1)).find? (fun c => P ((l ++ [j]) ++ c)) with | some c => some (j :: c) | none => (comb (k + 1) f (j + 1)).find? (fun c => P (l ++ c)) := by
  simp only [comb, List.find?_append, List.find?_map]
  have e : (fun c => P (l ++ c)) ∘ (fun l' => j :: l') = fun c => P ((l ++ [j]) ++ c) := by
    funext c; simp
  rw [e]
  cases (comb k f (j + 1)).find? (fun c => P ((l ++ [j]) ++ c)) <;> simp
/-- What a list that holds is. -/
def HoldsOf (hb : H) (hv : V) (P : List Int → Bool) : Prop := ∀ (l : List Int) (x : V) (h1 : H), hb.Sub h1 → SlAt h1 x 1 (l.map encI) → ∀ R : V → H → Prop, (∀ h2, h1.Sub h2 → R (.bool (P l)) h2) → Ev fnG fastA hv [x] h1 R
def MoreRes (P : List Int → Bool) (l : List Int) (oC : Nat) (r : Option (List Int)) (t : Bool) (h' : H) : Prop := match r with
  | some c => t = true ∧ ∃ y, h'.get oC = some (.cells .rw [y]) ∧ SlAt h' y 1 ((l ++ c).map encI)
  | none => t = false ∧ ∃ y, h'.get oC = some (.cells .rw [y])
set_option maxHeartbeats 2000000 in
theorem more_ev {hb : H} (hwb : hb.wf) {d : Nat} {m : Ml} (hd : DkAt hb d m) (g : Good m) {hv : V} {P : List Int → Bool} (hP : HoldsOf hb hv P) {mC oC hC dC fC : Nat} (ho : hb.next ≤ oC) (n1 : mC ≠ oC) (n2 : hC ≠ oC) (n3 : dC ≠ oC) (n4 : fC ≠ oC) {many : Nat} (hmany : many ≤ 11) :
    ∀ (k : Nat) (h : H) (x : V) (l : List Int) (i : Nat), l.length + k = many → hb.Sub h → h.cells mC = some [.int .i64 (many : Int)] → h.cells hC = some [hv] → h.cells dC = some [.ptr d 0] → h.cells fC = some [.fn 144 [] [.ptr mC 0, .ptr oC 0, .ptr hC 0, .ptr dC 0, .ptr fC 0]] →
      (∃ y, h.get oC = some (.cells .rw [y])) → SlAt h x 1 (l.map encI) → (∀ b, blkOf x b → b ≠ oC) → i ≤ m.wgs.length → ∀ (Q : V → H → Prop), (∀ t h', Keeps (fun c => c = oC) h h' → h'.wf → MoreRes P l oC ((comb k (m.wgs.length - i) (i : Int)).find? fun c => P (l ++ c)) t h' → Q (.bool t) h') →
      Ev fnG fastA (.fn 144 [] [.ptr mC 0, .ptr oC 0, .ptr hC 0, .ptr dC 0, .ptr fC 0]) [x, .int .i64 (i : Int)] h Q := by
  obtain ⟨pm, ll, L', W', k1, k2, aL', aW', _⟩ := id hd
  have hlenW := aW'.lenE
  have gw := g.wgs
  intro k
  induction k with
  | zero =>
    intro h x l i hk hs cm ch cd cf ⟨y0, go⟩ ax nx hi Q q
    have hlx := ax.lenE
    have hll : (l.length : Int) = (many : Int) := by omega
    have hlo := hs.wf _ _ go
    refine Ev_body (fd := c144) rfl rfl rfl ?_
    have hx1 := ax.one
    have kS := Keeps.set h oC (.cells .rw [x])
    have wS := H.wf_set hs.wf (.cells .rw [x]) go
    have sS : hb.Sub (h.set oC (.cells .rw [x])) := kS.sub hs hwb (fun c hc => by omega) wS
    have axS : SlAt (h.set oC (.cells .rw [x])) x 1 (l.map encI) := SlAt_keep ax kS nx
    simp (maxSteps := 1000000) (implicitDefEqProofs := false) (disch := first | with_reducible rfl | omega | (simp only [nA, nS, nD] <;> omega) | fail) only [c144, go_sem, ↓reduceIte, Nat.reduceEqDiff, Nat.reduceAdd, Nat.reduceSub, Nat.reduceMul, reduceCtorEq, Nat.reduceLeDiff, hlx, hll, cm, go, hx1, cells_one hx1, ch]
    refine hP l x _ sS axS _ fun h2 s2 => ?_
    simp (maxSteps := 1000000) (implicitDefEqProofs := false) (disch := first | with_reducible rfl | omega | (simp only [nA, nS, nD] <;> omega) | fail) only [go_sem, ↓reduceIte, Nat.reduceEqDiff, Nat.reduceAdd, Nat.reduceSub, Nat.reduceMul, reduceCtorEq, Nat.reduceLeDiff]
    refine q _ _ ((kS.trans (Keeps.of s2 fun c => c = oC)).mono fun c h => by rcases h with h | h <;> exact h) s2.wf ?_
    have e : (comb 0 (m.wgs.length - i) (i : Int)).find? (fun c => P (l ++ c)) = if P l = true then some [] else none := by
      simp only [comb, List.find?_cons, List.find?_nil, List.append_nil]
      cases P l <;> rfl
    rw [e]
    have go2 : h2.get oC = some (.cells .rw [x]) := s2.get (get_set_same rfl)
    cases hp : P l
    · exact ⟨rfl, x, go2⟩
    · exact ⟨rfl, x, go2, by rw [List.append_nil]; exact axS.mono s2⟩
  | succ k ih =>
    intro h x l i hk hs cm ch cd cf hgo ax nx hi Q q
    have hlx := ax.lenE
    have hll : ¬ (l.length : Int) = (many : Int) := by omega
    refine Ev_body (fd := c144) rfl rfl rfl ?_
    simp (maxSteps := 1000000) (implicitDefEqProofs := false) (disch := first | with_reducible rfl | omega | (simp only [nA, nS, nD] <;> omega) | fail) only [c144, go_sem, ↓reduceIte, Nat.reduceEqDiff, Nat.reduceAdd, Nat.reduceSub, Nat.reduceMul, reduceCtorEq, Nat.reduceLeDiff, hlx, hll, cm]
    refine W_count m.wgs.length (fun j s => ∃ tm h', s = ⟨tm, h', []⟩ ∧ Keeps (fun c => c = oC) h h' ∧ h'.wf ∧ (∃ y, h'.get oC = some (.cells .rw [y])) ∧ ((comb (k + 1) (m.wgs.length - i) (i : Int)).find? fun c => P (l ++ c)) = ((comb (k + 1) (m.wgs.length - j) (j : Int)).find? fun c => P (l ++ c)) ∧
        (Opd.t 0).ev tm = x ∧ (Opd.t 5).ev tm = .ptr dC 0 ∧ (Opd.t 6).ev tm = .ptr fC 0 ∧ (Opd.t 10).ev tm = .int .i64 (j : Int))
      ?_ ?_ (i := i) hi ⟨_, _, rfl, Keeps.refl _ _, hs.wf, hgo, rfl, (by simp [ev_c, ev_put] <;> rfl), (by simp [ev_c, ev_put] <;> rfl), (by simp [ev_c, ev_put] <;> rfl), (by simp [ev_c, ev_put] <;> rfl)⟩
    · rintro j s hj ⟨tm, h', rfl, kh, wh, ⟨y0, go⟩, hfind, t0, t5, t6, t10⟩
      have hj' : (j : Int) < (m.wgs.length : Int) := by omega
      have hs' : hb.Sub h' := kh.sub hs hwb (fun c hc => by omega) wh
      have cm' := kh.cells cm n1
      have ch' := kh.cells ch n2
      have cd' := kh.cells cd n3
      have cf' := kh.cells cf n4
      have ax' := SlAt_keep ax kh nx
      have hlo := wh _ _ go
      have hll2 : (l.map encI).length ≤ 12 := by simp; omega
      simp (maxSteps := 1000000) (implicitDefEqProofs := false) (disch := first | with_reducible rfl | omega | (simp only [nA, nS, nD] <;> omega) | fail) only [go_sem, ↓reduceIte, Nat.reduceEqDiff, Nat.reduceAdd, Nat.reduceSub, Nat.reduceMul, reduceCtorEq, Nat.reduceLeDiff, t0, t5, t6, t10, cd', cells_of (hs'.get k1), hlenW, hj', cf']
      refine cloneInt_ev wh ax' (by omega) _ fun v h1 ov => ?_
      have s01 := ov.1
      have cf1 := s01.cells cf'
      simp (maxSteps := 1000000) (implicitDefEqProofs := false) (disch := first | with_reducible rfl | omega | (simp only [nA, nS, nD] <;> omega) | fail) only [go_sem, ↓reduceIte, Nat.reduceEqDiff, Nat.reduceAdd, Nat.reduceSub, Nat.reduceMul, reduceCtorEq, Nat.reduceLeDiff, t0, t5, t6, t10]
      have s12 := (H.Sub.refl s01.wf).add (.cells .rw [.int .i64 (j : Int)])
      refine (ov.mono s12).app1 (r := encI (j : Int)) wh rfl (by omega) (own1_lit _) rfl (by omega) (by omega) fun x2 h2 ox2 dx2 kx2 => ?_
      have s02 := ox2.1
      have cf2 := s02.cells cf'
      have ax2 := ox2.sl (by simp; omega)
      have e2 : l.map encI ++ [encI (j : Int)] = (l ++ [(j : Int)]).map encI := by simp
      rw [e2] at ax2
      simp (maxSteps := 1000000) (implicitDefEqProofs := false) (disch := first | with_reducible rfl | omega | (simp only [nA, nS, nD] <;> omega) | fail) only [go_sem, ↓reduceIte, Nat.reduceEqDiff, Nat.reduceAdd, Nat.reduceSub, Nat.reduceMul, reduceCtorEq, Nat.reduceLeDiff, t0, t5, t6, t10, wr_succ]
      refine ih h2 x2 (l ++ [(j : Int)]) (j + 1) (by simp; omega) (hs'.trans s02) (s02.cells cm') (s02.cells ch') (s02.cells cd') cf2 ⟨y0, s02.get go⟩ ax2 (fun b hb => by have := (ox2.blk hb).1; omega) (by omega) _ fun t h3 k23 w3 hres => ?_
      have k03 : Keeps (fun c => c = oC) h h3 := ((kh.trans (Keeps.of s02 fun c => c = oC)).trans k23).mono fun c h => by rcases h with (h | h) | h <;> exact h
      have hst := find_step P l k (m.wgs.length - (j + 1)) (j : Int)
      have ef : m.wgs.length - j = (m.wgs.length - (j + 1)) + 1 := by omega
      have ej : ((j : Int) + 1) = ((j + 1 : Nat) : Int) := by omega
      rw [ef, hst, ej] at hfind
      cases hr : (comb k (m.wgs.length - (j + 1)) ((j + 1 : Nat) : Int)).find? (fun c => P ((l ++ [(j : Int)]) ++ c)) with
      | some c =>
        rw [hr] at hres hfind
        obtain ⟨rfl, y, gy, ay⟩ := hres
        simp (maxSteps := 1000000) (implicitDefEqProofs := false) (disch := first | with_reducible rfl | omega | (simp only [nA, nS, nD] <;> omega) | fail) only [go_sem, ↓reduceIte, Nat.reduceEqDiff, Nat.reduceAdd, Nat.reduceSub, Nat.reduceMul, reduceCtorEq, Nat.reduceLeDiff, t0, t5, t6, t10, cf', cf1, cf2]
        refine q _ _ k03 w3 ?_
        rw [hfind]
        exact ⟨rfl, y, gy, by rw [List.append_assoc] at ay; exact ay⟩
      | none =>
        rw [hr] at hres hfind
        obtain ⟨rfl, y, gy⟩ := hres
        simp (maxSteps := 1000000) (implicitDefEqProofs := false) (disch := first | with_reducible rfl | omega | (simp only [nA, nS, nD] <;> omega) | fail) only [go_sem, ↓reduceIte, Nat.reduceEqDiff, Nat.reduceAdd, Nat.reduceSub, Nat.reduceMul, reduceCtorEq, Nat.reduceLeDiff, t0, t5, t6, t10, cf', cf1, cf2, wr_succ]
        exact ⟨_, _, rfl, k03, w3, ⟨y, gy⟩, hfind, (by simp [ev_c, ev_put, t0] <;> rfl), (by simp [ev_c, ev_put, t5] <;> rfl), (by simp [ev_c, ev_put, t6] <;> rfl), (by simp [ev_c, ev_put] <;> rfl)⟩
    · rintro s ⟨tm, h', rfl, kh, wh, hgo', hfind, t0, t5, t6, t10⟩
      have hs' : hb.Sub h' := kh.sub hs hwb (fun c hc => by omega) wh
      have cd' := kh.cells cd n3
      simp (maxSteps := 1000000) (implicitDefEqProofs := false) (disch := first | with_reducible rfl | omega | (simp only [nA, nS, nD] <;> omega) | fail) only [go_sem, ↓reduceIte, Nat.reduceEqDiff, Nat.reduceAdd, Nat.reduceSub, Nat.reduceMul, reduceCtorEq, Nat.reduceLeDiff, t0, t5, t6, t10, cd', cells_of (hs'.get k1), hlenW, Int.lt_irrefl]
      refine q _ _ kh wh ?_
      rw [hfind, Nat.sub_self]
      exact ⟨rfl, hgo'⟩
theorem HoldsOf.mono {hb h : H} {hv : V} {P : List Int → Bool} (a : HoldsOf hb hv P) (s : hb.Sub h) : HoldsOf h hv P := fun l x h1 s1 ax R r => a l x h1 (s.trans s1) ax R r
set_option maxHeartbeats 2000000 in
/-- first -/
theorem first_ev {h : H} {d : Nat} {m : Ml} {hv : V} {P : List Int → Bool} (hw : h.wf) (hd : DkAt h d m) (g : Good m) (hv1 : hv.one = true) (hP : HoldsOf h hv P) (Q : V → H → Prop)
    (q : ∀ y t h', h.Sub h' → (match firstOf P m.wgs.length (m.wgs.length + 1) 0 with | some c => t = true ∧ SlAt h' y 1 (c.map encI) | none => t = false) → Q (.tup [y, .bool t]) h') : Ev fnG fastA (.fn 106 [] []) [.ptr d 0, hv] h Q := by
  obtain ⟨pm, ll, L', W', k1, k2, aL', aW', _⟩ := id hd
  have hlenW := aW'.lenE
  have gw := g.wgs
  have hld := hw _ _ k1
  refine Ev_body (fd := c106) rfl rfl rfl ?_
  have s2 : h.Sub (((h.add (.cells .rw [.ptr d 0])).add (.cells .rw [hv])).add (.cells .rw [.nils])) := (by repeat (first | assumption | exact H.Sub.refl (by assumption) | refine H.Sub.add ?_ _ | refine H.Sub.set ?_ (by first | omega | (simp only [H.next_add, H.next_set, H.next_del] <;> omega)) (by first | omega | (simp only [H.next_add, H.next_set, H.next_del] <;> omega)) (by assumption) _))
  simp (maxSteps := 1000000) (implicitDefEqProofs := false) (disch := first | with_reducible rfl | omega | (simp only [nA, nS, nD] <;> omega) | fail) only [c106, go_sem, ↓reduceIte, Nat.reduceEqDiff, Nat.reduceAdd, Nat.reduceSub, Nat.reduceMul, reduceCtorEq, Nat.reduceLeDiff, hv1, cells_one hv1, cells_of k1, hlenW, wr_succ]
  refine W_count (m.wgs.length + 1) (fun k s => ∃ tm h', s = ⟨tm, h', []⟩ ∧ h.Sub h' ∧ h.next + 2 < h'.next ∧ h'.cells h.next = some [.ptr d 0] ∧ h'.cells (h.next + 1) = some [hv] ∧ (∃ y, h'.get (h.next + 1 + 1) = some (.cells .rw [y])) ∧ firstOf P m.wgs.length (m.wgs.length + 1) 0 = firstOf P m.wgs.length (m.wgs.length + 1 - k) k ∧
      (Opd.t 2).ev tm = .ptr h.next 0 ∧ (Opd.t 3).ev tm = .ptr (h.next + 1) 0 ∧ (Opd.t 6).ev tm = .ptr (h.next + 1 + 1) 0 ∧ (Opd.t 7).ev tm = .bool false ∧ (Opd.t 16).ev tm = .int .i64 ((m.wgs.length + 1 : Nat) : Int) ∧ (Opd.t 17).ev tm = .int .i64 (k : Int))
    ?_ ?_ (i := 0) (Nat.zero_le _) ⟨_, _, rfl, s2, by simp only [H.next_add]; omega, by simp (maxSteps := 1000000) (implicitDefEqProofs := false) (disch := first | with_reducible rfl | omega | (simp only [nA, nS, nD] <;> omega) | fail) only [go_sem, ↓reduceIte, Nat.reduceEqDiff, Nat.reduceAdd, Nat.reduceSub, Nat.reduceMul, reduceCtorEq, Nat.reduceLeDiff], by simp (maxSteps := 1000000) (implicitDefEqProofs := false) (disch := first | with_reducible rfl | omega | (simp only [nA, nS, nD] <;> omega) | fail) only [go_sem, ↓reduceIte, Nat.reduceEqDiff, Nat.reduceAdd, Nat.reduceSub, Nat.reduceMul, reduceCtorEq, Nat.reduceLeDiff], ⟨.nils, by simp (maxSteps := 1000000) (implicitDefEqProofs := false) (disch := first | with_reducible rfl | omega | (simp only [nA, nS, nD] <;> omega) | fail) only [go_sem, ↓reduceIte, Nat.reduceEqDiff, Nat.reduceAdd, Nat.reduceSub, Nat.reduceMul, reduceCtorEq, Nat.reduceLeDiff]⟩, rfl, (by simp only [ev_c, ev_put, ↓reduceIte, Nat.reduceEqDiff] <;> rfl), (by simp only [ev_c, ev_put, ↓reduceIte, Nat.reduceEqDiff] <;> rfl), (by simp only [ev_c, ev_put, ↓reduceIte, Nat.reduceEqDiff] <;> rfl), (by simp only [ev_c, ev_put, ↓reduceIte, Nat.reduceEqDiff] <;> rfl), (by simp only [ev_c, ev_put, ↓reduceIte, Nat.reduceEqDiff] <;> rfl), (by simp only [ev_c, ev_put, ↓reduceIte, Nat.reduceEqDiff] <;> rfl)⟩
  · rintro k s hk ⟨tm, h', rfl, hs, lt, gd, gh, ⟨y0, go⟩, hfirst, t2, t3, t6, t7, t16, t17⟩
    have hk' : (k : Int) < ((m.wgs.length + 1 : Nat) : Int) := by omega
    have sA := ((H.Sub.refl hs.wf).add (.cells .rw [.int .i64 (k : Int)])).add (.cells .rw [.fn 144 [] [.ptr h'.next 0, .ptr (h.next + 1 + 1) 0, .ptr (h.next + 1) 0, .ptr h.next 0, .ptr (h'.next + 1) 0]])
    have hsA := hs.trans sA
    have gm : ((h'.add (.cells .rw [.int .i64 (k : Int)])).add (.cells .rw [.fn 144 [] [.ptr h'.next 0, .ptr (h.next + 1 + 1) 0, .ptr (h.next + 1) 0, .ptr h.next 0, .ptr (h'.next + 1) 0]])).cells h'.next = some [.int .i64 (k : Int)] := by simp (maxSteps := 1000000) (implicitDefEqProofs := false) (disch := first | with_reducible rfl | omega | (simp only [nA, nS, nD] <;> omega) | fail) only [go_sem, ↓reduceIte, Nat.reduceEqDiff, Nat.reduceAdd, Nat.reduceSub, Nat.reduceMul, reduceCtorEq, Nat.reduceLeDiff]
    have gf : ((h'.add (.cells .rw [.int .i64 (k : Int)])).add (.cells .rw [.fn 144 [] [.ptr h'.next 0, .ptr (h.next + 1 + 1) 0, .ptr (h.next + 1) 0, .ptr h.next 0, .ptr (h'.next + 1) 0]])).cells (h'.next + 1) = some [.fn 144 [] [.ptr h'.next 0, .ptr (h.next + 1 + 1) 0, .ptr (h.next + 1) 0, .ptr h.next 0, .ptr (h'.next + 1) 0]] := by simp (maxSteps := 1000000) (implicitDefEqProofs := false) (disch := first | with_reducible rfl | omega | (simp only [nA, nS, nD] <;> omega) | fail) only [go_sem, ↓reduceIte, Nat.reduceEqDiff, Nat.reduceAdd, Nat.reduceSub, Nat.reduceMul, reduceCtorEq, Nat.reduceLeDiff]
    simp (maxSteps := 1000000) (implicitDefEqProofs := false) (disch := first | with_reducible rfl | omega | (simp only [nA, nS, nD] <;> omega) | fail) only [go_sem, ↓reduceIte, Nat.reduceEqDiff, Nat.reduceAdd, Nat.reduceSub, Nat.reduceMul, reduceCtorEq, Nat.reduceLeDiff, t2, t3, t6, t7, t16, t17, hk']
    refine more_ev hw hd g hP (by omega) (by omega) (by omega) (by omega) (by omega) (many := k) (by omega) k _ .nils [] 0 (by simp) hsA gm (sA.cells gh) (sA.cells gd) gf ⟨y0, sA.get go⟩ ((OwnSl.nil (H.Sub.refl hsA.wf) 1).sl (by simp)) (fun b hb => (blkOf_nils hb).elim) (Nat.zero_le _) _ fun t h3 k3 w3 hres => ?_
    have s3 : h.Sub h3 := k3.sub hsA hw (fun c hc => by omega) w3
    have l3 := k3.1
    simp only [H.next_add] at l3
    have hst : firstOf P m.wgs.length (m.wgs.length + 1 - k) k = (match (comb k m.wgs.length 0).find? P with | some c => some c | none => firstOf P m.wgs.length (m.wgs.length - k) (k + 1)) := by
      rw [show m.wgs.length + 1 - k = (m.wgs.length - k) + 1 by omega]; rfl
    have hres' : MoreRes P [] (h.next + 1 + 1) ((comb k m.wgs.length 0).find? P) t h3 := hres
    cases hr : (comb k m.wgs.length 0).find? P with
    | some c =>
      rw [hr] at hres' hst
      obtain ⟨rfl, y, gy, ay⟩ := hres'
      have ay1 := ay.one
      simp (maxSteps := 1000000) (implicitDefEqProofs := false) (disch := first | with_reducible rfl | omega | (simp only [nA, nS, nD] <;> omega) | fail) only [go_sem, ↓reduceIte, Nat.reduceEqDiff, Nat.reduceAdd, Nat.reduceSub, Nat.reduceMul, reduceCtorEq, Nat.reduceLeDiff, t2, t3, t6, t7, t16, t17, cells_of gy]
      refine q _ _ _ s3 ?_
      rw [hfirst, hst]
      exact ⟨rfl, ay⟩
    | none =>
      rw [hr] at hres' hst
      obtain ⟨rfl, y, gy⟩ := hres'
      simp (maxSteps := 1000000) (implicitDefEqProofs := false) (disch := first | with_reducible rfl | omega | (simp only [nA, nS, nD] <;> omega) | fail) only [go_sem, ↓reduceIte, Nat.reduceEqDiff, Nat.reduceAdd, Nat.reduceSub, Nat.reduceMul, reduceCtorEq, Nat.reduceLeDiff, t2, t3, t6, t7, t16, t17, wr_succ]
      exact ⟨_, _, rfl, s3, by omega, k3.cells (sA.cells gd) (by omega), k3.cells (sA.cells gh) (by omega), ⟨y, gy⟩, by rw [hfirst, hst, show m.wgs.length + 1 - (k + 1) = m.wgs.length - k by omega], (by simp [ev_c, ev_put, t2] <;> rfl), (by simp [ev_c, ev_put, t3] <;> rfl), (by simp [ev_c, ev_put, t6] <;> rfl), (by simp [ev_c, ev_put] <;> rfl), (by simp [ev_c, ev_put, t16] <;> rfl), (by simp only [ev_c, ev_put, ↓reduceIte, Nat.reduceEqDiff] <;> rfl)⟩
  · rintro s ⟨tm, h', rfl, hs, lt, gd, gh, ⟨y0, go⟩, hfirst, t2, t3, t6, t7, t16, t17⟩
    simp (maxSteps := 1000000) (implicitDefEqProofs := false) (disch := first | with_reducible rfl | omega | (simp only [nA, nS, nD] <;> omega) | fail) only [go_sem, ↓reduceIte, Nat.reduceEqDiff, Nat.reduceAdd, Nat.reduceSub, Nat.reduceMul, reduceCtorEq, Nat.reduceLeDiff, t2, t3, t6, t7, t16, t17, Int.lt_irrefl, cells_of go]
    refine q _ _ _ hs ?_
    rw [hfirst, Nat.sub_self]
    rfl
/-- The fewest that clash, and the fewest that are wrong. -/
noncomputable def clashP (m : Ml) : List Int → Bool := fun l => !agreeB m (inL l false)
noncomputable def wrongP (m : Ml) : List Int → Bool := fun l => agreeB m (inL l true)
theorem clash1_holds {h : H} {d a : Nat} {m : Ml} (hd : DkAt h d m) (g : Good m) (ha : h.cells a = some [.ptr d 0]) : HoldsOf h (.fn 107 [] [.ptr a 0]) (clashP m) := fun l x h1 s1 ax R r => by
  have ha1 := s1.cells ha
  refine Ev_body (fd := c107) rfl rfl rfl ?_
  simp (maxSteps := 1000000) (implicitDefEqProofs := false) (disch := first | with_reducible rfl | omega | (simp only [nA, nS, nD] <;> omega) | fail) only [c107, go_sem, ↓reduceIte, Nat.reduceEqDiff, Nat.reduceAdd, Nat.reduceSub, Nat.reduceMul, reduceCtorEq, Nat.reduceLeDiff, ha1]
  refine agree_ev s1.wf (hd.mono s1) g ax false _ fun h2 s2 => ?_
  simp (maxSteps := 1000000) (implicitDefEqProofs := false) (disch := first | with_reducible rfl | omega | (simp only [nA, nS, nD] <;> omega) | fail) only [go_sem, ↓reduceIte, Nat.reduceEqDiff, Nat.reduceAdd, Nat.reduceSub, Nat.reduceMul, reduceCtorEq, Nat.reduceLeDiff]
  exact r _ s2
theorem wrong1_holds {h : H} {d a : Nat} {m : Ml} (hd : DkAt h d m) (g : Good m) (ha : h.cells a = some [.ptr d 0]) : HoldsOf h (.fn 108 [] [.ptr a 0]) (wrongP m) := fun l x h1 s1 ax R r => by
  have ha1 := s1.cells ha
  refine Ev_body (fd := c108) rfl rfl rfl ?_
  simp (maxSteps := 1000000) (implicitDefEqProofs := false) (disch := first | with_reducible rfl | omega | (simp only [nA, nS, nD] <;> omega) | fail) only [c108, go_sem, ↓reduceIte, Nat.reduceEqDiff, Nat.reduceAdd, Nat.reduceSub, Nat.reduceMul, reduceCtorEq, Nat.reduceLeDiff, ha1]
  refine agree_ev s1.wf (hd.mono s1) g ax true _ fun h2 s2 => ?_
  simp (maxSteps := 1000000) (implicitDefEqProofs := false) (disch := first | with_reducible rfl | omega | (simp only [nA, nS, nD] <;> omega) | fail) only [go_sem, ↓reduceIte, Nat.reduceEqDiff, Nat.reduceAdd, Nat.reduceSub, Nat.reduceMul, reduceCtorEq, Nat.reduceLeDiff]
  exact r _ s2
/-- Clash -/
theorem Clash_ev {h : H} {v : V} {m : Ml} (hw : h.wf) (hm : MlIs h v m) : Ev fnG fastA (.fn 47 [] []) [v] h fun u h' => h.Sub h' ∧ ∃ x l e, u = .tup [x, .int .i64 e] ∧ SlAt h' x 1 (l.map encI) ∧ ((check m ≠ 0 ∧ e = check m ∧ l = []) ∨
    (check m = 0 ∧ firstOf (clashP m) m.wgs.length (m.wgs.length + 1) 0 = none ∧ e = 6 ∧ l = []) ∨ (check m = 0 ∧ firstOf (clashP m) m.wgs.length (m.wgs.length + 1) 0 = some l ∧ e = 0)) := by
  refine Ev.gen fun Q q => ?_
  have hm0 := hm
  obtain ⟨L, W, rfl, aL, aW⟩ := hm
  refine Ev_body (fd := c47) rfl rfl rfl ?_
  have s2 : h.Sub (h.add (.cells .rw [.int .i64 m.errs, L, W])) := (by repeat (first | assumption | exact H.Sub.refl (by assumption) | refine H.Sub.add ?_ _ | refine H.Sub.set ?_ (by first | omega | (simp only [H.next_add, H.next_set, H.next_del] <;> omega)) (by first | omega | (simp only [H.next_add, H.next_set, H.next_del] <;> omega)) (by assumption) _))
  simp (maxSteps := 1000000) (implicitDefEqProofs := false) (disch := first | with_reducible rfl | omega | (simp only [nA, nS, nD] <;> omega) | fail) only [c47, go_sem, ↓reduceIte, Nat.reduceEqDiff, Nat.reduceAdd, Nat.reduceSub, Nat.reduceMul, reduceCtorEq, Nat.reduceLeDiff]
  refine (opened_dk s2.wf (hm0.mono s2)).mono fun u h3 hu => ?_
  obtain ⟨s23, hu⟩ := hu
  have s3 := s2.trans s23
  rcases hu with ⟨c, rfl⟩ | ⟨c, d, rfl, hd⟩
  · simp (maxSteps := 1000000) (implicitDefEqProofs := false) (disch := first | with_reducible rfl | omega | (simp only [nA, nS, nD] <;> omega) | fail) only [go_sem, ↓reduceIte, Nat.reduceEqDiff, Nat.reduceAdd, Nat.reduceSub, Nat.reduceMul, reduceCtorEq, Nat.reduceLeDiff, ne_eq, c, not_false_eq_true]
    exact q _ _ ⟨s3.add _, .nils, [], check m, rfl, (OwnSl.nil (s3.add _) 1).sl (by simp), .inl ⟨c, rfl, rfl⟩⟩
  have g := good_of c
  have s34 := (H.Sub.refl s3.wf).add (.cells .rw [.ptr d 0])
  have gd : (h3.add (.cells .rw [.ptr d 0])).cells h3.next = some [.ptr d 0] := cells_add_new rfl
  simp (maxSteps := 1000000) (implicitDefEqProofs := false) (disch := first | with_reducible rfl | omega | (simp only [nA, nS, nD] <;> omega) | fail) only [go_sem, ↓reduceIte, Nat.reduceEqDiff, Nat.reduceAdd, Nat.reduceSub, Nat.reduceMul, reduceCtorEq, Nat.reduceLeDiff, ne_eq, not_true_eq_false]
  refine first_ev (P := clashP m) s34.wf (hd.mono s34) g rfl (clash1_holds (hd.mono s34) g gd) _ fun y t h5 s45 hr => ?_
  have s5 := s3.trans (s34.trans s45)
  cases hf : firstOf (clashP m) m.wgs.length (m.wgs.length + 1) 0 with
  | none =>
    rw [hf] at hr
    have hr' : t = false := hr
    subst hr'
    simp (maxSteps := 1000000) (implicitDefEqProofs := false) (disch := first | with_reducible rfl | omega | (simp only [nA, nS, nD] <;> omega) | fail) only [go_sem, ↓reduceIte, Nat.reduceEqDiff, Nat.reduceAdd, Nat.reduceSub, Nat.reduceMul, reduceCtorEq, Nat.reduceLeDiff, Bool.not_false]
    exact q _ _ ⟨s5, .nils, [], 6, rfl, (OwnSl.nil s5 1).sl (by simp), .inr (.inl ⟨c, hf, rfl, rfl⟩)⟩
  | some l =>
    rw [hf] at hr
    obtain ⟨rfl, ay⟩ := hr
    simp (maxSteps := 1000000) (implicitDefEqProofs := false) (disch := first | with_reducible rfl | omega | (simp only [nA, nS, nD] <;> omega) | fail) only [go_sem, ↓reduceIte, Nat.reduceEqDiff, Nat.reduceAdd, Nat.reduceSub, Nat.reduceMul, reduceCtorEq, Nat.reduceLeDiff, Bool.not_true]
    exact q _ _ ⟨s5, y, l, 0, rfl, ay, .inr (.inr ⟨c, hf, rfl⟩)⟩
/-- Without all weighings the others agree. -/
theorem wrong_some {m : Ml} (g : Good m) : ∃ l, firstOf (wrongP m) m.wgs.length (m.wgs.length + 1) 0 = some l ∧ IsMin (wrongP m) m.wgs.length l := by
  rcases firstOf_spec (wrongP m) m.wgs.length (m.wgs.length + 1) 0 (by omega) (fun d _ h => by omega) with h | ⟨_, h⟩
  · exact h
  · exfalso
    have hb : ∀ (n : Nat) (i : Int), Inc (i + n) i ((List.range n).map fun (k : Nat) => i + (k : Int)) ∧ ∀ k : Nat, k < n → i + (k : Int) ∈ (List.range n).map fun (k : Nat) => i + (k : Int) := fun n => by
      induction n with
      | zero => intro i; exact ⟨trivial, fun k hk => by omega⟩
      | succ n ih =>
        intro i
        refine ⟨?_, fun k hk => List.mem_map.2 ⟨k, List.mem_range.2 hk, rfl⟩⟩
        have h1 := (ih (i + 1)).1
        rw [List.range_succ_eq_map, List.map_cons, List.map_map]
        refine ⟨by simp, by simp; omega, ?_⟩
        have e : (fun k : Nat => i + (k : Int)) ∘ Nat.succ = fun k : Nat => i + 1 + (k : Int) := by funext k; simp only [Function.comp]; omega
        rw [e]
        simp only [Int.ofNat_zero, Int.add_zero]
        rw [show i + ((n + 1 : Nat) : Int) = i + 1 + (n : Int) by omega]
        simpa using h1
    have hh := h _ (by have := (hb m.wgs.length 0).1; rwa [Int.zero_add] at this)
    have : agreeB m (inL ((List.range m.wgs.length).map fun (k : Nat) => (0 : Int) + (k : Int)) true) = true := by
      rw [← agreeB_iff (t := true)]
      simp only [true_iff]
      refine ⟨fun _ => 0, (own_iff g).2 ⟨fun i _ _ => by omega, fun k hk hc => ?_⟩, fun i _ _ _ => ?_⟩
      · have hm := (hb m.wgs.length 0).2 k hk
        rw [Int.zero_add] at hm
        unfold inL at hc
        rw [decide_eq_true hm] at hc
        cases hc
      · have e0 : ∀ l : List Int, sumL (fun _ => (0 : Int)) l = 0 := fun l => by
          induction l with
          | nil => rfl
          | cons a l ih => simp only [sumL, ih]; omega
        exact (e0 _).symm
    unfold wrongP at hh
    rw [this] at hh; cases hh
/-- Wrong -/
theorem Wrong_ev {h : H} {v : V} {m : Ml} (hw : h.wf) (hm : MlIs h v m) : Ev fnG fastA (.fn 48 [] []) [v] h fun u h' => h.Sub h' ∧ ∃ x l e, u = .tup [x, .int .i64 e] ∧ SlAt h' x 1 (l.map encI) ∧ ((check m ≠ 0 ∧ e = check m ∧ l = []) ∨
    (check m = 0 ∧ firstOf (wrongP m) m.wgs.length (m.wgs.length + 1) 0 = some l ∧ e = 0)) := by
  refine Ev.gen fun Q q => ?_
  have hm0 := hm
  obtain ⟨L, W, rfl, aL, aW⟩ := hm
  refine Ev_body (fd := c48) rfl rfl rfl ?_
  have s2 : h.Sub (h.add (.cells .rw [.int .i64 m.errs, L, W])) := (by repeat (first | assumption | exact H.Sub.refl (by assumption) | refine H.Sub.add ?_ _ | refine H.Sub.set ?_ (by first | omega | (simp only [H.next_add, H.next_set, H.next_del] <;> omega)) (by first | omega | (simp only [H.next_add, H.next_set, H.next_del] <;> omega)) (by assumption) _))
  simp (maxSteps := 1000000) (implicitDefEqProofs := false) (disch := first | with_reducible rfl | omega | (simp only [nA, nS, nD] <;> omega) | fail) only [c48, go_sem, ↓reduceIte, Nat.reduceEqDiff, Nat.reduceAdd, Nat.reduceSub, Nat.reduceMul, reduceCtorEq, Nat.reduceLeDiff]
  refine (opened_dk s2.wf (hm0.mono s2)).mono fun u h3 hu => ?_
  obtain ⟨s23, hu⟩ := hu
  have s3 := s2.trans s23
  rcases hu with ⟨c, rfl⟩ | ⟨c, d, rfl, hd⟩
  · simp (maxSteps := 1000000) (implicitDefEqProofs := false) (disch := first | with_reducible rfl | omega | (simp only [nA, nS, nD] <;> omega) | fail) only [go_sem, ↓reduceIte, Nat.reduceEqDiff, Nat.reduceAdd, Nat.reduceSub, Nat.reduceMul, reduceCtorEq, Nat.reduceLeDiff, ne_eq, c, not_false_eq_true]
    exact q _ _ ⟨s3.add _, .nils, [], check m, rfl, (OwnSl.nil (s3.add _) 1).sl (by simp), .inl ⟨c, rfl, rfl⟩⟩
  have g := good_of c
  have s34 := (H.Sub.refl s3.wf).add (.cells .rw [.ptr d 0])
  have gd : (h3.add (.cells .rw [.ptr d 0])).cells h3.next = some [.ptr d 0] := cells_add_new rfl
  simp (maxSteps := 1000000) (implicitDefEqProofs := false) (disch := first | with_reducible rfl | omega | (simp only [nA, nS, nD] <;> omega) | fail) only [go_sem, ↓reduceIte, Nat.reduceEqDiff, Nat.reduceAdd, Nat.reduceSub, Nat.reduceMul, reduceCtorEq, Nat.reduceLeDiff, ne_eq, not_true_eq_false]
  refine first_ev (P := wrongP m) s34.wf (hd.mono s34) g rfl (wrong1_holds (hd.mono s34) g gd) _ fun y t h5 s45 hr => ?_
  have s5 := s3.trans (s34.trans s45)
  obtain ⟨l, hf, _⟩ := wrong_some g
  rw [hf] at hr
  obtain ⟨rfl, ay⟩ := hr
  simp (maxSteps := 1000000) (implicitDefEqProofs := false) (disch := first | with_reducible rfl | omega | (simp only [nA, nS, nD] <;> omega) | fail) only [go_sem, ↓reduceIte, Nat.reduceEqDiff, Nat.reduceAdd, Nat.reduceSub, Nat.reduceMul, reduceCtorEq, Nat.reduceLeDiff]
  exact q _ _ ⟨s5, y, l, 0, rfl, ay, .inr ⟨c, hf, rfl⟩⟩
end Go.Ab.Try
set_option linter.unusedSimpArgs false
set_option linter.unusedVariables false
namespace Go.Ab.Try
open Go.Ab.Silk
/-- What is left of a number after so many bits. -/
def sAt (s : Int) : Nat → Int
  | 0 => s
  | k + 1 => sAt s k / 2
theorem sAt_nn {s : Int} (h : 0 ≤ s) : ∀ k, 0 ≤ sAt s k
  | 0 => h
  | k + 1 => by have := sAt_nn h k; simp only [sAt]; omega
theorem sAt_le {s : Int} (h : 0 ≤ s) : ∀ k, sAt s k ≤ s
  | 0 => Int.le_refl _
  | k + 1 => by have := sAt_le h k; have := sAt_nn h k; simp only [sAt]; omega
theorem sAt_half (s : Int) : ∀ k, sAt (s / 2) k = sAt s (k + 1)
  | 0 => rfl
  | k + 1 => by have := sAt_half s k; simp only [sAt] at *; omega
def bitC (s : Int) : Nat → Bool := fun k => decide (sAt s k % 2 = 1)
/-- The numbers that count. -/
def lst (c : Nat → Bool) : Nat → List Int
  | 0 => []
  | n + 1 => lst c n ++ if c n = true then [(n : Int)] else []
theorem lst_len (c : Nat → Bool) : ∀ n, (lst c n).length ≤ n
  | 0 => Nat.le_refl _
  | n + 1 => by have := lst_len c n; simp only [lst, List.length_append]; split <;> simp <;> omega
theorem mem_lst (c : Nat → Bool) (i : Nat) : ∀ n, (i : Int) ∈ lst c n ↔ i < n ∧ c i = true
  | 0 => by simp [lst]
  | n + 1 => by
    simp only [lst, List.mem_append, mem_lst c i n]
    by_cases e : i = n
    · subst e
      cases c i <;> simp
    · constructor
      · rintro (⟨h1, h2⟩ | h)
        · exact ⟨by omega, h2⟩
        · split at h
          · simp at h; omega
          · cases h
      · rintro ⟨h1, h2⟩
        exact .inl ⟨by omega, h2⟩
theorem lst_congr {c d : Nat → Bool} : ∀ {n : Nat}, (∀ i, i < n → c i = d i) → lst c n = lst d n
  | 0, _ => rfl
  | n + 1, h => by
    have ih := lst_congr (c := c) (d := d) (n := n) fun i hi => h i (by omega)
    simp only [lst, ih, h n (by omega)]
theorem bitsL_snoc : ∀ (k : Nat) (s i : Int), bitsL (k + 1) s i = bitsL k s i ++ if bitC s k = true then [i + (k : Int)] else []
  | 0, s, i => by
    by_cases h : s % 2 = 1 <;> simp [bitsL, bitC, sAt, h]
  | k + 1, s, i => by
    have ih := bitsL_snoc k (s / 2) (i + 1)
    have e : bitC (s / 2) k = bitC s (k + 1) := by unfold bitC; rw [sAt_half]
    have e2 : i + 1 + (k : Int) = i + ((k + 1 : Nat) : Int) := by omega
    rw [e, e2] at ih
    rw [show bitsL (k + 1 + 1) s i = if s % 2 = 1 then i :: bitsL (k + 1) (s / 2) (i + 1) else bitsL (k + 1) (s / 2) (i + 1) from rfl, show bitsL (k + 1) s i = if s % 2 = 1 then i :: bitsL k (s / 2) (i + 1) else bitsL k (s / 2) (i + 1) from rfl, ih]
    split <;> simp
theorem lst_bits (s : Int) : ∀ n, lst (bitC s) n = bitsL n s 0
  | 0 => rfl
  | n + 1 => by rw [bitsL_snoc, ← lst_bits s n]; simp [lst]
theorem inL_bits {s : Int} {W i : Nat} (h : i < W) : inL (bitsL W s 0) false i = bitC s i := by
  rw [← lst_bits]
  unfold inL
  have := mem_lst (bitC s) i W
  cases hc : bitC s i
  · rw [hc] at this; rw [decide_eq_false (fun hm => by simpa using this.1 hm)]; rfl
  · rw [hc] at this; rw [decide_eq_true (this.2 ⟨h, rfl⟩)]; rfl
theorem inL_not (l : List Int) (i : Nat) : inL l true i = !inL l false i := by
  unfold inL; cases decide ((i : Int) ∈ l) <;> rfl
theorem pow_le {i : Nat} (h : i ≤ 10) : 2 ^ i ≤ 1024 := Nat.le_trans (Nat.pow_le_pow_right (by omega) h) (by decide)
/-- sets -/
theorem sets_ev {h : H} {v : V} {m : Ml} (hw : h.wf) (hm : MlIs h v m) (hl : m.wgs.length ≤ 10) (Q : V → H → Prop) (q : ∀ h', h.Sub h' → Q (.int .i64 ((2 ^ m.wgs.length : Nat) : Int)) h') : Ev fnG fastA (.fn 101 [] []) [v] h Q := by
  obtain ⟨L, W, rfl, aL, aW⟩ := hm
  refine Ev_body (fd := c101) rfl rfl rfl ?_
  have hlenW := aW.lenE
  have s2 : h.Sub (h.add (.cells .rw [.int .i64 m.errs, L, W])) := (by repeat (first | assumption | exact H.Sub.refl (by assumption) | refine H.Sub.add ?_ _ | refine H.Sub.set ?_ (by first | omega | (simp only [H.next_add, H.next_set, H.next_del] <;> omega)) (by first | omega | (simp only [H.next_add, H.next_set, H.next_del] <;> omega)) (by assumption) _))
  have g1 : (h.add (.cells .rw [.int .i64 m.errs, L, W])).cells h.next = some [.int .i64 m.errs, L, W] := cells_add_new rfl
  simp (maxSteps := 1000000) (implicitDefEqProofs := false) (disch := first | with_reducible rfl | omega | (simp only [nA, nS, nD] <;> omega) | fail) only [c101, go_sem, ↓reduceIte, Nat.reduceEqDiff, Nat.reduceAdd, Nat.reduceSub, Nat.reduceMul, reduceCtorEq, Nat.reduceLeDiff]
  generalize h.add (.cells .rw [.int .i64 m.errs, L, W]) = h1 at s2 g1 ⊢
  refine W_count m.wgs.length (fun i s => ∃ tm, s = ⟨tm, h1, []⟩ ∧ (Opd.t 1).ev tm = .ptr h.next 0 ∧ (Opd.t 3).ev tm = .int .i64 ((2 ^ i : Nat) : Int) ∧ (Opd.t 4).ev tm = .int .i64 (i : Int))
    ?_ ?_ (i := 0) (Nat.zero_le _) ⟨_, rfl, (by simp [ev_c, ev_put] <;> rfl), (by simp [ev_c, ev_put] <;> rfl), (by simp [ev_c, ev_put] <;> rfl)⟩
  · rintro i s hi ⟨tm, rfl, t1, t3, t4⟩
    have hi' : (i : Int) < (m.wgs.length : Int) := by omega
    have hp := pow_le (i := i) (by omega)
    have hw2 : wr .i64 (2 * ((2 ^ i : Nat) : Int)) = ((2 ^ (i + 1) : Nat) : Int) := by
      rw [Nat.pow_succ]
      generalize 2 ^ i = p at hp ⊢
      rw [wr_in (by omega) (by omega)]; omega
    simp (maxSteps := 1000000) (implicitDefEqProofs := false) (disch := first | with_reducible rfl | omega | (simp only [nA, nS, nD] <;> omega) | fail) only [go_sem, ↓reduceIte, Nat.reduceEqDiff, Nat.reduceAdd, Nat.reduceSub, Nat.reduceMul, reduceCtorEq, Nat.reduceLeDiff, t1, t3, t4, g1, hlenW, hi', hw2, wr_succ]
    exact ⟨_, rfl, (by simp [ev_c, ev_put, t1] <;> rfl), (by simp [ev_c, ev_put] <;> rfl), (by simp [ev_c, ev_put] <;> rfl)⟩
  · rintro s ⟨tm, rfl, t1, t3, t4⟩
    simp (maxSteps := 1000000) (implicitDefEqProofs := false) (disch := first | with_reducible rfl | omega | (simp only [nA, nS, nD] <;> omega) | fail) only [go_sem, ↓reduceIte, Nat.reduceEqDiff, Nat.reduceAdd, Nat.reduceSub, Nat.reduceMul, reduceCtorEq, Nat.reduceLeDiff, t1, t3, t4, g1, hlenW, Int.lt_irrefl]
    exact q _ s2
/-- The bits so far. -/
def bitsTo (s : Int) (n i : Nat) : List Bool := (List.range n).map fun j => decide (j < i) && bitC s j
theorem bitsTo_len (s : Int) (n i : Nat) : (bitsTo s n i).length = n := by simp [bitsTo]
theorem bitsTo_zero (s : Int) (n : Nat) : bitsTo s n 0 = List.replicate n false := by
  refine List.ext_getElem (by simp [bitsTo]) fun i h1 h2 => ?_
  simp [bitsTo]
theorem bitsTo_step {s : Int} {n i : Nat} (h : i < n) : (bitsTo s n i).set i (bitC s i) = bitsTo s n (i + 1) := by
  refine List.ext_getElem (by simp [bitsTo]) fun k h1 h2 => ?_
  rw [List.getElem_set]
  by_cases e : i = k
  · subst e; simp [bitsTo]
  · rw [if_neg e]
    simp only [bitsTo, List.getElem_map, List.getElem_range]
    congr 1
    rw [Bool.eq_iff_iff]; simp; omega
def bitsA (s : Int) (n : Nat) : List Bool := (List.range n).map (bitC s)
theorem bitsA_len (s : Int) (n : Nat) : (bitsA s n).length = n := by simp [bitsA]
theorem bitsTo_all (s : Int) (n : Nat) : bitsTo s n n = bitsA s n := by
  refine List.map_congr_left fun i hi => ?_
  rw [decide_eq_true (List.mem_range.1 hi), Bool.true_and]
theorem cOf_bitsA {s : Int} {n i : Nat} (h : i < n) : cOf (bitsA s n) i = bitC s i := by
  rw [cOf_at (by rw [bitsA_len]; exact h)]; simp [bitsA]
/-- choice -/
theorem choice_ev {h : H} {v : V} {m : Ml} {s : Int} (hw : h.wf) (hm : MlIs h v m) (hl : m.wgs.length ≤ 10) (s0 : 0 ≤ s) (s1 : s ≤ 1024) (Q : V → H → Prop)
    (q : ∀ b h', h.Sub h' → h.next ≤ b → b < h'.next → h'.get b = some (.cells .rw ((bitsA s m.wgs.length).map V.bool)) → Q (.sl b 0 m.wgs.length (.fix m.wgs.length)) h') : Ev fnG fastA (.fn 102 [] []) [v, .int .i64 s] h Q := by
  obtain ⟨L, W, rfl, aL, aW⟩ := hm
  refine Ev_body (fd := c102) rfl rfl rfl ?_
  have hlenW := aW.lenE
  have s2 : h.Sub ((h.add (.cells .rw [.int .i64 m.errs, L, W])).add (.cells .rw (repN m.wgs.length [.bool false]))) := (by repeat (first | assumption | exact H.Sub.refl (by assumption) | refine H.Sub.add ?_ _ | refine H.Sub.set ?_ (by first | omega | (simp only [H.next_add, H.next_set, H.next_del] <;> omega)) (by first | omega | (simp only [H.next_add, H.next_set, H.next_del] <;> omega)) (by assumption) _))
  simp (maxSteps := 1000000) (implicitDefEqProofs := false) (disch := first | with_reducible rfl | omega | (simp only [nA, nS, nD] <;> omega) | fail) only [c102, go_sem, ↓reduceIte, Nat.reduceEqDiff, Nat.reduceAdd, Nat.reduceSub, Nat.reduceMul, reduceCtorEq, Nat.reduceLeDiff, hlenW, a_msl_nm]
  refine W_count m.wgs.length (fun i st => ∃ tm h', st = ⟨tm, h', []⟩ ∧ h.Sub h' ∧ h.next + 1 < h'.next ∧ h'.get (h.next + 1) = some (.cells .rw ((bitsTo s m.wgs.length i).map V.bool)) ∧ (Opd.t 1).ev tm = .int .i64 (sAt s i) ∧ (Opd.t 5).ev tm = .sl (h.next + 1) 0 m.wgs.length (.fix m.wgs.length) ∧ (Opd.t 6).ev tm = .int .i64 (i : Int))
    ?_ ?_ (i := 0) (Nat.zero_le _) ⟨_, _, rfl, s2, by simp only [H.next_add]; omega, by rw [get_add_new (by rw [H.next_add]), repN_bools, bitsTo_zero], (by simp [ev_c, ev_put] <;> rfl), (by simp [ev_c, ev_put] <;> rfl), (by simp [ev_c, ev_put] <;> rfl)⟩
  · rintro i st hi ⟨tm, h', rfl, hs, lt, gb, t1, t5, t6⟩
    have hi' : (i : Int) < (m.wgs.length : Int) := by omega
    have n0 := sAt_nn s0 i
    have n1 := sAt_le s0 i
    have hput := bools_put (bitsTo s m.wgs.length i) i (bitC s i) (by rw [bitsTo_len]; exact hi)
    rw [bitsTo_step hi] at hput
    have e1 : (sAt s i).tmod 2 = sAt s i % 2 := Int.tmod_eq_emod_of_nonneg n0
    have e2 : wr .i64 ((sAt s i).tdiv 2) = sAt s (i + 1) := by
      rw [Int.tdiv_eq_ediv_of_nonneg n0, wr_in (by omega) (by omega)]; rfl
    have e3 : decide (sAt s i % 2 = 1) = bitC s i := rfl
    simp (maxSteps := 1000000) (implicitDefEqProofs := false) (disch := first | with_reducible rfl | omega | (simp only [nA, nS, nD] <;> omega) | fail) only [go_sem, ↓reduceIte, Nat.reduceEqDiff, Nat.reduceAdd, Nat.reduceSub, Nat.reduceMul, reduceCtorEq, Nat.reduceLeDiff, t1, t5, t6, hi', q_ar_rem .i64 (show (2 : Int) ≠ 0 by decide), q_ar_quo .i64 (show (2 : Int) ≠ 0 by decide), e1, e2, e3, q_iad_sl (nat_cst i) hi, Nat.mul_one, gb, hput, wr_succ]
    exact ⟨_, _, rfl, hs.set (by omega) lt hw _, by rw [H.next_set]; exact lt, get_set_same rfl, (by simp [ev_c, ev_put] <;> rfl), (by simp [ev_c, ev_put, t5] <;> rfl), (by simp [ev_c, ev_put] <;> rfl)⟩
  · rintro st ⟨tm, h', rfl, hs, lt, gb, t1, t5, t6⟩
    simp (maxSteps := 1000000) (implicitDefEqProofs := false) (disch := first | with_reducible rfl | omega | (simp only [nA, nS, nD] <;> omega) | fail) only [go_sem, ↓reduceIte, Nat.reduceEqDiff, Nat.reduceAdd, Nat.reduceSub, Nat.reduceMul, reduceCtorEq, Nat.reduceLeDiff, t1, t5, t6, Int.lt_irrefl]
    rw [bitsTo_all] at gb
    exact q _ _ hs (by omega) lt gb
/-- list -/
theorem list_ev {h : H} {x : V} {cl : List Bool} (hw : h.wf) (hx : SlAt h x 1 (cl.map encBo)) (hl : cl.length ≤ 20) (Q : V → H → Prop) (q : ∀ y h', OwnC h h' y 1 ((lst (cOf cl) cl.length).map encI) → (y = .nils ↔ lst (cOf cl) cl.length = []) → SlAt h' y 1 ((lst (cOf cl) cl.length).map encI) → Q y h') :
    Ev fnG fastA (.fn 103 [] []) [x] h Q := by
  have hlx := hx.lenE
  refine Ev_body (fd := c103) rfl rfl rfl ?_
  simp (maxSteps := 1000000) (implicitDefEqProofs := false) (disch := first | with_reducible rfl | omega | (simp only [nA, nS, nD] <;> omega) | fail) only [c103, go_sem, ↓reduceIte, Nat.reduceEqDiff, Nat.reduceAdd, Nat.reduceSub, Nat.reduceMul, reduceCtorEq, Nat.reduceLeDiff]
  refine W_count cl.length (fun i s => ∃ tm h' y, s = ⟨tm, h', []⟩ ∧ OwnC h h' y 1 ((lst (cOf cl) i).map encI) ∧ (y = .nils ↔ lst (cOf cl) i = []) ∧ (Opd.t 0).ev tm = x ∧ (Opd.t 3).ev tm = y ∧ (Opd.t 4).ev tm = .int .i64 (i : Int))
    ?_ ?_ (i := 0) (Nat.zero_le _) ⟨_, _, .nils, rfl, ⟨H.Sub.refl hw, by simp [lst], .inl ⟨rfl, rfl⟩⟩, by simp [lst], (by simp [ev_c, ev_put] <;> rfl), (by simp [ev_c, ev_put] <;> rfl), (by simp [ev_c, ev_put] <;> rfl)⟩
  · rintro i s hi ⟨tm, h', y, rfl, oy, en, t0, t3, t4⟩
    have hi' : (i : Int) < (cl.length : Int) := by omega
    have hs := oy.1
    have hln := lst_len (cOf cl) i
    obtain ⟨b, o, c, cs, rfl, hc, hq, hg, hn, hn0⟩ := (hx.mono hs).at hi
    have hc0 := cOf_at hi
    cases hb : cl[i]
    · rw [hb] at hc0
      have e1 : lst (cOf cl) (i + 1) = lst (cOf cl) i := by simp [lst, hc0]
      simp (maxSteps := 1000000) (implicitDefEqProofs := false) (disch := first | with_reducible rfl | omega | (simp only [nA, nS, nD] <;> omega) | fail) only [go_sem, ↓reduceIte, Nat.reduceEqDiff, Nat.reduceAdd, Nat.reduceSub, Nat.reduceMul, reduceCtorEq, Nat.reduceLeDiff, t0, t3, t4, hlx, hi', hq (nat_cst i), hc, hn0 (by omega), encBo, hb, wr_succ]
      exact ⟨_, _, y, rfl, by rw [e1]; exact oy, by rw [e1]; exact en, (by simp [ev_c, ev_put, t0] <;> rfl), (by simp [ev_c, ev_put, t3] <;> rfl), (by simp [ev_c, ev_put] <;> rfl)⟩
    · rw [hb] at hc0
      have e1 : lst (cOf cl) (i + 1) = lst (cOf cl) i ++ [(i : Int)] := by simp [lst, hc0]
      simp (maxSteps := 1000000) (implicitDefEqProofs := false) (disch := first | with_reducible rfl | omega | (simp only [nA, nS, nD] <;> omega) | fail) only [go_sem, ↓reduceIte, Nat.reduceEqDiff, Nat.reduceAdd, Nat.reduceSub, Nat.reduceMul, reduceCtorEq, Nat.reduceLeDiff, t0, t3, t4, hlx, hi', hq (nat_cst i), hc, hn0 (by omega), encBo, hb]
      have sA := (H.Sub.refl hs.wf).add (.cells .rw [.int .i64 (i : Int)])
      refine (oy.mono sA).app1 (r := encI (i : Int)) hw rfl (by omega) (own1_lit _) rfl (by simp; omega) (by simp; omega) fun y2 h2 oy2 dy2 ky2 => ?_
      have hne : ¬ y2 = .nils := by
        rintro rfl
        have := oy2.2.2
        rcases this with ⟨_, e⟩ | ⟨_, e, _⟩ | ⟨_, _, _, e, _⟩
        · simp at e
        · cases e
        · cases e
      simp (maxSteps := 1000000) (implicitDefEqProofs := false) (disch := first | with_reducible rfl | omega | (simp only [nA, nS, nD] <;> omega) | fail) only [go_sem, ↓reduceIte, Nat.reduceEqDiff, Nat.reduceAdd, Nat.reduceSub, Nat.reduceMul, reduceCtorEq, Nat.reduceLeDiff, t0, t3, t4, wr_succ]
      exact ⟨_, _, y2, rfl, by rw [e1]; simpa using oy2, by rw [e1]; simp [hne], (by simp [ev_c, ev_put, t0] <;> rfl), (by simp [ev_c, ev_put] <;> rfl), (by simp [ev_c, ev_put] <;> rfl)⟩
  · rintro s ⟨tm, h', y, rfl, oy, en, t0, t3, t4⟩
    have hln := lst_len (cOf cl) cl.length
    simp (maxSteps := 1000000) (implicitDefEqProofs := false) (disch := first | with_reducible rfl | omega | (simp only [nA, nS, nD] <;> omega) | fail) only [go_sem, ↓reduceIte, Nat.reduceEqDiff, Nat.reduceAdd, Nat.reduceSub, Nat.reduceMul, reduceCtorEq, Nat.reduceLeDiff, t0, t3, t4, hlx, Int.lt_irrefl]
    exact q _ _ oy en (oy.sl (by simp; omega))
theorem lexlt_drop {a b : List Int} {i : Nat} (h1 : i < a.length) (h2 : i < b.length) : lexlt (a.drop i) (b.drop i) = if a[i] = b[i] then lexlt (a.drop (i + 1)) (b.drop (i + 1)) else decide (a[i] < b[i]) := by
  rw [List.drop_eq_getElem_cons h1, List.drop_eq_getElem_cons h2]; rfl
/-- before -/
theorem before_ev {h : H} {x y : V} {a b : List Int} (hx : SlAt h x 1 (a.map encI)) (hy : SlAt h y 1 (b.map encI)) (ha : a.length ≤ 20) (hb : b.length ≤ 20) (Q : V → H → Prop) : Ev fnG fastA (.fn 104 [] []) [x, y] h Q = Q (.bool (before a b)) h := by
  have hlx := hx.lenE
  have hly := hy.lenE
  refine Ev.det (Ev_body (fd := c104) rfl rfl rfl ?_) Q
  by_cases e : a.length = b.length
  · have e' : (a.length : Int) = (b.length : Int) := by omega
    simp (maxSteps := 1000000) (implicitDefEqProofs := false) (disch := first | with_reducible rfl | omega | (simp only [nA, nS, nD] <;> omega) | fail) only [c104, go_sem, ↓reduceIte, Nat.reduceEqDiff, Nat.reduceAdd, Nat.reduceSub, Nat.reduceMul, reduceCtorEq, Nat.reduceLeDiff, hlx, hly, e', ne_eq, not_true_eq_false]
    have hbf : before a b = lexlt a b := by unfold before; rw [if_pos e]
    refine W_count a.length (fun i s => ∃ tm, s = ⟨tm, h, []⟩ ∧ lexlt a b = lexlt (a.drop i) (b.drop i) ∧ (Opd.t 0).ev tm = x ∧ (Opd.t 1).ev tm = y ∧ (Opd.t 5).ev tm = .int .i64 (i : Int))
      ?_ ?_ (i := 0) (Nat.zero_le _) ⟨_, rfl, rfl, (by simp [ev_c, ev_put] <;> rfl), (by simp [ev_c, ev_put] <;> rfl), (by simp [ev_c, ev_put] <;> rfl)⟩
    · rintro i s hi ⟨tm, rfl, hd, t0, t1, t5⟩
      have hi' : (i : Int) < (b.length : Int) := by omega
      have hib : i < b.length := by omega
      obtain ⟨b1, o1, c1, cs1, rfl, hc1, hq1, hg1, hn1, hn01⟩ := hx.at hi
      obtain ⟨b2, o2, c2, cs2, rfl, hc2, hq2, hg2, hn2, hn02⟩ := hy.at hib
      have hst := lexlt_drop hi hib
      by_cases he : a[i] = b[i]
      · rw [if_pos he] at hst
        simp (maxSteps := 1000000) (implicitDefEqProofs := false) (disch := first | with_reducible rfl | omega | (simp only [nA, nS, nD] <;> omega) | fail) only [go_sem, ↓reduceIte, Nat.reduceEqDiff, Nat.reduceAdd, Nat.reduceSub, Nat.reduceMul, reduceCtorEq, Nat.reduceLeDiff, t0, t1, t5, hlx, e', hi', hq1 (nat_cst i), hc1, hn01 (by omega), hq2 (nat_cst i), hc2, hn02 (by omega), encI, he, ne_eq, not_true_eq_false, wr_succ]
        exact ⟨_, rfl, by rw [hd, hst], (by simp [ev_c, ev_put, t0] <;> rfl), (by simp [ev_c, ev_put, t1] <;> rfl), (by simp [ev_c, ev_put] <;> rfl)⟩
      · rw [if_neg he] at hst
        simp (maxSteps := 1000000) (implicitDefEqProofs := false) (disch := first | with_reducible rfl | omega | (simp only [nA, nS, nD] <;> omega) | fail) only [go_sem, ↓reduceIte, Nat.reduceEqDiff, Nat.reduceAdd, Nat.reduceSub, Nat.reduceMul, reduceCtorEq, Nat.reduceLeDiff, t0, t1, t5, hlx, e', hi', hq1 (nat_cst i), hc1, hn01 (by omega), hq2 (nat_cst i), hc2, hn02 (by omega), encI, he, ne_eq, not_false_eq_true]
        rw [hbf, hd, hst]
    · rintro s ⟨tm, rfl, hd, t0, t1, t5⟩
      simp (maxSteps := 1000000) (implicitDefEqProofs := false) (disch := first | with_reducible rfl | omega | (simp only [nA, nS, nD] <;> omega) | fail) only [go_sem, ↓reduceIte, Nat.reduceEqDiff, Nat.reduceAdd, Nat.reduceSub, Nat.reduceMul, reduceCtorEq, Nat.reduceLeDiff, t0, t1, t5, hlx, e', Int.lt_irrefl]
      rw [hbf, hd, List.drop_length]
      rfl
  · have e' : ¬ (a.length : Int) = (b.length : Int) := by omega
    have hbf : before a b = decide ((a.length : Int) < (b.length : Int)) := by unfold before; rw [if_neg e, Bool.eq_iff_iff]; simp
    simp (maxSteps := 1000000) (implicitDefEqProofs := false) (disch := first | with_reducible rfl | omega | (simp only [nA, nS, nD] <;> omega) | fail) only [c104, go_sem, ↓reduceIte, Nat.reduceEqDiff, Nat.reduceAdd, Nat.reduceSub, Nat.reduceMul, reduceCtorEq, Nat.reduceLeDiff, hlx, hly, e', ne_eq, not_false_eq_true]
    rw [hbf]
end Go.Ab.Try
set_option linter.unusedSimpArgs false
set_option linter.unusedVariables false
namespace Go.Ab.Try
open Go.Ab.Silk
theorem agree_none {m : Ml} (g : Good m) {c : Nat → Bool} (hc : ∀ k, k < m.wgs.length → c k = false) : agreeB m c = true := by
  rw [← agreeB_iff (t := true)]
  simp only [true_iff]
  refine ⟨fun _ => 0, (own_iff g).2 ⟨fun i _ _ => by omega, fun k hk hc1 => ?_⟩, fun i _ _ _ => ?_⟩
  · rw [hc k hk] at hc1; cases hc1
  · have e0 : ∀ l : List Int, sumL (fun _ => (0 : Int)) l = 0 := fun l => by
      induction l with
      | nil => rfl
      | cons a l ih => simp only [sumL, ih]; omega
    exact (e0 _).symm
theorem bitsL_nil : ∀ (k : Nat) (s i : Int), 0 ≤ s → s < 2 ^ k → bitsL k s i = [] → s = 0
  | 0, s, i, h0, h1, _ => by have : (2 : Int) ^ 0 = 1 := rfl; omega
  | k + 1, s, i, h0, h1, h => by
    have p2 : (2 : Int) ^ (k + 1) = 2 ^ k * 2 := Int.pow_succ 2 k
    simp only [bitsL] at h
    split at h
    · cases h
    · have := bitsL_nil k (s / 2) (i + 1) (by omega) (by omega) h
      omega
theorem bits_zero : ∀ (k : Nat) (i : Int), bitsL k 0 i = []
  | 0, _ => rfl
  | k + 1, i => by simp [bitsL, bits_zero k (i + 1)]
theorem choiceA {m : Ml} {s : Int} : agreeB m (cOf (bitsA s m.wgs.length)) = agreeB m (inL (bitsL m.wgs.length s 0) false) :=
  agreeB_congr fun j hj => by rw [cOf_bitsA hj, inL_bits hj]
theorem lst_choice (s : Int) (n : Nat) : lst (cOf (bitsA s n)) (bitsA s n).length = bitsL n s 0 := by
  rw [bitsA_len, ← lst_bits]
  exact lst_congr fun i hi => cOf_bitsA hi
def Pos (i : Nat) : Prop := 1 ≤ i
theorem Pos.succ (i : Nat) : Pos (i + 1) := Nat.succ_le_succ (Nat.zero_le i)
/-- A list that may not be there. -/
def OptAt (h : H) (y : V) (b : Option (List Int)) : Prop := match b with
  | none => y = .nils
  | some c => SlAt h y 1 (c.map encI) ∧ ¬ y = .nils ∧ c.length ≤ 20
theorem OptAt.mono {h h' : H} {y : V} {b : Option (List Int)} (a : OptAt h y b) (s : h.Sub h') : OptAt h' y b := by
  cases b with
  | none => exact a
  | some c => exact ⟨a.1.mono s, a.2⟩
set_option maxHeartbeats 2000000 in
/-- Clash -/
theorem refClash_ev {h : H} {v : V} {m : Ml} (hw : h.wf) (hm : MlIs h v m) (g : Good m) (hl : m.wgs.length ≤ 10) (Q : V → H → Prop)
    (q : ∀ y h', h.Sub h' → OptAt h' y (firstOf (clashP m) m.wgs.length (m.wgs.length + 1) 0) → Q (.tup [y, .bool (firstOf (clashP m) m.wgs.length (m.wgs.length + 1) 0).isSome]) h') : Ev fnG fastA (.fn 44 [] []) [v] h Q := by
  have hm0 := hm
  obtain ⟨L, W, rfl, aL, aW⟩ := hm
  refine Ev_body (fd := c44) rfl rfl rfl ?_
  have s2 : h.Sub (h.add (.cells .rw [.int .i64 m.errs, L, W])) := (by repeat (first | assumption | exact H.Sub.refl (by assumption) | refine H.Sub.add ?_ _ | refine H.Sub.set ?_ (by first | omega | (simp only [H.next_add, H.next_set, H.next_del] <;> omega)) (by first | omega | (simp only [H.next_add, H.next_set, H.next_del] <;> omega)) (by assumption) _))
  have g1 : (h.add (.cells .rw [.int .i64 m.errs, L, W])).cells h.next = some [.int .i64 m.errs, L, W] := cells_add_new rfl
  have hp := pow_le hl
  have hp1 : 1 ≤ 2 ^ m.wgs.length := Nat.one_le_two_pow
  have h2p : (2 : Int) ^ m.wgs.length = ((2 ^ m.wgs.length : Nat) : Int) := by simp
  simp (maxSteps := 1000000) (implicitDefEqProofs := false) (disch := first | with_reducible rfl | omega | (simp only [nA, nS, nD] <;> omega) | fail) only [c44, go_sem, ↓reduceIte, Nat.reduceEqDiff, Nat.reduceAdd, Nat.reduceSub, Nat.reduceMul, reduceCtorEq, Nat.reduceLeDiff]
  refine W_count (2 ^ m.wgs.length) (fun i s => ∃ tm h' y best, s = ⟨tm, h', []⟩ ∧ (h.add (.cells .rw [.int .i64 m.errs, L, W])).Sub h' ∧ Pos i ∧ BestUpto (clashP m) m.wgs.length 1 (i : Int) best ∧ OptAt h' y best ∧ (Opd.t 1).ev tm = .ptr h.next 0 ∧ (Opd.t 4).ev tm = y ∧ (Opd.t 5).ev tm = .int .i64 (i : Int))
    ?_ ?_ (i := 1) hp1 ⟨_, _, .nils, none, rfl, H.Sub.refl s2.wf, Nat.le_refl _, BestUpto.zero _ _ _, rfl, (by simp [ev_c, ev_put] <;> rfl), (by simp [ev_c, ev_put] <;> rfl), (by simp [ev_c, ev_put] <;> rfl)⟩
  · rintro i s hi ⟨tm, h', y, best, rfl, hs1, i1, hbest, oy, t1, t4, t5⟩
    have hi' : (i : Int) < ((2 ^ m.wgs.length : Nat) : Int) := by omega
    have i1' : 1 ≤ i := i1
    have hs := s2.trans hs1
    have gm := hs1.cells g1
    simp (maxSteps := 1000000) (implicitDefEqProofs := false) (disch := first | with_reducible rfl | omega | (simp only [nA, nS, nD] <;> omega) | fail) only [go_sem, ↓reduceIte, Nat.reduceEqDiff, Nat.reduceAdd, Nat.reduceSub, Nat.reduceMul, reduceCtorEq, Nat.reduceLeDiff, t1, t4, t5, gm]
    refine sets_ev hs.wf (hm0.mono hs) hl _ fun h2 k2 => ?_
    simp (maxSteps := 1000000) (implicitDefEqProofs := false) (disch := first | with_reducible rfl | omega | (simp only [nA, nS, nD] <;> omega) | fail) only [go_sem, ↓reduceIte, Nat.reduceEqDiff, Nat.reduceAdd, Nat.reduceSub, Nat.reduceMul, reduceCtorEq, Nat.reduceLeDiff, t1, t4, t5, k2.cells gm, hi']
    have hs2 := hs.trans k2
    refine choice_ev hs2.wf (hm0.mono hs2) hl (by omega) (by omega) _ fun b h3 k3 nb nb2 gb => ?_
    simp (maxSteps := 1000000) (implicitDefEqProofs := false) (disch := first | with_reducible rfl | omega | (simp only [nA, nS, nD] <;> omega) | fail) only [go_sem, ↓reduceIte, Nat.reduceEqDiff, Nat.reduceAdd, Nat.reduceSub, Nat.reduceMul, reduceCtorEq, Nat.reduceLeDiff, t1, t4, t5]
    have hs3 := hs2.trans k3
    have aC : SlAt h3 (.sl b 0 m.wgs.length (.fix m.wgs.length)) 1 ((bitsA (i : Int) m.wgs.length).map encBo) := bools_sl (cells_of gb) (bitsA_len _ _).symm (by rw [bitsA_len]; omega)
    refine list_ev hs3.wf aC (by rw [bitsA_len]; omega) _ fun z h4 oz zn az => ?_
    have k4 := oz.1
    rw [lst_choice] at zn az
    have hs4 := hs3.trans k4
    have k14 := k2.trans (k3.trans k4)
    have gm4 := k14.cells gm
    have oy4 := oy.mono k14
    have hz0 : ¬ z = .nils := fun e => by
      have := bitsL_nil m.wgs.length (i : Int) 0 (by omega) (by rw [h2p]; omega) (zn.1 e)
      omega
    have hzl : (bitsL m.wgs.length (i : Int) 0).length ≤ 20 := by rw [← lst_bits]; have := lst_len (bitC (i : Int)) m.wgs.length; omega
    have fin : ∀ (h5 : H) (t : Bool), h4.Sub h5 → (t = true ↔ ∃ w, FeasM m (cOf (bitsA (i : Int) m.wgs.length)) w) → clashP m (bitsL m.wgs.length (i : Int) 0) = !t := fun h5 t k5 ht => by
      unfold clashP; rw [← choiceA, ← agreeB_iff ht]
    have take : ∀ h5, h4.Sub h5 → OptAt h5 z (some (bitsL m.wgs.length (i : Int) 0)) := fun h5 k5 => ⟨az.mono k5, hz0, hzl⟩
    cases best with
    | none =>
      have hy : y = .nils := oy
      subst hy
      simp (maxSteps := 1000000) (implicitDefEqProofs := false) (disch := first | with_reducible rfl | omega | (simp only [nA, nS, nD] <;> omega) | fail) only [go_sem, ↓reduceIte, Nat.reduceEqDiff, Nat.reduceAdd, Nat.reduceSub, Nat.reduceMul, reduceCtorEq, Nat.reduceLeDiff, t1, t4, t5, gm4]
      refine (refAgree_ev hs4.wf (hm0.mono hs4) g (aC.mono k4) (bitsA_len _ _)).mono fun u h5 hu => ?_
      obtain ⟨k5, t, rfl, ht⟩ := hu
      have hcl := fin h5 t k5 ht
      cases t
      · simp (maxSteps := 1000000) (implicitDefEqProofs := false) (disch := first | with_reducible rfl | omega | (simp only [nA, nS, nD] <;> omega) | fail) only [go_sem, ↓reduceIte, Nat.reduceEqDiff, Nat.reduceAdd, Nat.reduceSub, Nat.reduceMul, reduceCtorEq, Nat.reduceLeDiff, Bool.not_false, t1, t4, t5, wr_succ]
        exact ⟨_, _, z, _, rfl, hs1.trans (k14.trans k5), Pos.succ i, hbest.take (by rw [hcl]; rfl) (fun c hc => by cases hc), take _ k5, (by simp [ev_c, ev_put, t1] <;> rfl), (by simp [ev_c, ev_put] <;> rfl), (by simp [ev_c, ev_put] <;> rfl)⟩
      · simp (maxSteps := 1000000) (implicitDefEqProofs := false) (disch := first | with_reducible rfl | omega | (simp only [nA, nS, nD] <;> omega) | fail) only [go_sem, ↓reduceIte, Nat.reduceEqDiff, Nat.reduceAdd, Nat.reduceSub, Nat.reduceMul, reduceCtorEq, Nat.reduceLeDiff, Bool.not_true, t1, t4, t5, wr_succ]
        exact ⟨_, _, .nils, none, rfl, hs1.trans (k14.trans k5), Pos.succ i, hbest.skip (.inl (by rw [hcl]; rfl)), rfl, (by simp [ev_c, ev_put, t1] <;> rfl), (by simp [ev_c, ev_put, t4] <;> rfl), (by simp [ev_c, ev_put] <;> rfl)⟩
    | some c =>
      obtain ⟨ay, hyn, hcl20⟩ := id oy4
      have hisn : q_isn false y = some (.bool false) := by
        rcases ay.2.2 with ⟨e, _⟩ | ⟨b', o', c', cs', e, _⟩
        · exact absurd e hyn
        · rw [e]; simp only [go_sem, ↓reduceIte, Nat.reduceEqDiff, Nat.reduceAdd, Nat.reduceSub, Nat.reduceMul, reduceCtorEq, Nat.reduceLeDiff]
      simp (maxSteps := 1000000) (implicitDefEqProofs := false) (disch := first | with_reducible rfl | omega | (simp only [nA, nS, nD] <;> omega) | fail) only [go_sem, ↓reduceIte, Nat.reduceEqDiff, Nat.reduceAdd, Nat.reduceSub, Nat.reduceMul, reduceCtorEq, Nat.reduceLeDiff, t1, t4, t5, hisn, before_ev az ay hzl hcl20]
      cases hbf : before (bitsL m.wgs.length (i : Int) 0) c
      · simp (maxSteps := 1000000) (implicitDefEqProofs := false) (disch := first | with_reducible rfl | omega | (simp only [nA, nS, nD] <;> omega) | fail) only [go_sem, ↓reduceIte, Nat.reduceEqDiff, Nat.reduceAdd, Nat.reduceSub, Nat.reduceMul, reduceCtorEq, Nat.reduceLeDiff, t1, t4, t5, wr_succ]
        exact ⟨_, _, y, some c, rfl, hs1.trans k14, Pos.succ i, hbest.skip (.inr ⟨c, rfl, hbf⟩), oy4, (by simp [ev_c, ev_put, t1] <;> rfl), (by simp [ev_c, ev_put, t4] <;> rfl), (by simp [ev_c, ev_put] <;> rfl)⟩
      · simp (maxSteps := 1000000) (implicitDefEqProofs := false) (disch := first | with_reducible rfl | omega | (simp only [nA, nS, nD] <;> omega) | fail) only [go_sem, ↓reduceIte, Nat.reduceEqDiff, Nat.reduceAdd, Nat.reduceSub, Nat.reduceMul, reduceCtorEq, Nat.reduceLeDiff, t1, t4, t5, gm4]
        refine (refAgree_ev hs4.wf (hm0.mono hs4) g (aC.mono k4) (bitsA_len _ _)).mono fun u h5 hu => ?_
        obtain ⟨k5, t, rfl, ht⟩ := hu
        have hcl := fin h5 t k5 ht
        cases t
        · simp (maxSteps := 1000000) (implicitDefEqProofs := false) (disch := first | with_reducible rfl | omega | (simp only [nA, nS, nD] <;> omega) | fail) only [go_sem, ↓reduceIte, Nat.reduceEqDiff, Nat.reduceAdd, Nat.reduceSub, Nat.reduceMul, reduceCtorEq, Nat.reduceLeDiff, Bool.not_false, t1, t4, t5, wr_succ]
          exact ⟨_, _, z, _, rfl, hs1.trans (k14.trans k5), Pos.succ i, hbest.take (by rw [hcl]; rfl) (fun c' hc => by cases hc; exact hbf), take _ k5, (by simp [ev_c, ev_put, t1] <;> rfl), (by simp [ev_c, ev_put] <;> rfl), (by simp [ev_c, ev_put] <;> rfl)⟩
        · simp (maxSteps := 1000000) (implicitDefEqProofs := false) (disch := first | with_reducible rfl | omega | (simp only [nA, nS, nD] <;> omega) | fail) only [go_sem, ↓reduceIte, Nat.reduceEqDiff, Nat.reduceAdd, Nat.reduceSub, Nat.reduceMul, reduceCtorEq, Nat.reduceLeDiff, Bool.not_true, t1, t4, t5, wr_succ]
          exact ⟨_, _, y, some c, rfl, hs1.trans (k14.trans k5), Pos.succ i, hbest.skip (.inl (by rw [hcl]; rfl)), oy4.mono k5, (by simp [ev_c, ev_put, t1] <;> rfl), (by simp [ev_c, ev_put, t4] <;> rfl), (by simp [ev_c, ev_put] <;> rfl)⟩
  · rintro s ⟨tm, h', y, best, rfl, hs1, i1, hbest, oy, t1, t4, t5⟩
    have hs := s2.trans hs1
    have gm := hs1.cells g1
    have hlast := BestUpto.last (s0 := 1) (by omega) (by rw [h2p]; exact hbest) fun t t0 t1 => by
      have : t = 0 := by omega
      subst this
      rw [bits_zero]
      unfold clashP
      rw [agree_none g fun k hk => by simp [inL]]
      rfl
    simp (maxSteps := 1000000) (implicitDefEqProofs := false) (disch := first | with_reducible rfl | omega | (simp only [nA, nS, nD] <;> omega) | fail) only [go_sem, ↓reduceIte, Nat.reduceEqDiff, Nat.reduceAdd, Nat.reduceSub, Nat.reduceMul, reduceCtorEq, Nat.reduceLeDiff, t1, t4, t5, gm]
    refine sets_ev hs.wf (hm0.mono hs) hl _ fun h2 k2 => ?_
    simp (maxSteps := 1000000) (implicitDefEqProofs := false) (disch := first | with_reducible rfl | omega | (simp only [nA, nS, nD] <;> omega) | fail) only [go_sem, ↓reduceIte, Nat.reduceEqDiff, Nat.reduceAdd, Nat.reduceSub, Nat.reduceMul, reduceCtorEq, Nat.reduceLeDiff, t1, t4, t5, Int.lt_irrefl]
    have hq := q y h2 (hs.trans k2)
    rw [← hlast] at hq
    have hisn : q_isn true y = some (.bool best.isSome) := by
      cases best with
      | none => have hy : y = .nils := oy; rw [hy]; simp only [go_sem, ↓reduceIte, Nat.reduceEqDiff, Nat.reduceAdd, Nat.reduceSub, Nat.reduceMul, reduceCtorEq, Nat.reduceLeDiff]; rfl
      | some c =>
        obtain ⟨ay, hyn, _⟩ := oy
        rcases ay.2.2 with ⟨e, _⟩ | ⟨b', o', c', cs', e, _⟩
        · exact absurd e hyn
        · rw [e]; simp only [go_sem, ↓reduceIte, Nat.reduceEqDiff, Nat.reduceAdd, Nat.reduceSub, Nat.reduceMul, reduceCtorEq, Nat.reduceLeDiff]; rfl
    simp (maxSteps := 1000000) (implicitDefEqProofs := false) (disch := first | with_reducible rfl | omega | (simp only [nA, nS, nD] <;> omega) | fail) only [go_sem, ↓reduceIte, Nat.reduceEqDiff, Nat.reduceAdd, Nat.reduceSub, Nat.reduceMul, reduceCtorEq, Nat.reduceLeDiff, t1, t4, t5, hisn]
    exact hq (oy.mono k2)
end Go.Ab.Try
set_option linter.unusedSimpArgs false
set_option linter.unusedVariables false
namespace Go.Ab.Try
open Go.Ab.Silk
/-- Truths of which the first ones have been turned. -/
def flip (l : List Bool) (i : Nat) : List Bool := (l.take i).map (fun b => !b) ++ l.drop i
theorem flip_len (l : List Bool) (i : Nat) : (flip l i).length = l.length := by simp [flip]; omega
theorem flip_at {l : List Bool} {i : Nat} (h : i < l.length) : (flip l i)[i]'(by rw [flip_len]; exact h) = l[i] := by
  simp only [flip]
  rw [List.getElem_append_right (by simp; omega)]
  simp [List.getElem_drop, Nat.min_eq_left (Nat.le_of_lt h)]
theorem flip_step {l : List Bool} {i : Nat} (h : i < l.length) : (flip l i).set i (!l[i]) = flip l (i + 1) := by
  have h1 : ((l.take i).map (fun b => !b)).length = i := by simp; omega
  simp only [flip]
  rw [List.set_append_right _ _ (by omega), h1, Nat.sub_self, List.drop_eq_getElem_cons h, List.set_cons_zero, List.take_succ_eq_append_getElem h]
  simp only [List.map_append, List.map_cons, List.map_nil, List.append_assoc, List.cons_append, List.nil_append]
theorem flip_all (l : List Bool) : flip l l.length = l.map (fun b => !b) := by simp [flip]
theorem choiceN {m : Ml} {s : Int} : agreeB m (cOf ((bitsA s m.wgs.length).map fun b => !b)) = agreeB m (inL (bitsL m.wgs.length s 0) true) :=
  agreeB_congr fun j hj => by
    rw [inL_not, inL_bits hj, ← cOf_bitsA hj, cOf_at (by simp [bitsA_len]; exact hj), cOf_at (by simp [bitsA_len]; exact hj)]; simp
set_option maxHeartbeats 2000000 in
/-- Wrong -/
theorem refWrong_ev {h : H} {v : V} {m : Ml} (hw : h.wf) (hm : MlIs h v m) (g : Good m) (hl : m.wgs.length ≤ 10) (Q : V → H → Prop)
    (q : ∀ y h', h.Sub h' → ((firstOf (wrongP m) m.wgs.length (m.wgs.length + 1) 0 = none → y = .nils) ∧ ∀ c, firstOf (wrongP m) m.wgs.length (m.wgs.length + 1) 0 = some c → SlAt h' y 1 (c.map encI)) → Q y h') : Ev fnG fastA (.fn 45 [] []) [v] h Q := by
  have hm0 := hm
  obtain ⟨L, W, rfl, aL, aW⟩ := hm
  refine Ev_body (fd := c45) rfl rfl rfl ?_
  have s2 : h.Sub (h.add (.cells .rw [.int .i64 m.errs, L, W])) := (by repeat (first | assumption | exact H.Sub.refl (by assumption) | refine H.Sub.add ?_ _ | refine H.Sub.set ?_ (by first | omega | (simp only [H.next_add, H.next_set, H.next_del] <;> omega)) (by first | omega | (simp only [H.next_add, H.next_set, H.next_del] <;> omega)) (by assumption) _))
  have g1 : (h.add (.cells .rw [.int .i64 m.errs, L, W])).cells h.next = some [.int .i64 m.errs, L, W] := cells_add_new rfl
  have hp := pow_le hl
  have h2p : (2 : Int) ^ m.wgs.length = ((2 ^ m.wgs.length : Nat) : Int) := by simp
  simp (maxSteps := 1000000) (implicitDefEqProofs := false) (disch := first | with_reducible rfl | omega | (simp only [nA, nS, nD] <;> omega) | fail) only [c45, go_sem, ↓reduceIte, Nat.reduceEqDiff, Nat.reduceAdd, Nat.reduceSub, Nat.reduceMul, reduceCtorEq, Nat.reduceLeDiff]
  refine W_count (2 ^ m.wgs.length) (fun i s => ∃ tm h' y best, s = ⟨tm, h', []⟩ ∧ (h.add (.cells .rw [.int .i64 m.errs, L, W])).Sub h' ∧ BestUpto (wrongP m) m.wgs.length 0 (i : Int) best ∧ ((best = none → y = .nils) ∧ ∀ c, best = some c → SlAt h' y 1 (c.map encI) ∧ c.length ≤ 20) ∧ (Opd.t 1).ev tm = .ptr h.next 0 ∧ (Opd.t 3).ev tm = y ∧ (Opd.t 4).ev tm = .bool best.isSome ∧ (Opd.t 5).ev tm = .int .i64 (i : Int))
    ?_ ?_ (i := 0) (Nat.zero_le _) ⟨_, _, .nils, none, rfl, H.Sub.refl s2.wf, BestUpto.zero _ _ _, ⟨fun _ => rfl, fun c hc => by cases hc⟩, (by simp [ev_c, ev_put] <;> rfl), (by simp [ev_c, ev_put] <;> rfl), (by simp [ev_c, ev_put] <;> rfl), (by simp [ev_c, ev_put] <;> rfl)⟩
  · rintro i s hi ⟨tm, h', y, best, rfl, hs1, hbest, ⟨oy0, oy⟩, t1, t3, t4, t5⟩
    have hi' : (i : Int) < ((2 ^ m.wgs.length : Nat) : Int) := by omega
    have hs := s2.trans hs1
    have gm := hs1.cells g1
    simp (maxSteps := 1000000) (implicitDefEqProofs := false) (disch := first | with_reducible rfl | omega | (simp only [nA, nS, nD] <;> omega) | fail) only [go_sem, ↓reduceIte, Nat.reduceEqDiff, Nat.reduceAdd, Nat.reduceSub, Nat.reduceMul, reduceCtorEq, Nat.reduceLeDiff, t1, t3, t4, t5, gm]
    refine sets_ev hs.wf (hm0.mono hs) hl _ fun h2 k2 => ?_
    simp (maxSteps := 1000000) (implicitDefEqProofs := false) (disch := first | with_reducible rfl | omega | (simp only [nA, nS, nD] <;> omega) | fail) only [go_sem, ↓reduceIte, Nat.reduceEqDiff, Nat.reduceAdd, Nat.reduceSub, Nat.reduceMul, reduceCtorEq, Nat.reduceLeDiff, t1, t3, t4, t5, k2.cells gm, hi']
    have hs2 := hs.trans k2
    refine choice_ev hs2.wf (hm0.mono hs2) hl (by omega) (by omega) _ fun b h3 k3 nb nb2 gb => ?_
    simp (maxSteps := 1000000) (implicitDefEqProofs := false) (disch := first | with_reducible rfl | omega | (simp only [nA, nS, nD] <;> omega) | fail) only [go_sem, ↓reduceIte, Nat.reduceEqDiff, Nat.reduceAdd, Nat.reduceSub, Nat.reduceMul, reduceCtorEq, Nat.reduceLeDiff, t1, t3, t4, t5]
    have hs3 := hs2.trans k3
    have aC : SlAt h3 (.sl b 0 m.wgs.length (.fix m.wgs.length)) 1 ((bitsA (i : Int) m.wgs.length).map encBo) := bools_sl (cells_of gb) (bitsA_len _ _).symm (by rw [bitsA_len]; omega)
    refine list_ev hs3.wf aC (by rw [bitsA_len]; omega) _ fun z h4 oz zn az => ?_
    have k4 := oz.1
    rw [lst_choice] at zn az oz
    have hs4 := hs3.trans k4
    have k14 := k2.trans (k3.trans k4)
    have gm4 := k14.cells gm
    have gb4 := k4.get gb
    have lb4 : b < h4.next := by have := k4.next; omega
    have hnb : h'.next ≤ b := by have := k2.next; omega
    have hzl : (bitsL m.wgs.length (i : Int) 0).length ≤ 20 := by rw [← lst_bits]; have := lst_len (bitC (i : Int)) m.wgs.length; omega
    have az1 := az.one
    have hlB : (bitsA (i : Int) m.wgs.length).length = m.wgs.length := bitsA_len _ _
    have oz2 := oz.base k3
    have hzb : ∀ c, blkOf z c → ¬ c = b := fun c hc => by have := (oz.blk hc).1; omega
    by_cases hskip : ∃ c, best = some c ∧ before (bitsL m.wgs.length (i : Int) 0) c = false
    · obtain ⟨c, rfl, hbf⟩ := hskip
      obtain ⟨ay, hc20⟩ := oy c rfl
      have t4' : (Opd.t 4).ev tm = .bool true := t4
      simp (maxSteps := 1000000) (implicitDefEqProofs := false) (disch := first | with_reducible rfl | omega | (simp only [nA, nS, nD] <;> omega) | fail) only [go_sem, ↓reduceIte, Nat.reduceEqDiff, Nat.reduceAdd, Nat.reduceSub, Nat.reduceMul, reduceCtorEq, Nat.reduceLeDiff, t1, t3, t4', t5, before_ev az (ay.mono k14) hzl hc20, hbf, Bool.not_false, wr_succ]
      exact ⟨_, _, y, some c, rfl, hs1.trans k14, hbest.skip (.inr ⟨c, rfl, hbf⟩), ⟨fun e => by (cases e), fun c' hc => by cases hc; exact ⟨ay.mono k14, hc20⟩⟩, (by simp [ev_c, ev_put, t1] <;> rfl), (by simp [ev_c, ev_put, t3] <;> rfl), (by simp [ev_c, ev_put, t4'] <;> rfl), (by simp [ev_c, ev_put] <;> rfl)⟩
    have htk : ∀ c, best = some c → before (bitsL m.wgs.length (i : Int) 0) c = true := fun c hc => by
      cases hbf : before (bitsL m.wgs.length (i : Int) 0) c
      · exact absurd ⟨c, hc, hbf⟩ hskip
      · rfl
    rcases hbb : best with _ | c
    case' none =>
      have t4' : (Opd.t 4).ev tm = .bool false := by rw [hbb] at t4; exact t4
      simp (maxSteps := 1000000) (implicitDefEqProofs := false) (disch := first | with_reducible rfl | omega | (simp only [nA, nS, nD] <;> omega) | fail) only [go_sem, ↓reduceIte, Nat.reduceEqDiff, Nat.reduceAdd, Nat.reduceSub, Nat.reduceMul, reduceCtorEq, Nat.reduceLeDiff, t1, t3, t4', t5]
    case' some =>
      have t4' : (Opd.t 4).ev tm = .bool true := by rw [hbb] at t4; exact t4
      obtain ⟨ay, hc20⟩ := oy c hbb
      simp (maxSteps := 1000000) (implicitDefEqProofs := false) (disch := first | with_reducible rfl | omega | (simp only [nA, nS, nD] <;> omega) | fail) only [go_sem, ↓reduceIte, Nat.reduceEqDiff, Nat.reduceAdd, Nat.reduceSub, Nat.reduceMul, reduceCtorEq, Nat.reduceLeDiff, t1, t3, t4', t5, before_ev az (ay.mono k14) hzl hc20, htk c hbb, Bool.not_true]
    all_goals
      refine W_count m.wgs.length (fun j s => ∃ tm h5, s = ⟨tm, h5, []⟩ ∧ h2.Sub h5 ∧ Keeps (fun c => c = b) h4 h5 ∧ h5.wf ∧ h5.get b = some (.cells .rw ((flip (bitsA (i : Int) m.wgs.length) j).map V.bool)) ∧ (Opd.t 1).ev tm = .ptr h.next 0 ∧ (Opd.t 3).ev tm = y ∧ (Opd.t 4).ev tm = .bool best.isSome ∧ (Opd.t 5).ev tm = .int .i64 (i : Int) ∧ (Opd.t 6).ev tm = .sl b 0 m.wgs.length (.fix m.wgs.length) ∧ (Opd.t 7).ev tm = z ∧ (Opd.t 8).ev tm = .int .i64 (j : Int))
        ?_ ?_ (i := 0) (Nat.zero_le _) ⟨_, _, rfl, k3.trans k4, Keeps.refl _ _, hs4.wf, by simpa [flip] using gb4, (by simp [ev_c, ev_put, t1] <;> rfl), (by simp [ev_c, ev_put, t3] <;> rfl), (by simp [ev_c, ev_put, t4] <;> rfl), (by simp [ev_c, ev_put, t5] <;> rfl), (by simp [ev_c, ev_put] <;> rfl), (by simp [ev_c, ev_put] <;> rfl), (by simp [ev_c, ev_put] <;> rfl)⟩
      · rintro j s hj ⟨tm, h5, rfl, k25, k45, w5, g5, t1, t3, t4, t5, t6, t7, t8⟩
        have hj' : (j : Int) < (m.wgs.length : Int) := by omega
        have l5 := w5 _ _ g5
        have hjl : j < (bitsA (i : Int) m.wgs.length).length := by omega
        have hjf : j < (flip (bitsA (i : Int) m.wgs.length) j).length := by rw [flip_len]; exact hjl
        have hnth := bools_nth (flip (bitsA (i : Int) m.wgs.length) j) j hjf
        rw [flip_at hjl] at hnth
        have hput := bools_put (flip (bitsA (i : Int) m.wgs.length) j) j (!(bitsA (i : Int) m.wgs.length)[j]) hjf
        rw [flip_step hjl] at hput
        simp (maxSteps := 1000000) (implicitDefEqProofs := false) (disch := first | with_reducible rfl | omega | (simp only [nA, nS, nD] <;> omega) | fail) only [go_sem, ↓reduceIte, Nat.reduceEqDiff, Nat.reduceAdd, Nat.reduceSub, Nat.reduceMul, reduceCtorEq, Nat.reduceLeDiff, t1, t3, t4, t5, t6, t7, t8, hj', q_iad_sl (nat_cst j) hj, Nat.mul_one, g5, cells_of g5, hnth, hput, wr_succ]
        have kS := Keeps.set h5 b (.cells .rw ((flip (bitsA (i : Int) m.wgs.length) (j + 1)).map V.bool))
        have wS := H.wf_set w5 (.cells .rw ((flip (bitsA (i : Int) m.wgs.length) (j + 1)).map V.bool)) g5
        exact ⟨_, _, rfl, kS.sub k25 hs2.wf (fun c hc => by omega) wS, (k45.trans kS).mono fun c h => by (rcases h with h | h <;> exact h), wS, get_set_same rfl, (by simp [ev_c, ev_put, t1] <;> rfl), (by simp [ev_c, ev_put, t3] <;> rfl), (by simp [ev_c, ev_put, t4] <;> rfl), (by simp [ev_c, ev_put, t5] <;> rfl), (by simp [ev_c, ev_put, t6] <;> rfl), (by simp [ev_c, ev_put, t7] <;> rfl), (by simp [ev_c, ev_put] <;> rfl)⟩
      · rintro s ⟨tm, h5, rfl, k25, k45, w5, g5, t1, t3, t4, t5, t6, t7, t8⟩
        have hs5 := hs2.trans k25
        have gm5 := (k2.trans k25).cells gm
        have hfa := flip_all (bitsA (i : Int) m.wgs.length)
        rw [hlB] at hfa
        rw [hfa] at g5
        have aN : SlAt h5 (.sl b 0 m.wgs.length (.fix m.wgs.length)) 1 (((bitsA (i : Int) m.wgs.length).map fun b => !b).map encBo) := bools_sl (cells_of g5) (by simp [hlB]) (by simp [hlB]; omega)
        simp (maxSteps := 1000000) (implicitDefEqProofs := false) (disch := first | with_reducible rfl | omega | (simp only [nA, nS, nD] <;> omega) | fail) only [go_sem, ↓reduceIte, Nat.reduceEqDiff, Nat.reduceAdd, Nat.reduceSub, Nat.reduceMul, reduceCtorEq, Nat.reduceLeDiff, t1, t3, t4, t5, t6, t7, t8, Int.lt_irrefl, gm5]
        refine (refAgree_ev hs5.wf (hm0.mono hs5) g aN (by simp [hlB])).mono fun u h6 hu => ?_
        obtain ⟨k6, t, rfl, ht⟩ := hu
        have hcl : wrongP m (bitsL m.wgs.length (i : Int) 0) = t := by
          unfold wrongP; rw [← choiceN, ← agreeB_iff ht]
        have k16 := k2.trans (k25.trans k6)
        cases t
        · simp (maxSteps := 1000000) (implicitDefEqProofs := false) (disch := first | with_reducible rfl | omega | (simp only [nA, nS, nD] <;> omega) | fail) only [go_sem, ↓reduceIte, Nat.reduceEqDiff, Nat.reduceAdd, Nat.reduceSub, Nat.reduceMul, reduceCtorEq, Nat.reduceLeDiff, t1, t3, t4, t5, t6, t7, wr_succ]
          exact ⟨_, _, y, best, rfl, hs1.trans k16, hbest.skip (.inl hcl), ⟨oy0, fun c hc => ⟨(oy c hc).1.mono k16, (oy c hc).2⟩⟩, (by simp [ev_c, ev_put, t1] <;> rfl), (by simp [ev_c, ev_put, t3] <;> rfl), (by simp [ev_c, ev_put, t4] <;> rfl), (by simp [ev_c, ev_put] <;> rfl)⟩
        · simp (maxSteps := 1000000) (implicitDefEqProofs := false) (disch := first | with_reducible rfl | omega | (simp only [nA, nS, nD] <;> omega) | fail) only [go_sem, ↓reduceIte, Nat.reduceEqDiff, Nat.reduceAdd, Nat.reduceSub, Nat.reduceMul, reduceCtorEq, Nat.reduceLeDiff, t1, t3, t4, t5, t6, t7, wr_succ]
          have az5 := (oz2.keep k45 k25 hzb).sl (by simp; omega)
          exact ⟨_, _, z, some _, rfl, hs1.trans k16, hbest.take hcl htk, ⟨fun e => by (cases e), fun c' hc => by cases hc; exact ⟨az5.mono k6, hzl⟩⟩, (by simp [ev_c, ev_put, t1] <;> rfl), (by simp [ev_c, ev_put] <;> rfl), (by simp [ev_c, ev_put] <;> rfl), (by simp [ev_c, ev_put] <;> rfl)⟩
  · rintro s ⟨tm, h', y, best, rfl, hs1, hbest, ⟨oy0, oy⟩, t1, t3, t4, t5⟩
    have hs := s2.trans hs1
    have gm := hs1.cells g1
    have hlast := BestUpto.last (s0 := 0) (by omega) (by rw [h2p]; exact hbest) fun t t0 t1 => by omega
    simp (maxSteps := 1000000) (implicitDefEqProofs := false) (disch := first | with_reducible rfl | omega | (simp only [nA, nS, nD] <;> omega) | fail) only [go_sem, ↓reduceIte, Nat.reduceEqDiff, Nat.reduceAdd, Nat.reduceSub, Nat.reduceMul, reduceCtorEq, Nat.reduceLeDiff, t1, t3, t4, t5, gm]
    refine sets_ev hs.wf (hm0.mono hs) hl _ fun h2 k2 => ?_
    simp (maxSteps := 1000000) (implicitDefEqProofs := false) (disch := first | with_reducible rfl | omega | (simp only [nA, nS, nD] <;> omega) | fail) only [go_sem, ↓reduceIte, Nat.reduceEqDiff, Nat.reduceAdd, Nat.reduceSub, Nat.reduceMul, reduceCtorEq, Nat.reduceLeDiff, t1, t3, t4, t5, Int.lt_irrefl]
    have hq := q y h2 (hs.trans k2)
    rw [← hlast] at hq
    exact hq ⟨oy0, fun c hc => (oy c hc).1.mono k2⟩
end Go.Ab.Try
set_option linter.unusedSimpArgs false
set_option linter.unusedVariables false
namespace Go.Ab.Try
open Go.Ab.Silk
/-- The marks of the first numbers of a list. -/
def marks (l : List Int) (n i : Nat) : List Bool := (List.range n).map fun (j : Nat) => decide ((j : Int) ∈ l.take i)
theorem marks_len (l : List Int) (n i : Nat) : (marks l n i).length = n := by simp [marks]
theorem marks_zero (l : List Int) (n : Nat) : marks l n 0 = List.replicate n false := by
  refine List.ext_getElem (by simp [marks]) fun i h1 h2 => ?_
  simp [marks]
theorem marks_at {l : List Int} {n i k : Nat} (h : k < n) : (marks l n i)[k]'(by rw [marks_len]; exact h) = decide ((k : Int) ∈ l.take i) := by simp [marks]
theorem marks_step {l : List Int} {n i k : Nat} (h : i < l.length) (hk : l[i] = (k : Int)) (hn : k < n) : (marks l n i).set k true = marks l n (i + 1) := by
  refine List.ext_getElem (by simp [marks]) fun j h1 h2 => ?_
  rw [List.getElem_set]
  by_cases e : k = j
  · subst e; simp [marks, List.take_succ_eq_append_getElem h, hk]
  · rw [if_neg e]
    simp only [marks, List.getElem_map, List.getElem_range, List.take_succ_eq_append_getElem h, hk, List.mem_append, List.mem_singleton]
    rw [Bool.eq_iff_iff]; simp; omega
theorem marksA {m : Ml} {l : List Int} : agreeB m (cOf (marks l m.wgs.length l.length)) = agreeB m (inL l false) :=
  agreeB_congr fun j hj => by
    rw [cOf_at (by rw [marks_len]; exact hj), marks_at hj, List.take_length]
    unfold inL; cases decide ((j : Int) ∈ l) <;> rfl
theorem all_take {l : List Int} {p : Int → Bool} {i : Nat} (h : i < l.length) : (l.take (i + 1)).all p = ((l.take i).all p && p l[i]) := by
  rw [List.take_succ_eq_append_getElem h, List.all_append]; simp
theorem all_no {l : List Int} {p : Int → Bool} {i : Nat} (h : i < l.length) (hp : p l[i] = false) : l.all p = false := by
  rw [List.all_eq_false]
  exact ⟨l[i], List.getElem_mem h, by rw [hp]; simp⟩
/-- The error of a list, where the mill is right. -/
def listR (m : Ml) (l : List Int) : Int := if knownB m l = false then 1 else if dupAt l l.length = true then 5 else 0
set_option maxHeartbeats 2000000 in
/-- Listed -/
theorem Listed_ev {h : H} {v K : V} {m : Ml} {ws : List Int} (hw : h.wf) (hm : MlIs h v m) (g : Good m) (hK : SlAt h K 1 (ws.map encI)) (hl : ws.length ≤ 100) (Q : V → H → Prop)
    (q : ∀ x h', h.Sub h' → x.one = true → (listR m ws = 0 → SlAt h' x 1 ((marks ws m.wgs.length ws.length).map encBo)) → Q (.tup [x, .int .i64 (listR m ws)]) h') : Ev fnG fastA (.fn 43 [] []) [v, K] h Q := by
  obtain ⟨L, W, rfl, aL, aW⟩ := hm
  refine Ev_body (fd := c43) rfl rfl rfl ?_
  have hlenW := aW.lenE
  have hlenK := hK.lenE
  have gw := g.wgs
  have hwr : wr .i64 ((m.wgs.length : Int) - 1) = (m.wgs.length : Int) - 1 := wr_in (by omega) (by omega)
  have s2 : h.Sub ((h.add (.cells .rw [.int .i64 m.errs, L, W])).add (.cells .rw (repN m.wgs.length [.bool false]))) := (by repeat (first | assumption | exact H.Sub.refl (by assumption) | refine H.Sub.add ?_ _ | refine H.Sub.set ?_ (by first | omega | (simp only [H.next_add, H.next_set, H.next_del] <;> omega)) (by first | omega | (simp only [H.next_add, H.next_set, H.next_del] <;> omega)) (by assumption) _))
  have gb : ((h.add (.cells .rw [.int .i64 m.errs, L, W])).add (.cells .rw (repN m.wgs.length [.bool false]))).get (h.next + 1) = some (.cells .rw ((marks ws m.wgs.length 0).map V.bool)) := by rw [get_add_new (by rw [H.next_add]), repN_bools, marks_zero]
  have lt2 : h.next + 1 < ((h.add (.cells .rw [.int .i64 m.errs, L, W])).add (.cells .rw (repN m.wgs.length [.bool false]))).next := by simp only [H.next_add]; omega
  simp (maxSteps := 1000000) (implicitDefEqProofs := false) (disch := first | with_reducible rfl | omega | (simp only [nA, nS, nD] <;> omega) | fail) only [c43, go_sem, ↓reduceIte, Nat.reduceEqDiff, Nat.reduceAdd, Nat.reduceSub, Nat.reduceMul, reduceCtorEq, Nat.reduceLeDiff, hlenW, a_msl_nm]
  generalize ((h.add (.cells .rw [.int .i64 m.errs, L, W])).add (.cells .rw (repN m.wgs.length [.bool false]))) = h2 at s2 gb lt2 ⊢
  refine W_count ws.length (fun i s => ∃ tm, s = ⟨tm, h2, []⟩ ∧ (ws.take i).all (fun n => inB n 0 ((m.wgs.length : Int) - 1)) = true ∧ (Opd.t 1).ev tm = K ∧ (Opd.t 6).ev tm = .sl (h.next + 1) 0 m.wgs.length (.fix m.wgs.length) ∧ (Opd.t 7).ev tm = .int .i64 (i : Int))
    ?_ ?_ (i := 0) (Nat.zero_le _) ⟨_, rfl, rfl, (by simp [ev_c, ev_put] <;> rfl), (by simp [ev_c, ev_put] <;> rfl), (by simp [ev_c, ev_put] <;> rfl)⟩
  · rintro i s hi ⟨tm, rfl, hall, t1, t6, t7⟩
    have hi' : (i : Int) < (ws.length : Int) := by omega
    obtain ⟨b, o, c, cs, rfl, hc, hq, hg, hn, hn0⟩ := (hK.mono s2).at hi
    cases hin : inB ws[i] 0 ((m.wgs.length : Int) - 1)
    · have hk0 : knownB m ws = false := all_no (p := fun n => inB n 0 ((m.wgs.length : Int) - 1)) hi hin
      have e1 : listR m ws = 1 := by unfold listR; rw [if_pos hk0]
      simp (maxSteps := 1000000) (implicitDefEqProofs := false) (disch := first | with_reducible rfl | omega | (simp only [nA, nS, nD] <;> omega) | fail) only [go_sem, ↓reduceIte, Nat.reduceEqDiff, Nat.reduceAdd, Nat.reduceSub, Nat.reduceMul, reduceCtorEq, Nat.reduceLeDiff, t1, t6, t7, hi', hq (nat_cst i), hc, hn0 (by omega), encI, hwr, off_ev, hin, Bool.not_false]
      have := q .nils h2 s2 rfl
      rw [e1] at this
      exact this fun e => by omega
    · simp (maxSteps := 1000000) (implicitDefEqProofs := false) (disch := first | with_reducible rfl | omega | (simp only [nA, nS, nD] <;> omega) | fail) only [go_sem, ↓reduceIte, Nat.reduceEqDiff, Nat.reduceAdd, Nat.reduceSub, Nat.reduceMul, reduceCtorEq, Nat.reduceLeDiff, t1, t6, t7, hi', hq (nat_cst i), hc, hn0 (by omega), encI, hwr, off_ev, hin, Bool.not_true, wr_succ]
      exact ⟨_, rfl, by rw [all_take hi, hall, hin]; rfl, (by simp [ev_c, ev_put, t1] <;> rfl), (by simp [ev_c, ev_put, t6] <;> rfl), (by simp [ev_c, ev_put] <;> rfl)⟩
  · rintro s ⟨tm, rfl, hall, t1, t6, t7⟩
    rw [List.take_length] at hall
    simp (maxSteps := 1000000) (implicitDefEqProofs := false) (disch := first | with_reducible rfl | omega | (simp only [nA, nS, nD] <;> omega) | fail) only [go_sem, ↓reduceIte, Nat.reduceEqDiff, Nat.reduceAdd, Nat.reduceSub, Nat.reduceMul, reduceCtorEq, Nat.reduceLeDiff, t1, t6, t7, hlenK, Int.lt_irrefl]
    refine W_count ws.length (fun i s => ∃ tm h', s = ⟨tm, h', []⟩ ∧ h.Sub h' ∧ h.next + 1 < h'.next ∧ h'.get (h.next + 1) = some (.cells .rw ((marks ws m.wgs.length i).map V.bool)) ∧ dupAt ws i = false ∧ (Opd.t 1).ev tm = K ∧ (Opd.t 6).ev tm = .sl (h.next + 1) 0 m.wgs.length (.fix m.wgs.length) ∧ (Opd.t 8).ev tm = .int .i64 (i : Int))
      ?_ ?_ (i := 0) (Nat.zero_le _) ⟨_, _, rfl, s2, lt2, gb, rfl, (by simp [ev_c, ev_put, t1] <;> rfl), (by simp [ev_c, ev_put, t6] <;> rfl), (by simp [ev_c, ev_put] <;> rfl)⟩
    · rintro i s hi ⟨tm, h', rfl, hs, lt, gb, hdup, t1, t6, t8⟩
      have hi' : (i : Int) < (ws.length : Int) := by omega
      obtain ⟨b, o, c, cs, rfl, hc, hq, hg, hn, hn0⟩ := (hK.mono hs).at hi
      have hst := dupAt_step hi
      rw [hdup, Bool.false_or] at hst
      have hin : inB ws[i] 0 ((m.wgs.length : Int) - 1) = true := List.all_eq_true.1 hall _ (List.getElem_mem hi)
      have hn00 := hn0 (by omega)
      obtain ⟨k, hk, hkn⟩ : ∃ k : Nat, ws[i] = (k : Int) ∧ k < m.wgs.length := by
        simp only [inB, decide_eq_true_eq] at hin
        exact ⟨ws[i].toNat, by omega, by omega⟩
      have hn1 : nth (o + i) cs = some (.int .i64 (k : Int)) := by rw [Nat.mul_one] at hn00; rw [hn00, ← hk]; rfl
      have hnth := bools_nth (marks ws m.wgs.length i) k (by rw [marks_len]; exact hkn)
      rw [marks_at hkn] at hnth
      have hput := bools_put (marks ws m.wgs.length i) k true (by rw [marks_len]; exact hkn)
      rw [marks_step hi hk hkn] at hput
      by_cases hd : (k : Int) ∈ ws.take i
      · have e1 : listR m ws = 5 := by
          have := dupAt_up (l := ws) (k := i + 1) (by rw [hst, hk]; simp [hd]) ws.length (by omega)
          unfold listR knownB
          rw [hall, if_neg (by simp), if_pos this]
        have hd' : decide ((k : Int) ∈ ws.take i) = true := decide_eq_true hd
        rw [hd'] at hnth
        simp (maxSteps := 1000000) (implicitDefEqProofs := false) (disch := first | with_reducible rfl | omega | (simp only [nA, nS, nD] <;> omega) | fail) only [go_sem, ↓reduceIte, Nat.reduceEqDiff, Nat.reduceAdd, Nat.reduceSub, Nat.reduceMul, reduceCtorEq, Nat.reduceLeDiff, t1, t6, t8, hi', hq (nat_cst i), hc, hn1, q_iad_sl (nat_cst k) hkn, Nat.mul_one, cells_of gb, hnth]
        have := q .nils h' hs rfl
        rw [e1] at this
        exact this fun e => by omega
      · have hd' : decide ((k : Int) ∈ ws.take i) = false := decide_eq_false hd
        rw [hd'] at hnth
        simp (maxSteps := 1000000) (implicitDefEqProofs := false) (disch := first | with_reducible rfl | omega | (simp only [nA, nS, nD] <;> omega) | fail) only [go_sem, ↓reduceIte, Nat.reduceEqDiff, Nat.reduceAdd, Nat.reduceSub, Nat.reduceMul, reduceCtorEq, Nat.reduceLeDiff, t1, t6, t8, hi', hq (nat_cst i), hc, hn1, q_iad_sl (nat_cst k) hkn, Nat.mul_one, gb, cells_of gb, hnth, hput, wr_succ]
        exact ⟨_, _, rfl, hs.set (by omega) lt hw _, by rw [H.next_set]; exact lt, get_set_same rfl, by rw [hst, hk]; exact hd', (by simp [ev_c, ev_put, t1] <;> rfl), (by simp [ev_c, ev_put, t6] <;> rfl), (by simp [ev_c, ev_put] <;> rfl)⟩
    · rintro s ⟨tm, h', rfl, hs, lt, gb, hdup, t1, t6, t8⟩
      have e1 : listR m ws = 0 := by
        unfold listR knownB
        rw [hall, if_neg (by simp), if_neg (by rw [hdup]; simp)]
      simp (maxSteps := 1000000) (implicitDefEqProofs := false) (disch := first | with_reducible rfl | omega | (simp only [nA, nS, nD] <;> omega) | fail) only [go_sem, ↓reduceIte, Nat.reduceEqDiff, Nat.reduceAdd, Nat.reduceSub, Nat.reduceMul, reduceCtorEq, Nat.reduceLeDiff, t1, t6, t8, hlenK, Int.lt_irrefl]
      have := q (.sl (h.next + 1) 0 m.wgs.length (.fix m.wgs.length)) h' hs rfl
      rw [e1] at this
      exact this fun _ => bools_sl (cells_of gb) (by rw [marks_len]) (by rw [marks_len]; omega)
end Go.Ab.Try
set_option linter.unusedSimpArgs false
set_option linter.unusedVariables false
namespace Go.Ab.Try
open Go.Ab.Silk
set_option maxHeartbeats 4000000 in
theorem SilkClashes_ev {h : H} {v K : V} {m : Ml} {ws : List Int} (hw : h.wf) (hm : MlIs h v m) (hk : SlAt h K 1 (ws.map encI)) : Ev fnG fastA (.fn 8 [] []) [v, K] h fun u h' => u = .bool true := by
  refine Ev.gen fun Q q => ?_
  have hm0 := hm
  obtain ⟨L, W, rfl, aL, aW⟩ := hm
  refine Ev_body (fd := c8) rfl rfl rfl ?_
  have s1 : h.Sub (h.add (.cells .rw [.int .i64 m.errs, L, W])) := (by repeat (first | assumption | exact H.Sub.refl (by assumption) | refine H.Sub.add ?_ _ | refine H.Sub.set ?_ (by first | omega | (simp only [H.next_add, H.next_set, H.next_del] <;> omega)) (by first | omega | (simp only [H.next_add, H.next_set, H.next_del] <;> omega)) (by assumption) _))
  simp (maxSteps := 1000000) (implicitDefEqProofs := false) (disch := first | with_reducible rfl | omega | (simp only [nA, nS, nD] <;> omega) | fail) only [c8, go_sem, ↓reduceIte, Nat.reduceEqDiff, Nat.reduceAdd, Nat.reduceSub, Nat.reduceMul, reduceCtorEq, Nat.reduceLeDiff]
  refine great_ev s1.wf (hm0.mono s1) _ fun h2 s12 => ?_
  have s2 := s1.trans s12
  have l2 := s12.next
  simp only [H.next_add] at l2
  have g2 : h2.cells h.next = some [.int .i64 m.errs, L, W] := s12.cells (by simp (maxSteps := 1000000) (implicitDefEqProofs := false) (disch := first | with_reducible rfl | omega | (simp only [nA, nS, nD] <;> omega) | fail) only [go_sem, ↓reduceIte, Nat.reduceEqDiff, Nat.reduceAdd, Nat.reduceSub, Nat.reduceMul, reduceCtorEq, Nat.reduceLeDiff])
  have hlk := hk.lenE
  have hlenW := aW.lenE
  cases hgr : greatM m
  case true =>
    simp (maxSteps := 1000000) (implicitDefEqProofs := false) (disch := first | with_reducible rfl | omega | (simp only [nA, nS, nD] <;> omega) | fail) only [go_sem, ↓reduceIte, Nat.reduceEqDiff, Nat.reduceAdd, Nat.reduceSub, Nat.reduceMul, reduceCtorEq, Nat.reduceLeDiff, awake_eq]
    exact q _ _ rfl
  by_cases hk14 : 14 < (ws.length : Int)
  case pos =>
    simp (maxSteps := 1000000) (implicitDefEqProofs := false) (disch := first | with_reducible rfl | omega | (simp only [nA, nS, nD] <;> omega) | fail) only [go_sem, ↓reduceIte, Nat.reduceEqDiff, Nat.reduceAdd, Nat.reduceSub, Nat.reduceMul, reduceCtorEq, Nat.reduceLeDiff, hlk, hk14, awake_eq]
    exact q _ _ rfl
  by_cases hsk : 7 < (m.wgs.length : Int) ∧ (m.wgs.length : Int) ≤ 10
  case pos =>
    simp (maxSteps := 1000000) (implicitDefEqProofs := false) (disch := first | with_reducible rfl | omega | (simp only [nA, nS, nD] <;> omega) | fail) only [go_sem, ↓reduceIte, Nat.reduceEqDiff, Nat.reduceAdd, Nat.reduceSub, Nat.reduceMul, reduceCtorEq, Nat.reduceLeDiff, hlk, hk14, g2, hlenW, hsk.1, hsk.2, awake_eq]
    exact q _ _ rfl
  have hle : m.lots.length ≤ 1000 ∧ m.wgs.length ≤ 1000 := by
    simp only [greatM, decide_eq_false_iff_not] at hgr
    omega
  by_cases w7 : 7 < (m.wgs.length : Int)
  case' pos =>
    have w10 : ¬ (m.wgs.length : Int) ≤ 10 := fun h => hsk ⟨w7, h⟩
    simp (maxSteps := 1000000) (implicitDefEqProofs := false) (disch := first | with_reducible rfl | omega | (simp only [nA, nS, nD] <;> omega) | fail) only [go_sem, ↓reduceIte, Nat.reduceEqDiff, Nat.reduceAdd, Nat.reduceSub, Nat.reduceMul, reduceCtorEq, Nat.reduceLeDiff, hlk, hk14, g2, hlenW, w7, w10]
  case' neg =>
    simp (maxSteps := 1000000) (implicitDefEqProofs := false) (disch := first | with_reducible rfl | omega | (simp only [nA, nS, nD] <;> omega) | fail) only [go_sem, ↓reduceIte, Nat.reduceEqDiff, Nat.reduceAdd, Nat.reduceSub, Nat.reduceMul, reduceCtorEq, Nat.reduceLeDiff, hlk, hk14, g2, hlenW, w7]
  all_goals
    clear hsk w7 hgr
    refine Own_own s2.wf (hm0.mono s2) hle _ fun A B h3 s23 oOwn hA hB => ?_
    have s3 := s2.trans s23
    have g3 := s23.cells g2
    have l3 := s23.next
    simp (maxSteps := 1000000) (implicitDefEqProofs := false) (disch := first | with_reducible rfl | omega | (simp only [nA, nS, nD] <;> omega) | fail) only [go_sem, ↓reduceIte, Nat.reduceEqDiff, Nat.reduceAdd, Nat.reduceSub, Nat.reduceMul, reduceCtorEq, Nat.reduceLeDiff, g3]
    refine theirs_ev s3.wf (hm0.mono s3) hle _ fun x h4 s34 hx => ?_
    have s4 := s3.trans s34
    have g4 := s34.cells g3
    have l4 := s34.next
    obtain ⟨X, Y, rfl, aX, aY⟩ := id hx
    have oX1 := aX.one
    have oY1 := aY.one
    simp (maxSteps := 1000000) (implicitDefEqProofs := false) (disch := first | with_reducible rfl | omega | (simp only [nA, nS, nD] <;> omega) | fail) only [go_sem, ↓reduceIte, Nat.reduceEqDiff, Nat.reduceAdd, Nat.reduceSub, Nat.reduceMul, reduceCtorEq, Nat.reduceLeDiff, dupInt_ev s4.wf (hk.mono s4) (by omega), oX1, oY1, hA, hB, cells_one oX1, cells_one oY1, cells_one hA, cells_one hB, g2, g3, g4, hlk]
    have s45 : h4.Sub (((((h4.add (.cells .rw (ws.map encI).flatten)).add (.cells .rw [.int .i64 0, .nils, .nils])).add (.cells .rw [.int .i64 0, .nils, .nils])).set (h4.next + 1) (.cells .rw [.int .i64 m.errs, A, B])).set (h4.next + 1 + 1) (.cells .rw [.int .i64 m.errs, X, Y])) := by
      have w4 := s4.wf
      exact (by repeat (first | assumption | exact H.Sub.refl (by assumption) | refine H.Sub.add ?_ _ | refine H.Sub.set ?_ (by first | omega | (simp only [H.next_add, H.next_set, H.next_del] <;> omega)) (by first | omega | (simp only [H.next_add, H.next_set, H.next_del] <;> omega)) (by assumption) _))
    have gM : (((((h4.add (.cells .rw (ws.map encI).flatten)).add (.cells .rw [.int .i64 0, .nils, .nils])).add (.cells .rw [.int .i64 0, .nils, .nils])).set (h4.next + 1) (.cells .rw [.int .i64 m.errs, A, B])).set (h4.next + 1 + 1) (.cells .rw [.int .i64 m.errs, X, Y])).get h4.next = some (.cells .rw (ws.map encI).flatten) := by simp (maxSteps := 1000000) (implicitDefEqProofs := false) (disch := first | with_reducible rfl | omega | (simp only [nA, nS, nD] <;> omega) | fail) only [go_sem, ↓reduceIte, Nat.reduceEqDiff, Nat.reduceAdd, Nat.reduceSub, Nat.reduceMul, reduceCtorEq, Nat.reduceLeDiff]
    have c9 : (((((h4.add (.cells .rw (ws.map encI).flatten)).add (.cells .rw [.int .i64 0, .nils, .nils])).add (.cells .rw [.int .i64 0, .nils, .nils])).set (h4.next + 1) (.cells .rw [.int .i64 m.errs, A, B])).set (h4.next + 1 + 1) (.cells .rw [.int .i64 m.errs, X, Y])).cells (h4.next + 1) = some [.int .i64 m.errs, A, B] := by simp (maxSteps := 1000000) (implicitDefEqProofs := false) (disch := first | with_reducible rfl | omega | (simp only [nA, nS, nD] <;> omega) | fail) only [go_sem, ↓reduceIte, Nat.reduceEqDiff, Nat.reduceAdd, Nat.reduceSub, Nat.reduceMul, reduceCtorEq, Nat.reduceLeDiff]
    have c10 : (((((h4.add (.cells .rw (ws.map encI).flatten)).add (.cells .rw [.int .i64 0, .nils, .nils])).add (.cells .rw [.int .i64 0, .nils, .nils])).set (h4.next + 1) (.cells .rw [.int .i64 m.errs, A, B])).set (h4.next + 1 + 1) (.cells .rw [.int .i64 m.errs, X, Y])).cells (h4.next + 1 + 1) = some [.int .i64 m.errs, X, Y] := by simp (maxSteps := 1000000) (implicitDefEqProofs := false) (disch := first | with_reducible rfl | omega | (simp only [nA, nS, nD] <;> omega) | fail) only [go_sem, ↓reduceIte, Nat.reduceEqDiff, Nat.reduceAdd, Nat.reduceSub, Nat.reduceMul, reduceCtorEq, Nat.reduceLeDiff]
    have l45' : h4.next + 3 = (((((h4.add (.cells .rw (ws.map encI).flatten)).add (.cells .rw [.int .i64 0, .nils, .nils])).add (.cells .rw [.int .i64 0, .nils, .nils])).set (h4.next + 1) (.cells .rw [.int .i64 m.errs, A, B])).set (h4.next + 1 + 1) (.cells .rw [.int .i64 m.errs, X, Y])).next := by simp only [H.next_set, H.next_add]
    generalize (((((h4.add (.cells .rw (ws.map encI).flatten)).add (.cells .rw [.int .i64 0, .nils, .nils])).add (.cells .rw [.int .i64 0, .nils, .nils])).set (h4.next + 1) (.cells .rw [.int .i64 m.errs, A, B])).set (h4.next + 1 + 1) (.cells .rw [.int .i64 m.errs, X, Y])) = h5 at s45 gM c9 c10 l45' ⊢
    have s5 := s4.trans s45
    have l45 := s45.next
    have hown5 := (oOwn.mono (s34.trans s45)).is hle
    have hfl := flatten_len hk.1
    have oMine : OwnC h4 h5 (.sl h4.next 0 ws.length (.fix ws.length)) 1 (ws.map encI) := by
      refine ⟨s45, hk.1, .inr (.inr ⟨h4.next, ws.length, [], by rw [List.length_map], Nat.le_refl _, by omega, by rw [List.append_nil]; exact gM, by simp, by simp⟩)⟩
    have hmine5 := oMine.sl (by simp; omega)
    refine (refCheck_ev s5.wf (hx.mono s45)).mono fun u h6 hu => ?_
    obtain ⟨rfl, s56⟩ := hu
    have s6 := s5.trans s56
    have l56 := s56.next
    have d9 := s56.cells c9
    have d10 := s56.cells c10
    simp (maxSteps := 1000000) (implicitDefEqProofs := false) (disch := first | with_reducible rfl | omega | (simp only [nA, nS, nD] <;> omega) | fail) only [go_sem, ↓reduceIte, Nat.reduceEqDiff, Nat.reduceAdd, Nat.reduceSub, Nat.reduceMul, reduceCtorEq, Nat.reduceLeDiff]
    have hx6 := hx.mono (s45.trans s56)
    obtain ⟨I, hI⟩ : ∃ I : St → Prop, ∀ s, I s ↔ ∃ tm h8 isA uE vE clV wrV cl wr, s = ⟨tm, h8, []⟩ ∧ h6.Sub h8 ∧ (Opd.t 1).ev tm = K ∧ (Opd.t 2).ev tm = .ptr h.next 0 ∧ (Opd.t 5).ev tm = .ptr (h4.next + 1) 0 ∧ (Opd.t 6).ev tm = .ptr (h4.next + 1 + 1) 0 ∧ (Opd.t 7).ev tm = .sl h4.next 0 ws.length (.fix ws.length) ∧ (Opd.t 8).ev tm = .int .i64 (check m) ∧
        (Opd.t 9).ev tm = .int .i64 uE ∧ (Opd.t 10).ev tm = .int .i64 vE ∧ (Opd.t 11).ev tm = .bool isA ∧ (Opd.t 12).ev tm = clV ∧ (Opd.t 13).ev tm = wrV ∧ SlAt h8 clV 1 (cl.map encI) ∧ SlAt h8 wrV 1 (wr.map encI) ∧
        ((check m ≠ 0 ∧ uE = check m ∧ vE = check m ∧ isA = false ∧ cl = [] ∧ wr = []) ∨
         (check m = 0 ∧ uE = listR m ws ∧ ((listR m ws ≠ 0 ∧ isA = false) ∨ (listR m ws = 0 ∧ isA = agreeB m (inL ws false))) ∧
           ((firstOf (clashP m) m.wgs.length (m.wgs.length + 1) 0 = none ∧ vE = 6 ∧ cl = []) ∨ (firstOf (clashP m) m.wgs.length (m.wgs.length + 1) 0 = some cl ∧ vE = 0)) ∧ firstOf (wrongP m) m.wgs.length (m.wgs.length + 1) 0 = some wr)) := ⟨_, fun s => Iff.rfl⟩
    have nil6 : SlAt h6 .nils 1 (([] : List Int).map encI) := (OwnSl.nil (H.Sub.refl s6.wf) 1).sl (by simp)
    refine PB_cut (p := check m = 0) I ?_ ?_ ?_
    · intro c
      have g := good_of c
      rw [W_assoc, W_seq]
      obtain ⟨J, hJ⟩ : ∃ J : St → Prop, ∀ s, J s ↔ ∃ tm h8 isA, s = ⟨tm, h8, []⟩ ∧ h6.Sub h8 ∧ (Opd.t 1).ev tm = K ∧ (Opd.t 2).ev tm = .ptr h.next 0 ∧ (Opd.t 5).ev tm = .ptr (h4.next + 1) 0 ∧ (Opd.t 6).ev tm = .ptr (h4.next + 1 + 1) 0 ∧ (Opd.t 7).ev tm = .sl h4.next 0 ws.length (.fix ws.length) ∧ (Opd.t 8).ev tm = .int .i64 (check m) ∧
          (Opd.t 9).ev tm = .int .i64 (listR m ws) ∧ (Opd.t 10).ev tm = .int .i64 0 ∧ (Opd.t 11).ev tm = .bool isA ∧ ((listR m ws ≠ 0 ∧ isA = false) ∨ (listR m ws = 0 ∧ isA = agreeB m (inL ws false))) := ⟨_, fun s => Iff.rfl⟩
      refine W_cut J ?_ ?_
      · simp (maxSteps := 1000000) (implicitDefEqProofs := false) (disch := first | with_reducible rfl | omega | (simp only [nA, nS, nD] <;> omega) | fail) only [go_sem, ↓reduceIte, Nat.reduceEqDiff, Nat.reduceAdd, Nat.reduceSub, Nat.reduceMul, reduceCtorEq, Nat.reduceLeDiff, d10]
        refine Listed_ev s6.wf hx6 g (hk.mono s6) (by omega) _ fun y h7 s67 y1 hy => ?_
        have k10 := s67.cells d10
        by_cases e0 : listR m ws = 0
        · have aC := hy e0
          simp (maxSteps := 1000000) (implicitDefEqProofs := false) (disch := first | with_reducible rfl | omega | (simp only [nA, nS, nD] <;> omega) | fail) only [go_sem, ↓reduceIte, Nat.reduceEqDiff, Nat.reduceAdd, Nat.reduceSub, Nat.reduceMul, reduceCtorEq, Nat.reduceLeDiff, e0, k10]
          refine (refAgree_ev (s6.trans s67).wf (hx6.mono s67) g aC (by rw [marks_len])).mono fun u h8 hu => ?_
          obtain ⟨s78, t, rfl, ht⟩ := hu
          simp (maxSteps := 1000000) (implicitDefEqProofs := false) (disch := first | with_reducible rfl | omega | (simp only [nA, nS, nD] <;> omega) | fail) only [go_sem, ↓reduceIte, Nat.reduceEqDiff, Nat.reduceAdd, Nat.reduceSub, Nat.reduceMul, reduceCtorEq, Nat.reduceLeDiff]
          exact ⟨rfl, (hJ _).2 ⟨_, _, t, rfl, s67.trans s78, (by simp [ev_c, ev_put] <;> rfl), (by simp [ev_c, ev_put] <;> rfl), (by simp [ev_c, ev_put] <;> rfl), (by simp [ev_c, ev_put] <;> rfl), (by simp [ev_c, ev_put] <;> rfl), (by simp [ev_c, ev_put] <;> rfl), by rw [e0]; exact (by simp [ev_c, ev_put] <;> rfl), by rw [← c]; exact (by simp [ev_c, ev_put] <;> rfl), (by simp [ev_c, ev_put] <;> rfl), .inr ⟨e0, by rw [← marksA, ← agreeB_iff ht]⟩⟩⟩
        · simp (maxSteps := 1000000) (implicitDefEqProofs := false) (disch := first | with_reducible rfl | omega | (simp only [nA, nS, nD] <;> omega) | fail) only [go_sem, ↓reduceIte, Nat.reduceEqDiff, Nat.reduceAdd, Nat.reduceSub, Nat.reduceMul, reduceCtorEq, Nat.reduceLeDiff, e0]
          exact ⟨rfl, (hJ _).2 ⟨_, _, false, rfl, s67, (by simp [ev_c, ev_put] <;> rfl), (by simp [ev_c, ev_put] <;> rfl), (by simp [ev_c, ev_put] <;> rfl), (by simp [ev_c, ev_put] <;> rfl), (by simp [ev_c, ev_put] <;> rfl), (by simp [ev_c, ev_put] <;> rfl), (by simp [ev_c, ev_put] <;> rfl), by rw [← c]; exact (by simp [ev_c, ev_put] <;> rfl), (by simp [ev_c, ev_put] <;> rfl), .inl ⟨e0, rfl⟩⟩⟩
      · intro s hs
        obtain ⟨tm, h8, isA, rfl, s68, t1, t2, t5, t6, t7, t8, t9, t10, t11, spec⟩ := (hJ s).1 hs
        have k10 := s68.cells d10
        have s8 := s6.trans s68
        have hx8 := hx6.mono s68
        simp (maxSteps := 1000000) (implicitDefEqProofs := false) (disch := first | with_reducible rfl | omega | (simp only [nA, nS, nD] <;> omega) | fail) only [go_sem, ↓reduceIte, Nat.reduceEqDiff, Nat.reduceAdd, Nat.reduceSub, Nat.reduceMul, reduceCtorEq, Nat.reduceLeDiff, t1, t2, t5, t6, t7, t8, t9, t10, t11, k10]
        refine refClash_ev s8.wf hx8 g g.wgs _ fun y h9 s89 hy => ?_
        have s9 := s8.trans s89
        obtain ⟨wl, hwl, _⟩ := wrong_some g
        have wfin : ∀ (z : V) (hz : H), ((firstOf (wrongP m) m.wgs.length (m.wgs.length + 1) 0 = none → z = .nils) ∧ ∀ c, firstOf (wrongP m) m.wgs.length (m.wgs.length + 1) 0 = some c → SlAt hz z 1 (c.map encI)) → SlAt hz z 1 (wl.map encI) := fun z hz a => a.2 wl hwl
        cases hcl : firstOf (clashP m) m.wgs.length (m.wgs.length + 1) 0 with
        | none =>
          rw [hcl] at hy
          have hy' : y = .nils := hy
          subst hy'
          simp (maxSteps := 1000000) (implicitDefEqProofs := false) (disch := first | with_reducible rfl | omega | (simp only [nA, nS, nD] <;> omega) | fail) only [go_sem, ↓reduceIte, Nat.reduceEqDiff, Nat.reduceAdd, Nat.reduceSub, Nat.reduceMul, reduceCtorEq, Nat.reduceLeDiff, t1, t2, t5, t6, t7, t8, t9, t10, t11, s89.cells k10, Option.isSome_none, Bool.not_false]
          refine refWrong_ev s9.wf (hx8.mono s89) g g.wgs _ fun z h10 s910 hz => ?_
          simp (maxSteps := 1000000) (implicitDefEqProofs := false) (disch := first | with_reducible rfl | omega | (simp only [nA, nS, nD] <;> omega) | fail) only [go_sem, ↓reduceIte, Nat.reduceEqDiff, Nat.reduceAdd, Nat.reduceSub, Nat.reduceMul, reduceCtorEq, Nat.reduceLeDiff, t1, t2, t5, t6, t7, t8, t9, t10, t11]
          exact ⟨rfl, (hI _).2 ⟨_, _, isA, listR m ws, 6, .nils, z, [], wl, rfl, s68.trans (s89.trans s910), (by simp [ev_c, ev_put, t1] <;> rfl), (by simp [ev_c, ev_put, t2] <;> rfl), (by simp [ev_c, ev_put, t5] <;> rfl), (by simp [ev_c, ev_put, t6] <;> rfl), (by simp [ev_c, ev_put, t7] <;> rfl), (by simp [ev_c, ev_put, t8] <;> rfl), (by simp [ev_c, ev_put, t9] <;> rfl), (by simp [ev_c, ev_put] <;> rfl), (by simp [ev_c, ev_put, t11] <;> rfl), (by simp [ev_c, ev_put] <;> rfl), (by simp [ev_c, ev_put] <;> rfl), nil6.mono (s68.trans (s89.trans s910)), wfin _ _ hz, .inr ⟨c, rfl, spec, .inl ⟨hcl, rfl, rfl⟩, hwl⟩⟩⟩
        | some l =>
          rw [hcl] at hy
          obtain ⟨ay, _, _⟩ := hy
          have ay1 := ay.one
          simp (maxSteps := 1000000) (implicitDefEqProofs := false) (disch := first | with_reducible rfl | omega | (simp only [nA, nS, nD] <;> omega) | fail) only [go_sem, ↓reduceIte, Nat.reduceEqDiff, Nat.reduceAdd, Nat.reduceSub, Nat.reduceMul, reduceCtorEq, Nat.reduceLeDiff, t1, t2, t5, t6, t7, t8, t9, t10, t11, s89.cells k10, Option.isSome_some, Bool.not_true]
          refine refWrong_ev s9.wf (hx8.mono s89) g g.wgs _ fun z h10 s910 hz => ?_
          simp (maxSteps := 1000000) (implicitDefEqProofs := false) (disch := first | with_reducible rfl | omega | (simp only [nA, nS, nD] <;> omega) | fail) only [go_sem, ↓reduceIte, Nat.reduceEqDiff, Nat.reduceAdd, Nat.reduceSub, Nat.reduceMul, reduceCtorEq, Nat.reduceLeDiff, t1, t2, t5, t6, t7, t8, t9, t10, t11]
          exact ⟨rfl, (hI _).2 ⟨_, _, isA, listR m ws, 0, y, z, l, wl, rfl, s68.trans (s89.trans s910), (by simp [ev_c, ev_put, t1] <;> rfl), (by simp [ev_c, ev_put, t2] <;> rfl), (by simp [ev_c, ev_put, t5] <;> rfl), (by simp [ev_c, ev_put, t6] <;> rfl), (by simp [ev_c, ev_put, t7] <;> rfl), (by simp [ev_c, ev_put, t8] <;> rfl), (by simp [ev_c, ev_put, t9] <;> rfl), (by simp [ev_c, ev_put, t10] <;> rfl), (by simp [ev_c, ev_put, t11] <;> rfl), (by simp [ev_c, ev_put] <;> rfl), (by simp [ev_c, ev_put] <;> rfl), ay.mono s910, wfin _ _ hz, .inr ⟨c, rfl, spec, .inr ⟨hcl, rfl⟩, hwl⟩⟩⟩
    · intro c
      simp (maxSteps := 1000000) (implicitDefEqProofs := false) (disch := first | with_reducible rfl | omega | (simp only [nA, nS, nD] <;> omega) | fail) only [go_sem, ↓reduceIte, Nat.reduceEqDiff, Nat.reduceAdd, Nat.reduceSub, Nat.reduceMul, reduceCtorEq, Nat.reduceLeDiff]
      exact ⟨rfl, (hI _).2 ⟨_, _, false, check m, check m, .nils, .nils, [], [], rfl, H.Sub.refl s6.wf, (by simp [ev_c, ev_put] <;> rfl), (by simp [ev_c, ev_put] <;> rfl), (by simp [ev_c, ev_put] <;> rfl), (by simp [ev_c, ev_put] <;> rfl), (by simp [ev_c, ev_put] <;> rfl), (by simp [ev_c, ev_put] <;> rfl), (by simp [ev_c, ev_put] <;> rfl), (by simp [ev_c, ev_put] <;> rfl), (by simp [ev_c, ev_put] <;> rfl), (by simp [ev_c, ev_put] <;> rfl), (by simp [ev_c, ev_put] <;> rfl), nil6, nil6, .inl ⟨c, rfl, rfl, rfl, rfl, rfl⟩⟩⟩
    · intro s hs
      obtain ⟨tm, h8, isA, uE, vE, clV, wrV, cl, wr, rfl, s68, t1, t2, t5, t6, t7, t8, t9, t10, t11, t12, t13, aCl, aWr, spec⟩ := (hI s).1 hs
      have s8 := s6.trans s68
      have n9 := s68.cells d9
      have s58 := s56.trans s68
      have hown8 := hown5.mono s58
      have hmine8 := hmine5.mono s58
      simp (maxSteps := 1000000) (implicitDefEqProofs := false) (disch := first | with_reducible rfl | omega | (simp only [nA, nS, nD] <;> omega) | fail) only [go_sem, ↓reduceIte, Nat.reduceEqDiff, Nat.reduceAdd, Nat.reduceSub, Nat.reduceMul, reduceCtorEq, Nat.reduceLeDiff, t1, t2, t5, t6, t7, t8, t9, t10, t11, t12, t13, n9]
      refine (Agree_ev s8.wf hown8 (oMine.mono s58) (by omega)).mono fun u hA hu => ?_
      obtain ⟨s8A, tA, rfl, specA⟩ := hu
      simp (maxSteps := 1000000) (implicitDefEqProofs := false) (disch := first | with_reducible rfl | omega | (simp only [nA, nS, nD] <;> omega) | fail) only [go_sem, ↓reduceIte, Nat.reduceEqDiff, Nat.reduceAdd, Nat.reduceSub, Nat.reduceMul, reduceCtorEq, Nat.reduceLeDiff, t1, t2, t5, t6, t7, t8, t9, t10, t11, t12, t13, s8A.cells n9]
      refine (Clash_ev (s8.trans s8A).wf (hown8.mono s8A)).mono fun u hB hu => ?_
      obtain ⟨sAB, xC, lC, eC, rfl, aC, specC⟩ := hu
      have s8B := s8A.trans sAB
      simp (maxSteps := 1000000) (implicitDefEqProofs := false) (disch := first | with_reducible rfl | omega | (simp only [nA, nS, nD] <;> omega) | fail) only [go_sem, ↓reduceIte, Nat.reduceEqDiff, Nat.reduceAdd, Nat.reduceSub, Nat.reduceMul, reduceCtorEq, Nat.reduceLeDiff, t1, t2, t5, t6, t7, t8, t9, t10, t11, t12, t13, s8B.cells n9]
      refine (Wrong_ev (s8.trans s8B).wf (hown8.mono s8B)).mono fun u hD hu => ?_
      obtain ⟨sBD, xW, lW, eW, rfl, aW2, specW⟩ := hu
      have s8D := s8B.trans sBD
      have sD := s8.trans s8D
      have eqA : listE m ws = uE ∧ tA = isA := by
        rcases spec with ⟨a', b', _, e', _⟩ | ⟨a', b', e', _⟩
        · have e : listE m ws = check m := by simp [listE, a']
          refine ⟨by omega, ?_⟩
          rcases specA with ⟨_, h⟩ | ⟨h, _⟩
          · rw [h, e']
          · exact absurd (e ▸ h) a'
        · have e : listE m ws = listR m ws := by unfold listE listR; rw [if_neg (by rw [a']; simp)]
          refine ⟨by omega, ?_⟩
          rw [e] at specA
          rcases specA with ⟨h0, h⟩ | ⟨h0, h⟩ <;> rcases e' with ⟨k0, k⟩ | ⟨k0, k⟩
          · rw [h, k]
          · exact absurd k0 h0
          · exact absurd h0 k0
          · rw [h, k]
      have eqC : eC = vE ∧ lC = cl := by
        rcases specC with ⟨a, b, d⟩ | ⟨a, b, d, e⟩ | ⟨a, b, d⟩ <;> rcases spec with ⟨a', _, b', _, d', _⟩ | ⟨a', _, _, (⟨b', d', e'⟩ | ⟨b', d'⟩), _⟩
        · exact ⟨by omega, by rw [d, d']⟩
        · exact absurd a' a
        · exact absurd a' a
        · exact absurd a a'
        · exact ⟨by omega, by rw [e, e']⟩
        · rw [b] at b'; cases b'
        · exact absurd a a'
        · rw [b] at b'; cases b'
        · rw [b] at b'; exact ⟨by omega, by injection b'⟩
      have eqW : eW = check m ∧ lW = wr := by
        rcases specW with ⟨a, b, d⟩ | ⟨a, b, d⟩ <;> rcases spec with ⟨a', _, _, _, _, d'⟩ | ⟨a', _, _, _, d'⟩
        · exact ⟨b, by rw [d, d']⟩
        · exact absurd a' a
        · exact absurd a a'
        · rw [b] at d'; exact ⟨by omega, by injection d'⟩
      obtain ⟨hl0, rfl⟩ := eqA
      obtain ⟨rfl, rfl⟩ := eqC
      obtain ⟨rfl, rfl⟩ := eqW
      clear spec specA specC specW hI
      have i1 := eqInt_ev (aC.mono sBD) (aCl.mono s8D)
      have i2 := eqInt_ev aW2 (aWr.mono s8D)
      have gN9 := s8D.cells n9
      have gN2 := ((s34.trans s45).trans (s56.trans (s68.trans s8D))).cells g3
      simp (maxSteps := 1000000) (implicitDefEqProofs := false) (disch := first | with_reducible rfl | omega | (simp only [nA, nS, nD] <;> omega) | fail) only [go_sem, ↓reduceIte, Nat.reduceEqDiff, Nat.reduceAdd, Nat.reduceSub, Nat.reduceMul, reduceCtorEq, Nat.reduceLeDiff, t1, t2, t5, t6, t7, t8, t9, t10, t11, t12, t13, hl0, i1, i2, decide_eq_true rfl, beq_self_eq_true, gN9, gN2]
      refine same_ev sD.wf (hown8.mono s8D) (hm0.mono sD) _ fun hF sDF => ?_
      have i3 := eqInt_ev (hmine8.mono (s8D.trans sDF)) (hk.mono (sD.trans sDF))
      simp (maxSteps := 1000000) (implicitDefEqProofs := false) (disch := first | with_reducible rfl | omega | (simp only [nA, nS, nD] <;> omega) | fail) only [go_sem, ↓reduceIte, Nat.reduceEqDiff, Nat.reduceAdd, Nat.reduceSub, Nat.reduceMul, reduceCtorEq, Nat.reduceLeDiff, t1, t2, t5, t6, t7, t8, t9, t10, t11, t12, t13, decide_eq_true rfl, i3, awake_eq]
      exact q _ _ rfl
end Go.Ab.Try
