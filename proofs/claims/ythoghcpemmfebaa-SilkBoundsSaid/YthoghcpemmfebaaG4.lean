/- The law SilkBounds, on our machine. Bounds of all lots, as narrow as can be: the contracts of narrow, tight. The bounds of all lots by the weighings that count: silk.bounds, told. Copies of a mill; one weighing more; a lot that is split. told, Bounds, Widest: contracts. Weights and Fits: contracts. Fits, of the program and of the reference: contracts. Fits of the reference: contract. The reference's bounds: All, own, up, Agree, Bounds. -/
import Derived.Test.YthoghcpemmfebaaG2
import Derived.Test.YthoghcpemmfebaaPa2
import Derived.Test.YthoghcpemmfebaaAc4
set_option linter.unusedSimpArgs false
set_option linter.unusedVariables false
namespace Go.Ab
/-- A block that was not there at first is all that is changed. -/
theorem Keeps.sub {S : Nat → Prop} {h0 h h' : H} (k : Keeps S h h') (s : h0.Sub h) (hw0 : h0.wf) (hS : ∀ c, S c → h0.next ≤ c) (hw : h'.wf) : h0.Sub h' :=
  ⟨⟨Nat.le_trans s.next k.1, fun b x e => k.2 b x (s.get e) fun hs => by have := hS b hs; have := hw0 b x e; omega⟩, hw⟩
theorem Keeps.wf_set {h : H} (hw : h.wf) {b : Nat} {y : Blk} (x : Blk) (hb : h.get b = some y) : Keeps (fun c => c = b) h (h.set b x) ∧ (h.set b x).wf := ⟨Keeps.set h b x, H.wf_set hw x hb⟩
namespace Try
open Go.Ab.Silk
theorem mem_partsL {k : Int} : ∀ {l : List Lt} {i : Nat} {p : Int}, p ∈ partsL k l i ↔ ∃ j, ∃ hj : j < l.length, p = ((i + j : Nat) : Int) ∧ l[j].frm = k
  | [], i, p => by simp [partsL]
  | a :: l, i, p => by
    have ih := mem_partsL (k := k) (l := l) (i := i + 1) (p := p)
    have e : (∃ j, ∃ hj : j < (a :: l).length, p = ((i + j : Nat) : Int) ∧ (a :: l)[j].frm = k) ↔ (p = (i : Int) ∧ a.frm = k) ∨ ∃ j, ∃ hj : j < l.length, p = ((i + 1 + j : Nat) : Int) ∧ l[j].frm = k := by
      constructor
      · rintro ⟨j, hj, h1, h2⟩
        cases j with
        | zero => exact .inl ⟨by simpa using h1, h2⟩
        | succ j => exact .inr ⟨j, by simpa using hj, by omega, h2⟩
      · rintro (⟨h1, h2⟩ | ⟨j, hj, h1, h2⟩)
        · exact ⟨0, by simp, by simpa using h1, h2⟩
        · exact ⟨j + 1, by simpa using hj, by omega, h2⟩
    rw [e, ← ih]
    simp only [partsL]
    by_cases h : a.frm = k
    · simp [h]
    · simp [h]
theorem partsL_nodup {k : Int} : ∀ (l : List Lt) (i : Nat), (partsL k l i).Nodup
  | [], i => by simp [partsL]
  | a :: l, i => by
    have ih := partsL_nodup (k := k) l (i + 1)
    simp only [partsL]
    by_cases h : a.frm = k
    · rw [if_pos h, List.nodup_cons]
      refine ⟨fun hm => ?_, ih⟩
      obtain ⟨j, hj, e, _⟩ := mem_partsL.1 hm
      omega
    · rw [if_neg h]; exact ih
theorem forest {m : Ml} (g : Good m) : Forest m.lots.length (frmAt m) (parts m) := by
  refine ⟨fun i i0 i1 => ?_, fun i p => ?_, fun i => partsL_nodup _ _⟩
  · have := frmAt_lt g i0 i1; omega
  · unfold parts
    rw [mem_partsL]
    constructor
    · rintro ⟨j, hj, rfl, hf⟩
      simp only [Nat.zero_add]
      exact ⟨by omega, by omega, by rw [frmAt_nat hj]; exact hf⟩
    · rintro ⟨p0, p1, hf⟩
      obtain ⟨j, rfl⟩ := Int.eq_ofNat_of_zero_le p0
      exact ⟨j, by omega, by simp, by rw [← frmAt_nat (by omega)]; exact hf⟩
/-! ### Boxes as arrays -/
def intsB (b : Box) : List Int := [(b 0).1, (b 0).2, (b 1).1, (b 1).2, (b 2).1, (b 2).2, (b 3).1, (b 3).2, (b 4).1, (b 4).2, (b 5).1, (b 5).2, (b 6).1, (b 6).2, (b 7).1, (b 7).2, (b 8).1, (b 8).2, (b 9).1, (b 9).2, (b 10).1, (b 10).2, (b 11).1, (b 11).2]
def encB (b : Box) : List V := (intsB b).map iv
def updB (b : Box) (i : Int) (p : Int × Int) : Box := fun k => if k = i then p else b k
theorem lt12 {i : Nat} (h : i < 12) : i = 0 ∨ i = 1 ∨ i = 2 ∨ i = 3 ∨ i = 4 ∨ i = 5 ∨ i = 6 ∨ i = 7 ∨ i = 8 ∨ i = 9 ∨ i = 10 ∨ i = 11 := by omega
theorem encB_at (b : Box) {i : Nat} (hi : i < 12) : nth (i * 2) (encB b) = some (.int .i64 (b i).1) ∧ nth (i * 2 + 1) (encB b) = some (.int .i64 (b i).2) ∧ getN (i * 2) 2 (encB b) = some [.int .i64 (b i).1, .int .i64 (b i).2] := by
  rcases lt12 hi with rfl | rfl | rfl | rfl | rfl | rfl | rfl | rfl | rfl | rfl | rfl | rfl <;> exact ⟨rfl, rfl, rfl⟩
theorem encB_put (b : Box) {i : Nat} (hi : i < 12) (x y : Int) : putN (i * 2) [.int .i64 x, .int .i64 y] (encB b) = some (encB (updB b i (x, y))) := by
  rcases lt12 hi with rfl | rfl | rfl | rfl | rfl | rfl | rfl | rfl | rfl | rfl | rfl | rfl <;> rfl
theorem encB_put2 (b : Box) {i : Nat} (hi : i < 12) (y : Int) : putN (i * 2 + 1) [.int .i64 y] (encB b) = some (encB (updB b i ((b i).1, y))) := by
  rcases lt12 hi with rfl | rfl | rfl | rfl | rfl | rfl | rfl | rfl | rfl | rfl | rfl | rfl <;> rfl
theorem intsB_iff (b c : Box) : intsB b = intsB c ↔ ∀ i : Int, 0 ≤ i → i < 12 → b i = c i := by
  constructor
  · intro h i i0 i1
    obtain ⟨j, rfl⟩ := Int.eq_ofNat_of_zero_le i0
    have hj : j < 12 := by omega
    simp only [intsB, List.cons.injEq, and_true] at h
    obtain ⟨a0, a1, a2, a3, a4, a5, a6, a7, a8, a9, b0, b1, b2, b3, b4, b5, b6, b7, b8, b9, d0, d1, d2, d3⟩ := h
    rcases lt12 hj with rfl | rfl | rfl | rfl | rfl | rfl | rfl | rfl | rfl | rfl | rfl | rfl <;> exact Prod.ext (by assumption) (by assumption)
  · intro h
    simp only [intsB, h 0 (by omega) (by omega), h 1 (by omega) (by omega), h 2 (by omega) (by omega), h 3 (by omega) (by omega), h 4 (by omega) (by omega), h 5 (by omega) (by omega), h 6 (by omega) (by omega), h 7 (by omega) (by omega), h 8 (by omega) (by omega), h 9 (by omega) (by omega), h 10 (by omega) (by omega), h 11 (by omega) (by omega)]
theorem q_feq_B (ng : Bool) (b c : Box) : q_feq ng 24 (.agg (encB b)) (.agg (encB c)) = some (.bool (ngB ng (decide (intsB b = intsB c)))) := q_feq_map (n := 24) (intsB b) (intsB c) rfl rfl ng
def zeroB : Box := fun _ => (0, 0)
theorem narrow_upd (b : Box) (i lo hi : Int) : narrow b i lo hi = updB b i (max (b i).1 lo, min (b i).2 hi) := rfl
theorem updB_same (b : Box) (i : Int) : updB b i (b i) = b := by
  funext k
  by_cases h : k = i
  · subst h; simp [updB]
  · simp [updB, h]
theorem ld_B (b : Box) : getN 0 24 (encB b) = some (encB b) := rfl

/-- tight$1: narrow. -/
theorem narrow_ev {h : H} {p i : Nat} {b : Box} (hw : h.wf) (hp : h.get p = some (.cells .rw (encB b))) (hi : i < 12) (lo hi' : Int) (Q : V → H → Prop)
    (q : ∀ h', h'.get p = some (.cells .rw (encB (narrow b i lo hi'))) → Keeps (fun c => c = p) h h' → h'.wf → Q (.tup []) h') : Ev fnG fastA (.fn 152 [] [.ptr p 0]) [.int .i64 (i : Int), .int .i64 lo, .int .i64 hi'] h Q := by
  obtain ⟨n1, n2, n3⟩ := encB_at b hi
  have hc := cells_of hp
  have hlp := hw _ _ hp
  refine Ev_body (fd := c152) rfl rfl rfl ?_
  simp (maxSteps := 1000000) (implicitDefEqProofs := false) (disch := first | with_reducible rfl | omega | (simp only [nA, nS, nD] <;> omega) | fail) only [c152, go_sem, ↓reduceIte, Nat.reduceEqDiff, Nat.reduceAdd, Nat.reduceSub, Nat.reduceMul, reduceCtorEq, Nat.reduceLeDiff, q_iaa_ptr (nat_cst i) hi, hc, n1, n2]
  refine least_use (l := [hi']) (SlAt.new _ rfl (by rfl) (by rfl) (by simp [encI]) (by simp)) ?_
  have s1 : h.Sub ((h.add (.cells .rw [.int .i64 hi'])).add (.cells .rw [.int .i64 (max (b i).1 lo), .int .i64 (min (b i).2 hi')])) := (by repeat (first | assumption | exact H.Sub.refl (by assumption) | refine H.Sub.add ?_ _ | refine H.Sub.set ?_ (by first | omega | (simp only [H.next_add, H.next_set, H.next_del] <;> omega)) (by first | omega | (simp only [H.next_add, H.next_set, H.next_del] <;> omega)) (by assumption) _))
  have k1 := Keeps.of s1 (fun c => c = p)
  have hp1 := s1.get hp
  by_cases e : max (b i).1 lo = (b i).1 ∧ min (b i).2 hi' = (b i).2
  · have hnb : narrow b i lo hi' = b := by
      rw [narrow_upd, e.1, e.2]; exact updB_same b i
    simp (maxSteps := 1000000) (implicitDefEqProofs := false) (disch := first | with_reducible rfl | omega | (simp only [nA, nS, nD] <;> omega) | fail) only [go_sem, ↓reduceIte, Nat.reduceEqDiff, Nat.reduceAdd, Nat.reduceSub, Nat.reduceMul, reduceCtorEq, Nat.reduceLeDiff, q_iaa_ptr (nat_cst i) hi, hc, n1, n2, n3, List.foldl, q_feq_2, e.1, e.2, ngB, and_self, Bool.not_true]
    have := q _ (by rw [hnb]; exact hp1) k1 s1.wf
    rw [e.1, e.2] at this; exact this
  · simp (maxSteps := 1000000) (implicitDefEqProofs := false) (disch := first | with_reducible rfl | omega | (simp only [nA, nS, nD] <;> omega) | fail) only [go_sem, ↓reduceIte, Nat.reduceEqDiff, Nat.reduceAdd, Nat.reduceSub, Nat.reduceMul, reduceCtorEq, Nat.reduceLeDiff, q_iaa_ptr (nat_cst i) hi, hc, n1, n2, n3, List.foldl, q_feq_2, e, ngB, Bool.not_false, hp, encB_put b hi]
    obtain ⟨k2, w2⟩ := Keeps.wf_set s1.wf (.cells .rw (encB (narrow b i lo hi'))) hp1
    exact q _ (get_set_same rfl) ((k1.trans k2).mono fun c h => by rcases h with h | h <;> exact h) w2
/-! ### How great numbers become -/
def Bd (C : Int) (b : Box) : Prop := ∀ k : Int, -C ≤ (b k).1 ∧ (b k).1 ≤ C ∧ -C ≤ (b k).2 ∧ (b k).2 ≤ C
theorem Bd.mono {C D : Int} {b : Box} (h : Bd C b) (hc : C ≤ D) : Bd D b := fun k => by have := h k; omega
theorem Bd.narrow {C : Int} {b : Box} (h : Bd C b) {i lo hi : Int} (h1 : -C ≤ lo ∧ lo ≤ C) (h2 : -C ≤ hi ∧ hi ≤ C) : Bd C (narrow b i lo hi) := fun k => by
  have hk := h k
  by_cases e : k = i
  · subst e; rw [narrow_same]; simp only; omega
  · rw [narrow_ne _ _ _ e]; exact hk
theorem sum_bd {x : Int → Int} {C : Int} : ∀ {l : List Int}, (∀ p, -C ≤ x p ∧ x p ≤ C) → 0 ≤ C → (l.length : Int) ≤ 12 → -(12 * C) ≤ sumL x l ∧ sumL x l ≤ 12 * C := by
  have : ∀ (l : List Int), (∀ p, -C ≤ x p ∧ x p ≤ C) → -((l.length : Int) * C) ≤ sumL x l ∧ sumL x l ≤ (l.length : Int) * C := by
    intro l h
    induction l with
    | nil => simp [sumL]
    | cons p l ih =>
      have := h p
      simp only [sumL, List.length_cons]
      rw [Int.natCast_add, Int.add_mul]
      omega
  intro l h h0 hl
  have h1 := this l h
  have h2 := Int.mul_le_mul_of_nonneg_right hl h0
  omega
theorem downs_bd {bf : Box} {K C lo hi : Int} {i : Int} (hK : 0 ≤ K) (hKC : K ≤ C) (hbf : Bd K bf) (hlo : -(12 * K) ≤ lo ∧ lo ≤ 12 * K) (hhi : -(12 * K) ≤ hi ∧ hi ≤ 12 * K) : ∀ (l : List Int) (b : Box), i ∉ l → Bd (C + 25 * K) b → (-(C + 12 * K) ≤ (b i).1 ∧ (b i).1 ≤ C + 12 * K ∧ -(C + 12 * K) ≤ (b i).2 ∧ (b i).2 ≤ C + 12 * K) →
    Bd (C + 25 * K) (downs bf i lo hi l b)
  | [], b, _, h, _ => h
  | p :: l, b, hi', h, hb => by
    rw [List.mem_cons, not_or] at hi'
    have hp := hbf p
    simp only [downs]
    refine downs_bd hK hKC hbf hlo hhi l _ hi'.2 (h.narrow (by omega) (by omega)) ?_
    rw [narrow_ne _ _ _ hi'.1]; exact hb
theorem lotStep_bd {m : Ml} (g : Good m) {bf b c : Box} {K C : Int} {i : Int} (hK : 0 ≤ K) (hKC : K ≤ C) (hbf : Bd K bf) (hb : Bd C b) (he : ∀ p ∈ parts m i, b p = bf p) (h0 : 0 ≤ i) (h : lotStep (parts m) bf b i = some c) : Bd (C + 25 * K) c := by
  unfold lotStep at h
  split at h
  · cases h
  · split at h
    · cases h; exact hb.mono (by omega)
    · cases h
      have hl : ((parts m i).length : Int) ≤ 12 := by have := parts_len m i; have := g.lots; omega
      have e1 : sumL (lo1 b) (parts m i) = sumL (lo1 bf) (parts m i) := sumL_congr fun p hp => by simp only [lo1, he p hp]
      have e2 : sumL (hi1 b) (parts m i) = sumL (hi1 bf) (parts m i) := sumL_congr fun p hp => by simp only [hi1, he p hp]
      have b1 := sum_bd (x := lo1 bf) (C := K) (l := parts m i) (fun p => by have := hbf p; simp only [lo1]; omega) hK hl
      have b2 := sum_bd (x := hi1 bf) (C := K) (l := parts m i) (fun p => by have := hbf p; simp only [hi1]; omega) hK hl
      rw [e1, e2]
      have hbi := hb i
      refine downs_bd hK hKC hbf b1 b2 _ _ (fun hm => ?_) ((hb.mono (by omega)).narrow (by omega) (by omega)) ?_
      · obtain ⟨p0, p1, pf⟩ := ((forest g).mem _ _).1 hm
        have := (forest g).lt i p0 p1; omega
      · rw [narrow_same]; simp only; omega
theorem passF_bd {m : Ml} (g : Good m) {bf : Box} {K : Int} (hK : 0 ≤ K) (hbf : Bd K bf) : ∀ (k : Nat) (i : Int) (b c : Box) (C : Int), K ≤ C → 0 ≤ i → Bd C b → Silk.Fresh m.lots.length (frmAt m) bf b i → passF (parts m) bf k i b = some c → Bd (C + 25 * K * k) c
  | 0, i, b, c, C, _, _, hb, _, h => by cases h; exact hb.mono (by simp)
  | k + 1, i, b, c, C, hC, i0, hb, hf, h => by
    simp only [passF] at h
    cases h1 : lotStep (parts m) bf b i with
    | none => rw [h1] at h; cases h
    | some d =>
      rw [h1] at h
      have := passF_bd g hK hbf k (i + 1) d c (C + 25 * K) (by omega) (by omega) (lotStep_bd g hK hC hbf hb (hf.at (forest g)) i0 h1) (hf.step (forest g) i0 h1) h
      have e : C + 25 * K + 25 * K * (k : Int) = C + 25 * K * ((k + 1 : Nat) : Int) := by
        rw [Int.natCast_add, Int.mul_add]; omega
      rw [← e]; exact this
/-- Bounds as they come to a pass. -/
def InvB (b : Box) : Prop := ∀ k : Int, 0 ≤ (b k).1 ∧ (b k).1 ≤ 4000000 ∧ -4000000 ≤ (b k).2 ∧ (b k).2 ≤ 10000
theorem InvB.bd {b : Box} (h : InvB b) : Bd 4000000 b := fun k => by have := h k; omega
/-- A pass that succeeds. -/
theorem InvB.pass {m : Ml} (g : Good m) {b c : Box} (h : InvB b) (hout : ∀ j : Int, ¬ (0 ≤ j ∧ j < m.lots.length) → b j = (0, 0)) (hp : passF (parts m) b m.lots.length 0 b = some c) : InvB c ∧ ∀ j : Int, ¬ (0 ≤ j ∧ j < m.lots.length) → c j = (0, 0) := by
  have hs : ∀ j : Int, 0 ≤ (b j).1 ∧ (b j).1 ≤ 10000 ∧ -10000 ≤ (b j).2 ∧ (b j).2 ≤ 10000 := fun j => by
    by_cases hj : 0 ≤ j ∧ j < m.lots.length
    · have := passF_start _ _ _ _ hp j hj.1 (by omega)
      have := h j; omega
    · rw [hout j hj]; omega
  have hbd : Bd 10000 b := fun k => by have := hs k; omega
  have h2 := passF_bd g (by omega) hbd m.lots.length 0 b c 10000 (by omega) (by omega) hbd (fun _ _ _ _ => rfl) hp
  have hn := passF_nrw _ _ hp
  have gl := g.lots
  refine ⟨fun k => ?_, fun j hj => by rw [passF_out (forest g) _ _ _ _ (by omega) (by omega) hp j hj]; exact hout j hj⟩
  have a1 := h2 k
  have a2 := hn k
  have a3 := hs k
  omega
theorem zerosB : ([.int .i64 0, .int .i64 0, .int .i64 0, .int .i64 0, .int .i64 0, .int .i64 0, .int .i64 0, .int .i64 0, .int .i64 0, .int .i64 0, .int .i64 0, .int .i64 0, .int .i64 0, .int .i64 0, .int .i64 0, .int .i64 0, .int .i64 0, .int .i64 0, .int .i64 0, .int .i64 0, .int .i64 0, .int .i64 0, .int .i64 0, .int .i64 0] : List V) = encB zeroB := rfl
theorem lenB (b : Box) : lenN (encB b) = 24 := rfl
theorem put_B {h : H} {p : Nat} (b c : Box) (hp : h.get p = some (.cells .rw (encB c))) : h.put p 0 (encB b) = some (h.set p (.cells .rw (encB b))) := by
  have hpn : putN 0 (encB b) (encB c) = some (encB b) := by
    rw [putN_0]; exact over_eq.2 ⟨rfl, Nat.le_refl _⟩
  exact H.put_rw (v := iv (b 0).1) rfl hp hpn
def tightV (r : Option Box) : V := match r with
  | none => .tup [.agg (encB zeroB), .bool false]
  | some c => .tup [.agg (encB c), .bool true]
theorem sum_take (x : Int → Int) {l : List Int} {j : Nat} (hj : j < l.length) : sumL x (l.take (j + 1)) = sumL x (l.take j) + x l[j] := by
  rw [List.take_succ_eq_append_getElem hj, sumL_append]; simp [sumL]
theorem downs_drop {bf : Box} {i lo hi : Int} {l : List Int} {j : Nat} (hj : j < l.length) (b : Box) : downs bf i lo hi (l.drop j) b = downs bf i lo hi (l.drop (j + 1)) (narrow b l[j] ((b i).1 - (hi - (bf l[j]).2)) ((b i).2 - (lo - (bf l[j]).1))) := by
  rw [List.drop_eq_getElem_cons hj]; rfl
set_option maxHeartbeats 4000000 in
/-- tight -/
theorem tight_ev {h : H} {d : Nat} {m : Ml} {b : Box} (hw : h.wf) (hd : DkAt h d m) (g : Good m) (hb : InvB b) (hout : ∀ j : Int, ¬ (0 ≤ j ∧ j < m.lots.length) → b j = (0, 0)) (Q : V → H → Prop)
    (q : ∀ r h', h.Sub h' → TightR m.lots.length (parts m) b r → Q (tightV r) h') : Ev fnG fastA (.fn 126 [] []) [.ptr d 0, .agg (encB b)] h Q := by
  obtain ⟨pm, l, L, W, g1, g2, aL, aW, ap⟩ := hd
  have F := forest g
  have gl := g.lots
  have hld := hw _ _ g1
  have hlp := hw _ _ g2
  have hlenL := aL.lenE
  refine Ev_body (fd := c126) rfl rfl rfl ?_
  have s1 : h.Sub ((h.add (.cells .rw (encB b))).add (.cells .rw (encB zeroB))) := (by repeat (first | assumption | exact H.Sub.refl (by assumption) | refine H.Sub.add ?_ _ | refine H.Sub.set ?_ (by first | omega | (simp only [H.next_add, H.next_set, H.next_del] <;> omega)) (by first | omega | (simp only [H.next_add, H.next_set, H.next_del] <;> omega)) (by assumption) _))
  simp (maxSteps := 1000000) (implicitDefEqProofs := false) (disch := first | with_reducible rfl | omega | (simp only [nA, nS, nD] <;> omega) | fail) only [c126, go_sem, ↓reduceIte, Nat.reduceEqDiff, Nat.reduceAdd, Nat.reduceSub, Nat.reduceMul, reduceCtorEq, Nat.reduceLeDiff, zerosB]
  refine W_loop (fun k s => ∃ tm h' c, s = ⟨tm, h', []⟩ ∧ h.Sub h' ∧ h.next + 1 < h'.next ∧ h'.get h.next = some (.cells .rw (encB c)) ∧ h'.get (h.next + 1) = some (.cells .rw (encB zeroB)) ∧ InvB c ∧ (∀ j : Int, ¬ (0 ≤ j ∧ j < m.lots.length) → c j = (0, 0)) ∧
      (∀ r, TightR m.lots.length (parts m) c r → TightR m.lots.length (parts m) b r) ∧ (Silk.room m.lots.length c + 1).toNat ≤ k ∧ (Opd.t 0).ev tm = .ptr d 0 ∧ (Opd.t 3).ev tm = .ptr h.next 0 ∧ (Opd.t 4).ev tm = .ptr (h.next + 1) 0 ∧ (Opd.t 6).ev tm = .fn 152 [] [.ptr h.next 0])
    ?_ (Silk.room m.lots.length b + 1).toNat _ ⟨_, _, b, rfl, s1, by simp only [H.next_add]; omega, by simp (maxSteps := 1000000) (implicitDefEqProofs := false) (disch := first | with_reducible rfl | omega | (simp only [nA, nS, nD] <;> omega) | fail) only [go_sem, ↓reduceIte, Nat.reduceEqDiff, Nat.reduceAdd, Nat.reduceSub, Nat.reduceMul, reduceCtorEq, Nat.reduceLeDiff], by simp (maxSteps := 1000000) (implicitDefEqProofs := false) (disch := first | with_reducible rfl | omega | (simp only [nA, nS, nD] <;> omega) | fail) only [go_sem, ↓reduceIte, Nat.reduceEqDiff, Nat.reduceAdd, Nat.reduceSub, Nat.reduceMul, reduceCtorEq, Nat.reduceLeDiff], hb, hout, fun r h => h, Nat.le_refl _, (by simp [ev_c, ev_put] <;> rfl), (by simp [ev_c, ev_put] <;> rfl), (by simp [ev_c, ev_put] <;> rfl), (by simp [ev_c, ev_put] <;> rfl)⟩
  rintro k s ⟨tm, h', c, rfl, hs, lt, gb, gz, hi, ho, hR, hk, t0, t3, t4, t6⟩
  have gz' : (h'.add (.cells .rw (encB zeroB))).get h'.next = some (.cells .rw (encB zeroB)) := get_add_new rfl
  simp (maxSteps := 1000000) (implicitDefEqProofs := false) (disch := first | with_reducible rfl | omega | (simp only [nA, nS, nD] <;> omega) | fail) only [go_sem, ↓reduceIte, Nat.reduceEqDiff, Nat.reduceAdd, Nat.reduceSub, Nat.reduceMul, reduceCtorEq, Nat.reduceLeDiff, t0, t3, t4, t6, cells_of gb, ld_B, zerosB, lenB, put_B c zeroB gz', cells_of (hs.get g1), hlenL]
  have sB := (H.Sub.refl hs.wf).add (.cells .rw (encB c))
  have hs1 := hs.trans sB
  have gb1 := sB.get gb
  have gz1 := sB.get gz
  have gf1 : (h'.add (.cells .rw (encB c))).get h'.next = some (.cells .rw (encB c)) := get_add_new rfl
  have l1 : (h'.add (.cells .rw (encB c))).next = h'.next + 1 := H.next_add _ _
  generalize h'.add (.cells .rw (encB c)) = h1 at sB hs1 gb1 gz1 gf1 l1 ⊢
  clear gz'
  refine W_count m.lots.length (fun i s => ∃ tm h2 e, s = ⟨tm, h2, []⟩ ∧ h.Sub h2 ∧ h'.next < h2.next ∧ h2.get h.next = some (.cells .rw (encB e)) ∧ h2.get (h.next + 1) = some (.cells .rw (encB zeroB)) ∧ h2.get h'.next = some (.cells .rw (encB c)) ∧
      passF (parts m) c m.lots.length 0 c = passF (parts m) c (m.lots.length - i) (i : Int) e ∧ Silk.Fresh m.lots.length (frmAt m) c e (i : Int) ∧ Bd (4000000 + 100000000 * i) e ∧
      (Opd.t 0).ev tm = .ptr d 0 ∧ (Opd.t 3).ev tm = .ptr h.next 0 ∧ (Opd.t 4).ev tm = .ptr (h.next + 1) 0 ∧ (Opd.t 6).ev tm = .fn 152 [] [.ptr h.next 0] ∧ (Opd.t 7).ev tm = .ptr h'.next 0 ∧ (Opd.t 23).ev tm = .int .i64 (m.lots.length : Int) ∧ (Opd.t 24).ev tm = .int .i64 (i : Int))
    ?_ ?_ (i := 0) (Nat.zero_le _) ⟨_, _, c, rfl, hs1, by omega, gb1, gz1, gf1, rfl, fun _ _ _ _ => rfl, hi.bd.mono (by omega), (by simp [ev_c, ev_put, t0] <;> rfl), (by simp [ev_c, ev_put, t3] <;> rfl), (by simp [ev_c, ev_put, t4] <;> rfl), (by simp [ev_c, ev_put, t6] <;> rfl), (by simp [ev_c, ev_put] <;> rfl), (by simp [ev_c, ev_put] <;> rfl), (by simp [ev_c, ev_put] <;> rfl)⟩ <;> clear t0 t3 t4 t6 tm
  · rintro i s hin ⟨tm, h2, e, rfl, hs2, lt2, gb2, gz2, gf2, hpass, hfr, hbd, t0, t3, t4, t6, t7, t23, t24⟩
    have hin' : (i : Int) < (m.lots.length : Int) := by omega
    have hi12 : i < 12 := by omega
    obtain ⟨n1, n2, n3⟩ := encB_at e hi12
    have hstep : m.lots.length - i = (m.lots.length - (i + 1)) + 1 := by omega
    rw [hstep, passF] at hpass
    have hbdi := hbd (i : Int)
    by_cases hc : (e i).2 < (e i).1
    · simp (maxSteps := 1000000) (implicitDefEqProofs := false) (disch := first | with_reducible rfl | omega | (simp only [nA, nS, nD] <;> omega) | fail) only [go_sem, ↓reduceIte, Nat.reduceEqDiff, Nat.reduceAdd, Nat.reduceSub, Nat.reduceMul, reduceCtorEq, Nat.reduceLeDiff, t0, t3, t4, t6, t7, t23, t24, hin', q_iaa_ptr (nat_cst i) hi12, cells_of gb2, n1, n2, hc, zerosB, lenB, put_B zeroB zeroB gz2, ld_B]
      have hnone : lotStep (parts m) c e (i : Int) = none := by unfold lotStep; rw [if_pos hc]
      rw [hnone] at hpass
      exact q none _ (hs2.set (by omega) (by have := hs2.next; omega) hw _) (hR none (.bad hpass))
    have hap := (ap (i : Int)).mono hs2
    have hlp := parts_len m (i : Int)
    have hlenP := hap.lenE
    by_cases hps : parts m (i : Int) = []
    · have h0 : ((parts m (i : Int)).length : Int) = 0 := by rw [hps]; rfl
      have hsome : lotStep (parts m) c e (i : Int) = some e := by unfold lotStep; rw [if_neg hc, if_pos hps]
      have hfr' := hfr.step F (by omega) hsome
      rw [hsome] at hpass
      simp (maxSteps := 1000000) (implicitDefEqProofs := false) (disch := first | with_reducible rfl | omega | (simp only [nA, nS, nD] <;> omega) | fail) only [go_sem, ↓reduceIte, Nat.reduceEqDiff, Nat.reduceAdd, Nat.reduceSub, Nat.reduceMul, reduceCtorEq, Nat.reduceLeDiff, t0, t3, t4, t6, t7, t23, t24, hin', q_iaa_ptr (nat_cst i) hi12, cells_of gb2, n1, n2, hc, cells_of (hs2.get g1), hs2.get g2, hlenP, h0, wr_succ]
      exact ⟨_, _, e, rfl, hs2, lt2, gb2, gz2, gf2, hpass, hfr', hbd.mono (by omega), (by simp [ev_c, ev_put, t0] <;> rfl), (by simp [ev_c, ev_put, t3] <;> rfl), (by simp [ev_c, ev_put, t4] <;> rfl), (by simp [ev_c, ev_put, t6] <;> rfl), (by simp [ev_c, ev_put, t7] <;> rfl), (by simp [ev_c, ev_put, t23] <;> rfl), (by simp [ev_c, ev_put] <;> rfl)⟩
    have h0 : ¬ ((parts m (i : Int)).length : Int) = 0 := by have := List.length_pos_iff.2 hps; omega
    obtain ⟨ps, eps⟩ : ∃ ps, parts m (i : Int) = ps := ⟨_, rfl⟩
    obtain ⟨X, eX⟩ : ∃ X, found .nils false (lkA (i : Int) l) = X := ⟨_, rfl⟩
    rw [eX] at hlenP hap
    rw [eps] at hlp hlenP hap h0 hps
    have hpsm : ∀ p ∈ ps, 0 ≤ p ∧ p < m.lots.length ∧ frmAt m p = (i : Int) := fun p hp => (F.mem _ _).1 (by rw [eps]; exact hp)
    simp (maxSteps := 1000000) (implicitDefEqProofs := false) (disch := first | with_reducible rfl | omega | (simp only [nA, nS, nD] <;> omega) | fail) only [go_sem, ↓reduceIte, Nat.reduceEqDiff, Nat.reduceAdd, Nat.reduceSub, Nat.reduceMul, reduceCtorEq, Nat.reduceLeDiff, t0, t3, t4, t6, t7, t23, t24, hin', q_iaa_ptr (nat_cst i) hi12, cells_of gb2, n1, n2, hc, cells_of (hs2.get g1), hs2.get g2, eX, hlenP, h0]
    have bdS : ∀ (x : Int → Int) (l' : List Int), (∀ p, -(4000000 + 100000000 * (i : Int)) ≤ x p ∧ x p ≤ 4000000 + 100000000 * (i : Int)) → (l'.length : Int) ≤ 12 → -(12 * (4000000 + 100000000 * (i : Int))) ≤ sumL x l' ∧ sumL x l' ≤ 12 * (4000000 + 100000000 * (i : Int)) := fun x l' h1 h2 => sum_bd h1 (by omega) h2
    refine W_count ps.length (fun j s => ∃ tm, s = ⟨tm, h2, []⟩ ∧ (Opd.t 0).ev tm = .ptr d 0 ∧ (Opd.t 3).ev tm = .ptr h.next 0 ∧ (Opd.t 4).ev tm = .ptr (h.next + 1) 0 ∧ (Opd.t 6).ev tm = .fn 152 [] [.ptr h.next 0] ∧ (Opd.t 7).ev tm = .ptr h'.next 0 ∧ (Opd.t 8).ev tm = .int .i64 (i : Int) ∧ (Opd.t 9).ev tm = X ∧
        (Opd.t 10).ev tm = .int .i64 (sumL (lo1 e) (ps.take j)) ∧ (Opd.t 11).ev tm = .int .i64 (sumL (hi1 e) (ps.take j)) ∧ (Opd.t 23).ev tm = .int .i64 (m.lots.length : Int) ∧ (Opd.t 24).ev tm = .int .i64 (i : Int) ∧ (Opd.t 46).ev tm = X ∧ (Opd.t 47).ev tm = .int .i64 (ps.length : Int) ∧ (Opd.t 48).ev tm = .int .i64 (j : Int))
      ?_ ?_ (i := 0) (Nat.zero_le _) ⟨_, rfl, (by simp [ev_c, ev_put, t0] <;> rfl), (by simp [ev_c, ev_put, t3] <;> rfl), (by simp [ev_c, ev_put, t4] <;> rfl), (by simp [ev_c, ev_put, t6] <;> rfl), (by simp [ev_c, ev_put, t7] <;> rfl), (by simp [ev_c, ev_put] <;> rfl), (by simp [ev_c, ev_put] <;> rfl), (by simp [ev_c, ev_put] <;> rfl), (by simp [ev_c, ev_put] <;> rfl), (by simp [ev_c, ev_put, t23] <;> rfl), (by simp [ev_c, ev_put, t24] <;> rfl), (by simp [ev_c, ev_put] <;> rfl), (by simp [ev_c, ev_put] <;> rfl), (by simp [ev_c, ev_put] <;> rfl)⟩ <;> clear t0 t3 t4 t6 t7 t23 t24 tm
    · rintro j s hj ⟨tm, rfl, t0, t3, t4, t6, t7, t8, t9, t10, t11, t23, t24, t46, t47, t48⟩
      have hj' : (j : Int) < (ps.length : Int) := by omega
      obtain ⟨bb, o, cc, cs, eb, hcs, hq, hgg, hn, hn0⟩ := hap.at hj
      obtain ⟨p0, p1, pf⟩ := hpsm _ (List.getElem_mem hj)
      obtain ⟨p, ep⟩ := Int.eq_ofNat_of_zero_le p0
      have hp12 : p < 12 := by omega
      obtain ⟨m1, m2, m3⟩ := encB_at e hp12
      have v1 := bdS (lo1 e) (ps.take j) (fun p => by have := hbd p; simp only [lo1]; omega) (by simp only [List.length_take]; omega)
      have v2 := bdS (hi1 e) (ps.take j) (fun p => by have := hbd p; simp only [hi1]; omega) (by simp only [List.length_take]; omega)
      have hbp := hbd (p : Int)
      have e1 := sum_take (lo1 e) hj
      have e2 := sum_take (hi1 e) hj
      rw [ep] at e1 e2
      simp only [lo1, hi1] at e1 e2 v1 v2
      simp (maxSteps := 1000000) (implicitDefEqProofs := false) (disch := first | with_reducible rfl | omega | (simp only [nA, nS, nD] <;> omega) | fail) only [go_sem, ↓reduceIte, Nat.reduceEqDiff, Nat.reduceAdd, Nat.reduceSub, Nat.reduceMul, reduceCtorEq, Nat.reduceLeDiff, t0, t3, t4, t6, t7, t8, t9, t10, t11, t23, t24, t46, t47, t48, hj', hq (nat_cst j), hcs, hn0 (by omega), encI, ep, q_iaa_ptr (nat_cst p) hp12, cells_of gb2, m1, m2, wr_in, wr_succ, lo1, hi1]
      exact ⟨_, rfl, (by simp [ev_c, ev_put, t0] <;> rfl), (by simp [ev_c, ev_put, t3] <;> rfl), (by simp [ev_c, ev_put, t4] <;> rfl), (by simp [ev_c, ev_put, t6] <;> rfl), (by simp [ev_c, ev_put, t7] <;> rfl), (by simp [ev_c, ev_put, t8] <;> rfl), (by simp [ev_c, ev_put, t9] <;> rfl), by rw [e1]; exact (by simp [ev_c, ev_put] <;> rfl), by rw [e2]; exact (by simp [ev_c, ev_put] <;> rfl), (by simp [ev_c, ev_put, t23] <;> rfl), (by simp [ev_c, ev_put, t24] <;> rfl), (by simp [ev_c, ev_put, t46] <;> rfl), (by simp [ev_c, ev_put, t47] <;> rfl), (by simp [ev_c, ev_put] <;> rfl)⟩
    · rintro s ⟨tm, rfl, t0, t3, t4, t6, t7, t8, t9, t10, t11, t23, t24, t46, t47, t48⟩
      rw [List.take_length] at t10 t11
      have v1 := bdS (lo1 e) ps (fun p => by have := hbd p; simp only [lo1]; omega) (by omega)
      have v2 := bdS (hi1 e) ps (fun p => by have := hbd p; simp only [hi1]; omega) (by omega)
      obtain ⟨slo, eslo⟩ : ∃ x, sumL (lo1 e) ps = x := ⟨_, rfl⟩
      obtain ⟨shi, eshi⟩ : ∃ x, sumL (hi1 e) ps = x := ⟨_, rfl⟩
      rw [eslo] at t10 v1
      rw [eshi] at t11 v2
      have hsome : lotStep (parts m) c e (i : Int) = some (downs c (i : Int) slo shi ps (narrow e (i : Int) slo shi)) := by
        unfold lotStep
        rw [if_neg hc, eps, if_neg hps, eslo, eshi]
      rw [hsome] at hpass
      have hfr' := hfr.step F (by omega) hsome
      have hbd' := lotStep_bd g (K := 4000000) (by omega) (by omega) hi.bd hbd (hfr.at F) (by omega) hsome
      have hcf : ∀ p ∈ ps, e p = c p := fun p hp => hfr.at F p (by rw [eps]; exact hp)
      simp (maxSteps := 1000000) (implicitDefEqProofs := false) (disch := first | with_reducible rfl | omega | (simp only [nA, nS, nD] <;> omega) | fail) only [go_sem, ↓reduceIte, Nat.reduceEqDiff, Nat.reduceAdd, Nat.reduceSub, Nat.reduceMul, reduceCtorEq, Nat.reduceLeDiff, t0, t3, t4, t6, t7, t8, t9, t10, t11, t23, t24, t46, t47, t48, Int.lt_irrefl]
      refine narrow_ev hs2.wf gb2 hi12 slo shi _ fun h3 gb3 k3 w3 => ?_
      have hs3 : h.Sub h3 := k3.sub hs2 hw (fun c hc => by omega) w3
      have gz3 := k3.2 _ _ gz2 (by omega)
      have gf3 := k3.2 _ _ gf2 (by omega)
      have l3 := k3.1
      have hx2 := hap.elems
      simp (maxSteps := 1000000) (implicitDefEqProofs := false) (disch := first | with_reducible rfl | omega | (simp only [nA, nS, nD] <;> omega) | fail) only [go_sem, ↓reduceIte, Nat.reduceEqDiff, Nat.reduceAdd, Nat.reduceSub, Nat.reduceMul, reduceCtorEq, Nat.reduceLeDiff, t0, t3, t4, t6, t7, t8, t9, t10, t11, t23, t24, t46, t47, t48, hlenP]
      refine W_count ps.length (fun j s => ∃ tm h4 e4, s = ⟨tm, h4, []⟩ ∧ h.Sub h4 ∧ h'.next < h4.next ∧ h4.get h.next = some (.cells .rw (encB e4)) ∧ h4.get (h.next + 1) = some (.cells .rw (encB zeroB)) ∧ h4.get h'.next = some (.cells .rw (encB c)) ∧
          downs c (i : Int) slo shi ps (narrow e (i : Int) slo shi) = downs c (i : Int) slo shi (ps.drop j) e4 ∧ e4 (i : Int) = narrow e (i : Int) slo shi (i : Int) ∧
          (Opd.t 0).ev tm = .ptr d 0 ∧ (Opd.t 3).ev tm = .ptr h.next 0 ∧ (Opd.t 4).ev tm = .ptr (h.next + 1) 0 ∧ (Opd.t 6).ev tm = .fn 152 [] [.ptr h.next 0] ∧ (Opd.t 7).ev tm = .ptr h'.next 0 ∧ (Opd.t 8).ev tm = .int .i64 (i : Int) ∧
          (Opd.t 10).ev tm = .int .i64 slo ∧ (Opd.t 11).ev tm = .int .i64 shi ∧ (Opd.t 23).ev tm = .int .i64 (m.lots.length : Int) ∧ (Opd.t 24).ev tm = .int .i64 (i : Int) ∧ (Opd.t 70).ev tm = X ∧ (Opd.t 71).ev tm = .int .i64 (ps.length : Int) ∧ (Opd.t 72).ev tm = .int .i64 (j : Int))
        ?_ ?_ (i := 0) (Nat.zero_le _) ⟨_, _, _, rfl, hs3, by omega, gb3, gz3, gf3, rfl, rfl, (by simp [ev_c, ev_put, t0] <;> rfl), (by simp [ev_c, ev_put, t3] <;> rfl), (by simp [ev_c, ev_put, t4] <;> rfl), (by simp [ev_c, ev_put, t6] <;> rfl), (by simp [ev_c, ev_put, t7] <;> rfl), (by simp [ev_c, ev_put, t8] <;> rfl), (by simp [ev_c, ev_put, t10] <;> rfl), (by simp [ev_c, ev_put, t11] <;> rfl), (by simp [ev_c, ev_put, t23] <;> rfl), (by simp [ev_c, ev_put, t24] <;> rfl), (by simp [ev_c, ev_put] <;> rfl), (by simp [ev_c, ev_put] <;> rfl), (by simp [ev_c, ev_put] <;> rfl)⟩ <;> clear t0 t3 t4 t6 t7 t8 t9 t10 t11 t23 t24 t46 t47 t48 tm
      · rintro j s hj ⟨tm, h4, e4, rfl, hs4, lt4, gb4, gz4, gf4, hdn, hei, t0, t3, t4, t6, t7, t8, t10, t11, t23, t24, t70, t71, t72⟩
        have hj' : (j : Int) < (ps.length : Int) := by omega
        have hap4 := (ap (i : Int)).mono hs4
        rw [eX, eps] at hap4
        obtain ⟨bb, o, cc, cs, eb, hcs, hq, hgg, hn, hn0⟩ := hap4.at hj
        obtain ⟨p0, p1, pf⟩ := hpsm _ (List.getElem_mem hj)
        have hlt := F.lt _ p0 p1
        obtain ⟨p, ep⟩ := Int.eq_ofNat_of_zero_le p0
        have hp12 : p < 12 := by omega
        obtain ⟨m1, m2, m3⟩ := encB_at c hp12
        obtain ⟨u1, u2, u3⟩ := encB_at e4 hi12
        rw [downs_drop hj, ep] at hdn
        have hcp := hi (p : Int)
        have b4 : -60000000000 ≤ (e4 (i : Int)).1 ∧ (e4 (i : Int)).1 ≤ 60000000000 ∧ -60000000000 ≤ (e4 (i : Int)).2 ∧ (e4 (i : Int)).2 ≤ 60000000000 := by
          rw [hei, narrow_same]; simp only; omega
        simp (maxSteps := 1000000) (implicitDefEqProofs := false) (disch := first | with_reducible rfl | omega | (simp only [nA, nS, nD] <;> omega) | fail) only [go_sem, ↓reduceIte, Nat.reduceEqDiff, Nat.reduceAdd, Nat.reduceSub, Nat.reduceMul, reduceCtorEq, Nat.reduceLeDiff, t0, t3, t4, t6, t7, t8, t10, t11, t23, t24, t70, t71, t72, hj', hq (nat_cst j), hcs, hn0 (by omega), encI, ep, q_iaa_ptr (nat_cst p) hp12, q_iaa_ptr (nat_cst i) hi12, cells_of gb4, cells_of gf4, m1, m2, u1, u2, wr_in]
        refine narrow_ev hs4.wf gb4 hp12 _ _ _ fun h5 gb5 k5 w5 => ?_
        have hs5 : h.Sub h5 := k5.sub hs4 hw (fun c hc => by omega) w5
        have gz5 := k5.2 _ _ gz4 (by omega)
        have gf5 := k5.2 _ _ gf4 (by omega)
        have l5 := k5.1
        simp (maxSteps := 1000000) (implicitDefEqProofs := false) (disch := first | with_reducible rfl | omega | (simp only [nA, nS, nD] <;> omega) | fail) only [go_sem, ↓reduceIte, Nat.reduceEqDiff, Nat.reduceAdd, Nat.reduceSub, Nat.reduceMul, reduceCtorEq, Nat.reduceLeDiff, t0, t3, t4, t6, t7, t8, t10, t11, t23, t24, t70, t71, t72, wr_succ, cells_of gb4, cells_of gf4, m1, m2, u1, u2]
        exact ⟨_, _, _, rfl, hs5, by omega, gb5, gz5, gf5, hdn, by rw [narrow_ne _ _ _ (by omega)]; exact hei, (by simp [ev_c, ev_put, t0] <;> rfl), (by simp [ev_c, ev_put, t3] <;> rfl), (by simp [ev_c, ev_put, t4] <;> rfl), (by simp [ev_c, ev_put, t6] <;> rfl), (by simp [ev_c, ev_put, t7] <;> rfl), (by simp [ev_c, ev_put, t8] <;> rfl), (by simp [ev_c, ev_put, t10] <;> rfl), (by simp [ev_c, ev_put, t11] <;> rfl), (by simp [ev_c, ev_put, t23] <;> rfl), (by simp [ev_c, ev_put, t24] <;> rfl), (by simp [ev_c, ev_put, t70] <;> rfl), (by simp [ev_c, ev_put, t71] <;> rfl), (by simp [ev_c, ev_put] <;> rfl)⟩
      · rintro s ⟨tm, h4, e4, rfl, hs4, lt4, gb4, gz4, gf4, hdn, hei, t0, t3, t4, t6, t7, t8, t10, t11, t23, t24, t70, t71, t72⟩
        rw [List.drop_length] at hdn
        have hdn' : downs c (i : Int) slo shi ps (narrow e (i : Int) slo shi) = e4 := hdn
        rw [hdn'] at hpass hfr' hbd'
        simp (maxSteps := 1000000) (implicitDefEqProofs := false) (disch := first | with_reducible rfl | omega | (simp only [nA, nS, nD] <;> omega) | fail) only [go_sem, ↓reduceIte, Nat.reduceEqDiff, Nat.reduceAdd, Nat.reduceSub, Nat.reduceMul, reduceCtorEq, Nat.reduceLeDiff, t0, t3, t4, t6, t7, t8, t10, t11, t23, t24, t70, t71, t72, Int.lt_irrefl, wr_succ]
        exact ⟨_, _, e4, rfl, hs4, lt4, gb4, gz4, gf4, hpass, hfr', hbd'.mono (by omega), (by simp [ev_c, ev_put, t0] <;> rfl), (by simp [ev_c, ev_put, t3] <;> rfl), (by simp [ev_c, ev_put, t4] <;> rfl), (by simp [ev_c, ev_put, t6] <;> rfl), (by simp [ev_c, ev_put, t7] <;> rfl), (by simp [ev_c, ev_put, t23] <;> rfl), (by simp [ev_c, ev_put] <;> rfl)⟩
  · rintro s ⟨tm, h2, e, rfl, hs2, lt2, gb2, gz2, gf2, hpass, hfr, hbd, t0, t3, t4, t6, t7, t23, t24⟩
    rw [Nat.sub_self] at hpass
    have hpass' : passF (parts m) c m.lots.length 0 c = some e := hpass
    obtain ⟨hie, hoe⟩ := hi.pass g ho hpass'
    by_cases hec : intsB e = intsB c
    · have hEq : e = c := funext fun j => by
        by_cases hj : 0 ≤ j ∧ j < m.lots.length
        · exact (intsB_iff e c).1 hec j hj.1 (by omega)
        · rw [hoe j hj, ho j hj]
      subst hEq
      simp (maxSteps := 1000000) (implicitDefEqProofs := false) (disch := first | with_reducible rfl | omega | (simp only [nA, nS, nD] <;> omega) | fail) only [go_sem, ↓reduceIte, Nat.reduceEqDiff, Nat.reduceAdd, Nat.reduceSub, Nat.reduceMul, reduceCtorEq, Nat.reduceLeDiff, t0, t3, t4, t6, t7, t23, t24, Int.lt_irrefl, cells_of gb2, cells_of gf2, ld_B, q_feq_B, ngB, zerosB, lenB, put_B e zeroB gz2]
      exact q (some e) _ (hs2.set (by omega) (by have := hs2.next; omega) hw _) (hR _ (.done hpass'))
    · simp (maxSteps := 1000000) (implicitDefEqProofs := false) (disch := first | with_reducible rfl | omega | (simp only [nA, nS, nD] <;> omega) | fail) only [go_sem, ↓reduceIte, Nat.reduceEqDiff, Nat.reduceAdd, Nat.reduceSub, Nat.reduceMul, reduceCtorEq, Nat.reduceLeDiff, t0, t3, t4, t6, t7, t23, t24, Int.lt_irrefl, cells_of gb2, cells_of gf2, ld_B, q_feq_B, ngB, hec]
      have hne : ∃ j : Int, 0 ≤ j ∧ j < m.lots.length ∧ e j ≠ c j := by
        by_cases hall : ∃ j : Int, 0 ≤ j ∧ j < m.lots.length ∧ e j ≠ c j
        · exact hall
        · exfalso
          refine hec ((intsB_iff e c).2 fun j j0 j1 => ?_)
          by_cases hj : j < m.lots.length
          · by_cases he : e j = c j
            · exact he
            · exact absurd ⟨j, j0, hj, he⟩ hall
          · rw [hoe j (by omega), ho j (by omega)]
      obtain ⟨j, j0, j1, hj⟩ := hne
      have r1 := room_lt (passF_nrw _ _ hpass') m.lots.length j j0 j1 hj
      have r2 := room_nonneg (b := c) m.lots.length fun i i0 i1 => passF_start _ _ _ _ hpass' i i0 (by omega)
      exact ⟨(Silk.room m.lots.length e + 1).toNat, by omega, _, _, e, rfl, hs2, by omega, gb2, gz2, hie, hoe, fun r hr => hR r (.more hpass' hr), Nat.le_refl _, (by simp [ev_c, ev_put, t0] <;> rfl), (by simp [ev_c, ev_put, t3] <;> rfl), (by simp [ev_c, ev_put, t4] <;> rfl), (by simp [ev_c, ev_put, t6] <;> rfl)⟩
end Try
end Go.Ab
set_option linter.unusedSimpArgs false
set_option linter.unusedVariables false
namespace Go.Ab.Try
open Go.Ab.Silk
/-- What the first weighings of a lot that count say. -/
def ownK (m : Ml) (c : Nat → Bool) (lot : Int) : Nat → Int × Int
  | 0 => (0, 10000)
  | k + 1 => match m.wgs[k]? with
    | none => ownK m c lot k
    | some w => if c k = true ∧ w.lot = lot then (max (ownK m c lot k).1 (sayLo m w), min (ownK m c lot k).2 (sayHi m w)) else ownK m c lot k
theorem ownK_hit {m : Ml} {c : Nat → Bool} {lot : Int} {k : Nat} (hk : k < m.wgs.length) (hc : c k = true) (hl : m.wgs[k].lot = lot) : ownK m c lot (k + 1) = (max (ownK m c lot k).1 (sayLo m m.wgs[k]), min (ownK m c lot k).2 (sayHi m m.wgs[k])) := by
  simp only [ownK]
  rw [List.getElem?_eq_getElem hk]
  simp [hc, hl]
theorem ownK_miss {m : Ml} {c : Nat → Bool} {lot : Int} {k : Nat} (hk : k < m.wgs.length) (h : c k = false ∨ m.wgs[k].lot ≠ lot) : ownK m c lot (k + 1) = ownK m c lot k := by
  simp only [ownK]
  rw [List.getElem?_eq_getElem hk]
  simp only
  rw [if_neg]
  rintro ⟨h1, h2⟩
  rcases h with h | h
  · rw [h] at h1; cases h1
  · exact h h2
theorem say_bd {m : Ml} (g : Good m) {k : Nat} (hk : k < m.wgs.length) : 0 ≤ sayLo m m.wgs[k] ∧ sayLo m m.wgs[k] ≤ 20000 ∧ 0 ≤ sayHi m m.wgs[k] ∧ sayHi m m.wgs[k] ≤ 10000 := by
  have w1 := g.wg _ (List.getElem_mem hk)
  have w2 := g.errs
  have q2 := tdiv_le (a := 100 * (m.wgs[k].reads + m.errs)) (b := 100 + m.wgs[k].lo) (by omega) (by omega)
  have h1 := sayLo_nonneg (m := m) (w := m.wgs[k]) (by omega)
  refine ⟨h1, ?_, ?_, ?_⟩
  · rw [sayLo_le (by omega) (by omega)]
    have := Int.mul_le_mul_of_nonneg_left (show (100 : Int) ≤ 100 + m.wgs[k].hi by omega) (show (0 : Int) ≤ 20000 by omega)
    omega
  · unfold sayHi; omega
  · unfold sayHi; omega
theorem ownK_bd {m : Ml} (g : Good m) (c : Nat → Bool) (lot : Int) : ∀ k, 0 ≤ (ownK m c lot k).1 ∧ (ownK m c lot k).1 ≤ 20000 ∧ 0 ≤ (ownK m c lot k).2 ∧ (ownK m c lot k).2 ≤ 10000
  | 0 => by simp [ownK]
  | k + 1 => by
    have ih := ownK_bd g c lot k
    by_cases hk : k < m.wgs.length
    · by_cases h : c k = true ∧ m.wgs[k].lot = lot
      · have := say_bd g hk
        rw [ownK_hit hk h.1 h.2]; simp only; omega
      · rw [ownK_miss hk (by
          by_cases h1 : c k = true
          · exact .inr fun h2 => h ⟨h1, h2⟩
          · exact .inl (by simpa using h1))]
        exact ih
    · simp only [ownK]
      rw [List.getElem?_eq_none (by omega)]
      exact ih
def boxK (m : Ml) (c : Nat → Bool) (k : Nat) : Box := fun lot => if 0 ≤ lot ∧ lot < m.lots.length then ownK m c lot k else (0, 0)
def ownB (m : Ml) (c : Nat → Bool) : Box := boxK m c m.wgs.length
theorem boxK_out {m : Ml} {c : Nat → Bool} {k : Nat} : ∀ j : Int, ¬ (0 ≤ j ∧ j < m.lots.length) → boxK m c k j = (0, 0) := fun j h => by unfold boxK; rw [if_neg h]
theorem boxK_inv {m : Ml} (g : Good m) (c : Nat → Bool) (k : Nat) : InvB (boxK m c k) := fun j => by
  unfold boxK
  split
  · have := ownK_bd g c j k; omega
  · simp
theorem boxK_hit {m : Ml} (g : Good m) {c : Nat → Bool} {k : Nat} (hk : k < m.wgs.length) (hc : c k = true) : boxK m c (k + 1) = updB (boxK m c k) m.wgs[k].lot (max (boxK m c k m.wgs[k].lot).1 (sayLo m m.wgs[k]), min (boxK m c k m.wgs[k].lot).2 (sayHi m m.wgs[k])) := by
  have hl := g.lot _ (List.getElem_mem hk)
  funext lot
  unfold boxK updB
  by_cases e : lot = m.wgs[k].lot
  · subst e
    rw [if_pos ⟨hl.1, by omega⟩, if_pos rfl, if_pos ⟨hl.1, by omega⟩, ownK_hit hk hc rfl]
  · rw [if_neg e]
    dsimp only
    rw [ownK_miss hk (.inr fun e' => e e'.symm)]
theorem boxK_miss {m : Ml} {c : Nat → Bool} {k : Nat} (hk : k < m.wgs.length) (hc : c k = false) : boxK m c (k + 1) = boxK m c k := by
  funext lot
  unfold boxK
  rw [ownK_miss hk (.inl hc)]
def lotsB (i : Nat) : Box := fun lot => if 0 ≤ lot ∧ lot < i then (0, 10000) else (0, 0)
theorem lotsB_step (i : Nat) : lotsB (i + 1) = updB (lotsB i) (i : Int) ((lotsB i (i : Int)).1, 10000) := by
  funext lot
  unfold lotsB updB
  by_cases e : lot = (i : Int)
  · subst e
    rw [if_pos (by omega), if_pos rfl, if_neg (by omega)]
  · rw [if_neg e]
    dsimp only
    by_cases h : 0 ≤ lot ∧ lot < (i : Int)
    · rw [if_pos (by omega), if_pos h]
    · rw [if_neg (by omega), if_neg h]
theorem lotsB_all (m : Ml) (c : Nat → Bool) : lotsB m.lots.length = boxK m c 0 := rfl
set_option maxHeartbeats 2000000 in
/-- (*desk).bounds -/
theorem bounds_ev {h : H} {d : Nat} {m : Ml} {f : V} {c : Nat → Bool} (hw : h.wf) (hd : DkAt h d m) (g : Good m) (hf1 : f.one = true) (hf : ∀ i, i < m.wgs.length → PureA h f [.int .i64 (i : Int)] (.bool (c i))) (Q : V → H → Prop)
    (q : ∀ r h', h.Sub h' → TightR m.lots.length (parts m) (ownB m c) r → Q (tightV r) h') : Ev fnG fastA (.fn 124 [] []) [.ptr d 0, .agg [f]] h Q := by
  have hd0 := hd
  obtain ⟨pm, l, L, W, g1, g2, aL, aW, ap⟩ := hd
  have gl := g.lots
  have hld := hw _ _ g1
  have hlenL := aL.lenE
  have hlenW := aW.lenE
  refine Ev_body (fd := c124) rfl rfl rfl ?_
  have s1 : h.Sub (((h.add (.cells .rw [f])).add (.cells .rw (encB zeroB))).add (.cells .rw (encB zeroB))) := (by repeat (first | assumption | exact H.Sub.refl (by assumption) | refine H.Sub.add ?_ _ | refine H.Sub.set ?_ (by first | omega | (simp only [H.next_add, H.next_set, H.next_del] <;> omega)) (by first | omega | (simp only [H.next_add, H.next_set, H.next_del] <;> omega)) (by assumption) _))
  have ez : encB zeroB = encB (lotsB 0) := by
    rw [show lotsB 0 = zeroB from funext fun lot => by unfold lotsB zeroB; rw [if_neg (by omega)]]
  have gw := g.wgs
  simp (maxSteps := 1000000) (implicitDefEqProofs := false) (disch := first | with_reducible rfl | omega | (simp only [nA, nS, nD] <;> omega) | fail) only [c124, go_sem, ↓reduceIte, Nat.reduceEqDiff, Nat.reduceAdd, Nat.reduceSub, Nat.reduceMul, reduceCtorEq, Nat.reduceLeDiff, zerosB, hf1, cells_of g1, hlenL]
  refine W_count m.lots.length (fun i s => ∃ tm h', s = ⟨tm, h', []⟩ ∧ h.Sub h' ∧ h.next + 2 < h'.next ∧ h'.get h.next = some (.cells .rw [f]) ∧ h'.get (h.next + 1) = some (.cells .rw (encB zeroB)) ∧ h'.get (h.next + 1 + 1) = some (.cells .rw (encB (lotsB i))) ∧
      (Opd.t 0).ev tm = .ptr d 0 ∧ (Opd.t 3).ev tm = .ptr h.next 0 ∧ (Opd.t 4).ev tm = .ptr (h.next + 1) 0 ∧ (Opd.t 6).ev tm = .ptr (h.next + 1 + 1) 0 ∧ (Opd.t 16).ev tm = .int .i64 (m.lots.length : Int) ∧ (Opd.t 17).ev tm = .int .i64 (i : Int))
    ?_ ?_ (i := 0) (Nat.zero_le _) ⟨_, _, rfl, s1, by simp only [H.next_add]; omega, by simp (maxSteps := 1000000) (implicitDefEqProofs := false) (disch := first | with_reducible rfl | omega | (simp only [nA, nS, nD] <;> omega) | fail) only [go_sem, ↓reduceIte, Nat.reduceEqDiff, Nat.reduceAdd, Nat.reduceSub, Nat.reduceMul, reduceCtorEq, Nat.reduceLeDiff], by simp (maxSteps := 1000000) (implicitDefEqProofs := false) (disch := first | with_reducible rfl | omega | (simp only [nA, nS, nD] <;> omega) | fail) only [go_sem, ↓reduceIte, Nat.reduceEqDiff, Nat.reduceAdd, Nat.reduceSub, Nat.reduceMul, reduceCtorEq, Nat.reduceLeDiff], by rw [← ez]; simp (maxSteps := 1000000) (implicitDefEqProofs := false) (disch := first | with_reducible rfl | omega | (simp only [nA, nS, nD] <;> omega) | fail) only [go_sem, ↓reduceIte, Nat.reduceEqDiff, Nat.reduceAdd, Nat.reduceSub, Nat.reduceMul, reduceCtorEq, Nat.reduceLeDiff], (by simp [ev_c, ev_put] <;> rfl), (by simp [ev_c, ev_put] <;> rfl), (by simp [ev_c, ev_put] <;> rfl), (by simp [ev_c, ev_put] <;> rfl), (by simp [ev_c, ev_put] <;> rfl), (by simp [ev_c, ev_put] <;> rfl)⟩
  · rintro i s hi ⟨tm, h', rfl, hs, lt, ga, gb, gc, t0, t3, t4, t6, t16, t17⟩
    have hi' : (i : Int) < (m.lots.length : Int) := by omega
    have hi12 : i < 12 := by omega
    have hput := encB_put2 (lotsB i) hi12 10000
    rw [← lotsB_step] at hput
    simp (maxSteps := 1000000) (implicitDefEqProofs := false) (disch := first | with_reducible rfl | omega | (simp only [nA, nS, nD] <;> omega) | fail) only [go_sem, ↓reduceIte, Nat.reduceEqDiff, Nat.reduceAdd, Nat.reduceSub, Nat.reduceMul, reduceCtorEq, Nat.reduceLeDiff, t0, t3, t4, t6, t16, t17, hi', q_iaa_ptr (nat_cst i) hi12, gc, hput, wr_succ]
    have s2 := hs.set (b := h.next + 1 + 1) (by omega) (by omega) hw (.cells .rw (encB (lotsB (i + 1))))
    exact ⟨_, _, rfl, s2, by rw [H.next_set]; omega, by rw [get_set_other (by omega)]; exact ga, by rw [get_set_other (by omega)]; exact gb, get_set_same rfl, (by simp [ev_c, ev_put, t0] <;> rfl), (by simp [ev_c, ev_put, t3] <;> rfl), (by simp [ev_c, ev_put, t4] <;> rfl), (by simp [ev_c, ev_put, t6] <;> rfl), (by simp [ev_c, ev_put, t16] <;> rfl), (by simp [ev_c, ev_put] <;> rfl)⟩
  rintro s ⟨tm, h', rfl, hs, lt, ga, gb, gc, t0, t3, t4, t6, t16, t17⟩
  rw [lotsB_all m c] at gc
  simp (maxSteps := 1000000) (implicitDefEqProofs := false) (disch := first | with_reducible rfl | omega | (simp only [nA, nS, nD] <;> omega) | fail) only [go_sem, ↓reduceIte, Nat.reduceEqDiff, Nat.reduceAdd, Nat.reduceSub, Nat.reduceMul, reduceCtorEq, Nat.reduceLeDiff, t0, t3, t4, t6, t16, t17, Int.lt_irrefl, cells_of (hs.get g1), hlenW]
  refine W_count m.wgs.length (fun i s => ∃ tm h', s = ⟨tm, h', []⟩ ∧ h.Sub h' ∧ h.next + 2 < h'.next ∧ h'.get h.next = some (.cells .rw [f]) ∧ h'.get (h.next + 1) = some (.cells .rw (encB zeroB)) ∧ h'.get (h.next + 1 + 1) = some (.cells .rw (encB (boxK m c i))) ∧
      (Opd.t 0).ev tm = .ptr d 0 ∧ (Opd.t 3).ev tm = .ptr h.next 0 ∧ (Opd.t 4).ev tm = .ptr (h.next + 1) 0 ∧ (Opd.t 6).ev tm = .ptr (h.next + 1 + 1) 0 ∧ (Opd.t 28).ev tm = W ∧ (Opd.t 29).ev tm = .int .i64 (m.wgs.length : Int) ∧ (Opd.t 30).ev tm = .int .i64 (i : Int))
    ?_ ?_ (i := 0) (Nat.zero_le _) ⟨_, _, rfl, hs, lt, ga, gb, gc, (by simp [ev_c, ev_put, t0] <;> rfl), (by simp [ev_c, ev_put, t3] <;> rfl), (by simp [ev_c, ev_put, t4] <;> rfl), (by simp [ev_c, ev_put, t6] <;> rfl), (by simp [ev_c, ev_put] <;> rfl), (by simp [ev_c, ev_put] <;> rfl), (by simp [ev_c, ev_put] <;> rfl)⟩ <;> clear t0 t3 t4 t6 t16 t17 ga gb gc lt hs h' tm
  · rintro i s hi ⟨tm, h', rfl, hs, lt, ga, gb, gc, t0, t3, t4, t6, t28, t29, t30⟩
    have hi' : (i : Int) < (m.wgs.length : Int) := by omega
    obtain ⟨bb, o, cc, cs, rfl, hcs, hq, hgg, hn, hn0⟩ := (aW.mono hs).at hi
    have hl := g.lot _ (List.getElem_mem hi)
    obtain ⟨lt', elt⟩ := Int.eq_ofNat_of_zero_le hl.1
    have hlt12 : lt' < 12 := by omega
    have hsay := say_bd g hi
    have sA := (H.Sub.refl hs.wf).add (.cells .rw (encW m.wgs[i]))
    have hsA := hs.trans sA
    simp (maxSteps := 1000000) (implicitDefEqProofs := false) (disch := first | with_reducible rfl | omega | (simp only [nA, nS, nD] <;> omega) | fail) only [go_sem, ↓reduceIte, Nat.reduceEqDiff, Nat.reduceAdd, Nat.reduceSub, Nat.reduceMul, reduceCtorEq, Nat.reduceLeDiff, t0, t3, t4, t6, t28, t29, t30, hi', hq (nat_cst i), hcs, hgg, encW]
    refine (says_ev hsA.wf (hd0.mono hsA) g hi).mono fun u h3 hu => ?_
    obtain ⟨rfl, s23⟩ := hu
    have hs3 := hsA.trans s23
    have l3 := s23.next
    rw [H.next_add] at l3
    have s34 := (H.Sub.refl hs3.wf).add (.cells .rw [.int .i64 (sayLo m m.wgs[i]), .int .i64 (sayHi m m.wgs[i])])
    have hs4 := hs3.trans s34
    have ga3 := (sA.trans s23).get ga
    have gb3 := (sA.trans s23).get gb
    have gc3 := (sA.trans s23).get gc
    have gw3 : h3.cells h'.next = some (encW m.wgs[i]) := s23.cells (cells_add_new rfl)
    simp (maxSteps := 1000000) (implicitDefEqProofs := false) (disch := first | with_reducible rfl | omega | (simp only [nA, nS, nD] <;> omega) | fail) only [go_sem, ↓reduceIte, Nat.reduceEqDiff, Nat.reduceAdd, Nat.reduceSub, Nat.reduceMul, reduceCtorEq, Nat.reduceLeDiff, t0, t3, t4, t6, t28, t29, t30, cells_of ga3]
    refine (hf i hi).use hs4 fun h5 s45 => ?_
    have hs5 := hs4.trans s45
    have l5 := s45.next
    rw [H.next_add] at l5
    have ga5 := (s34.trans s45).get ga3
    have gb5 := (s34.trans s45).get gb3
    have gc5 := (s34.trans s45).get gc3
    have gw5 := (s34.trans s45).cells gw3
    have gs5 : h5.cells h3.next = some [.int .i64 (sayLo m m.wgs[i]), .int .i64 (sayHi m m.wgs[i])] := s45.cells (cells_add_new rfl)
    cases hc : c i
    · simp (maxSteps := 1000000) (implicitDefEqProofs := false) (disch := first | with_reducible rfl | omega | (simp only [nA, nS, nD] <;> omega) | fail) only [go_sem, ↓reduceIte, Nat.reduceEqDiff, Nat.reduceAdd, Nat.reduceSub, Nat.reduceMul, reduceCtorEq, Nat.reduceLeDiff, t0, t3, t4, t6, t28, t29, t30, hc, wr_succ]
      exact ⟨_, _, rfl, hs5, by omega, ga5, gb5, by rw [boxK_miss hi hc]; exact gc5, (by simp [ev_c, ev_put, t0] <;> rfl), (by simp [ev_c, ev_put, t3] <;> rfl), (by simp [ev_c, ev_put, t4] <;> rfl), (by simp [ev_c, ev_put, t6] <;> rfl), (by simp [ev_c, ev_put, t28] <;> rfl), (by simp [ev_c, ev_put, t29] <;> rfl), (by simp [ev_c, ev_put] <;> rfl)⟩
    · obtain ⟨n1, n2, n3⟩ := encB_at (boxK m c i) hlt12
      have hput := fun x y => encB_put (boxK m c i) hlt12 x y
      simp (maxSteps := 1000000) (implicitDefEqProofs := false) (disch := first | with_reducible rfl | omega | (simp only [nA, nS, nD] <;> omega) | fail) only [go_sem, ↓reduceIte, Nat.reduceEqDiff, Nat.reduceAdd, Nat.reduceSub, Nat.reduceMul, reduceCtorEq, Nat.reduceLeDiff, t0, t3, t4, t6, t28, t29, t30, hc, gw5, encW, gs5, elt, q_iaa_ptr (nat_cst lt') hlt12, cells_of gc5, n1, n2]
      refine least_use (l := [sayHi m m.wgs[i]]) (SlAt.new _ rfl (by rfl) (by rfl) (by simp [encI]) (by simp)) ?_
      have s56 := (H.Sub.refl hs5.wf).add (.cells .rw [.int .i64 (sayHi m m.wgs[i])])
      have gc6 := s56.get gc5
      have hhit := boxK_hit g hi hc
      rw [elt] at hhit
      have hs6 := (hs5.trans s56).set (b := h.next + 1 + 1) (by omega) (by rw [H.next_add]; omega) hw (.cells .rw (encB (boxK m c (i + 1))))
      simp (maxSteps := 1000000) (implicitDefEqProofs := false) (disch := first | with_reducible rfl | omega | (simp only [nA, nS, nD] <;> omega) | fail) only [go_sem, ↓reduceIte, Nat.reduceEqDiff, Nat.reduceAdd, Nat.reduceSub, Nat.reduceMul, reduceCtorEq, Nat.reduceLeDiff, t0, t3, t4, t6, t28, t29, t30, hc, gw5, encW, gs5, elt, q_iaa_ptr (nat_cst lt') hlt12, cells_of gc5, cells_of gc6, gc6, n1, n2, List.foldl, hput, ← hhit, wr_succ]
      exact ⟨_, _, rfl, hs6, by rw [H.next_set, H.next_add]; omega, by rw [get_set_other (by omega)]; exact s56.get ga5, by rw [get_set_other (by omega)]; exact s56.get gb5, get_set_same rfl, (by simp [ev_c, ev_put, t0] <;> rfl), (by simp [ev_c, ev_put, t3] <;> rfl), (by simp [ev_c, ev_put, t4] <;> rfl), (by simp [ev_c, ev_put, t6] <;> rfl), (by simp [ev_c, ev_put, t28] <;> rfl), (by simp [ev_c, ev_put, t29] <;> rfl), (by simp [ev_c, ev_put] <;> rfl)⟩
  · rintro s ⟨tm, h', rfl, hs, lt, ga, gb, gc, t0, t3, t4, t6, t28, t29, t30⟩
    simp (maxSteps := 1000000) (implicitDefEqProofs := false) (disch := first | with_reducible rfl | omega | (simp only [nA, nS, nD] <;> omega) | fail) only [go_sem, ↓reduceIte, Nat.reduceEqDiff, Nat.reduceAdd, Nat.reduceSub, Nat.reduceMul, reduceCtorEq, Nat.reduceLeDiff, t0, t3, t4, t6, t28, t29, t30, Int.lt_irrefl, cells_of gc, ld_B]
    refine tight_ev hs.wf (hd0.mono hs) g (boxK_inv g c _) boxK_out _ fun r h2 s12 hr => ?_
    have gb2 := s12.get gb
    have hs2 := hs.trans s12
    have l2 := s12.next
    cases r with
    | none =>
      simp (maxSteps := 1000000) (implicitDefEqProofs := false) (disch := first | with_reducible rfl | omega | (simp only [nA, nS, nD] <;> omega) | fail) only [go_sem, ↓reduceIte, Nat.reduceEqDiff, Nat.reduceAdd, Nat.reduceSub, Nat.reduceMul, reduceCtorEq, Nat.reduceLeDiff, tightV, t0, t3, t4, t6, lenB, put_B zeroB zeroB gb2, ld_B]
      exact q none _ (hs2.set (by omega) (by omega) hw _) hr
    | some b =>
      simp (maxSteps := 1000000) (implicitDefEqProofs := false) (disch := first | with_reducible rfl | omega | (simp only [nA, nS, nD] <;> omega) | fail) only [go_sem, ↓reduceIte, Nat.reduceEqDiff, Nat.reduceAdd, Nat.reduceSub, Nat.reduceMul, reduceCtorEq, Nat.reduceLeDiff, tightV, t0, t3, t4, t6, lenB, put_B b zeroB gb2, ld_B]
      exact q (some b) _ (hs2.set (by omega) (by omega) hw _) hr
end Go.Ab.Try
set_option linter.unusedSimpArgs false
set_option linter.unusedVariables false
namespace Go.Ab
theorem a_msl_nm {h : H} {by_ n m : Nat} {z : List V} (h0 : n ≤ m) (h1 : m * by_ ≤ 1099511627776) (h2 : m ≤ 1099511627776) :
    a_msl h by_ z (.int .i64 (n : Int)) (.int .i64 (m : Int)) = some (.sl h.next 0 n (.fix m), h.add (.cells .rw (repN m z))) := by
  have e1 : Nat.ble (m * by_) 1099511627776 = true := by simpa using h1
  have e2 : Nat.ble m 1099511627776 = true := by simpa using h2
  have e3 : Nat.ble n m = true := by simpa using h0
  simp only [a_msl, nat_cst, e1, e2, e3, og_true, lf_eq]
end Go.Ab
namespace Go.Ab.Try
theorem MlOwn.keep {h0 h h' : H} {S : Nat → Prop} {v : V} {m : Ml} (a : MlOwn h0 h v m) (k : Keeps S h h') (hs : h0.Sub h') (n : ∀ b, S b → ∀ kd cs, h.get b ≠ some (.cells kd cs) ∨ b < h0.next) : MlOwn h0 h' v m := by
  obtain ⟨L, W, e, a1, a2, a3⟩ := a
  refine ⟨L, W, e, a1.keep k hs fun b hb hS => ?_, a2.keep k hs fun b hb hS => ?_, a3⟩
  · obtain ⟨l1, _, kd, cs, hg, _⟩ := a1.blk hb
    rcases n b hS kd cs with h | h
    · exact h hg
    · omega
  · obtain ⟨l1, _, kd, cs, hg, _⟩ := a2.blk hb
    rcases n b hS kd cs with h | h
    · exact h hg
    · omega
end Go.Ab.Try
namespace Go.Ab
theorem H.Sub.lt {h h' : H} (s : h.Sub h') {n : Nat} (l : n < h.next) : n < h'.next := Nat.lt_of_lt_of_le l s.next
namespace Try
/-- A mill's value is at no such block. -/
def vOff (v : V) (S : Nat → Prop) : Prop := ∀ e L W, v = .agg [e, L, W] → (∀ b, blkOf L b → ¬ S b) ∧ ∀ b, blkOf W b → ¬ S b
theorem MlIs.keep {h h' : H} {S : Nat → Prop} {v : V} {m : Ml} (a : MlIs h v m) (k : Keeps S h h') (n : vOff v S) : MlIs h' v m := by
  obtain ⟨L, W, rfl, a1, a2⟩ := a
  obtain ⟨n1, n2⟩ := n _ _ _ rfl
  exact ⟨L, W, rfl, SlAt_keep a1 k n1, SlAt_keep a2 k n2⟩
theorem MlOwn.off {h0 h : H} {v : V} {m : Ml} (a : MlOwn h0 h v m) {S : Nat → Prop} (n : ∀ b, h0.next ≤ b → ¬ S b) : vOff v S := by
  obtain ⟨L, W, rfl, a1, a2, _⟩ := a
  intro e L' W' e'
  cases e'
  exact ⟨fun b hb => n b (a1.blk hb).1, fun b hb => n b (a2.blk hb).1⟩
/-- Own, as a mill of our own. -/
theorem Own_own {h : H} {v : V} {m : Ml} (hw : h.wf) (hm : MlIs h v m) (hl : m.lots.length ≤ 1000 ∧ m.wgs.length ≤ 1000) (Q : V → H → Prop) (q : ∀ L W h', h.Sub h' → MlOwn h h' (.agg [.int .i64 m.errs, L, W]) m → L.one = true → W.one = true → Q (.agg [.int .i64 m.errs, L, W]) h') : Ev fnG fastA (.fn 18 [] []) [v] h Q := by
  refine (own_ev hw hm hl).mono fun u h3 hu => ?_
  obtain ⟨s23, a, b, rfl, la1, la2, lb1, lb2, nab, ga, gb⟩ := hu
  refine q _ _ _ s23 ⟨_, _, rfl, ⟨s23, by simp [encL], .inr (.inr ⟨a, m.lots.length, [], by simp, la1, la2, by simpa using ga, by simp, by simp⟩)⟩, ⟨s23, by simp [encW], .inr (.inr ⟨b, m.wgs.length, [], by simp, lb1, lb2, by simpa using gb, by simp, by simp⟩)⟩, fun c ⟨_, _, _, e1⟩ ⟨_, _, _, e2⟩ => ?_⟩ rfl rfl
  cases e1; cases e2; exact nab rfl
end Try
end Go.Ab
set_option linter.unusedSimpArgs false
set_option linter.unusedVariables false
namespace Go.Ab
/-- The first elements of an array. -/
def slaV (n sz b : Nat) (v : V) : Option V := match nat? v with
  | some e => og (bnds 0 e n) (og (Nat.ble n n) (some (sub b 0 sz (0, e, n))))
  | none => none
theorem q_sla_to (tm : T V) (n sz b : Nat) (x : Opd) : q_sla tm n sz (.ptr b 0) none (some x) none = slaV n sz b (x.ev tm) := by
  simp only [q_sla, bnd3, natO, slaV]
  cases nat? (x.ev tm) with
  | none => rfl
  | some e =>
    simp only
    cases bnds 0 e n
    · rfl
    · simp only [og_true]; cases Nat.ble n n <;> rfl
theorem slaV_int {n sz b k : Nat} (hk : k ≤ n) (hn : 0 < n) : slaV n sz b (.int .i64 (k : Int)) = some (.sl b 0 k (.fix n)) := by
  have e1 : Nat.ble 0 k = true := by simp
  have e2 : Nat.ble k n = true := by simpa using hk
  have e3 : Nat.ble n n = true := by simp
  have e4 : Nat.beq n 0 = false := by
    cases hb : Nat.beq n 0 with
    | false => rfl
    | true => have := Nat.eq_of_beq_eq_true hb; omega
  simp only [slaV, nat_cst, bnds, e1, e2, e3, og_true, sub, e4, bsel_false, Nat.zero_mul, Nat.add_zero, Nat.sub_zero]
/-- slices.Clone, behind the test for nil. -/
theorem clone_core {h : H} {x : V} {sz by_ : Nat} {rows : List (List V)} {Q : V → H → Prop} (hw : h.wf) (hx : SlAt h x sz rows) (hl : rows.length * by_ ≤ 1000000000) (hl2 : rows.length ≤ 1000000000) (q : ∀ v h', OwnC h h' v sz rows → Q v h') :
    P2 (e_app' (h.add (.cells .rw [])) sz by_ (.sl h.next 0 0 (.fix 0)) x) Q := by
  have s1 : h.Sub (h.add (.cells .rw [])) := (H.Sub.refl hw).add _
  have hx1 := (hx.mono s1).elems
  rw [e_app_eq, hx1.1, hx1.2]
  simp only [ob_some]
  cases hn : rows.length with
  | zero =>
    have e : rows = [] := List.length_eq_zero_iff.1 hn
    rw [e_app_fix0]
    have : Nat.ble 0 0 = true := rfl
    rw [this, og_true, P2_some]
    exact q _ _ (by rw [e]; exact ⟨s1, by simp, .inr (.inr ⟨h.next, 0, [], rfl, Nat.le_refl _, by rw [H.next_add]; omega, get_add_new rfl, by simp, Nat.le_refl _⟩)⟩)
  | succ k =>
    rw [e_app_full (by omega) (elems_0 _ _ _ _ _) (by rw [hn] at hl; simp only [Nat.zero_add]; omega) (by omega), grown_eq, P2_some]
    exact q _ _ ⟨s1.add _, hx.1, .inr (.inl ⟨(h.add (.cells .rw [])).next, by rw [hn, Nat.zero_add], by rw [H.next_add]; omega, by simp only [H.next_add]; omega, by rw [get_add_new rfl]; rfl⟩)⟩
namespace Try
open Go.Ab.Silk
theorem cloneSpan_ev {h : H} {x : V} {rows : List (List V)} (hw : h.wf) (hx : SlAt h x 2 rows) (hl : rows.length ≤ 1000000) (Q : V → H → Prop) (q : ∀ v h', OwnC h h' v 2 rows → Q v h') : Ev fnG fastA (.fn 96 [] []) [x] h Q := by
  refine Ev_body (fd := c96) rfl rfl rfl ?_
  rcases hx.2.2 with ⟨rfl, e⟩ | ⟨b, o, c, cs, rfl, _⟩
  · simp (maxSteps := 1000000) (implicitDefEqProofs := false) (disch := first | with_reducible rfl | omega | (simp only [nA, nS, nD] <;> omega) | fail) only [c96, go_sem, ↓reduceIte, Nat.reduceEqDiff, Nat.reduceAdd, Nat.reduceSub, Nat.reduceMul, reduceCtorEq, Nat.reduceLeDiff]
    exact q _ _ (by rw [e]; exact (OwnSl.nil (H.Sub.refl hw) 2).c)
  · simp (maxSteps := 1000000) (implicitDefEqProofs := false) (disch := first | with_reducible rfl | omega | (simp only [nA, nS, nD] <;> omega) | fail) only [c96, go_sem, ↓reduceIte, Nat.reduceEqDiff, Nat.reduceAdd, Nat.reduceSub, Nat.reduceMul, reduceCtorEq, Nat.reduceLeDiff]
    refine clone_core hw hx (by omega) (by omega) fun v h' ov => ?_
    simp (maxSteps := 1000000) (implicitDefEqProofs := false) (disch := first | with_reducible rfl | omega | (simp only [nA, nS, nD] <;> omega) | fail) only [go_sem, ↓reduceIte, Nat.reduceEqDiff, Nat.reduceAdd, Nat.reduceSub, Nat.reduceMul, reduceCtorEq, Nat.reduceLeDiff]
    exact q _ _ ov
/-- all -/
theorem all_ev (h : H) (Q : V → H → Prop) : Ev fnG fastA (.fn 125 [] []) [] h Q = Q (.agg [.fn 151 [] []]) (h.add (.cells .rw [.fn 151 [] []])) := by
  refine Ev.det (Ev_body (fd := c125) rfl rfl rfl ?_) Q
  simp (maxSteps := 1000000) (implicitDefEqProofs := false) (disch := first | with_reducible rfl | omega | (simp only [nA, nS, nD] <;> omega) | fail) only [c125, go_sem, ↓reduceIte, Nat.reduceEqDiff, Nat.reduceAdd, Nat.reduceSub, Nat.reduceMul, reduceCtorEq, Nat.reduceLeDiff]
theorem all1_pure (h : H) (x : V) : PureA h (.fn 151 [] []) [x] (.bool true) := fun h1 hs => by
  refine Ev_body (fd := c151) rfl rfl rfl ?_
  simp (maxSteps := 1000000) (implicitDefEqProofs := false) (disch := first | with_reducible rfl | omega | (simp only [nA, nS, nD] <;> omega) | fail) only [c151, go_sem, ↓reduceIte, Nat.reduceEqDiff, Nat.reduceAdd, Nat.reduceSub, Nat.reduceMul, reduceCtorEq, Nat.reduceLeDiff]
  exact H.Sub.refl hs.wf
def allC : Nat → Bool := fun _ => true
def FeasM (m : Ml) (c : Nat → Bool) (w : Int → Int) : Prop := Feas m.lots.length (parts m) (ownB m c) w
def ExactM (m : Ml) (c : Nat → Bool) (b : Box) : Prop := Exact m.lots.length (parts m) (ownB m c) b ∧ ∀ j : Int, ¬ (0 ≤ j ∧ j < m.lots.length) → b j = (0, 0)
theorem tightR_sem {m : Ml} (g : Good m) {c : Nat → Bool} {r : Option Box} (h : TightR m.lots.length (parts m) (ownB m c) r) : (r = none ∧ ¬ ∃ w, FeasM m c w) ∨ ∃ b, r = some b ∧ ExactM m c b ∧ Tight m.lots.length (parts m) b := by
  have gl := g.lots
  cases r with
  | none => exact .inl ⟨rfl, (h.none_iff (forest g) (by omega)).1 rfl⟩
  | some b => exact .inr ⟨b, rfl, ⟨h.exact (forest g), fun j hj => by rw [h.out (forest g) j hj]; exact boxK_out j hj⟩, h.nrw.2⟩
theorem ExactM.feas {m : Ml} (g : Good m) {c : Nat → Bool} {b : Box} (h : ExactM m c b) : ∃ w, FeasM m c w := by
  have gl := g.lots
  obtain ⟨w, f, _⟩ := h.1.full 0 _ (by omega) (by omega) (Int.le_refl _) (h.1.ne 0 (by omega) (by omega))
  exact ⟨w, f⟩
theorem ExactM.uniq {m : Ml} {c : Nat → Bool} {b b' : Box} (h : ExactM m c b) (k : ExactM m c b') : b = b' := funext fun j => by
  by_cases hj : 0 ≤ j ∧ j < m.lots.length
  · exact h.1.uniq k.1 hj.1 hj.2
  · rw [h.2 j hj, k.2 j hj]
theorem ownB_bd {m : Ml} (g : Good m) (c : Nat → Bool) (j : Int) : 0 ≤ (ownB m c j).1 ∧ (ownB m c j).2 ≤ 10000 := by
  have := boxK_inv g c m.wgs.length j
  exact ⟨this.1, this.2.2.2⟩
theorem ExactM.bd {m : Ml} (g : Good m) {c : Nat → Bool} {b : Box} (h : ExactM m c b) (j : Int) : 0 ≤ (b j).1 ∧ (b j).1 ≤ 10000 ∧ 0 ≤ (b j).2 ∧ (b j).2 ≤ 10000 := by
  by_cases hj : 0 ≤ j ∧ j < m.lots.length
  · have hn := h.1.ne j hj.1 hj.2
    obtain ⟨w1, f1, e1⟩ := h.1.full j _ hj.1 hj.2 (Int.le_refl _) hn
    obtain ⟨w2, f2, e2⟩ := h.1.full j _ hj.1 hj.2 hn (Int.le_refl _)
    have h1 := f1.1 j hj.1 hj.2
    have h2 := f2.1 j hj.1 hj.2
    have := ownB_bd g c j
    omega
  · rw [h.2 j hj]; simp
theorem SlAt_keep2 {h h' : H} {S : Nat → Prop} {x : V} {sz : Nat} {rows : List (List V)} (a : SlAt h x sz rows) (k : Keeps S h h') (n : rows ≠ [] → ∀ b, blkOf x b → ¬ S b) : SlAt h' x sz rows := by
  obtain ⟨a1, a0, a2⟩ := a
  refine ⟨a1, a0, ?_⟩
  rcases a2 with a2 | ⟨b, o, c, cs, e1, e2, e3⟩
  · exact .inl a2
  · refine .inr ⟨b, o, c, cs, e1, ?_, e3⟩
    by_cases hr : rows = []
    · exact .inl hr
    · exact .inr (k.cells (e2.resolve_left hr) (n hr b ⟨_, _, _, e1⟩))
theorem SlAt_lt {h : H} {x : V} {sz : Nat} {rows : List (List V)} (hw : h.wf) (a : SlAt h x sz rows) (hr : rows ≠ []) : ∀ b, blkOf x b → b < h.next := by
  rintro b ⟨o', n', c', e⟩
  rcases a.2.2 with ⟨rfl, _⟩ | ⟨b', o, c, cs, e1, e2, e3⟩
  · cases e
  · rw [e1] at e; cases e
    obtain ⟨k, hk⟩ := H.cells_eq (e2.resolve_left hr)
    exact hw _ _ hk
/-- opened, where the blocks between those of the mill and those that are made may be changed later. -/
theorem opened_keep {h0 h : H} {v : V} {m : Ml} (hs : h0.Sub h) (hw0 : h0.wf) (hm : MlIs h0 v m) : Ev fnG fastA (.fn 87 [] []) [v] h fun u h' => h.Sub h' ∧ ((check m ≠ 0 ∧ u = .tup [.nilp, .int .i64 (check m)]) ∨
    (check m = 0 ∧ ∃ d, u = .tup [.ptr d 0, .int .i64 0] ∧ DkAt h' d m ∧ ∀ (h'' : H) (S : Nat → Prop), Keeps S h' h'' → (∀ c, S c → h0.next ≤ c ∧ c < h.next) → DkAt h'' d m)) := by
  refine (opened_ev hs.wf (hm.mono hs)).mono fun u h' hu => ?_
  obtain ⟨hs', hu | ⟨c, d, pm, l, L, W, e1, ld, lp, e2, g1, g2, pt⟩⟩ := hu
  · exact ⟨hs', .inl hu⟩
  · obtain ⟨L', W', e, aL, aW⟩ := hm
    rw [e2] at e; cases e
    have hgl := (good_of c).lots
    have hparts : ∀ k, SlAt h' (found .nils false (lkA k l)) 1 ((parts m k).map encI) ∧ ∀ b, blkOf (found .nils false (lkA k l)) b → h.next ≤ b := fun k => by
      have hl := parts_len m k
      rcases pt.1 k with ⟨f1, f2⟩ | ⟨s, f1, f2⟩
      · rw [f1, f2]; exact ⟨(OwnSl.nil hs' 1).sl (by simp), fun b hb => (blkOf_nils hb).elim⟩
      · rw [f1]; exact ⟨f2.sl (by simp only [List.length_map]; omega), fun b hb => (f2.blk hb).1⟩
    refine ⟨hs', .inr ⟨c, d, e1, ⟨pm, l, L, W, g1, g2, (aL.mono hs).mono hs', (aW.mono hs).mono hs', fun k => (hparts k).1⟩, fun h'' S k hS => ⟨pm, l, L, W, k.2 _ _ g1 fun h => by have := hS _ h; omega, k.2 _ _ g2 fun h => by have := hS _ h; omega, ?_, ?_, fun j => ?_⟩⟩⟩
    · exact SlAt_keep2 ((aL.mono hs).mono hs') k fun hr b hb h => by have := SlAt_lt hw0 aL hr b hb; have := hS _ h; omega
    · exact SlAt_keep2 ((aW.mono hs).mono hs') k fun hr b hb h => by have := SlAt_lt hw0 aW hr b hb; have := hS _ h; omega
    · exact SlAt_keep2 (hparts j).1 k fun _ b hb h => by have := (hparts j).2 b hb; have := hS _ h; omega
/-- told -/
theorem told_ev {h : H} {v : V} {m : Ml} (hw : h.wf) (hm : MlIs h v m) : Ev fnG fastA (.fn 79 [] []) [v] h fun u h' => h.Sub h' ∧ ((check m ≠ 0 ∧ u = .tup [.nilp, .agg (encB zeroB), .int .i64 (check m)]) ∨
    (check m = 0 ∧ (¬ ∃ w, FeasM m allC w) ∧ u = .tup [.nilp, .agg (encB zeroB), .int .i64 7]) ∨
    (check m = 0 ∧ ∃ d b, u = .tup [.ptr d 0, .agg (encB b), .int .i64 0] ∧ DkAt h' d m ∧ ExactM m allC b ∧ Tight m.lots.length (parts m) b)) := by
  refine Ev.gen fun Q q => ?_
  have hm0 := hm
  obtain ⟨L, W, rfl, aL, aW⟩ := hm
  refine Ev_body (fd := c79) rfl rfl rfl ?_
  have s2 : h.Sub ((h.add (.cells .rw [.int .i64 m.errs, L, W])).add (.cells .rw (encB zeroB))) := (by repeat (first | assumption | exact H.Sub.refl (by assumption) | refine H.Sub.add ?_ _ | refine H.Sub.set ?_ (by first | omega | (simp only [H.next_add, H.next_set, H.next_del] <;> omega)) (by first | omega | (simp only [H.next_add, H.next_set, H.next_del] <;> omega)) (by assumption) _))
  simp (maxSteps := 1000000) (implicitDefEqProofs := false) (disch := first | with_reducible rfl | omega | (simp only [nA, nS, nD] <;> omega) | fail) only [c79, go_sem, ↓reduceIte, Nat.reduceEqDiff, Nat.reduceAdd, Nat.reduceSub, Nat.reduceMul, reduceCtorEq, Nat.reduceLeDiff, zerosB]
  refine (opened_keep s2 hw hm0).mono fun u h3 hu => ?_
  obtain ⟨s23, hu⟩ := hu
  have l3 := s23.next
  simp only [H.next_add] at l3
  have s3 := s2.trans s23
  have g2 : h3.get (h.next + 1) = some (.cells .rw (encB zeroB)) := s23.get (by simp (maxSteps := 1000000) (implicitDefEqProofs := false) (disch := first | with_reducible rfl | omega | (simp only [nA, nS, nD] <;> omega) | fail) only [go_sem, ↓reduceIte, Nat.reduceEqDiff, Nat.reduceAdd, Nat.reduceSub, Nat.reduceMul, reduceCtorEq, Nat.reduceLeDiff])
  rcases hu with ⟨c, rfl⟩ | ⟨c, d, rfl, hd, hkeep⟩
  · simp (maxSteps := 1000000) (implicitDefEqProofs := false) (disch := first | with_reducible rfl | omega | (simp only [nA, nS, nD] <;> omega) | fail) only [go_sem, ↓reduceIte, Nat.reduceEqDiff, Nat.reduceAdd, Nat.reduceSub, Nat.reduceMul, reduceCtorEq, Nat.reduceLeDiff, c, ne_eq, not_false_eq_true, zerosB, lenB, put_B zeroB zeroB g2, ld_B]
    exact q _ _ ⟨s3.set (by omega) (by omega) hw _, .inl ⟨c, rfl⟩⟩
  have g := good_of c
  have s34 := (H.Sub.refl s3.wf).add (.cells .rw [.fn 151 [] []])
  simp (maxSteps := 1000000) (implicitDefEqProofs := false) (disch := first | with_reducible rfl | omega | (simp only [nA, nS, nD] <;> omega) | fail) only [go_sem, ↓reduceIte, Nat.reduceEqDiff, Nat.reduceAdd, Nat.reduceSub, Nat.reduceMul, reduceCtorEq, Nat.reduceLeDiff, c, ne_eq, not_true_eq_false, all_ev]
  refine bounds_ev (c := allC) (H.Sub.wf s34) (hd.mono s34) g rfl (fun i _ => all1_pure _ _) _ fun r h4 s44 hr => ?_
  have s4 := s3.trans (s34.trans s44)
  have l4 := (s34.trans s44).next
  have g4 := (s34.trans s44).get g2
  have hz : (h4.add (.cells .rw (encB zeroB))).get h4.next = some (.cells .rw (encB zeroB)) := get_add_new rfl
  rcases tightR_sem g hr with ⟨rfl, hno⟩ | ⟨b, rfl, hex, ht⟩
  · have s45 := (H.Sub.refl s4.wf).add (.cells .rw (encB zeroB))
    have g5 := s45.get g4
    simp (maxSteps := 1000000) (implicitDefEqProofs := false) (disch := first | with_reducible rfl | omega | (simp only [nA, nS, nD] <;> omega) | fail) only [go_sem, ↓reduceIte, Nat.reduceEqDiff, Nat.reduceAdd, Nat.reduceSub, Nat.reduceMul, reduceCtorEq, Nat.reduceLeDiff, tightV, zerosB, lenB, put_B zeroB zeroB hz, put_B zeroB zeroB g5, ld_B]
    exact q _ _ ⟨(s4.trans s45).set (by omega) (by rw [H.next_add]; omega) hw _, .inr (.inl ⟨c, hno, rfl⟩)⟩
  · have s45 := (H.Sub.refl s4.wf).add (.cells .rw (encB b))
    have g5 := s45.get g4
    have e5 : (h4.add (.cells .rw (encB b))).cells h4.next = some (encB b) := cells_add_new rfl
    simp (maxSteps := 1000000) (implicitDefEqProofs := false) (disch := first | with_reducible rfl | omega | (simp only [nA, nS, nD] <;> omega) | fail) only [go_sem, ↓reduceIte, Nat.reduceEqDiff, Nat.reduceAdd, Nat.reduceSub, Nat.reduceMul, reduceCtorEq, Nat.reduceLeDiff, tightV, zerosB, lenB, put_B b zeroB hz, e5, put_B b zeroB g5, ld_B]
    have k6 := (Keeps.of (s34.trans (s44.trans s45)) (fun c => c = h.next + 1)).trans (Keeps.set (h4.add (.cells .rw (encB b))) (h.next + 1) (.cells .rw (encB b)))
    exact q _ _ ⟨(s4.trans s45).set (by omega) (by rw [H.next_add]; omega) hw _, .inr (.inr ⟨c, d, b, rfl, hkeep _ _ k6 (fun c hc => by simp only [H.next_add]; omega), hex, ht⟩)⟩
/-- Bounds as rows. -/
def spansL (b : Box) (n : Nat) : List (List Int) := (List.range n).map fun (i : Nat) => [(b (i : Int)).1, (b (i : Int)).2]
theorem spansL_len (b : Box) (n : Nat) : (spansL b n).length = n := by simp [spansL]
theorem take_B (b : Box) {n : Nat} (hn : n ≤ 12) : getN 0 (n * 2) (encB b) = some ((spansL b n).map (List.map iv)).flatten := by
  have : n = 0 ∨ n = 1 ∨ n = 2 ∨ n = 3 ∨ n = 4 ∨ n = 5 ∨ n = 6 ∨ n = 7 ∨ n = 8 ∨ n = 9 ∨ n = 10 ∨ n = 11 ∨ n = 12 := by omega
  rcases this with rfl | rfl | rfl | rfl | rfl | rfl | rfl | rfl | rfl | rfl | rfl | rfl | rfl <;> rfl
theorem spans_sl {h : H} {p : Nat} {b : Box} (hp : h.cells p = some (encB b)) {n : Nat} (hn : n ≤ 12) : SlAt h (.sl p 0 n (.fix 12)) 2 ((spansL b n).map (List.map iv)) := by
  refine ⟨fun r hr => ?_, by simp [spansL_len]; omega, .inr ⟨p, 0, .fix 12, _, by simp [spansL_len], .inr hp, ?_⟩⟩
  · obtain ⟨s, hs, rfl⟩ := List.mem_map.1 hr
    obtain ⟨i, _, rfl⟩ := List.mem_map.1 hs
    rfl
  · rw [List.length_map, spansL_len]; exact take_B b hn
/-- Bounds -/
theorem Bounds_ev {h : H} {v : V} {m : Ml} (hw : h.wf) (hm : MlIs h v m) : Ev fnG fastA (.fn 36 [] []) [v] h fun u h' => h.Sub h' ∧ ∃ x l e, u = .tup [x, .int .i64 e] ∧ SlAt h' x 2 (l.map (List.map iv)) ∧ ((check m ≠ 0 ∧ e = check m ∧ l = []) ∨
    (check m = 0 ∧ (¬ ∃ w, FeasM m allC w) ∧ e = 7 ∧ l = []) ∨ (check m = 0 ∧ ∃ b, ExactM m allC b ∧ e = 0 ∧ l = spansL b m.lots.length)) := by
  refine Ev.gen fun Q q => ?_
  have hm0 := hm
  obtain ⟨L, W, rfl, aL, aW⟩ := hm
  refine Ev_body (fd := c36) rfl rfl rfl ?_
  have hlenL := aL.lenE
  have s2 : h.Sub (h.add (.cells .rw [.int .i64 m.errs, L, W])) := (by repeat (first | assumption | exact H.Sub.refl (by assumption) | refine H.Sub.add ?_ _ | refine H.Sub.set ?_ (by first | omega | (simp only [H.next_add, H.next_set, H.next_del] <;> omega)) (by first | omega | (simp only [H.next_add, H.next_set, H.next_del] <;> omega)) (by assumption) _))
  simp (maxSteps := 1000000) (implicitDefEqProofs := false) (disch := first | with_reducible rfl | omega | (simp only [nA, nS, nD] <;> omega) | fail) only [c36, go_sem, ↓reduceIte, Nat.reduceEqDiff, Nat.reduceAdd, Nat.reduceSub, Nat.reduceMul, reduceCtorEq, Nat.reduceLeDiff, zerosB]
  refine (told_ev s2.wf (hm0.mono s2)).mono fun u h3 hu => ?_
  obtain ⟨s23, hu⟩ := hu
  have l3 := s23.next
  simp only [H.next_add] at l3
  have s3 := s2.trans s23
  have g2 : h3.cells h.next = some [.int .i64 m.errs, L, W] := s23.cells (cells_add_new rfl)
  have hz : (h3.add (.cells .rw (encB zeroB))).get h3.next = some (.cells .rw (encB zeroB)) := get_add_new rfl
  rcases hu with ⟨c, rfl⟩ | ⟨c, hno, rfl⟩ | ⟨c, d, b, rfl, hd, hex, _⟩
  · have s4 := s3.add (.cells .rw (encB zeroB))
    simp (maxSteps := 1000000) (implicitDefEqProofs := false) (disch := first | with_reducible rfl | omega | (simp only [nA, nS, nD] <;> omega) | fail) only [go_sem, ↓reduceIte, Nat.reduceEqDiff, Nat.reduceAdd, Nat.reduceSub, Nat.reduceMul, reduceCtorEq, Nat.reduceLeDiff, zerosB, lenB, put_B zeroB zeroB hz, c, ne_eq, not_false_eq_true]
    exact q _ _ ⟨s4, .nils, [], check m, rfl, (OwnSl.nil s4 2).sl (by simp), .inl ⟨c, rfl, rfl⟩⟩
  · have s4 := s3.add (.cells .rw (encB zeroB))
    simp (maxSteps := 1000000) (implicitDefEqProofs := false) (disch := first | with_reducible rfl | omega | (simp only [nA, nS, nD] <;> omega) | fail) only [go_sem, ↓reduceIte, Nat.reduceEqDiff, Nat.reduceAdd, Nat.reduceSub, Nat.reduceMul, reduceCtorEq, Nat.reduceLeDiff, zerosB, lenB, put_B zeroB zeroB hz, ne_eq, Int.reduceEq, not_false_eq_true]
    exact q _ _ ⟨s4, .nils, [], 7, rfl, (OwnSl.nil s4 2).sl (by simp), .inr (.inl ⟨c, hno, rfl, rfl⟩)⟩
  · have g := good_of c
    have gl := g.lots
    have s4 := s3.add (.cells .rw (encB b))
    have g4 : (h3.add (.cells .rw (encB b))).cells h3.next = some (encB b) := cells_add_new rfl
    have hsl := spans_sl g4 (n := m.lots.length) (by omega)
    simp (maxSteps := 1000000) (implicitDefEqProofs := false) (disch := first | with_reducible rfl | omega | (simp only [nA, nS, nD] <;> omega) | fail) only [go_sem, ↓reduceIte, Nat.reduceEqDiff, Nat.reduceAdd, Nat.reduceSub, Nat.reduceMul, reduceCtorEq, Nat.reduceLeDiff, zerosB, lenB, put_B b zeroB hz, ne_eq, not_true_eq_false, g2, hlenL, q_sla_to, slaV_int]
    refine cloneSpan_ev s4.wf hsl (by simp [spansL_len]; omega) _ fun x h5 ox => ?_
    simp (maxSteps := 1000000) (implicitDefEqProofs := false) (disch := first | with_reducible rfl | omega | (simp only [nA, nS, nD] <;> omega) | fail) only [go_sem, ↓reduceIte, Nat.reduceEqDiff, Nat.reduceAdd, Nat.reduceSub, Nat.reduceMul, reduceCtorEq, Nat.reduceLeDiff]
    exact q _ _ ⟨s4.trans ox.1, x, _, 0, rfl, ox.sl (by simp [spansL_len]; omega), .inr (.inr ⟨c, b, hex, rfl, rfl⟩)⟩
/-- The lot whose bounds are farthest apart. -/
def bestW (b : Box) : Nat → Nat
  | 0 => 0
  | k + 1 => if (b (bestW b k : Nat)).2 - (b (bestW b k : Nat)).1 < (b (k : Int)).2 - (b (k : Int)).1 then k else bestW b k
theorem bestW_lt (b : Box) : ∀ k, bestW b k ≤ k - 1
  | 0 => Nat.le_refl _
  | k + 1 => by
    have := bestW_lt b k
    simp only [bestW]; split <;> omega
/-- Widest -/
theorem Widest_ev {h : H} {v : V} {m : Ml} (hw : h.wf) (hm : MlIs h v m) : Ev fnG fastA (.fn 37 [] []) [v] h fun u h' => h.Sub h' ∧ ∃ n lo hi e, u = .tup [.int .i64 n, .agg [.int .i64 lo, .int .i64 hi], .int .i64 e] ∧ ((check m ≠ 0 ∧ e = check m ∧ n = 0 ∧ lo = 0 ∧ hi = 0) ∨
    (check m = 0 ∧ (¬ ∃ w, FeasM m allC w) ∧ e = 7 ∧ n = 0 ∧ lo = 0 ∧ hi = 0) ∨ (check m = 0 ∧ ∃ b, ExactM m allC b ∧ e = 0 ∧ n = (bestW b m.lots.length : Nat) ∧ lo = (b (bestW b m.lots.length : Nat)).1 ∧ hi = (b (bestW b m.lots.length : Nat)).2)) := by
  refine Ev.gen fun Q q => ?_
  have hm0 := hm
  obtain ⟨L, W, rfl, aL, aW⟩ := hm
  refine Ev_body (fd := c37) rfl rfl rfl ?_
  have hlenL := aL.lenE
  have s2 : h.Sub ((h.add (.cells .rw [.int .i64 m.errs, L, W])).add (.cells .rw [.int .i64 0, .int .i64 0])) := (by repeat (first | assumption | exact H.Sub.refl (by assumption) | refine H.Sub.add ?_ _ | refine H.Sub.set ?_ (by first | omega | (simp only [H.next_add, H.next_set, H.next_del] <;> omega)) (by first | omega | (simp only [H.next_add, H.next_set, H.next_del] <;> omega)) (by assumption) _))
  simp (maxSteps := 1000000) (implicitDefEqProofs := false) (disch := first | with_reducible rfl | omega | (simp only [nA, nS, nD] <;> omega) | fail) only [c37, go_sem, ↓reduceIte, Nat.reduceEqDiff, Nat.reduceAdd, Nat.reduceSub, Nat.reduceMul, reduceCtorEq, Nat.reduceLeDiff, zerosB]
  refine (told_ev s2.wf (hm0.mono s2)).mono fun u h3 hu => ?_
  obtain ⟨s23, hu⟩ := hu
  have l3 := s23.next
  simp only [H.next_add] at l3
  have s3 := s2.trans s23
  have g2 : h3.cells h.next = some [.int .i64 m.errs, L, W] := s23.cells (by simp (maxSteps := 1000000) (implicitDefEqProofs := false) (disch := first | with_reducible rfl | omega | (simp only [nA, nS, nD] <;> omega) | fail) only [go_sem, ↓reduceIte, Nat.reduceEqDiff, Nat.reduceAdd, Nat.reduceSub, Nat.reduceMul, reduceCtorEq, Nat.reduceLeDiff])
  have gr : h3.get (h.next + 1) = some (.cells .rw [.int .i64 0, .int .i64 0]) := s23.get (by simp (maxSteps := 1000000) (implicitDefEqProofs := false) (disch := first | with_reducible rfl | omega | (simp only [nA, nS, nD] <;> omega) | fail) only [go_sem, ↓reduceIte, Nat.reduceEqDiff, Nat.reduceAdd, Nat.reduceSub, Nat.reduceMul, reduceCtorEq, Nat.reduceLeDiff])
  have hz : (h3.add (.cells .rw (encB zeroB))).get h3.next = some (.cells .rw (encB zeroB)) := get_add_new rfl
  rcases hu with ⟨c, rfl⟩ | ⟨c, hno, rfl⟩ | ⟨c, d, b, rfl, hd, hex, _⟩
  · have s4 := s3.add (.cells .rw (encB zeroB))
    simp (maxSteps := 1000000) (implicitDefEqProofs := false) (disch := first | with_reducible rfl | omega | (simp only [nA, nS, nD] <;> omega) | fail) only [go_sem, ↓reduceIte, Nat.reduceEqDiff, Nat.reduceAdd, Nat.reduceSub, Nat.reduceMul, reduceCtorEq, Nat.reduceLeDiff, zerosB, lenB, put_B zeroB zeroB hz, c, ne_eq, not_false_eq_true, gr]
    exact q _ _ ⟨s4.set (by omega) (by rw [H.next_add]; omega) hw _, 0, 0, 0, check m, rfl, .inl ⟨c, rfl, rfl, rfl, rfl⟩⟩
  · have s4 := s3.add (.cells .rw (encB zeroB))
    simp (maxSteps := 1000000) (implicitDefEqProofs := false) (disch := first | with_reducible rfl | omega | (simp only [nA, nS, nD] <;> omega) | fail) only [go_sem, ↓reduceIte, Nat.reduceEqDiff, Nat.reduceAdd, Nat.reduceSub, Nat.reduceMul, reduceCtorEq, Nat.reduceLeDiff, zerosB, lenB, put_B zeroB zeroB hz, ne_eq, Int.reduceEq, not_false_eq_true, gr]
    exact q _ _ ⟨s4.set (by omega) (by rw [H.next_add]; omega) hw _, 0, 0, 0, 7, rfl, .inr (.inl ⟨c, hno, rfl, rfl, rfl, rfl⟩)⟩
  · have g := good_of c
    have gl := g.lots
    have s4 := s3.add (.cells .rw (encB b))
    have g4 : (h3.add (.cells .rw (encB b))).cells h3.next = some (encB b) := cells_add_new rfl
    have gr4 := ((H.Sub.refl s3.wf).add (.cells .rw (encB b))).get gr
    have l4 : (h3.add (.cells .rw (encB b))).next = h3.next + 1 := H.next_add _ _
    simp (maxSteps := 1000000) (implicitDefEqProofs := false) (disch := first | with_reducible rfl | omega | (simp only [nA, nS, nD] <;> omega) | fail) only [go_sem, ↓reduceIte, Nat.reduceEqDiff, Nat.reduceAdd, Nat.reduceSub, Nat.reduceMul, reduceCtorEq, Nat.reduceLeDiff, zerosB, lenB, put_B b zeroB hz, ne_eq, not_true_eq_false, g2, hlenL]
    generalize h3.add (.cells .rw (encB b)) = h4 at s4 g4 gr4 l4 ⊢
    refine W_count m.lots.length (fun i s => ∃ tm, s = ⟨tm, h4, []⟩ ∧ (Opd.t 3).ev tm = .ptr (h.next + 1) 0 ∧ (Opd.t 6).ev tm = .ptr h3.next 0 ∧ (Opd.t 8).ev tm = .int .i64 ((bestW b i : Nat) : Int) ∧ (Opd.t 22).ev tm = .int .i64 (m.lots.length : Int) ∧ (Opd.t 23).ev tm = .int .i64 (i : Int))
      ?_ ?_ (i := 0) (Nat.zero_le _) ⟨_, rfl, (by simp [ev_c, ev_put] <;> rfl), (by simp [ev_c, ev_put] <;> rfl), (by simp [ev_c, ev_put] <;> rfl), (by simp [ev_c, ev_put] <;> rfl), (by simp [ev_c, ev_put] <;> rfl)⟩
    · rintro i s hi ⟨tm, rfl, t3, t6, t8, t22, t23⟩
      have hi' : (i : Int) < (m.lots.length : Int) := by omega
      have hi12 : i < 12 := by omega
      have hb12 : bestW b i < 12 := by have := bestW_lt b i; omega
      obtain ⟨n1, n2, n3⟩ := encB_at b hi12
      obtain ⟨m1, m2, m3⟩ := encB_at b hb12
      have b1 := hex.bd g (i : Int)
      have b2 := hex.bd g (bestW b i : Nat)
      by_cases hlt : (b (bestW b i : Nat)).2 - (b (bestW b i : Nat)).1 < (b (i : Int)).2 - (b (i : Int)).1
      · simp (maxSteps := 1000000) (implicitDefEqProofs := false) (disch := first | with_reducible rfl | omega | (simp only [nA, nS, nD] <;> omega) | fail) only [go_sem, ↓reduceIte, Nat.reduceEqDiff, Nat.reduceAdd, Nat.reduceSub, Nat.reduceMul, reduceCtorEq, Nat.reduceLeDiff, t3, t6, t8, t22, t23, hi', q_iaa_ptr (nat_cst i) hi12, q_iaa_ptr (nat_cst (bestW b i)) hb12, g4, n1, n2, m1, m2, wr_in, hlt, wr_succ]
        exact ⟨_, rfl, (by simp [ev_c, ev_put, t3] <;> rfl), (by simp [ev_c, ev_put, t6] <;> rfl), by simp only [bestW, if_pos hlt]; exact (by simp [ev_c, ev_put] <;> rfl), (by simp [ev_c, ev_put, t22] <;> rfl), (by simp [ev_c, ev_put] <;> rfl)⟩
      · simp (maxSteps := 1000000) (implicitDefEqProofs := false) (disch := first | with_reducible rfl | omega | (simp only [nA, nS, nD] <;> omega) | fail) only [go_sem, ↓reduceIte, Nat.reduceEqDiff, Nat.reduceAdd, Nat.reduceSub, Nat.reduceMul, reduceCtorEq, Nat.reduceLeDiff, t3, t6, t8, t22, t23, hi', q_iaa_ptr (nat_cst i) hi12, q_iaa_ptr (nat_cst (bestW b i)) hb12, g4, n1, n2, m1, m2, wr_in, hlt, wr_succ]
        exact ⟨_, rfl, (by simp [ev_c, ev_put, t3] <;> rfl), (by simp [ev_c, ev_put, t6] <;> rfl), by simp only [bestW, if_neg hlt]; exact (by simp [ev_c, ev_put, t8] <;> rfl), (by simp [ev_c, ev_put, t22] <;> rfl), (by simp [ev_c, ev_put] <;> rfl)⟩
    · rintro s ⟨tm, rfl, t3, t6, t8, t22, t23⟩
      have hb12 : bestW b m.lots.length < 12 := by have := bestW_lt b m.lots.length; omega
      obtain ⟨m1, m2, m3⟩ := encB_at b hb12
      simp (maxSteps := 1000000) (implicitDefEqProofs := false) (disch := first | with_reducible rfl | omega | (simp only [nA, nS, nD] <;> omega) | fail) only [go_sem, ↓reduceIte, Nat.reduceEqDiff, Nat.reduceAdd, Nat.reduceSub, Nat.reduceMul, reduceCtorEq, Nat.reduceLeDiff, t3, t6, t8, t22, t23, Int.lt_irrefl, q_iaa_ptr (nat_cst (bestW b m.lots.length)) hb12, g4, m3, gr4]
      exact q _ _ ⟨s4.set (by omega) (by omega) hw _, _, _, _, 0, rfl, .inr (.inr ⟨c, b, hex, rfl, rfl, rfl, rfl⟩)⟩
end Try
end Go.Ab
set_option linter.unusedSimpArgs false
set_option linter.unusedVariables false
namespace Go.Ab.Try
open Go.Ab.Silk
/-- A list as weights. -/
def wOfL (l : List Int) : Int → Int := fun i => l.getD i.toNat 0
theorem wOfL_at {l : List Int} {i : Nat} (hi : i < l.length) : wOfL l (i : Int) = l[i] := by
  unfold wOfL
  rw [Int.toNat_natCast, List.getD_eq_getElem?_getD, List.getElem?_eq_getElem hi]; rfl
theorem Feas_congr {n : Nat} {parts : Int → List Int} {B : Box} {w w' : Int → Int} (hp : ∀ i p : Int, p ∈ parts i → 0 ≤ p ∧ p < n) (f : Feas n parts B w) (h : ∀ i : Int, 0 ≤ i → i < n → w' i = w i) : Feas n parts B w' :=
  ⟨fun i i0 i1 => by rw [h i i0 i1]; exact f.1 i i0 i1, fun i i0 i1 hne => by
    rw [h i i0 i1, f.2 i i0 i1 hne]
    exact (sumL_congr fun p hpp => h p (hp i p hpp).1 (hp i p hpp).2).symm⟩
theorem fix_step {m : Ml} (g : Good m) {b : Box} (ht : Tight m.lots.length (parts m) b) (hn : Nrw (ownB m allC) b) {i v : Int} (i0 : 0 ≤ i) (i1 : i < m.lots.length) (v1 : (b i).1 ≤ v) (v2 : v ≤ (b i).2) {r : Option Box} (hr : TightR m.lots.length (parts m) (updB b i (v, v)) r) :
    ∃ c, r = some c ∧ Tight m.lots.length (parts m) c ∧ Nrw (ownB m allC) c ∧ c i = (v, v) ∧ (∀ j : Int, ¬ (0 ≤ j ∧ j < m.lots.length) → c j = b j) ∧ ∀ (j : Int) (u : Int), 0 ≤ j → j < m.lots.length → b j = (u, u) → c j = (u, u) := by
  have F := forest g
  obtain ⟨w, f, e⟩ := tight_full F ht i0 i1 v1 v2
  have f' : Feas m.lots.length (parts m) (updB b i (v, v)) w := ⟨fun j j0 j1 => by
    by_cases hj : j = i
    · subst hj; unfold updB; rw [if_pos rfl, e]; exact ⟨Int.le_refl _, Int.le_refl _⟩
    · unfold updB; rw [if_neg hj]; exact f.1 j j0 j1, f.2⟩
  obtain ⟨c, rfl, _⟩ := hr.sound F w f'
  obtain ⟨n1, t1⟩ := hr.nrw
  have hup : Nrw b (updB b i (v, v)) := fun j => by
    by_cases hj : j = i
    · subst hj; unfold updB; rw [if_pos rfl]; exact ⟨v1, v2⟩
    · unfold updB; rw [if_neg hj]; exact ⟨Int.le_refl _, Int.le_refl _⟩
  have fixed : ∀ (j : Int) (u : Int), 0 ≤ j → j < m.lots.length → updB b i (v, v) j = (u, u) → c j = (u, u) := fun j u j0 j1 h => by
    have a1 := n1 j
    have a2 := t1.ne j j0 j1
    rw [h] at a1
    simp only at a1
    exact Prod.ext (by simp only; omega) (by simp only; omega)
  refine ⟨c, rfl, t1, hn.trans (hup.trans n1), fixed i v i0 i1 (by unfold updB; rw [if_pos rfl]), fun j hj => ?_, fun j u j0 j1 h => ?_⟩
  · rw [hr.out F j hj]; unfold updB; rw [if_neg (by omega)]
  · by_cases hj : j = i
    · subst hj
      have : v = u := by rw [h] at v1 v2; simp only at v1 v2; omega
      subst this
      exact fixed j v j0 j1 (by unfold updB; rw [if_pos rfl])
    · exact fixed j u j0 j1 (by unfold updB; rw [if_neg hj]; exact h)
theorem InvB.of {m : Ml} (g : Good m) {b : Box} (ht : Tight m.lots.length (parts m) b) (hn : Nrw (ownB m allC) b) (ho : ∀ j : Int, ¬ (0 ≤ j ∧ j < m.lots.length) → b j = (0, 0)) : ∀ j : Int, 0 ≤ (b j).1 ∧ (b j).1 ≤ 10000 ∧ 0 ≤ (b j).2 ∧ (b j).2 ≤ 10000 := fun j => by
  by_cases hj : 0 ≤ j ∧ j < m.lots.length
  · have h1 := ht.ne j hj.1 hj.2
    have h2 := hn j
    have h3 := ownB_bd g allC j
    omega
  · rw [ho j hj]; simp
theorem upd_inv {b : Box} (h : ∀ j : Int, 0 ≤ (b j).1 ∧ (b j).1 ≤ 10000 ∧ 0 ≤ (b j).2 ∧ (b j).2 ≤ 10000) {i v : Int} (hv : 0 ≤ v ∧ v ≤ 10000) : InvB (updB b i (v, v)) := fun j => by
  unfold updB
  split
  · simp only; omega
  · have := h j; omega
theorem upd_out {m : Ml} {b : Box} (ho : ∀ j : Int, ¬ (0 ≤ j ∧ j < m.lots.length) → b j = (0, 0)) {i v : Int} (i0 : 0 ≤ i) (i1 : i < m.lots.length) : ∀ j : Int, ¬ (0 ≤ j ∧ j < m.lots.length) → updB b i (v, v) j = (0, 0) := fun j hj => by
  unfold updB
  rw [if_neg (by omega)]; exact ho j hj
set_option maxHeartbeats 2000000 in
/-- Weights -/
theorem Weights_ev {h : H} {v : V} {m : Ml} (hw : h.wf) (hm : MlIs h v m) (lot dry : Int) : Ev fnG fastA (.fn 68 [] []) [v, .int .i64 lot, .int .i64 dry] h fun u h' => h.Sub h' ∧ ∃ x l e, u = .tup [x, .int .i64 e] ∧ SlAt h' x 1 (l.map encI) ∧ ((check m ≠ 0 ∧ e = check m ∧ l = []) ∨
    (check m = 0 ∧ ¬ (0 ≤ lot ∧ lot ≤ (m.lots.length : Int) - 1) ∧ e = 1 ∧ l = []) ∨ (check m = 0 ∧ (0 ≤ lot ∧ lot ≤ (m.lots.length : Int) - 1) ∧ (¬ ∃ w, FeasM m allC w ∧ w lot = dry) ∧ e = 6 ∧ l = []) ∨
    (check m = 0 ∧ (0 ≤ lot ∧ lot ≤ (m.lots.length : Int) - 1) ∧ e = 0 ∧ l.length = m.lots.length ∧ FeasM m allC (wOfL l) ∧ wOfL l lot = dry)) := by
  refine Ev.gen fun Q q => ?_
  have hm0 := hm
  obtain ⟨L, W, rfl, aL, aW⟩ := hm
  refine Ev_body (fd := c68) rfl rfl rfl ?_
  have hlenL := aL.lenE
  have s2 : h.Sub (h.add (.cells .rw [.int .i64 m.errs, L, W])) := (by repeat (first | assumption | exact H.Sub.refl (by assumption) | refine H.Sub.add ?_ _ | refine H.Sub.set ?_ (by first | omega | (simp only [H.next_add, H.next_set, H.next_del] <;> omega)) (by first | omega | (simp only [H.next_add, H.next_set, H.next_del] <;> omega)) (by assumption) _))
  simp (maxSteps := 1000000) (implicitDefEqProofs := false) (disch := first | with_reducible rfl | omega | (simp only [nA, nS, nD] <;> omega) | fail) only [c68, go_sem, ↓reduceIte, Nat.reduceEqDiff, Nat.reduceAdd, Nat.reduceSub, Nat.reduceMul, reduceCtorEq, Nat.reduceLeDiff, zerosB]
  refine (known_ev s2.wf (hm0.mono s2) lot).mono fun u h3 hu => ?_
  obtain ⟨s23, hu⟩ := hu
  have s3 := s2.trans s23
  have nil3 : SlAt h3 .nils 1 (([] : List Int).map encI) := (OwnSl.nil s3 1).sl (by simp)
  rcases hu with ⟨c, rfl⟩ | ⟨c, c2, rfl⟩ | ⟨c, c2, d, rfl, hd⟩
  · simp (maxSteps := 1000000) (implicitDefEqProofs := false) (disch := first | with_reducible rfl | omega | (simp only [nA, nS, nD] <;> omega) | fail) only [go_sem, ↓reduceIte, Nat.reduceEqDiff, Nat.reduceAdd, Nat.reduceSub, Nat.reduceMul, reduceCtorEq, Nat.reduceLeDiff, ne_eq, c, not_false_eq_true]
    exact q _ _ ⟨s3, .nils, [], check m, rfl, nil3, .inl ⟨c, rfl, rfl⟩⟩
  · simp (maxSteps := 1000000) (implicitDefEqProofs := false) (disch := first | with_reducible rfl | omega | (simp only [nA, nS, nD] <;> omega) | fail) only [go_sem, ↓reduceIte, Nat.reduceEqDiff, Nat.reduceAdd, Nat.reduceSub, Nat.reduceMul, reduceCtorEq, Nat.reduceLeDiff, ne_eq, Int.reduceEq, not_false_eq_true]
    exact q _ _ ⟨s3, .nils, [], 1, rfl, nil3, .inr (.inl ⟨c, c2, rfl, rfl⟩)⟩
  have g := good_of c
  have gl := g.lots
  have F := forest g
  obtain ⟨n, rfl⟩ := Int.eq_ofNat_of_zero_le c2.1
  have hn : n < m.lots.length := by omega
  have hn12 : n < 12 := by omega
  have s34 := (H.Sub.refl s3.wf).add (.cells .rw [.fn 151 [] []])
  simp (maxSteps := 1000000) (implicitDefEqProofs := false) (disch := first | with_reducible rfl | omega | (simp only [nA, nS, nD] <;> omega) | fail) only [go_sem, ↓reduceIte, Nat.reduceEqDiff, Nat.reduceAdd, Nat.reduceSub, Nat.reduceMul, reduceCtorEq, Nat.reduceLeDiff, ne_eq, not_true_eq_false, all_ev]
  refine bounds_ev (c := allC) (H.Sub.wf s34) (hd.mono s34) g rfl (fun i _ => all1_pure _ _) _ fun r h4 s44 hr => ?_
  have hs34 := s34.trans s44
  have s4 := s3.trans hs34
  have hz : (h4.add (.cells .rw (encB zeroB))).get h4.next = some (.cells .rw (encB zeroB)) := get_add_new rfl
  have nilz : ∀ hh, h4.Sub hh → SlAt hh .nils 1 (([] : List Int).map encI) := fun hh hs => nil3.mono (hs34.trans hs)
  have hnrw := hr
  rcases tightR_sem g hr with ⟨rfl, hno⟩ | ⟨b, rfl, hex, ht⟩
  · have s45 := (H.Sub.refl s4.wf).add (.cells .rw (encB zeroB))
    simp (maxSteps := 1000000) (implicitDefEqProofs := false) (disch := first | with_reducible rfl | omega | (simp only [nA, nS, nD] <;> omega) | fail) only [go_sem, ↓reduceIte, Nat.reduceEqDiff, Nat.reduceAdd, Nat.reduceSub, Nat.reduceMul, reduceCtorEq, Nat.reduceLeDiff, tightV, zerosB, lenB, put_B zeroB zeroB hz]
    exact q _ _ ⟨s4.trans s45, .nils, [], 6, rfl, nilz _ s45, .inr (.inr (.inl ⟨c, c2, fun ⟨w, f, _⟩ => hno ⟨w, f⟩, rfl, rfl⟩))⟩
  have hnb : Nrw (ownB m allC) b := hr.nrw.1
  obtain ⟨n1, n2, n3⟩ := encB_at b hn12
  have s45 := (H.Sub.refl s4.wf).add (.cells .rw (encB b))
  have g5 : (h4.add (.cells .rw (encB b))).get h4.next = some (.cells .rw (encB b)) := get_add_new rfl
  have l5 : (h4.add (.cells .rw (encB b))).next = h4.next + 1 := H.next_add _ _
  by_cases hdry : (b (n : Int)).1 ≤ dry ∧ dry ≤ (b (n : Int)).2
  case neg =>
    simp (maxSteps := 1000000) (implicitDefEqProofs := false) (disch := first | with_reducible rfl | omega | (simp only [nA, nS, nD] <;> omega) | fail) only [go_sem, ↓reduceIte, Nat.reduceEqDiff, Nat.reduceAdd, Nat.reduceSub, Nat.reduceMul, reduceCtorEq, Nat.reduceLeDiff, tightV, zerosB, lenB, put_B b zeroB hz, q_iaa_ptr (nat_cst n) hn12, cells_of g5, n1, n2, in_ev, hdry]
    refine q _ _ ⟨s4.trans s45, .nils, [], 6, rfl, nilz _ s45, .inr (.inr (.inl ⟨c, c2, fun ⟨w, f, e⟩ => hdry ?_, rfl, rfl⟩))⟩
    have := hex.1.sound w f (n : Int) c2.1 (by omega)
    rw [e] at this; exact this
  have hbB := InvB.of g ht hnb hex.2
  have hput := encB_put b hn12 dry dry
  have hbn := hbB (n : Int)
  simp (maxSteps := 1000000) (implicitDefEqProofs := false) (disch := first | with_reducible rfl | omega | (simp only [nA, nS, nD] <;> omega) | fail) only [go_sem, ↓reduceIte, Nat.reduceEqDiff, Nat.reduceAdd, Nat.reduceSub, Nat.reduceMul, reduceCtorEq, Nat.reduceLeDiff, tightV, zerosB, lenB, put_B b zeroB hz, q_iaa_ptr (nat_cst n) hn12, cells_of g5, n1, n2, in_ev, hdry, g5, hput, ld_B]
  have s4set : ∀ (hh : H) (x : Blk), h4.Sub hh → h4.next < hh.next → h4.Sub (hh.set h4.next x) := fun hh x s l => s.set (Nat.le_refl _) l s4.wf x
  have s46 := s45.add (.cells .rw (encB (updB b (n : Int) (dry, dry))))
  have s4b : h4.Sub (h4.add (.cells .rw (encB (updB b (n : Int) (dry, dry))))) := (H.Sub.refl s4.wf).add _
  have g6 : (h4.add (.cells .rw (encB (updB b (n : Int) (dry, dry))))).get h4.next = some (.cells .rw (encB (updB b (n : Int) (dry, dry)))) := get_add_new rfl
  have l6 : (h4.add (.cells .rw (encB (updB b (n : Int) (dry, dry))))).next = h4.next + 1 := H.next_add _ _
  refine tight_ev (s4.trans s4b).wf (hd.mono (hs34.trans s4b)) g (upd_inv hbB (by omega)) (upd_out hex.2 c2.1 (by omega)) _ fun r h7 s67 hr7 => ?_
  obtain ⟨b7, rfl, ht7, hn7, hfix7, ho7, _⟩ := fix_step g ht hnb c2.1 (by omega) hdry.1 hdry.2 hr7
  have ho7' : ∀ j : Int, ¬ (0 ≤ j ∧ j < m.lots.length) → b7 j = (0, 0) := fun j hj => by rw [ho7 j hj]; exact hex.2 j hj
  have g7 := s67.get g6
  have l7 := s67.next
  have s47 := s4b.trans s67
  obtain ⟨pm, l, L', W', k1, k2, aL', _, _⟩ := id hd
  have hlenL' := aL'.lenE
  simp (maxSteps := 1000000) (implicitDefEqProofs := false) (disch := first | with_reducible rfl | omega | (simp only [nA, nS, nD] <;> omega) | fail) only [go_sem, ↓reduceIte, Nat.reduceEqDiff, Nat.reduceAdd, Nat.reduceSub, Nat.reduceMul, reduceCtorEq, Nat.reduceLeDiff, tightV, zerosB, lenB, put_B b7 _ g7, cells_of ((hs34.trans s47).get k1)]
  have s48 := s4set h7 (.cells .rw (encB b7)) s47 (by omega)
  have kd : (h7.set h4.next (.cells .rw (encB b7))).cells d = some [.int .i64 m.errs, L', W', .map pm] := cells_of ((hs34.trans s48).get k1)
  simp (maxSteps := 1000000) (implicitDefEqProofs := false) (disch := first | with_reducible rfl | omega | (simp only [nA, nS, nD] <;> omega) | fail) only [go_sem, ↓reduceIte, Nat.reduceEqDiff, Nat.reduceAdd, Nat.reduceSub, Nat.reduceMul, reduceCtorEq, Nat.reduceLeDiff, kd, hlenL']
  refine W_count m.lots.length (fun i s => ∃ tm h' b' x out, s = ⟨tm, h', []⟩ ∧ h4.Sub h' ∧ h4.next < h'.next ∧ OwnSl h4 h' x 1 (out.map encI) ∧ (∀ y, blkOf x y → y ≠ h4.next) ∧ out.length = i ∧ h'.get h4.next = some (.cells .rw (encB b')) ∧ Tight m.lots.length (parts m) b' ∧ Nrw (ownB m allC) b' ∧
      (∀ j : Int, ¬ (0 ≤ j ∧ j < m.lots.length) → b' j = (0, 0)) ∧ b' (n : Int) = (dry, dry) ∧ (∀ (j : Nat) (hj : j < out.length), b' (j : Int) = (out[j], out[j])) ∧
      (Opd.t 8).ev tm = .ptr d 0 ∧ (Opd.t 10).ev tm = .ptr h4.next 0 ∧ (Opd.t 12).ev tm = x ∧ (Opd.t 60).ev tm = .int .i64 (m.lots.length : Int) ∧ (Opd.t 61).ev tm = .int .i64 (i : Int))
    ?_ ?_ (i := 0) (Nat.zero_le _) ⟨_, _, b7, .nils, [], rfl, s48, by rw [H.next_set]; omega, OwnSl.nil s48 1, fun y hy => (blkOf_nils hy).elim, rfl, get_set_same rfl, ht7, hn7, ho7', hfix7, fun j hj => by simp at hj, (by simp [ev_c, ev_put] <;> rfl), (by simp [ev_c, ev_put] <;> rfl), (by simp [ev_c, ev_put] <;> rfl), (by simp [ev_c, ev_put] <;> rfl), (by simp [ev_c, ev_put] <;> rfl)⟩
  · rintro i s hi ⟨tm, h', b', x, out, rfl, hs, lt, ox, nx, hol, gb, ht', hn', ho', hfix, hout, t8, t10, t12, t60, t61⟩
    have hi' : (i : Int) < (m.lots.length : Int) := by omega
    have hi12 : i < 12 := by omega
    obtain ⟨u1, u2, u3⟩ := encB_at b' hi12
    have hput' := encB_put2 b' hi12 (b' (i : Int)).1
    have hbB' := InvB.of g ht' hn' ho'
    have hbi := hbB' (i : Int)
    have hne := ht'.ne (i : Int) (by omega) hi'
    simp (maxSteps := 1000000) (implicitDefEqProofs := false) (disch := first | with_reducible rfl | omega | (simp only [nA, nS, nD] <;> omega) | fail) only [go_sem, ↓reduceIte, Nat.reduceEqDiff, Nat.reduceAdd, Nat.reduceSub, Nat.reduceMul, reduceCtorEq, Nat.reduceLeDiff, t8, t10, t12, t60, t61, hi', q_iaa_ptr (nat_cst i) hi12, cells_of gb, gb, u1, hput', ld_B]
    have sS := s4set h' (.cells .rw (encB (updB b' (i : Int) ((b' (i : Int)).1, (b' (i : Int)).1)))) hs lt
    have kS := Keeps.set h' h4.next (.cells .rw (encB (updB b' (i : Int) ((b' (i : Int)).1, (b' (i : Int)).1))))
    have gS : (h'.set h4.next (.cells .rw (encB (updB b' (i : Int) ((b' (i : Int)).1, (b' (i : Int)).1))))).get h4.next = some (.cells .rw (encB (updB b' (i : Int) ((b' (i : Int)).1, (b' (i : Int)).1)))) := get_set_same rfl
    have lS : (h'.set h4.next (.cells .rw (encB (updB b' (i : Int) ((b' (i : Int)).1, (b' (i : Int)).1))))).next = h'.next := H.next_set _ _ _
    refine tight_ev sS.wf (hd.mono (hs34.trans sS)) g (upd_inv hbB' (by omega)) (upd_out ho' (by omega) hi') _ fun r h9 s89 hr9 => ?_
    obtain ⟨b9, rfl, ht9, hn9, hfix9, ho9, hold9⟩ := fix_step g ht' hn' (by omega) hi' (Int.le_refl _) hne hr9
    have g9 := s89.get gS
    have l9 := s89.next
    have s49 := sS.trans s89
    have ox9 := (ox.keep kS sS nx).mono s89
    obtain ⟨w1, w2, w3⟩ := encB_at b9 hi12
    have sT := s4set h9 (.cells .rw (encB b9)) s49 (by omega)
    have kT := Keeps.set h9 h4.next (.cells .rw (encB b9))
    have gT : (h9.set h4.next (.cells .rw (encB b9))).get h4.next = some (.cells .rw (encB b9)) := get_set_same rfl
    have oxT := ox9.keep kT sT nx
    have lT : (h9.set h4.next (.cells .rw (encB b9))).next = h9.next := H.next_set _ _ _
    simp (maxSteps := 1000000) (implicitDefEqProofs := false) (disch := first | with_reducible rfl | omega | (simp only [nA, nS, nD] <;> omega) | fail) only [go_sem, ↓reduceIte, Nat.reduceEqDiff, Nat.reduceAdd, Nat.reduceSub, Nat.reduceMul, reduceCtorEq, Nat.reduceLeDiff, tightV, t8, t10, t12, t60, t61, lenB, put_B b9 _ g9, q_iaa_ptr (nat_cst i) hi12, w1]
    have sU := (H.Sub.refl sT.wf).add (.cells .rw [.int .i64 (b9 (i : Int)).1])
    have hl12 : (out.map encI).length ≤ 12 := by simp only [List.length_map]; omega
    refine (oxT.mono sU).app1 (r := encI (b9 (i : Int)).1) s4.wf rfl (by omega) (SlAt.new _ (by rw [lT]) rfl rfl (by simp [encI]) (by simp)) rfl (by omega) (by omega) fun hV oV kV nV => ?_
    have gV := kV.2 _ _ (sU.get gT) fun hb => nx _ hb rfl
    have lV := kV.1
    rw [H.next_add] at lV
    simp only [H.next_add, H.next_set] at oV
    simp (maxSteps := 1000000) (implicitDefEqProofs := false) (disch := first | with_reducible rfl | omega | (simp only [nA, nS, nD] <;> omega) | fail) only [go_sem, ↓reduceIte, Nat.reduceEqDiff, Nat.reduceAdd, Nat.reduceSub, Nat.reduceMul, reduceCtorEq, Nat.reduceLeDiff, t8, t10, t12, t60, t61, wr_succ]
    refine ⟨_, _, b9, _, out ++ [(b9 (i : Int)).1], rfl, oV.1, by omega, by rw [List.map_append]; exact oV, fun y hy => by (obtain ⟨_, _, _, e⟩ := hy; cases e; omega), by simp; omega, gV, ht9, hn9, fun j hj => by rw [ho9 j hj]; exact ho' j hj, hold9 _ _ c2.1 (by omega) hfix, fun j hj => ?_, (by simp [ev_c, ev_put, t8] <;> rfl), (by simp [ev_c, ev_put, t10] <;> rfl), (by simp [ev_c, ev_put] <;> rfl), (by simp [ev_c, ev_put, t60] <;> rfl), (by simp [ev_c, ev_put] <;> rfl)⟩
    by_cases hjl : j < out.length
    · rw [List.getElem_append_left hjl]
      exact hold9 _ _ (by omega) (by omega) (hout j hjl)
    · have : j = i := by simp at hj; omega
      subst this
      rw [List.getElem_append_right (by omega)]
      simp only [hol, Nat.sub_self, List.getElem_cons_zero]
      rw [hfix9]
  · rintro s ⟨tm, h', b', x, out, rfl, hs, lt, ox, nx, hol, gb, ht', hn', ho', hfix, hout, t8, t10, t12, t60, t61⟩
    simp (maxSteps := 1000000) (implicitDefEqProofs := false) (disch := first | with_reducible rfl | omega | (simp only [nA, nS, nD] <;> omega) | fail) only [go_sem, ↓reduceIte, Nat.reduceEqDiff, Nat.reduceAdd, Nat.reduceSub, Nat.reduceMul, reduceCtorEq, Nat.reduceLeDiff, t8, t10, t12, t60, t61, Int.lt_irrefl]
    obtain ⟨w, f, _⟩ := tight_full F ht' (by omega : (0 : Int) ≤ 0) (by omega) (Int.le_refl _) (ht'.ne 0 (by omega) (by omega))
    have hwo : ∀ i : Int, 0 ≤ i → i < m.lots.length → wOfL out i = w i := fun i i0 i1 => by
      obtain ⟨j, rfl⟩ := Int.eq_ofNat_of_zero_le i0
      have hj : j < out.length := by omega
      have h1 := f.1 (j : Int) i0 i1
      rw [hout j hj] at h1
      simp only at h1
      rw [wOfL_at hj]; omega
    refine q _ _ ⟨s4.trans hs, x, out, 0, rfl, ox.sl (by simp; omega), .inr (.inr (.inr ⟨c, c2, rfl, hol, ?_, ?_⟩))⟩
    · exact Feas_congr (fun i p hp => by have := (F.mem _ _).1 hp; omega) (f.mono fun i _ _ => hn' i) hwo
    · rw [hwo _ c2.1 (by omega)]
      have h1 := f.1 (n : Int) c2.1 (by omega)
      rw [hfix] at h1
      simp only at h1; omega
end Go.Ab.Try
set_option linter.unusedSimpArgs false
set_option linter.unusedVariables false
namespace Go.Ab.Try
open Go.Ab.Silk
theorem ownK_iff {m : Ml} {c : Nat → Bool} {lot x : Int} : ∀ k, k ≤ m.wgs.length → (((ownK m c lot k).1 ≤ x ∧ x ≤ (ownK m c lot k).2) ↔ (0 ≤ x ∧ x ≤ 10000) ∧ ∀ j (hj : j < m.wgs.length), j < k → c j = true → m.wgs[j].lot = lot → sayLo m m.wgs[j] ≤ x ∧ x ≤ sayHi m m.wgs[j])
  | 0, _ => by simp [ownK]
  | k + 1, hk => by
    have ih := ownK_iff (m := m) (c := c) (lot := lot) (x := x) k (by omega)
    have hk' : k < m.wgs.length := by omega
    by_cases h : c k = true ∧ m.wgs[k].lot = lot
    · rw [ownK_hit hk' h.1 h.2]
      simp only
      constructor
      · intro h1
        obtain ⟨a1, a2⟩ := ih.1 ⟨by omega, by omega⟩
        refine ⟨a1, fun j hj hjk hc hl => ?_⟩
        by_cases e : j = k
        · subst e; omega
        · exact a2 j hj (by omega) hc hl
      · rintro ⟨a1, a2⟩
        have h1 := ih.2 ⟨a1, fun j hj hjk hc hl => a2 j hj (by omega) hc hl⟩
        have h2 := a2 k hk' (by omega) h.1 h.2
        omega
    · rw [ownK_miss hk' (by
        by_cases h1 : c k = true
        · exact .inr fun h2 => h ⟨h1, h2⟩
        · exact .inl (by simpa using h1)), ih]
      constructor
      · rintro ⟨a1, a2⟩
        refine ⟨a1, fun j hj hjk hc hl => ?_⟩
        by_cases e : j = k
        · subst e; exact absurd ⟨hc, hl⟩ h
        · exact a2 j hj (by omega) hc hl
      · rintro ⟨a1, a2⟩
        exact ⟨a1, fun j hj hjk hc hl => a2 j hj (by omega) hc hl⟩
theorem own_iff {m : Ml} (g : Good m) {c : Nat → Bool} {w : Int → Int} : (∀ i : Int, 0 ≤ i → i < m.lots.length → (ownB m c i).1 ≤ w i ∧ w i ≤ (ownB m c i).2) ↔
    (∀ i : Int, 0 ≤ i → i < m.lots.length → 0 ≤ w i ∧ w i ≤ 10000) ∧ ∀ k (hk : k < m.wgs.length), c k = true → sayLo m m.wgs[k] ≤ w m.wgs[k].lot ∧ w m.wgs[k].lot ≤ sayHi m m.wgs[k] := by
  have e : ∀ i : Int, 0 ≤ i → i < m.lots.length → ownB m c i = ownK m c i m.wgs.length := fun i i0 i1 => by unfold ownB boxK; rw [if_pos ⟨i0, i1⟩]
  constructor
  · intro h
    refine ⟨fun i i0 i1 => ?_, fun k hk hc => ?_⟩
    · have h1 := h i i0 i1
      rw [e i i0 i1] at h1
      exact ((ownK_iff m.wgs.length (Nat.le_refl _)).1 h1).1
    · have hl := g.lot _ (List.getElem_mem hk)
      have h1 := h _ hl.1 (by omega)
      rw [e _ hl.1 (by omega)] at h1
      exact ((ownK_iff m.wgs.length (Nat.le_refl _)).1 h1).2 k hk hk hc rfl
  · rintro ⟨h1, h2⟩ i i0 i1
    rw [e i i0 i1]
    exact (ownK_iff m.wgs.length (Nat.le_refl _)).2 ⟨h1 i i0 i1, fun j hj _ hc hl => by have := h2 j hj hc; rw [hl] at this; exact this⟩
def FitsP (m : Ml) (ws : List Int) : Prop := ws.length = m.lots.length ∧ FeasM m allC (wOfL ws)
theorem fitsP_iff {m : Ml} (g : Good m) {ws : List Int} : FitsP m ws ↔ ws.length = m.lots.length ∧ (∀ i (hi : i < ws.length), 0 ≤ ws[i] ∧ ws[i] ≤ 10000) ∧ (∀ i (hi : i < ws.length), parts m (i : Int) ≠ [] → ws[i] = sumL (wOfL ws) (parts m (i : Int))) ∧
    ∀ k (hk : k < m.wgs.length), sayLo m m.wgs[k] ≤ wOfL ws m.wgs[k].lot ∧ wOfL ws m.wgs[k].lot ≤ sayHi m m.wgs[k] := by
  unfold FitsP FeasM Feas
  rw [own_iff g]
  constructor
  · rintro ⟨h0, ⟨h1, h2⟩, h3⟩
    refine ⟨h0, fun i hi => ?_, fun i hi hne => ?_, fun k hk => h2 k hk rfl⟩
    · have := h1 (i : Int) (by omega) (by omega); rwa [wOfL_at hi] at this
    · have := h3 (i : Int) (by omega) (by omega) hne; rwa [wOfL_at hi] at this
  · rintro ⟨h0, h1, h2, h3⟩
    refine ⟨h0, ⟨fun i i0 i1 => ?_, fun k hk _ => h3 k hk⟩, fun i i0 i1 hne => ?_⟩
    · obtain ⟨j, rfl⟩ := Int.eq_ofNat_of_zero_le i0
      rw [wOfL_at (by omega : j < ws.length)]; exact h1 j (by omega)
    · obtain ⟨j, rfl⟩ := Int.eq_ofNat_of_zero_le i0
      rw [wOfL_at (by omega : j < ws.length)]; exact h2 j (by omega) hne
theorem fits1_pure (h : H) (n : Int) : PureA h (.fn 129 [] []) [.int .i64 n] (.bool (decide (0 ≤ n ∧ n ≤ 10000))) := fun h1 hs => by
  refine Ev_body (fd := c129) rfl rfl rfl ?_
  simp (maxSteps := 1000000) (implicitDefEqProofs := false) (disch := first | with_reducible rfl | omega | (simp only [nA, nS, nD] <;> omega) | fail) only [c129, go_sem, ↓reduceIte, Nat.reduceEqDiff, Nat.reduceAdd, Nat.reduceSub, Nat.reduceMul, reduceCtorEq, Nat.reduceLeDiff, in_ev]
  exact H.Sub.refl hs.wf
set_option maxHeartbeats 2000000 in
/-- Fits -/
theorem Fits_ev {h : H} {v x : V} {m : Ml} {ws : List Int} (hw : h.wf) (hm : MlIs h v m) (hx : SlAt h x 1 (ws.map encI)) : Ev fnG fastA (.fn 70 [] []) [v, x] h fun u h' => h.Sub h' ∧ ∃ t e, u = .tup [.bool t, .int .i64 e] ∧ ((check m ≠ 0 ∧ e = check m ∧ t = false) ∨
    (check m = 0 ∧ e = 0 ∧ (t = true ↔ FitsP m ws))) := by
  refine Ev.gen fun Q q => ?_
  have hm0 := hm
  obtain ⟨L, W, rfl, aL, aW⟩ := hm
  refine Ev_body (fd := c70) rfl rfl rfl ?_
  have hlenL := aL.lenE
  have hlenW := aW.lenE
  have hlenX := hx.lenE
  have s2 : h.Sub (h.add (.cells .rw [.int .i64 m.errs, L, W])) := (by repeat (first | assumption | exact H.Sub.refl (by assumption) | refine H.Sub.add ?_ _ | refine H.Sub.set ?_ (by first | omega | (simp only [H.next_add, H.next_set, H.next_del] <;> omega)) (by first | omega | (simp only [H.next_add, H.next_set, H.next_del] <;> omega)) (by assumption) _))
  simp (maxSteps := 1000000) (implicitDefEqProofs := false) (disch := first | with_reducible rfl | omega | (simp only [nA, nS, nD] <;> omega) | fail) only [c70, go_sem, ↓reduceIte, Nat.reduceEqDiff, Nat.reduceAdd, Nat.reduceSub, Nat.reduceMul, reduceCtorEq, Nat.reduceLeDiff]
  refine (opened_dk s2.wf (hm0.mono s2)).mono fun u h3 hu => ?_
  obtain ⟨s23, hu⟩ := hu
  have s3 := s2.trans s23
  have g1 : h3.cells h.next = some [.int .i64 m.errs, L, W] := s23.cells (cells_add_new rfl)
  rcases hu with ⟨c, rfl⟩ | ⟨c, d, rfl, hd⟩
  · simp (maxSteps := 1000000) (implicitDefEqProofs := false) (disch := first | with_reducible rfl | omega | (simp only [nA, nS, nD] <;> omega) | fail) only [go_sem, ↓reduceIte, Nat.reduceEqDiff, Nat.reduceAdd, Nat.reduceSub, Nat.reduceMul, reduceCtorEq, Nat.reduceLeDiff, ne_eq, c, not_false_eq_true]
    exact q _ _ ⟨s3, false, check m, rfl, .inl ⟨c, rfl, rfl⟩⟩
  have g := good_of c
  have gl := g.lots
  have gw := g.wgs
  have F := forest g
  by_cases hlen : (ws.length : Int) = (m.lots.length : Int)
  case neg =>
    simp (maxSteps := 1000000) (implicitDefEqProofs := false) (disch := first | with_reducible rfl | omega | (simp only [nA, nS, nD] <;> omega) | fail) only [go_sem, ↓reduceIte, Nat.reduceEqDiff, Nat.reduceAdd, Nat.reduceSub, Nat.reduceMul, reduceCtorEq, Nat.reduceLeDiff, ne_eq, not_true_eq_false, g1, hlenL, hlenX, hlen, not_false_eq_true]
    refine q _ _ ⟨s3, false, 0, rfl, .inr ⟨c, rfl, ?_⟩⟩
    simp only [Bool.false_eq_true, false_iff]
    exact fun hf => hlen (by rw [hf.1])
  have hlen' : ws.length = m.lots.length := by omega
  simp (maxSteps := 1000000) (implicitDefEqProofs := false) (disch := first | with_reducible rfl | omega | (simp only [nA, nS, nD] <;> omega) | fail) only [go_sem, ↓reduceIte, Nat.reduceEqDiff, Nat.reduceAdd, Nat.reduceSub, Nat.reduceMul, reduceCtorEq, Nat.reduceLeDiff, ne_eq, not_true_eq_false, g1, hlenL, hlenX, hlen]
  refine (everyInt_ev (p := fun n => decide (0 ≤ n ∧ n ≤ 10000)) s3.wf (hx.mono s3) fun n _ => fits1_pure _ n).mono fun u h4 hu => ?_
  obtain ⟨rfl, s34⟩ := hu
  have s4 := s3.trans s34
  have hd4 := hd.mono s34
  have g4 := s34.cells g1
  cases hall : ws.all fun n => decide (0 ≤ n ∧ n ≤ 10000)
  · simp (maxSteps := 1000000) (implicitDefEqProofs := false) (disch := first | with_reducible rfl | omega | (simp only [nA, nS, nD] <;> omega) | fail) only [go_sem, ↓reduceIte, Nat.reduceEqDiff, Nat.reduceAdd, Nat.reduceSub, Nat.reduceMul, reduceCtorEq, Nat.reduceLeDiff, Bool.not_false]
    refine q _ _ ⟨s4, false, 0, rfl, .inr ⟨c, rfl, ?_⟩⟩
    simp only [Bool.false_eq_true, false_iff, fitsP_iff g]
    rintro ⟨_, h1, _⟩
    have : ws.all (fun n => decide (0 ≤ n ∧ n ≤ 10000)) = true := List.all_eq_true.2 fun n hn => by
      obtain ⟨i, hi, rfl⟩ := List.getElem_of_mem hn
      simpa using h1 i hi
    rw [hall] at this; cases this
  have hrange : ∀ i (hi : i < ws.length), 0 ≤ ws[i] ∧ ws[i] ≤ 10000 := fun i hi => by
    have := List.all_eq_true.1 hall _ (List.getElem_mem hi)
    simpa using this
  have hwr : ∀ p : Int, 0 ≤ wOfL ws p ∧ wOfL ws p ≤ 10000 := fun p => by
    unfold wOfL
    rw [List.getD_eq_getElem?_getD]
    cases e : ws[p.toNat]? with
    | none => simp
    | some y =>
      obtain ⟨hi, rfl⟩ := List.getElem?_eq_some_iff.1 e
      exact hrange _ hi
  have bdS : ∀ l : List Int, (l.length : Int) ≤ 12 → 0 ≤ sumL (wOfL ws) l ∧ sumL (wOfL ws) l ≤ 120000 := fun l hl => by
    have h1 := sum_bd (x := wOfL ws) (C := 10000) (l := l) (fun p => by have := hwr p; omega) (by omega) hl
    have h2 := sumL_nonneg (x := wOfL ws) (l := l) fun p _ => (hwr p).1
    omega
  obtain ⟨pm, l, L', W', k1, k2, aL', aW', ap⟩ := id hd4
  simp (maxSteps := 1000000) (implicitDefEqProofs := false) (disch := first | with_reducible rfl | omega | (simp only [nA, nS, nD] <;> omega) | fail) only [go_sem, ↓reduceIte, Nat.reduceEqDiff, Nat.reduceAdd, Nat.reduceSub, Nat.reduceMul, reduceCtorEq, Nat.reduceLeDiff, Bool.not_true, hlenX]
  refine W_count ws.length (fun i s => ∃ tm, s = ⟨tm, h4, []⟩ ∧ (∀ j (hj : j < ws.length), j < i → parts m (j : Int) ≠ [] → ws[j] = sumL (wOfL ws) (parts m (j : Int))) ∧
      (Opd.t 1).ev tm = x ∧ (Opd.t 2).ev tm = .ptr h.next 0 ∧ (Opd.t 6).ev tm = .ptr d 0 ∧ (Opd.t 34).ev tm = x ∧ (Opd.t 35).ev tm = .int .i64 (ws.length : Int) ∧ (Opd.t 36).ev tm = .int .i64 (i : Int))
    ?_ ?_ (i := 0) (Nat.zero_le _) ⟨_, rfl, fun j hj h0 => by omega, (by simp [ev_c, ev_put] <;> rfl), (by simp [ev_c, ev_put] <;> rfl), (by simp [ev_c, ev_put] <;> rfl), (by simp [ev_c, ev_put] <;> rfl), (by simp [ev_c, ev_put] <;> rfl), (by simp [ev_c, ev_put] <;> rfl)⟩
  · rintro i s hi ⟨tm, rfl, hinv, t1, t2, t6, t34, t35, t36⟩
    have hi' : (i : Int) < (ws.length : Int) := by omega
    obtain ⟨bb, o, cc, cs, rfl, hcs, hq, hgg, hn, hn0⟩ := (hx.mono s4).at hi
    obtain ⟨ps, eps⟩ : ∃ ps, parts m (i : Int) = ps := ⟨_, rfl⟩
    obtain ⟨X, eX⟩ : ∃ X, found .nils false (lkA (i : Int) l) = X := ⟨_, rfl⟩
    have hap := ap (i : Int)
    rw [eX, eps] at hap
    have hlenP := hap.lenE
    have hlp := parts_len m (i : Int)
    rw [eps] at hlp
    have hwi := hrange i hi
    have hpsm : ∀ p ∈ ps, 0 ≤ p ∧ p < m.lots.length := fun p hp => by
      have := (F.mem (i : Int) p).1 (by rw [eps]; exact hp)
      omega
    simp (maxSteps := 1000000) (implicitDefEqProofs := false) (disch := first | with_reducible rfl | omega | (simp only [nA, nS, nD] <;> omega) | fail) only [go_sem, ↓reduceIte, Nat.reduceEqDiff, Nat.reduceAdd, Nat.reduceSub, Nat.reduceMul, reduceCtorEq, Nat.reduceLeDiff, t1, t2, t6, t34, t35, t36, hi', hq (nat_cst i), hcs, hn0 (by omega), encI, cells_of k1, k2, eX, hlenP]
    refine W_count ps.length (fun j s => ∃ tm, s = ⟨tm, h4, []⟩ ∧ (Opd.t 1).ev tm = .sl bb o ws.length cc ∧ (Opd.t 2).ev tm = .ptr h.next 0 ∧ (Opd.t 6).ev tm = .ptr d 0 ∧ (Opd.t 8).ev tm = .int .i64 (i : Int) ∧ (Opd.t 9).ev tm = .int .i64 (ws[i] - sumL (wOfL ws) (ps.take j)) ∧
        (Opd.t 34).ev tm = .sl bb o ws.length cc ∧ (Opd.t 35).ev tm = .int .i64 (ws.length : Int) ∧ (Opd.t 36).ev tm = .int .i64 (i : Int) ∧ (Opd.t 46).ev tm = X ∧ (Opd.t 47).ev tm = .int .i64 (ps.length : Int) ∧ (Opd.t 48).ev tm = .int .i64 (j : Int))
      ?_ ?_ (i := 0) (Nat.zero_le _) ⟨_, rfl, (by simp [ev_c, ev_put, t1] <;> rfl), (by simp [ev_c, ev_put, t2] <;> rfl), (by simp [ev_c, ev_put, t6] <;> rfl), (by simp [ev_c, ev_put] <;> rfl), by (simp only [List.take_zero, sumL, Int.sub_zero]; exact (by simp [ev_c, ev_put] <;> rfl)), (by simp [ev_c, ev_put, t34] <;> rfl), (by simp [ev_c, ev_put, t35] <;> rfl), (by simp [ev_c, ev_put, t36] <;> rfl), (by simp [ev_c, ev_put] <;> rfl), (by simp [ev_c, ev_put] <;> rfl), (by simp [ev_c, ev_put] <;> rfl)⟩ <;> clear t1 t2 t6 t34 t35 t36 tm
    · rintro j s hj ⟨tm, rfl, t1, t2, t6, t8, t9, t34, t35, t36, t46, t47, t48⟩
      have hj' : (j : Int) < (ps.length : Int) := by omega
      obtain ⟨b2, o2, c2, cs2, rfl, hcs2, hq2, hgg2, hn2, hn02⟩ := hap.at hj
      obtain ⟨p0, p1⟩ := hpsm _ (List.getElem_mem hj)
      obtain ⟨p, ep⟩ := Int.eq_ofNat_of_zero_le p0
      have hp : p < ws.length := by omega
      obtain ⟨b3, o3, c3, cs3, e3, hcs3, hq3, hgg3, hn3, hn03⟩ := (hx.mono s4).at hp
      cases e3
      have hst := sum_take (wOfL ws) hj
      rw [ep, wOfL_at hp] at hst
      have hb1 := bdS (ps.take j) (by simp only [List.length_take]; omega)
      have hwp := hrange p hp
      simp (maxSteps := 1000000) (implicitDefEqProofs := false) (disch := first | with_reducible rfl | omega | (simp only [nA, nS, nD] <;> omega) | fail) only [go_sem, ↓reduceIte, Nat.reduceEqDiff, Nat.reduceAdd, Nat.reduceSub, Nat.reduceMul, reduceCtorEq, Nat.reduceLeDiff, t1, t2, t6, t8, t9, t34, t35, t36, t46, t47, t48, hj', hq2 (nat_cst j), hcs2, hn02 (by omega), encI, ep, hq3 (nat_cst p), hcs3, hn03 (by omega), wr_in, wr_succ]
      exact ⟨_, rfl, (by simp [ev_c, ev_put, t1] <;> rfl), (by simp [ev_c, ev_put, t2] <;> rfl), (by simp [ev_c, ev_put, t6] <;> rfl), (by simp [ev_c, ev_put, t8] <;> rfl), by rw [hst, ← Int.sub_sub]; exact (by simp [ev_c, ev_put] <;> rfl), (by simp [ev_c, ev_put, t34] <;> rfl), (by simp [ev_c, ev_put, t35] <;> rfl), (by simp [ev_c, ev_put, t36] <;> rfl), (by simp [ev_c, ev_put, t46] <;> rfl), (by simp [ev_c, ev_put, t47] <;> rfl), (by simp [ev_c, ev_put] <;> rfl)⟩
    · rintro s ⟨tm, rfl, t1, t2, t6, t8, t9, t34, t35, t36, t46, t47, t48⟩
      rw [List.take_length] at t9
      by_cases hz : ws[i] - sumL (wOfL ws) ps = 0
      · simp (maxSteps := 1000000) (implicitDefEqProofs := false) (disch := first | with_reducible rfl | omega | (simp only [nA, nS, nD] <;> omega) | fail) only [go_sem, ↓reduceIte, Nat.reduceEqDiff, Nat.reduceAdd, Nat.reduceSub, Nat.reduceMul, reduceCtorEq, Nat.reduceLeDiff, t1, t2, t6, t8, t9, t34, t35, t36, t46, t47, t48, Int.lt_irrefl, ne_eq, hz, not_true_eq_false, wr_succ]
        exact ⟨_, rfl, fun j hj hji hne => by
          by_cases e : j = i
          · subst e; rw [eps]; omega
          · exact hinv j hj (by omega) hne, (by simp [ev_c, ev_put, t1] <;> rfl), (by simp [ev_c, ev_put, t2] <;> rfl), (by simp [ev_c, ev_put, t6] <;> rfl), (by simp [ev_c, ev_put, t34] <;> rfl), (by simp [ev_c, ev_put, t35] <;> rfl), (by simp [ev_c, ev_put] <;> rfl)⟩
      by_cases hps : 0 < (ps.length : Int)
      · simp (maxSteps := 1000000) (implicitDefEqProofs := false) (disch := first | with_reducible rfl | omega | (simp only [nA, nS, nD] <;> omega) | fail) only [go_sem, ↓reduceIte, Nat.reduceEqDiff, Nat.reduceAdd, Nat.reduceSub, Nat.reduceMul, reduceCtorEq, Nat.reduceLeDiff, t1, t2, t6, t8, t9, t34, t35, t36, t46, t47, t48, Int.lt_irrefl, ne_eq, hz, not_false_eq_true, cells_of k1, k2, eX, hlenP, hps]
        refine q _ _ ⟨s4, false, 0, rfl, .inr ⟨c, rfl, ?_⟩⟩
        simp only [Bool.false_eq_true, false_iff, fitsP_iff g]
        rintro ⟨_, _, h2, _⟩
        have := h2 i hi (by rw [eps]; intro e; rw [e] at hps; simp at hps)
        rw [eps] at this; omega
      · simp (maxSteps := 1000000) (implicitDefEqProofs := false) (disch := first | with_reducible rfl | omega | (simp only [nA, nS, nD] <;> omega) | fail) only [go_sem, ↓reduceIte, Nat.reduceEqDiff, Nat.reduceAdd, Nat.reduceSub, Nat.reduceMul, reduceCtorEq, Nat.reduceLeDiff, t1, t2, t6, t8, t9, t34, t35, t36, t46, t47, t48, Int.lt_irrefl, ne_eq, hz, not_false_eq_true, cells_of k1, k2, eX, hlenP, hps, wr_succ]
        exact ⟨_, rfl, fun j hj hji hne => by
          by_cases e : j = i
          · subst e
            rw [eps] at hne
            have := List.length_pos_iff.2 hne; omega
          · exact hinv j hj (by omega) hne, (by simp [ev_c, ev_put, t1] <;> rfl), (by simp [ev_c, ev_put, t2] <;> rfl), (by simp [ev_c, ev_put, t6] <;> rfl), (by simp [ev_c, ev_put, t34] <;> rfl), (by simp [ev_c, ev_put, t35] <;> rfl), (by simp [ev_c, ev_put] <;> rfl)⟩
  rintro s ⟨tm, rfl, hinv, t1, t2, t6, t34, t35, t36⟩
  have hsums : ∀ j (hj : j < ws.length), parts m (j : Int) ≠ [] → ws[j] = sumL (wOfL ws) (parts m (j : Int)) := fun j hj hne => hinv j hj hj hne
  simp (maxSteps := 1000000) (implicitDefEqProofs := false) (disch := first | with_reducible rfl | omega | (simp only [nA, nS, nD] <;> omega) | fail) only [go_sem, ↓reduceIte, Nat.reduceEqDiff, Nat.reduceAdd, Nat.reduceSub, Nat.reduceMul, reduceCtorEq, Nat.reduceLeDiff, t1, t2, t6, t34, t35, t36, Int.lt_irrefl, g4, hlenW]
  refine W_count m.wgs.length (fun i s => ∃ tm h', s = ⟨tm, h', []⟩ ∧ h4.Sub h' ∧ (∀ k (hk : k < m.wgs.length), k < i → sayLo m m.wgs[k] ≤ wOfL ws m.wgs[k].lot ∧ wOfL ws m.wgs[k].lot ≤ sayHi m m.wgs[k]) ∧
      (Opd.t 1).ev tm = x ∧ (Opd.t 6).ev tm = .ptr d 0 ∧ (Opd.t 73).ev tm = W ∧ (Opd.t 74).ev tm = .int .i64 (m.wgs.length : Int) ∧ (Opd.t 75).ev tm = .int .i64 (i : Int))
    ?_ ?_ (i := 0) (Nat.zero_le _) ⟨_, _, rfl, H.Sub.refl s4.wf, fun k hk h0 => by omega, (by simp [ev_c, ev_put, t1] <;> rfl), (by simp [ev_c, ev_put, t6] <;> rfl), (by simp [ev_c, ev_put] <;> rfl), (by simp [ev_c, ev_put] <;> rfl), (by simp [ev_c, ev_put] <;> rfl)⟩ <;> clear t1 t2 t6 t34 t35 t36 hinv tm
  · rintro i s hi ⟨tm, h', rfl, hs, hinv, t1, t6, t73, t74, t75⟩
    have hi' : (i : Int) < (m.wgs.length : Int) := by omega
    obtain ⟨bb, o, cc, cs, rfl, hcs, hq, hgg, hn, hn0⟩ := (aW.mono (s4.trans hs)).at hi
    have hl := g.lot _ (List.getElem_mem hi)
    obtain ⟨lt', elt⟩ := Int.eq_ofNat_of_zero_le hl.1
    have hlt : lt' < ws.length := by omega
    have sA := (H.Sub.refl hs.wf).add (.cells .rw (encW m.wgs[i]))
    have hsA := hs.trans sA
    simp (maxSteps := 1000000) (implicitDefEqProofs := false) (disch := first | with_reducible rfl | omega | (simp only [nA, nS, nD] <;> omega) | fail) only [go_sem, ↓reduceIte, Nat.reduceEqDiff, Nat.reduceAdd, Nat.reduceSub, Nat.reduceMul, reduceCtorEq, Nat.reduceLeDiff, t1, t6, t73, t74, t75, hi', hq (nat_cst i), hcs, hgg, encW]
    refine (says_ev hsA.wf (hd4.mono hsA) g hi).mono fun u h5 hu => ?_
    obtain ⟨rfl, s45⟩ := hu
    have hs5 := hsA.trans s45
    have l5 := s45.next
    rw [H.next_add] at l5
    have gw5 : h5.cells h'.next = some (encW m.wgs[i]) := s45.cells (cells_add_new rfl)
    have s56 := (H.Sub.refl hs5.wf).add (.cells .rw [.int .i64 (sayLo m m.wgs[i]), .int .i64 (sayHi m m.wgs[i])])
    have hs6 := hs5.trans s56
    obtain ⟨b3, o3, c3, cs3, rfl, hcs3, hq3, hgg3, hn3, hn03⟩ := (hx.mono (s4.trans hs5)).at hlt
    have hcs6 := s56.cells hcs3
    by_cases hin : sayLo m m.wgs[i] ≤ ws[lt'] ∧ ws[lt'] ≤ sayHi m m.wgs[i]
    · simp (maxSteps := 1000000) (implicitDefEqProofs := false) (disch := first | with_reducible rfl | omega | (simp only [nA, nS, nD] <;> omega) | fail) only [go_sem, ↓reduceIte, Nat.reduceEqDiff, Nat.reduceAdd, Nat.reduceSub, Nat.reduceMul, reduceCtorEq, Nat.reduceLeDiff, t1, t6, t73, t74, t75, gw5, encW, elt, hq3 (nat_cst lt'), hcs6, hcs3, hn03 (by omega), encI, in_ev, hin, Bool.not_true, and_self, wr_succ]
      refine ⟨_, _, rfl, hs6, fun k hk hki => ?_, (by simp [ev_c, ev_put, t1] <;> rfl), (by simp [ev_c, ev_put, t6] <;> rfl), (by simp [ev_c, ev_put, t73] <;> rfl), (by simp [ev_c, ev_put, t74] <;> rfl), (by simp [ev_c, ev_put] <;> rfl)⟩
      by_cases e : k = i
      · subst e; rw [elt, wOfL_at hlt]; exact hin
      · exact hinv k hk (by omega)
    · simp (maxSteps := 1000000) (implicitDefEqProofs := false) (disch := first | with_reducible rfl | omega | (simp only [nA, nS, nD] <;> omega) | fail) only [go_sem, ↓reduceIte, Nat.reduceEqDiff, Nat.reduceAdd, Nat.reduceSub, Nat.reduceMul, reduceCtorEq, Nat.reduceLeDiff, t1, t6, t73, t74, t75, gw5, encW, elt, hq3 (nat_cst lt'), hcs6, hcs3, hn03 (by omega), encI, in_ev, hin, Bool.not_false]
      refine q _ _ ⟨s4.trans hs6, false, 0, rfl, .inr ⟨c, rfl, ?_⟩⟩
      simp only [Bool.false_eq_true, false_iff, fitsP_iff g]
      rintro ⟨_, _, _, h3⟩
      have := h3 i hi
      rw [elt, wOfL_at hlt] at this
      exact hin this
  · rintro s ⟨tm, h', rfl, hs, hinv, t1, t6, t73, t74, t75⟩
    simp (maxSteps := 1000000) (implicitDefEqProofs := false) (disch := first | with_reducible rfl | omega | (simp only [nA, nS, nD] <;> omega) | fail) only [go_sem, ↓reduceIte, Nat.reduceEqDiff, Nat.reduceAdd, Nat.reduceSub, Nat.reduceMul, reduceCtorEq, Nat.reduceLeDiff, t1, t6, t73, t74, t75, Int.lt_irrefl]
    refine q _ _ ⟨s4.trans hs, true, 0, rfl, .inr ⟨c, rfl, ?_⟩⟩
    simp only [true_iff, fitsP_iff g]
    exact ⟨hlen', hrange, hsums, fun k hk => hinv k hk hk⟩
end Go.Ab.Try
set_option linter.unusedSimpArgs false
set_option linter.unusedVariables false
namespace Go.Ab.Try
open Go.Ab.Silk
set_option maxHeartbeats 2000000 in
theorem refFits_ev {h : H} {v x : V} {m : Ml} {ws : List Int} (hw : h.wf) (hm : MlIs h v m) (g : Good m) (hx : SlAt h x 1 (ws.map encI)) : Ev fnG fastA (.fn 71 [] []) [v, x] h fun u h' => h.Sub h' ∧ ∃ t, u = .bool t ∧ (t = true ↔ FitsP m ws) := by
  refine Ev.gen fun Q q => ?_
  have hm0 := hm
  obtain ⟨L, W, rfl, aL, aW⟩ := hm
  refine Ev_body (fd := c71) rfl rfl rfl ?_
  have hlenL := aL.lenE
  have hlenW := aW.lenE
  have hlenX := hx.lenE
  have gl := g.lots
  have gw := g.wgs
  have F := forest g
  have s2 : h.Sub (h.add (.cells .rw [.int .i64 m.errs, L, W])) := (by repeat (first | assumption | exact H.Sub.refl (by assumption) | refine H.Sub.add ?_ _ | refine H.Sub.set ?_ (by first | omega | (simp only [H.next_add, H.next_set, H.next_del] <;> omega)) (by first | omega | (simp only [H.next_add, H.next_set, H.next_del] <;> omega)) (by assumption) _))
  have g1 : (h.add (.cells .rw [.int .i64 m.errs, L, W])).cells h.next = some [.int .i64 m.errs, L, W] := cells_add_new rfl
  have fin : ∀ h', h.Sub h' → ¬ FitsP m ws → Q (.bool false) h' := fun h' hs hn => q _ _ ⟨hs, false, rfl, by simpa using hn⟩
  by_cases hlen : (ws.length : Int) = (m.lots.length : Int)
  case neg =>
    simp (maxSteps := 1000000) (implicitDefEqProofs := false) (disch := first | with_reducible rfl | omega | (simp only [nA, nS, nD] <;> omega) | fail) only [c71, go_sem, ↓reduceIte, Nat.reduceEqDiff, Nat.reduceAdd, Nat.reduceSub, Nat.reduceMul, reduceCtorEq, Nat.reduceLeDiff, ne_eq, hlenL, hlenX, hlen, not_false_eq_true]
    exact fin _ s2 fun hf => hlen (by rw [hf.1])
  have hlen' : ws.length = m.lots.length := by omega
  have hgm : ∀ h', (h.add (.cells .rw [.int .i64 m.errs, L, W])).Sub h' → h'.cells h.next = some [.int .i64 m.errs, L, W] := fun h' s => s.cells g1
  simp (maxSteps := 1000000) (implicitDefEqProofs := false) (disch := first | with_reducible rfl | omega | (simp only [nA, nS, nD] <;> omega) | fail) only [c71, go_sem, ↓reduceIte, Nat.reduceEqDiff, Nat.reduceAdd, Nat.reduceSub, Nat.reduceMul, reduceCtorEq, Nat.reduceLeDiff, ne_eq, not_true_eq_false, hlenL, hlenX, hlen]
  by_cases hall : ∀ i (hi : i < ws.length), 0 ≤ ws[i] ∧ ws[i] ≤ 10000
  case neg =>
    -- some weight is out of range: the loop comes to it, or ends before
    have hbad : ∃ k, ∃ hk : k < ws.length, ¬ (0 ≤ ws[k] ∧ ws[k] ≤ 10000) := by
      by_cases he : ∃ k, ∃ hk : k < ws.length, ¬ (0 ≤ ws[k] ∧ ws[k] ≤ 10000)
      · exact he
      · exfalso; refine hall fun i hi => ?_
        by_cases h1 : 0 ≤ ws[i] ∧ ws[i] ≤ 10000
        · exact h1
        · exact absurd ⟨i, hi, h1⟩ he
    obtain ⟨k, hk, hbk⟩ := hbad
    have hno : ¬ FitsP m ws := fun hf => hall ((fitsP_iff g).1 hf).2.1
    refine W_count (k + 1) (fun i s => i ≤ k ∧ ∃ tm h', s = ⟨tm, h', []⟩ ∧ (h.add (.cells .rw [.int .i64 m.errs, L, W])).Sub h' ∧ (Opd.t 1).ev tm = x ∧ (Opd.t 2).ev tm = .ptr h.next 0 ∧ (Opd.t 5).ev tm = .int .i64 (i : Int))
      ?_ (fun s hs => absurd hs.1 (by omega)) (i := 0) (Nat.zero_le _) ⟨Nat.zero_le _, _, _, rfl, H.Sub.refl s2.wf, (by simp [ev_c, ev_put] <;> rfl), (by simp [ev_c, ev_put] <;> rfl), (by simp [ev_c, ev_put] <;> rfl)⟩
    rintro i s hik1 ⟨hik, tm, h', rfl, hs1, t1, t2, t5⟩
    have hi : i < ws.length := by omega
    have hi' : (i : Int) < (ws.length : Int) := by omega
    have hi2 : i < m.lots.length := by omega
    have hs := s2.trans hs1
    obtain ⟨bb, o, cc, cs, rfl, hcs, hq, hgg, hn, hn0⟩ := (hx.mono hs).at hi
    cases hoff : inB ws[i] 0 10000
    · simp (maxSteps := 1000000) (implicitDefEqProofs := false) (disch := first | with_reducible rfl | omega | (simp only [nA, nS, nD] <;> omega) | fail) only [go_sem, ↓reduceIte, Nat.reduceEqDiff, Nat.reduceAdd, Nat.reduceSub, Nat.reduceMul, reduceCtorEq, Nat.reduceLeDiff, t1, t2, t5, hlenX, hi', hq (nat_cst i), hcs, hn0 (by omega), encI, off_ev, hoff, Bool.not_false]
      exact fin _ hs hno
    have hik' : i < k := by
      by_cases e : i = k
      · subst e; simp [inB] at hoff; exact absurd hoff hbk
      · omega
    have gm := hgm _ hs1
    simp (maxSteps := 1000000) (implicitDefEqProofs := false) (disch := first | with_reducible rfl | omega | (simp only [nA, nS, nD] <;> omega) | fail) only [go_sem, ↓reduceIte, Nat.reduceEqDiff, Nat.reduceAdd, Nat.reduceSub, Nat.reduceMul, reduceCtorEq, Nat.reduceLeDiff, t1, t2, t5, hlenX, hi', hq (nat_cst i), hcs, hn0 (by omega), encI, off_ev, hoff, Bool.not_true, gm]
    refine refParts_ev hs.wf (hm0.mono hs) g hi2 _ fun P h5 oP => ?_
    have s15 := oP.1
    have hs5 := hs.trans s15
    have hpl := parts_len m (i : Int)
    have aP := oP.sl (by simp only [List.length_map]; omega)
    have hlenP := aP.lenE
    simp (maxSteps := 1000000) (implicitDefEqProofs := false) (disch := first | with_reducible rfl | omega | (simp only [nA, nS, nD] <;> omega) | fail) only [go_sem, ↓reduceIte, Nat.reduceEqDiff, Nat.reduceAdd, Nat.reduceSub, Nat.reduceMul, reduceCtorEq, Nat.reduceLeDiff, t1, t2, t5]
    refine W_count (parts m (i : Int)).length (fun j s => ∃ tm z, s = ⟨tm, h5, []⟩ ∧ (Opd.t 1).ev tm = .sl bb o ws.length cc ∧ (Opd.t 2).ev tm = .ptr h.next 0 ∧ (Opd.t 5).ev tm = .int .i64 (i : Int) ∧ (Opd.t 6).ev tm = P ∧ (Opd.t 7).ev tm = .int .i64 z ∧ (Opd.t 8).ev tm = .int .i64 (j : Int))
      ?_ ?_ (i := 0) (Nat.zero_le _) ⟨_, 0, rfl, (by simp [ev_c, ev_put, t1] <;> rfl), (by simp [ev_c, ev_put, t2] <;> rfl), (by simp [ev_c, ev_put, t5] <;> rfl), (by simp [ev_c, ev_put] <;> rfl), (by simp [ev_c, ev_put] <;> rfl), (by simp [ev_c, ev_put] <;> rfl)⟩ <;> clear t1 t2 t5 tm
    · rintro j s hj ⟨tm, z, rfl, t1, t2, t5, t6, t7, t8⟩
      have hj' : (j : Int) < ((parts m (i : Int)).length : Int) := by omega
      obtain ⟨b2, o2, c2, cs2, e2, hcs2, hq2, hgg2, hn2, hn02⟩ := aP.at hj
      obtain ⟨p0, p1, _⟩ := (F.mem (i : Int) _).1 (List.getElem_mem hj)
      obtain ⟨p, ep⟩ := Int.eq_ofNat_of_zero_le p0
      have hp : p < ws.length := by omega
      obtain ⟨b3, o3, c3, cs3, e3, hcs3, hq3, hgg3, hn3, hn03⟩ := (hx.mono hs5).at hp
      cases e3
      simp (maxSteps := 1000000) (implicitDefEqProofs := false) (disch := first | with_reducible rfl | omega | (simp only [nA, nS, nD] <;> omega) | fail) only [go_sem, ↓reduceIte, Nat.reduceEqDiff, Nat.reduceAdd, Nat.reduceSub, Nat.reduceMul, reduceCtorEq, Nat.reduceLeDiff, t1, t2, t5, t6, t7, t8, hlenP, hj', hq2 (nat_cst j), hcs2, hn02 (by omega), encI, ep, hq3 (nat_cst p), hcs3, hn03 (by omega), wr_succ, e2]
      subst e2
      simp (maxSteps := 1000000) (implicitDefEqProofs := false) (disch := first | with_reducible rfl | omega | (simp only [nA, nS, nD] <;> omega) | fail) only [go_sem, ↓reduceIte, Nat.reduceEqDiff, Nat.reduceAdd, Nat.reduceSub, Nat.reduceMul, reduceCtorEq, Nat.reduceLeDiff, t1, t2, t5, t6, t7, t8, hlenP, hj', hq2 (nat_cst j), hcs2, hn02 (by omega), encI, ep, hq3 (nat_cst p), hcs3, hn03 (by omega), wr_succ]
      exact ⟨_, _, rfl, (by simp [ev_c, ev_put, t1] <;> rfl), (by simp [ev_c, ev_put, t2] <;> rfl), (by simp [ev_c, ev_put, t5] <;> rfl), (by simp [ev_c, ev_put, t6] <;> rfl), (by simp [ev_c, ev_put] <;> rfl), (by simp [ev_c, ev_put] <;> rfl)⟩
    · rintro s ⟨tm, z, rfl, t1, t2, t5, t6, t7, t8⟩
      have hcs5 := s15.cells hcs
      by_cases hps : 0 < ((parts m (i : Int)).length : Int)
      · by_cases hz : z = ws[i]
        · simp (maxSteps := 1000000) (implicitDefEqProofs := false) (disch := first | with_reducible rfl | omega | (simp only [nA, nS, nD] <;> omega) | fail) only [go_sem, ↓reduceIte, Nat.reduceEqDiff, Nat.reduceAdd, Nat.reduceSub, Nat.reduceMul, reduceCtorEq, Nat.reduceLeDiff, t1, t2, t5, t6, t7, t8, hlenP, Int.lt_irrefl, hps, hq (nat_cst i), hcs5, hn0 (by omega), encI, ne_eq, hz, not_true_eq_false, wr_succ]
          exact ⟨by omega, _, _, rfl, hs1.trans s15, (by simp [ev_c, ev_put, t1] <;> rfl), (by simp [ev_c, ev_put, t2] <;> rfl), (by simp [ev_c, ev_put] <;> rfl)⟩
        · simp (maxSteps := 1000000) (implicitDefEqProofs := false) (disch := first | with_reducible rfl | omega | (simp only [nA, nS, nD] <;> omega) | fail) only [go_sem, ↓reduceIte, Nat.reduceEqDiff, Nat.reduceAdd, Nat.reduceSub, Nat.reduceMul, reduceCtorEq, Nat.reduceLeDiff, t1, t2, t5, t6, t7, t8, hlenP, Int.lt_irrefl, hps, hq (nat_cst i), hcs5, hn0 (by omega), encI, ne_eq, hz, not_false_eq_true]
          exact fin _ hs5 hno
      · simp (maxSteps := 1000000) (implicitDefEqProofs := false) (disch := first | with_reducible rfl | omega | (simp only [nA, nS, nD] <;> omega) | fail) only [go_sem, ↓reduceIte, Nat.reduceEqDiff, Nat.reduceAdd, Nat.reduceSub, Nat.reduceMul, reduceCtorEq, Nat.reduceLeDiff, t1, t2, t5, t6, t7, t8, hlenP, Int.lt_irrefl, hps, wr_succ]
        exact ⟨by omega, _, _, rfl, hs1.trans s15, (by simp [ev_c, ev_put, t1] <;> rfl), (by simp [ev_c, ev_put, t2] <;> rfl), (by simp [ev_c, ev_put] <;> rfl)⟩
  have hwr : ∀ p : Int, 0 ≤ wOfL ws p ∧ wOfL ws p ≤ 10000 := fun p => by
    unfold wOfL
    rw [List.getD_eq_getElem?_getD]
    cases e : ws[p.toNat]? with
    | none => simp
    | some y =>
      obtain ⟨hi, rfl⟩ := List.getElem?_eq_some_iff.1 e
      exact hall _ hi
  have bdS : ∀ l : List Int, (l.length : Int) ≤ 12 → 0 ≤ sumL (wOfL ws) l ∧ sumL (wOfL ws) l ≤ 120000 := fun l hl => by
    have h1 := sum_bd (x := wOfL ws) (C := 10000) (l := l) (fun p => by have := hwr p; omega) (by omega) hl
    have h2 := sumL_nonneg (x := wOfL ws) (l := l) fun p _ => (hwr p).1
    omega
  refine W_count ws.length (fun i s => ∃ tm h', s = ⟨tm, h', []⟩ ∧ (h.add (.cells .rw [.int .i64 m.errs, L, W])).Sub h' ∧ (∀ j (hj : j < ws.length), j < i → parts m (j : Int) ≠ [] → ws[j] = sumL (wOfL ws) (parts m (j : Int))) ∧ (Opd.t 1).ev tm = x ∧ (Opd.t 2).ev tm = .ptr h.next 0 ∧ (Opd.t 5).ev tm = .int .i64 (i : Int))
    ?_ ?_ (i := 0) (Nat.zero_le _) ⟨_, _, rfl, H.Sub.refl s2.wf, fun j hj h0 => by omega, (by simp [ev_c, ev_put] <;> rfl), (by simp [ev_c, ev_put] <;> rfl), (by simp [ev_c, ev_put] <;> rfl)⟩
  · rintro i s hi ⟨tm, h', rfl, hs1, hinv, t1, t2, t5⟩
    have hi' : (i : Int) < (ws.length : Int) := by omega
    have hi2 : i < m.lots.length := by omega
    have hs := s2.trans hs1
    obtain ⟨bb, o, cc, cs, rfl, hcs, hq, hgg, hn, hn0⟩ := (hx.mono hs).at hi
    have hwi := hall i hi
    have hoff : inB ws[i] 0 10000 = true := by simpa [inB] using hwi
    have gm := hgm _ hs1
    simp (maxSteps := 1000000) (implicitDefEqProofs := false) (disch := first | with_reducible rfl | omega | (simp only [nA, nS, nD] <;> omega) | fail) only [go_sem, ↓reduceIte, Nat.reduceEqDiff, Nat.reduceAdd, Nat.reduceSub, Nat.reduceMul, reduceCtorEq, Nat.reduceLeDiff, t1, t2, t5, hlenX, hi', hq (nat_cst i), hcs, hn0 (by omega), encI, off_ev, hoff, Bool.not_true, gm]
    refine refParts_ev hs.wf (hm0.mono hs) g hi2 _ fun P h5 oP => ?_
    have s15 := oP.1
    have hs5 := hs.trans s15
    have hpl := parts_len m (i : Int)
    have aP := oP.sl (by simp only [List.length_map]; omega)
    have hlenP := aP.lenE
    obtain ⟨ps, eps⟩ : ∃ ps, parts m (i : Int) = ps := ⟨_, rfl⟩
    have hpsm : ∀ p ∈ ps, 0 ≤ p ∧ p < m.lots.length := fun p hp => by
      have := (F.mem (i : Int) p).1 (by rw [eps]; exact hp)
      omega
    rw [eps] at hpl aP hlenP
    simp (maxSteps := 1000000) (implicitDefEqProofs := false) (disch := first | with_reducible rfl | omega | (simp only [nA, nS, nD] <;> omega) | fail) only [go_sem, ↓reduceIte, Nat.reduceEqDiff, Nat.reduceAdd, Nat.reduceSub, Nat.reduceMul, reduceCtorEq, Nat.reduceLeDiff, t1, t2, t5]
    refine W_count ps.length (fun j s => ∃ tm, s = ⟨tm, h5, []⟩ ∧ (Opd.t 1).ev tm = .sl bb o ws.length cc ∧ (Opd.t 2).ev tm = .ptr h.next 0 ∧ (Opd.t 5).ev tm = .int .i64 (i : Int) ∧ (Opd.t 6).ev tm = P ∧ (Opd.t 7).ev tm = .int .i64 (sumL (wOfL ws) (ps.take j)) ∧ (Opd.t 8).ev tm = .int .i64 (j : Int))
      ?_ ?_ (i := 0) (Nat.zero_le _) ⟨_, rfl, (by simp [ev_c, ev_put, t1] <;> rfl), (by simp [ev_c, ev_put, t2] <;> rfl), (by simp [ev_c, ev_put, t5] <;> rfl), (by simp [ev_c, ev_put] <;> rfl), (by simp [ev_c, ev_put] <;> rfl), (by simp [ev_c, ev_put] <;> rfl)⟩ <;> clear t1 t2 t5 tm
    · rintro j s hj ⟨tm, rfl, t1, t2, t5, t6, t7, t8⟩
      have hj' : (j : Int) < (ps.length : Int) := by omega
      obtain ⟨b2, o2, c2, cs2, rfl, hcs2, hq2, hgg2, hn2, hn02⟩ := aP.at hj
      obtain ⟨p0, p1⟩ := hpsm _ (List.getElem_mem hj)
      obtain ⟨p, ep⟩ := Int.eq_ofNat_of_zero_le p0
      have hp : p < ws.length := by omega
      obtain ⟨b3, o3, c3, cs3, e3, hcs3, hq3, hgg3, hn3, hn03⟩ := (hx.mono hs5).at hp
      cases e3
      have hst := sum_take (wOfL ws) hj
      rw [ep, wOfL_at hp] at hst
      have hb1 := bdS (ps.take j) (by simp only [List.length_take]; omega)
      have hwp := hall p hp
      simp (maxSteps := 1000000) (implicitDefEqProofs := false) (disch := first | with_reducible rfl | omega | (simp only [nA, nS, nD] <;> omega) | fail) only [go_sem, ↓reduceIte, Nat.reduceEqDiff, Nat.reduceAdd, Nat.reduceSub, Nat.reduceMul, reduceCtorEq, Nat.reduceLeDiff, t1, t2, t5, t6, t7, t8, hlenP, hj', hq2 (nat_cst j), hcs2, hn02 (by omega), encI, ep, hq3 (nat_cst p), hcs3, hn03 (by omega), wr_in, wr_succ]
      exact ⟨_, rfl, (by simp [ev_c, ev_put, t1] <;> rfl), (by simp [ev_c, ev_put, t2] <;> rfl), (by simp [ev_c, ev_put, t5] <;> rfl), (by simp [ev_c, ev_put, t6] <;> rfl), by rw [hst]; exact (by simp [ev_c, ev_put] <;> rfl), (by simp [ev_c, ev_put] <;> rfl)⟩
    · rintro s ⟨tm, rfl, t1, t2, t5, t6, t7, t8⟩
      rw [List.take_length] at t7
      have hcs5 := s15.cells hcs
      by_cases hps : 0 < (ps.length : Int)
      · by_cases hz : sumL (wOfL ws) ps = ws[i]
        · simp (maxSteps := 1000000) (implicitDefEqProofs := false) (disch := first | with_reducible rfl | omega | (simp only [nA, nS, nD] <;> omega) | fail) only [go_sem, ↓reduceIte, Nat.reduceEqDiff, Nat.reduceAdd, Nat.reduceSub, Nat.reduceMul, reduceCtorEq, Nat.reduceLeDiff, t1, t2, t5, t6, t7, t8, hlenP, Int.lt_irrefl, hps, hq (nat_cst i), hcs5, hn0 (by omega), encI, ne_eq, hz, not_true_eq_false, wr_succ]
          exact ⟨_, _, rfl, hs1.trans s15, fun j hj hji hne => by
            by_cases e : j = i
            · subst e; rw [eps]; exact hz.symm
            · exact hinv j hj (by omega) hne, (by simp [ev_c, ev_put, t1] <;> rfl), (by simp [ev_c, ev_put, t2] <;> rfl), (by simp [ev_c, ev_put] <;> rfl)⟩
        · simp (maxSteps := 1000000) (implicitDefEqProofs := false) (disch := first | with_reducible rfl | omega | (simp only [nA, nS, nD] <;> omega) | fail) only [go_sem, ↓reduceIte, Nat.reduceEqDiff, Nat.reduceAdd, Nat.reduceSub, Nat.reduceMul, reduceCtorEq, Nat.reduceLeDiff, t1, t2, t5, t6, t7, t8, hlenP, Int.lt_irrefl, hps, hq (nat_cst i), hcs5, hn0 (by omega), encI, ne_eq, hz, not_false_eq_true]
          refine fin _ hs5 fun hf => hz ?_
          have := ((fitsP_iff g).1 hf).2.2.1 i hi (by rw [eps]; intro e; rw [e] at hps; simp at hps)
          rw [eps] at this; exact this.symm
      · simp (maxSteps := 1000000) (implicitDefEqProofs := false) (disch := first | with_reducible rfl | omega | (simp only [nA, nS, nD] <;> omega) | fail) only [go_sem, ↓reduceIte, Nat.reduceEqDiff, Nat.reduceAdd, Nat.reduceSub, Nat.reduceMul, reduceCtorEq, Nat.reduceLeDiff, t1, t2, t5, t6, t7, t8, hlenP, Int.lt_irrefl, hps, wr_succ]
        exact ⟨_, _, rfl, hs1.trans s15, fun j hj hji hne => by
          by_cases e : j = i
          · subst e
            rw [eps] at hne
            have := List.length_pos_iff.2 hne; omega
          · exact hinv j hj (by omega) hne, (by simp [ev_c, ev_put, t1] <;> rfl), (by simp [ev_c, ev_put, t2] <;> rfl), (by simp [ev_c, ev_put] <;> rfl)⟩
  rintro s ⟨tm, h', rfl, hs1, hinv, t1, t2, t5⟩
  have hsums : ∀ j (hj : j < ws.length), parts m (j : Int) ≠ [] → ws[j] = sumL (wOfL ws) (parts m (j : Int)) := fun j hj hne => hinv j hj hj hne
  simp (maxSteps := 1000000) (implicitDefEqProofs := false) (disch := first | with_reducible rfl | omega | (simp only [nA, nS, nD] <;> omega) | fail) only [go_sem, ↓reduceIte, Nat.reduceEqDiff, Nat.reduceAdd, Nat.reduceSub, Nat.reduceMul, reduceCtorEq, Nat.reduceLeDiff, t1, t2, t5, hlenX, Int.lt_irrefl]
  refine W_count m.wgs.length (fun i s => ∃ tm h2, s = ⟨tm, h2, []⟩ ∧ (h.add (.cells .rw [.int .i64 m.errs, L, W])).Sub h2 ∧ (∀ k (hk : k < m.wgs.length), k < i → sayLo m m.wgs[k] ≤ wOfL ws m.wgs[k].lot ∧ wOfL ws m.wgs[k].lot ≤ sayHi m m.wgs[k]) ∧
      (Opd.t 1).ev tm = x ∧ (Opd.t 2).ev tm = .ptr h.next 0 ∧ (Opd.t 9).ev tm = .int .i64 (i : Int))
    ?_ ?_ (i := 0) (Nat.zero_le _) ⟨_, _, rfl, hs1, fun k hk h0 => by omega, (by simp [ev_c, ev_put, t1] <;> rfl), (by simp [ev_c, ev_put, t2] <;> rfl), (by simp [ev_c, ev_put] <;> rfl)⟩ <;> clear t1 t2 t5 hinv hs1 tm h'
  · rintro i s hi ⟨tm, h2, rfl, hs1, hinv, t1, t2, t9⟩
    have hi' : (i : Int) < (m.wgs.length : Int) := by omega
    have hs := s2.trans hs1
    have gm := hgm _ hs1
    obtain ⟨bb, o, cc, cs, rfl, hcs, hq, hgg, hn, hn0⟩ := (aW.mono hs).at hi
    have hl := g.lot _ (List.getElem_mem hi)
    have w1 := g.wg _ (List.getElem_mem hi)
    have w2 := g.errs
    obtain ⟨lt', elt⟩ := Int.eq_ofNat_of_zero_le hl.1
    have hlt : lt' < ws.length := by omega
    have hwl := hall lt' hlt
    obtain ⟨b3, o3, c3, cs3, rfl, hcs3, hq3, hgg3, hn3, hn03⟩ := (hx.mono hs).at hlt
    obtain ⟨w, ew⟩ : ∃ w, m.wgs[i] = w := ⟨_, rfl⟩
    rw [ew] at hl w1 elt hgg
    have m1 : 0 ≤ ws[lt'] * (100 + w.hi) ∧ ws[lt'] * (100 + w.hi) ≤ 1600000 := by
      constructor
      · exact Int.mul_nonneg (by omega) (by omega)
      · have h1 := Int.mul_le_mul_of_nonneg_right hwl.2 (show 0 ≤ 100 + w.hi by omega); omega
    have m2 : 0 ≤ ws[lt'] * (100 + w.lo) ∧ ws[lt'] * (100 + w.lo) ≤ 1600000 := by
      constructor
      · exact Int.mul_nonneg (by omega) (by omega)
      · have h1 := Int.mul_le_mul_of_nonneg_right hwl.2 (show 0 ≤ 100 + w.lo by omega); omega
    have c1 := sayLo_le (m := m) (w := w) (k := ws[lt']) hwl.1 (by omega)
    have c2 := le_sayHi (m := m) (w := w) (k := ws[lt']) hwl.2 (by omega) (by omega)
    have sA := (H.Sub.refl hs.wf).add (.cells .rw (encW w))
    have hcsA := sA.cells hcs3
    have hb3 : b3 < h2.next := by obtain ⟨k, hk⟩ := H.cells_eq hcs3; exact hs.wf _ _ hk
    have gmA := sA.cells gm
    have hnx := hs1.next
    rw [H.next_add] at hnx
    have hbad : ¬ (sayLo m w ≤ ws[lt'] ∧ ws[lt'] ≤ sayHi m w) → ¬ FitsP m ws := fun hb hf => by
      have := ((fitsP_iff g).1 hf).2.2.2 i hi
      rw [ew, elt, wOfL_at hlt] at this
      exact hb this
    by_cases d1 : ws[lt'] * (100 + w.hi) < 100 * (w.reads - m.errs)
    · simp (maxSteps := 1000000) (implicitDefEqProofs := false) (disch := first | with_reducible rfl | omega | (simp only [nA, nS, nD] <;> omega) | fail) only [go_sem, ↓reduceIte, Nat.reduceEqDiff, Nat.reduceAdd, Nat.reduceSub, Nat.reduceMul, reduceCtorEq, Nat.reduceLeDiff, t1, t2, t9, gm, hlenW, hi', hq (nat_cst i), hcs, hgg, encW, elt, hq3 (nat_cst lt'), hcs3, hn03 (by omega), encI, wr_in, d1]
      exact fin _ (hs.add _) (hbad (by omega))
    by_cases d2 : 100 * (w.reads + m.errs) < ws[lt'] * (100 + w.lo)
    · simp (maxSteps := 1000000) (implicitDefEqProofs := false) (disch := first | with_reducible rfl | omega | (simp only [nA, nS, nD] <;> omega) | fail) only [go_sem, ↓reduceIte, Nat.reduceEqDiff, Nat.reduceAdd, Nat.reduceSub, Nat.reduceMul, reduceCtorEq, Nat.reduceLeDiff, t1, t2, t9, gm, hlenW, hi', hq (nat_cst i), hcs, hgg, encW, elt, hq3 (nat_cst lt'), hcs3, hn03 (by omega), encI, wr_in, d1, d2]
      exact fin _ (hs.add _) (hbad (by omega))
    simp (maxSteps := 1000000) (implicitDefEqProofs := false) (disch := first | with_reducible rfl | omega | (simp only [nA, nS, nD] <;> omega) | fail) only [go_sem, ↓reduceIte, Nat.reduceEqDiff, Nat.reduceAdd, Nat.reduceSub, Nat.reduceMul, reduceCtorEq, Nat.reduceLeDiff, t1, t2, t9, gm, hlenW, hi', hq (nat_cst i), hcs, hgg, encW, elt, hq3 (nat_cst lt'), hcs3, hn03 (by omega), encI, wr_in, d1, d2, wr_succ]
    refine ⟨_, _, rfl, hs1.add _, fun k hk hki => ?_, (by simp [ev_c, ev_put, t1] <;> rfl), (by simp [ev_c, ev_put, t2] <;> rfl), (by simp [ev_c, ev_put] <;> rfl)⟩
    by_cases e : k = i
    · subst e; rw [ew, elt, wOfL_at hlt]; omega
    · exact hinv k hk (by omega)
  · rintro s ⟨tm, h2, rfl, hs1, hinv, t1, t2, t9⟩
    have gm := hgm _ hs1
    simp (maxSteps := 1000000) (implicitDefEqProofs := false) (disch := first | with_reducible rfl | omega | (simp only [nA, nS, nD] <;> omega) | fail) only [go_sem, ↓reduceIte, Nat.reduceEqDiff, Nat.reduceAdd, Nat.reduceSub, Nat.reduceMul, reduceCtorEq, Nat.reduceLeDiff, t1, t2, t9, gm, hlenW, Int.lt_irrefl]
    refine q _ _ ⟨s2.trans hs1, true, rfl, ?_⟩
    simp only [true_iff, fitsP_iff g]
    exact ⟨hlen', hall, hsums, fun k hk => hinv k hk hk⟩
end Go.Ab.Try
set_option linter.unusedSimpArgs false
set_option linter.unusedVariables false
namespace Go.Ab.Try
open Go.Ab.Silk
def encBo (b : Bool) : List V := [.bool b]
theorem bools_flat (l : List Bool) : (l.map encBo).flatten = l.map V.bool := by
  induction l with
  | nil => rfl
  | cons a l ih => simp [encBo, ih]
theorem bools_put : ∀ (l : List Bool) (i : Nat) (b : Bool), i < l.length → putN i [.bool b] (l.map V.bool) = some ((l.set i b).map V.bool)
  | [], i, b, h => by simp at h
  | a :: l, 0, b, _ => by simp [putN_0, over_s, over_0, consV_some]
  | a :: l, i + 1, b, h => by
    have ih := bools_put l i b (by simpa using h)
    simp only [List.map_cons, putN_s, ih, consV_some, List.set_cons_succ]
theorem repN_bools (n : Nat) (b : Bool) : repN n [V.bool b] = (List.replicate n b).map V.bool := by
  induction n with
  | zero => rfl
  | succ n ih => rw [repN, appN_eq, ih]; rfl
/-- The choice that a list of truths is. -/
def cOf (l : List Bool) : Nat → Bool := fun k => l.getD k false
theorem cOf_at {l : List Bool} {k : Nat} (h : k < l.length) : cOf l k = l[k] := by
  unfold cOf
  rw [List.getD_eq_getElem?_getD, List.getElem?_eq_getElem h]; rfl
/-- A slice of truths, all of a block that has just been made. -/
theorem bools_sl {h : H} {b n : Nat} {l : List Bool} (hb : h.cells b = some (l.map V.bool)) (hn : n = l.length) (hl : l.length ≤ 1000000) : SlAt h (.sl b 0 n (.fix n)) 1 (l.map encBo) := by
  subst hn
  refine ⟨fun r hr => by (obtain ⟨b, _, rfl⟩ := List.mem_map.1 hr; rfl), by simp; omega, .inr ⟨b, 0, .fix l.length, _, by simp, .inr hb, ?_⟩⟩
  rw [bools_flat]
  exact getN_full (by simp)
def upTo (n i : Nat) : List Bool := (List.range n).map fun j => decide (j < i)
theorem upTo_len (n i : Nat) : (upTo n i).length = n := by simp [upTo]
theorem upTo_zero (n : Nat) : upTo n 0 = List.replicate n false := by
  refine List.ext_getElem (by simp [upTo]) fun i h1 h2 => ?_
  simp [upTo]
theorem upTo_step {n i : Nat} (h : i < n) : (upTo n i).set i true = upTo n (i + 1) := by
  refine List.ext_getElem (by simp [upTo]) fun k h1 h2 => ?_
  rw [List.getElem_set]
  by_cases e : i = k
  · subst e; simp [upTo]
  · rw [if_neg e]
    simp only [upTo, List.getElem_map, List.getElem_range]
    rw [Bool.eq_iff_iff]; simp; omega
theorem upTo_all (n : Nat) : upTo n n = List.replicate n true := by
  refine List.ext_getElem (by simp [upTo]) fun i h1 h2 => ?_
  rw [upTo_len] at h1
  simp [upTo]; exact h1
/-- All -/
theorem All_ev {h : H} {v : V} {m : Ml} (hw : h.wf) (hm : MlIs h v m) (hl : m.wgs.length ≤ 1000) (Q : V → H → Prop) (q : ∀ C h', h.Sub h' → SlAt h' C 1 ((List.replicate m.wgs.length true).map encBo) → Q C h') : Ev fnG fastA (.fn 22 [] []) [v] h Q := by
  obtain ⟨L, W, rfl, aL, aW⟩ := hm
  refine Ev_body (fd := c22) rfl rfl rfl ?_
  have hlenW := aW.lenE
  have s2 : h.Sub ((h.add (.cells .rw [.int .i64 m.errs, L, W])).add (.cells .rw (repN m.wgs.length [.bool false]))) := (by repeat (first | assumption | exact H.Sub.refl (by assumption) | refine H.Sub.add ?_ _ | refine H.Sub.set ?_ (by first | omega | (simp only [H.next_add, H.next_set, H.next_del] <;> omega)) (by first | omega | (simp only [H.next_add, H.next_set, H.next_del] <;> omega)) (by assumption) _))
  simp (maxSteps := 1000000) (implicitDefEqProofs := false) (disch := first | with_reducible rfl | omega | (simp only [nA, nS, nD] <;> omega) | fail) only [c22, go_sem, ↓reduceIte, Nat.reduceEqDiff, Nat.reduceAdd, Nat.reduceSub, Nat.reduceMul, reduceCtorEq, Nat.reduceLeDiff, hlenW, a_msl_nm]
  refine W_count m.wgs.length (fun i s => ∃ tm h', s = ⟨tm, h', []⟩ ∧ h.Sub h' ∧ h.next + 1 < h'.next ∧ h'.get (h.next + 1) = some (.cells .rw ((upTo m.wgs.length i).map V.bool)) ∧ (Opd.t 3).ev tm = .sl (h.next + 1) 0 m.wgs.length (.fix m.wgs.length) ∧ (Opd.t 4).ev tm = .int .i64 (i : Int))
    ?_ ?_ (i := 0) (Nat.zero_le _) ⟨_, _, rfl, s2, by simp only [H.next_add]; omega, by rw [get_add_new (by rw [H.next_add]), repN_bools, upTo_zero], (by simp [ev_c, ev_put] <;> rfl), (by simp [ev_c, ev_put] <;> rfl)⟩
  · rintro i s hi ⟨tm, h', rfl, hs, lt, gb, t3, t4⟩
    have hi' : (i : Int) < (m.wgs.length : Int) := by omega
    have hput := bools_put (upTo m.wgs.length i) i true (by rw [upTo_len]; exact hi)
    rw [upTo_step hi] at hput
    simp (maxSteps := 1000000) (implicitDefEqProofs := false) (disch := first | with_reducible rfl | omega | (simp only [nA, nS, nD] <;> omega) | fail) only [go_sem, ↓reduceIte, Nat.reduceEqDiff, Nat.reduceAdd, Nat.reduceSub, Nat.reduceMul, reduceCtorEq, Nat.reduceLeDiff, t3, t4, hi', q_iad_sl (nat_cst i) hi, Nat.mul_one, gb, hput, wr_succ]
    exact ⟨_, _, rfl, hs.set (by omega) lt hw _, by rw [H.next_set]; exact lt, get_set_same rfl, (by simp [ev_c, ev_put, t3] <;> rfl), (by simp [ev_c, ev_put] <;> rfl)⟩
  · rintro s ⟨tm, h', rfl, hs, lt, gb, t3, t4⟩
    simp (maxSteps := 1000000) (implicitDefEqProofs := false) (disch := first | with_reducible rfl | omega | (simp only [nA, nS, nD] <;> omega) | fail) only [go_sem, ↓reduceIte, Nat.reduceEqDiff, Nat.reduceAdd, Nat.reduceSub, Nat.reduceMul, reduceCtorEq, Nat.reduceLeDiff, t3, t4, Int.lt_irrefl]
    rw [upTo_all] at gb
    exact q _ _ hs (bools_sl (cells_of gb) (by simp) (by simp; omega))
/-- own -/
theorem refOwn_ev {h : H} {v C : V} {m : Ml} {cl : List Bool} (hw : h.wf) (hm : MlIs h v m) (g : Good m) (hC : SlAt h C 1 (cl.map encBo)) (hcl : cl.length = m.wgs.length) (lot : Int) (Q : V → H → Prop)
    (q : ∀ h', h.Sub h' → Q (.tup [.int .i64 (ownK m (cOf cl) lot m.wgs.length).1, .int .i64 (ownK m (cOf cl) lot m.wgs.length).2]) h') : Ev fnG fastA (.fn 130 [] []) [v, C, .int .i64 lot] h Q := by
  have hm0 := hm
  obtain ⟨L, W, rfl, aL, aW⟩ := hm
  refine Ev_body (fd := c130) rfl rfl rfl ?_
  have hlenW := aW.lenE
  have gw := g.wgs
  have s2 : h.Sub (h.add (.cells .rw [.int .i64 m.errs, L, W])) := (by repeat (first | assumption | exact H.Sub.refl (by assumption) | refine H.Sub.add ?_ _ | refine H.Sub.set ?_ (by first | omega | (simp only [H.next_add, H.next_set, H.next_del] <;> omega)) (by first | omega | (simp only [H.next_add, H.next_set, H.next_del] <;> omega)) (by assumption) _))
  have g1 : (h.add (.cells .rw [.int .i64 m.errs, L, W])).cells h.next = some [.int .i64 m.errs, L, W] := cells_add_new rfl
  simp (maxSteps := 1000000) (implicitDefEqProofs := false) (disch := first | with_reducible rfl | omega | (simp only [nA, nS, nD] <;> omega) | fail) only [c130, go_sem, ↓reduceIte, Nat.reduceEqDiff, Nat.reduceAdd, Nat.reduceSub, Nat.reduceMul, reduceCtorEq, Nat.reduceLeDiff]
  refine W_count m.wgs.length (fun i s => ∃ tm h', s = ⟨tm, h', []⟩ ∧ (h.add (.cells .rw [.int .i64 m.errs, L, W])).Sub h' ∧ (Opd.t 1).ev tm = C ∧ (Opd.t 2).ev tm = .int .i64 lot ∧ (Opd.t 3).ev tm = .ptr h.next 0 ∧ (Opd.t 8).ev tm = .int .i64 (ownK m (cOf cl) lot i).1 ∧ (Opd.t 9).ev tm = .int .i64 (ownK m (cOf cl) lot i).2 ∧ (Opd.t 10).ev tm = .int .i64 (i : Int))
    ?_ ?_ (i := 0) (Nat.zero_le _) ⟨_, _, rfl, H.Sub.refl s2.wf, (by simp [ev_c, ev_put] <;> rfl), (by simp [ev_c, ev_put] <;> rfl), (by simp [ev_c, ev_put] <;> rfl), (by simp [ev_c, ev_put] <;> rfl), (by simp [ev_c, ev_put] <;> rfl), (by simp [ev_c, ev_put] <;> rfl)⟩
  · rintro i s hi ⟨tm, h', rfl, hs1, t1, t2, t3, t8, t9, t10⟩
    have hi' : (i : Int) < (m.wgs.length : Int) := by omega
    have hic : i < cl.length := by omega
    have hs := s2.trans hs1
    have gm := hs1.cells g1
    obtain ⟨b1, o1, c1, cs1, rfl, hcs1, hq1, hgg1, hn1, hn01⟩ := (hC.mono hs).at hic
    obtain ⟨bb, o, cc, cs, rfl, hcs, hq, hgg, hn, hn0⟩ := (aW.mono hs).at hi
    have hc0 := cOf_at hic
    cases hc : cl[i]
    · rw [hc] at hc0
      simp (maxSteps := 1000000) (implicitDefEqProofs := false) (disch := first | with_reducible rfl | omega | (simp only [nA, nS, nD] <;> omega) | fail) only [go_sem, ↓reduceIte, Nat.reduceEqDiff, Nat.reduceAdd, Nat.reduceSub, Nat.reduceMul, reduceCtorEq, Nat.reduceLeDiff, t1, t2, t3, t8, t9, t10, gm, hlenW, hi', hq1 (nat_cst i), hcs1, hn01 (by omega), encBo, hc, wr_succ]
      exact ⟨_, _, rfl, hs1, (by simp [ev_c, ev_put, t1] <;> rfl), (by simp [ev_c, ev_put, t2] <;> rfl), (by simp [ev_c, ev_put, t3] <;> rfl), by rw [ownK_miss hi (.inl hc0)]; exact (by simp [ev_c, ev_put, t8] <;> rfl), by rw [ownK_miss hi (.inl hc0)]; exact (by simp [ev_c, ev_put, t9] <;> rfl), (by simp [ev_c, ev_put] <;> rfl)⟩
    · rw [hc] at hc0
      by_cases hl : m.wgs[i].lot = lot
      · have hh := ownK_hit hi hc0 hl
        simp (maxSteps := 1000000) (implicitDefEqProofs := false) (disch := first | with_reducible rfl | omega | (simp only [nA, nS, nD] <;> omega) | fail) only [go_sem, ↓reduceIte, Nat.reduceEqDiff, Nat.reduceAdd, Nat.reduceSub, Nat.reduceMul, reduceCtorEq, Nat.reduceLeDiff, t1, t2, t3, t8, t9, t10, gm, hlenW, hi', hq1 (nat_cst i), hcs1, hn01 (by omega), encBo, hc, hq (nat_cst i), hcs, hn0 (by omega), encW, hl]
        refine refSays_ev hs.wf (hm0.mono hs) g hi _ fun h5 s15 => ?_
        simp (maxSteps := 1000000) (implicitDefEqProofs := false) (disch := first | with_reducible rfl | omega | (simp only [nA, nS, nD] <;> omega) | fail) only [go_sem, ↓reduceIte, Nat.reduceEqDiff, Nat.reduceAdd, Nat.reduceSub, Nat.reduceMul, reduceCtorEq, Nat.reduceLeDiff, t1, t2, t3, t8, t9, t10, wr_succ]
        exact ⟨_, _, rfl, hs1.trans s15, (by simp [ev_c, ev_put, t1] <;> rfl), (by simp [ev_c, ev_put, t2] <;> rfl), (by simp [ev_c, ev_put, t3] <;> rfl), by rw [hh]; exact (by simp [ev_c, ev_put] <;> rfl), by rw [hh]; exact (by simp [ev_c, ev_put] <;> rfl), (by simp [ev_c, ev_put] <;> rfl)⟩
      · simp (maxSteps := 1000000) (implicitDefEqProofs := false) (disch := first | with_reducible rfl | omega | (simp only [nA, nS, nD] <;> omega) | fail) only [go_sem, ↓reduceIte, Nat.reduceEqDiff, Nat.reduceAdd, Nat.reduceSub, Nat.reduceMul, reduceCtorEq, Nat.reduceLeDiff, t1, t2, t3, t8, t9, t10, gm, hlenW, hi', hq1 (nat_cst i), hcs1, hn01 (by omega), encBo, hc, hq (nat_cst i), hcs, hn0 (by omega), encW, hl, wr_succ]
        exact ⟨_, _, rfl, hs1, (by simp [ev_c, ev_put, t1] <;> rfl), (by simp [ev_c, ev_put, t2] <;> rfl), (by simp [ev_c, ev_put, t3] <;> rfl), by rw [ownK_miss hi (.inr hl)]; exact (by simp [ev_c, ev_put, t8] <;> rfl), by rw [ownK_miss hi (.inr hl)]; exact (by simp [ev_c, ev_put, t9] <;> rfl), (by simp [ev_c, ev_put] <;> rfl)⟩
  · rintro s ⟨tm, h', rfl, hs1, t1, t2, t3, t8, t9, t10⟩
    simp (maxSteps := 1000000) (implicitDefEqProofs := false) (disch := first | with_reducible rfl | omega | (simp only [nA, nS, nD] <;> omega) | fail) only [go_sem, ↓reduceIte, Nat.reduceEqDiff, Nat.reduceAdd, Nat.reduceSub, Nat.reduceMul, reduceCtorEq, Nat.reduceLeDiff, t1, t2, t3, t8, t9, t10, hs1.cells g1, hlenW, Int.lt_irrefl]
    exact q _ (s2.trans hs1)
/-- The bounds from below. -/
def Um (m : Ml) (c : Nat → Bool) : Box := Uo m.lots.length (parts m) (ownB m c)
/-- No bounds cross in a branch. -/
def OkB (m : Ml) (c : Nat → Bool) (lot : Int) : Prop := ∀ j : Int, 0 ≤ j → j < m.lots.length → Anc (frmAt m) j lot → (Um m c j).1 ≤ (Um m c j).2
theorem OkB_iff {m : Ml} (g : Good m) {c : Nat → Bool} {lot : Int} (l0 : 0 ≤ lot) (l1 : lot < m.lots.length) : OkB m c lot ↔ (Um m c lot).1 ≤ (Um m c lot).2 ∧ ∀ p ∈ parts m lot, OkB m c p := by
  have F := forest g
  constructor
  · intro h
    refine ⟨h lot l0 l1 .self, fun p hp j j0 j1 ha => h j j0 j1 ?_⟩
    obtain ⟨p0, p1, pf⟩ := (F.mem _ _).1 hp
    rw [← pf]; exact .up ha (by omega)
  · rintro ⟨h1, h2⟩ j j0 j1 ha
    cases ha with
    | self => exact h1
    | @up k hk h0 =>
      have hl := hk.le F j0 j1
      exact h2 k ((F.mem _ _).2 ⟨hl.1, by omega, rfl⟩) j j0 j1 hk
theorem Um_bd {m : Ml} (g : Good m) (c : Nat → Bool) {i : Int} (i0 : 0 ≤ i) (i1 : i < m.lots.length) : 0 ≤ (Um m c i).1 ∧ (Um m c i).2 ≤ 10000 := by
  have h1 := Uo_own (forest g) (ownB m c) i0 i1
  have h2 := ownB_bd g c i
  unfold Um; omega
theorem ownB_at {m : Ml} {c : Nat → Bool} {i : Int} (i0 : 0 ≤ i) (i1 : i < m.lots.length) : ownB m c i = ownK m c i m.wgs.length := by unfold ownB boxK; rw [if_pos ⟨i0, i1⟩]
set_option maxHeartbeats 2000000 in
/-- up -/
theorem up_ev {m : Ml} (g : Good m) {cl : List Bool} (hcl : cl.length = m.wgs.length) : ∀ (k : Nat) {h : H} {v C : V} (lot : Nat), m.lots.length - lot ≤ k → lot < m.lots.length → h.wf → MlIs h v m → SlAt h C 1 (cl.map encBo) →
    Ev fnG fastA (.fn 76 [] []) [v, C, .int .i64 (lot : Int)] h fun u h' => h.Sub h' ∧ ∃ t lo hi, u = .tup [.int .i64 lo, .int .i64 hi, .bool t] ∧ (t = true ↔ OkB m (cOf cl) (lot : Int)) ∧ (t = true → lo = (Um m (cOf cl) (lot : Int)).1 ∧ hi = (Um m (cOf cl) (lot : Int)).2) := by
  intro k
  induction k with
  | zero => intro h v C lot h1 h2; omega
  | succ k ih =>
    intro h v C lot hk hlot hw hm hC
    refine Ev.gen fun Q q => ?_
    have F := forest g
    have gl := g.lots
    have hm0 := hm
    obtain ⟨L, W, rfl, aL, aW⟩ := hm
    have hl0 : (0 : Int) ≤ (lot : Int) := by omega
    have hl1 : (lot : Int) < (m.lots.length : Int) := by omega
    have hOk := OkB_iff g (c := cOf cl) hl0 hl1
    refine Ev_body (fd := c76) rfl rfl rfl ?_
    have s2 : h.Sub (h.add (.cells .rw [.int .i64 m.errs, L, W])) := (by repeat (first | assumption | exact H.Sub.refl (by assumption) | refine H.Sub.add ?_ _ | refine H.Sub.set ?_ (by first | omega | (simp only [H.next_add, H.next_set, H.next_del] <;> omega)) (by first | omega | (simp only [H.next_add, H.next_set, H.next_del] <;> omega)) (by assumption) _))
    have g1 : (h.add (.cells .rw [.int .i64 m.errs, L, W])).cells h.next = some [.int .i64 m.errs, L, W] := cells_add_new rfl
    simp (maxSteps := 1000000) (implicitDefEqProofs := false) (disch := first | with_reducible rfl | omega | (simp only [nA, nS, nD] <;> omega) | fail) only [c76, go_sem, ↓reduceIte, Nat.reduceEqDiff, Nat.reduceAdd, Nat.reduceSub, Nat.reduceMul, reduceCtorEq, Nat.reduceLeDiff]
    refine refOwn_ev s2.wf (hm0.mono s2) g (hC.mono s2) hcl _ _ fun h3 s23 => ?_
    have s3 := s2.trans s23
    simp (maxSteps := 1000000) (implicitDefEqProofs := false) (disch := first | with_reducible rfl | omega | (simp only [nA, nS, nD] <;> omega) | fail) only [go_sem, ↓reduceIte, Nat.reduceEqDiff, Nat.reduceAdd, Nat.reduceSub, Nat.reduceMul, reduceCtorEq, Nat.reduceLeDiff, s23.cells g1]
    refine refParts_ev s3.wf (hm0.mono s3) g hlot _ fun P h4 oP => ?_
    have s34 := oP.1
    have s4 := s3.trans s34
    have hpl := parts_len m (lot : Int)
    have aP := oP.sl (by simp only [List.length_map]; omega)
    have hlenP := aP.lenE
    obtain ⟨ps, eps⟩ : ∃ ps, parts m (lot : Int) = ps := ⟨_, rfl⟩
    have hps : ∀ p ∈ ps, 0 ≤ p ∧ p < m.lots.length ∧ (lot : Int) < p := fun p hp => by
      obtain ⟨p0, p1, pf⟩ := (F.mem (lot : Int) p).1 (by rw [eps]; exact hp)
      have := F.lt p p0 p1
      omega
    rw [eps] at aP hlenP hpl hOk
    have hown := ownB_at (c := cOf cl) hl0 hl1
    rw [← hown]
    have bdS : ∀ l : List Int, (∀ p ∈ l, p ∈ ps ∧ OkB m (cOf cl) p) → (l.length : Int) ≤ 12 → 0 ≤ sumL (lo1 (Um m (cOf cl))) l ∧ sumL (lo1 (Um m (cOf cl))) l ≤ 120000 ∧ 0 ≤ sumL (hi1 (Um m (cOf cl))) l ∧ sumL (hi1 (Um m (cOf cl))) l ≤ 120000 := fun l h1 h2 => by
      have hb : ∀ p ∈ l, 0 ≤ (Um m (cOf cl) p).1 ∧ (Um m (cOf cl) p).1 ≤ (Um m (cOf cl) p).2 ∧ (Um m (cOf cl) p).2 ≤ 10000 := fun p hp => by
        obtain ⟨p0, p1, _⟩ := hps p (h1 p hp).1
        have a := Um_bd g (cOf cl) p0 p1
        have b := (h1 p hp).2 p p0 p1 .self
        omega
      have e1 : ∀ (l : List Int), sumL (fun _ => (10000 : Int)) l = l.length * 10000 := fun l => by
        induction l with
        | nil => simp [sumL]
        | cons a l ih => simp only [sumL, ih, List.length_cons, Int.natCast_add]; omega
      have a1 := sumL_nonneg (x := lo1 (Um m (cOf cl))) (l := l) fun p hp => (hb p hp).1
      have a2 := sumL_mono (x := lo1 (Um m (cOf cl))) (y := fun _ => 10000) (l := l) fun p hp => by have := hb p hp; simp only [lo1]; omega
      have a3 := sumL_nonneg (x := hi1 (Um m (cOf cl))) (l := l) fun p hp => by have := hb p hp; simp only [hi1]; omega
      have a4 := sumL_mono (x := hi1 (Um m (cOf cl))) (y := fun _ => 10000) (l := l) fun p hp => (hb p hp).2.2
      rw [e1] at a2 a4
      omega
    simp (maxSteps := 1000000) (implicitDefEqProofs := false) (disch := first | with_reducible rfl | omega | (simp only [nA, nS, nD] <;> omega) | fail) only [go_sem, ↓reduceIte, Nat.reduceEqDiff, Nat.reduceAdd, Nat.reduceSub, Nat.reduceMul, reduceCtorEq, Nat.reduceLeDiff]
    refine W_count ps.length (fun j s => ∃ tm h', s = ⟨tm, h', []⟩ ∧ h4.Sub h' ∧ (∀ p ∈ ps.take j, OkB m (cOf cl) p) ∧ (Opd.t 1).ev tm = C ∧ (Opd.t 3).ev tm = .ptr h.next 0 ∧ (Opd.t 9).ev tm = .int .i64 (ownB m (cOf cl) (lot : Int)).1 ∧ (Opd.t 10).ev tm = .int .i64 (ownB m (cOf cl) (lot : Int)).2 ∧ (Opd.t 11).ev tm = P ∧
        (Opd.t 12).ev tm = .int .i64 (sumL (lo1 (Um m (cOf cl))) (ps.take j)) ∧ (Opd.t 13).ev tm = .int .i64 (sumL (hi1 (Um m (cOf cl))) (ps.take j)) ∧ (Opd.t 14).ev tm = .int .i64 (j : Int))
      ?_ ?_ (i := 0) (Nat.zero_le _) ⟨_, _, rfl, H.Sub.refl s4.wf, fun p hp => by simp at hp, (by simp [ev_c, ev_put] <;> rfl), (by simp [ev_c, ev_put] <;> rfl), (by simp [ev_c, ev_put] <;> rfl), (by simp [ev_c, ev_put] <;> rfl), (by simp [ev_c, ev_put] <;> rfl), (by simp [ev_c, ev_put] <;> rfl), (by simp [ev_c, ev_put] <;> rfl), (by simp [ev_c, ev_put] <;> rfl)⟩
    · rintro j s hj ⟨tm, h', rfl, hs, hok, t1, t3, t9, t10, t11, t12, t13, t14⟩
      have hj' : (j : Int) < (ps.length : Int) := by omega
      have hs4 := s4.trans hs
      have gm := (s23.trans (s34.trans hs)).cells g1
      obtain ⟨b2, o2, c2, cs2, rfl, hcs2, hq2, hgg2, hn2, hn02⟩ := (aP.mono hs).at hj
      obtain ⟨p0, p1, p2⟩ := hps _ (List.getElem_mem hj)
      obtain ⟨p, ep⟩ := Int.eq_ofNat_of_zero_le p0
      simp (maxSteps := 1000000) (implicitDefEqProofs := false) (disch := first | with_reducible rfl | omega | (simp only [nA, nS, nD] <;> omega) | fail) only [go_sem, ↓reduceIte, Nat.reduceEqDiff, Nat.reduceAdd, Nat.reduceSub, Nat.reduceMul, reduceCtorEq, Nat.reduceLeDiff, t1, t3, t9, t10, t11, t12, t13, t14, hlenP, hj', gm, hq2 (nat_cst j), hcs2, hn02 (by omega), encI, ep]
      refine (ih p (by omega) (by omega) hs4.wf (hm0.mono hs4) (hC.mono hs4)).mono fun u h5 hu => ?_
      obtain ⟨s45, t, lo, hi, rfl, hiff, hval⟩ := hu
      cases t
      · simp (maxSteps := 1000000) (implicitDefEqProofs := false) (disch := first | with_reducible rfl | omega | (simp only [nA, nS, nD] <;> omega) | fail) only [go_sem, ↓reduceIte, Nat.reduceEqDiff, Nat.reduceAdd, Nat.reduceSub, Nat.reduceMul, reduceCtorEq, Nat.reduceLeDiff, t1, t3, t9, t10, t11, t12, t13, t14, gm, hcs2, hn02 (by omega), encI, ep, Bool.not_false]
        refine q _ _ ⟨hs4.trans s45, false, 0, 0, rfl, ?_, fun h => by cases h⟩
        simp only [Bool.false_eq_true, false_iff]
        intro hb
        have h1 := (hOk.1 hb).2 _ (List.getElem_mem hj)
        rw [ep] at h1
        have := hiff.2 h1
        cases this
      · obtain ⟨rfl, rfl⟩ := hval rfl
        have hokp := hiff.1 rfl
        have hb1 := bdS (ps.take j) (fun p hp => ⟨List.mem_of_mem_take hp, hok p hp⟩) (by simp only [List.length_take]; omega)
        have hup := Um_bd g (cOf cl) (i := (p : Int)) (by omega) (by omega)
        have hup2 := hokp (p : Int) (by omega) (by omega) .self
        have e1 := sum_take (lo1 (Um m (cOf cl))) hj
        have e2 := sum_take (hi1 (Um m (cOf cl))) hj
        rw [ep] at e1 e2
        have f1 : lo1 (Um m (cOf cl)) (p : Int) = (Um m (cOf cl) (p : Int)).1 := rfl
        have f2 : hi1 (Um m (cOf cl)) (p : Int) = (Um m (cOf cl) (p : Int)).2 := rfl
        rw [f1] at e1
        rw [f2] at e2
        simp (maxSteps := 1000000) (implicitDefEqProofs := false) (disch := first | with_reducible rfl | omega | (simp only [nA, nS, nD] <;> omega) | fail) only [go_sem, ↓reduceIte, Nat.reduceEqDiff, Nat.reduceAdd, Nat.reduceSub, Nat.reduceMul, reduceCtorEq, Nat.reduceLeDiff, t1, t3, t9, t10, t11, t12, t13, t14, gm, hcs2, hn02 (by omega), encI, ep, Bool.not_true, wr_in, wr_succ]
        refine ⟨_, _, rfl, hs.trans s45, fun r hr => ?_, (by simp [ev_c, ev_put, t1] <;> rfl), (by simp [ev_c, ev_put, t3] <;> rfl), (by simp [ev_c, ev_put, t9] <;> rfl), (by simp [ev_c, ev_put, t10] <;> rfl), (by simp [ev_c, ev_put, t11] <;> rfl), by rw [e1]; exact (by simp [ev_c, ev_put] <;> rfl), by rw [e2]; exact (by simp [ev_c, ev_put] <;> rfl), (by simp [ev_c, ev_put] <;> rfl)⟩
        rw [List.take_succ_eq_append_getElem hj, List.mem_append, List.mem_singleton] at hr
        rcases hr with hr | rfl
        · exact hok r hr
        · rw [ep]; exact hokp
    · rintro s ⟨tm, h', rfl, hs, hok, t1, t3, t9, t10, t11, t12, t13, t14⟩
      rw [List.take_length] at t12 t13 hok
      have hs4 := s4.trans hs
      by_cases hne : ps = []
      · have h0 : (ps.length : Int) = 0 := by rw [hne]; rfl
        have hU : Um m (cOf cl) (lot : Int) = ownB m (cOf cl) (lot : Int) := Uo_leaf F _ hl0 hl1 (by rw [eps]; exact hne)
        have h00 : ¬ (0 : Int) < 0 := by omega
        have hiff : ((ownB m (cOf cl) (lot : Int)).1 ≤ (ownB m (cOf cl) (lot : Int)).2) ↔ OkB m (cOf cl) (lot : Int) := by
          rw [hOk, hU]; exact ⟨fun h => ⟨h, fun p hp => hok p hp⟩, fun h => h.1⟩
        have h0' : ¬ (0 : Int) < (ps.length : Int) := by omega
        simp (maxSteps := 1000000) (implicitDefEqProofs := false) (disch := first | with_reducible rfl | omega | (simp only [nA, nS, nD] <;> omega) | fail) only [go_sem, ↓reduceIte, Nat.reduceEqDiff, Nat.reduceAdd, Nat.reduceSub, Nat.reduceMul, reduceCtorEq, Nat.reduceLeDiff, t1, t3, t9, t10, t11, t12, t13, t14, hlenP, Int.lt_irrefl, h0', h0, h00]
        exact q _ _ ⟨hs4, _, _, _, rfl, by rw [decide_eq_true_eq]; exact hiff, fun _ => by rw [hU]; exact ⟨rfl, rfl⟩⟩
      · have h0 : (0 : Int) < (ps.length : Int) := by have := List.length_pos_iff.2 hne; omega
        have hU : Um m (cOf cl) (lot : Int) = (max (ownB m (cOf cl) (lot : Int)).1 (sumL (lo1 (Um m (cOf cl))) ps), min (ownB m (cOf cl) (lot : Int)).2 (sumL (hi1 (Um m (cOf cl))) ps)) := by
          have := Uo_node F (ownB m (cOf cl)) hl0 hl1 (by rw [eps]; exact hne)
          rw [eps] at this; exact this
        have hiff : (max (ownB m (cOf cl) (lot : Int)).1 (sumL (lo1 (Um m (cOf cl))) ps) ≤ min (ownB m (cOf cl) (lot : Int)).2 (sumL (hi1 (Um m (cOf cl))) ps)) ↔ OkB m (cOf cl) (lot : Int) := by
          rw [hOk, hU]; exact ⟨fun h => ⟨h, fun p hp => hok p hp⟩, fun h => h.1⟩
        simp (maxSteps := 1000000) (implicitDefEqProofs := false) (disch := first | with_reducible rfl | omega | (simp only [nA, nS, nD] <;> omega) | fail) only [go_sem, ↓reduceIte, Nat.reduceEqDiff, Nat.reduceAdd, Nat.reduceSub, Nat.reduceMul, reduceCtorEq, Nat.reduceLeDiff, t1, t3, t9, t10, t11, t12, t13, t14, hlenP, Int.lt_irrefl, h0]
        exact q _ _ ⟨hs4, _, _, _, rfl, by rw [decide_eq_true_eq]; exact hiff, fun _ => by rw [hU]; exact ⟨rfl, rfl⟩⟩
theorem OkB_all {m : Ml} {c : Nat → Bool} : (∀ i : Int, 0 ≤ i → i < m.lots.length → OkB m c i) ↔ ∀ i : Int, 0 ≤ i → i < m.lots.length → (Um m c i).1 ≤ (Um m c i).2 :=
  ⟨fun h i i0 i1 => h i i0 i1 i i0 i1 .self, fun h i _ _ j j0 j1 _ => h j j0 j1⟩
theorem agree_iff {m : Ml} (g : Good m) {c : Nat → Bool} : (∃ w, FeasM m c w) ↔ ∀ i : Int, 0 ≤ i → i < m.lots.length → (Um m c i).1 ≤ (Um m c i).2 := by
  have gl := g.lots
  exact feas_iff (forest g) (ownB m c) (by omega)
/-- Agree -/
theorem refAgree_ev {h : H} {v C : V} {m : Ml} {cl : List Bool} (hw : h.wf) (hm : MlIs h v m) (g : Good m) (hC : SlAt h C 1 (cl.map encBo)) (hcl : cl.length = m.wgs.length) :
    Ev fnG fastA (.fn 21 [] []) [v, C] h fun u h' => h.Sub h' ∧ ∃ t, u = .bool t ∧ (t = true ↔ ∃ w, FeasM m (cOf cl) w) := by
  refine Ev.gen fun Q q => ?_
  have gl := g.lots
  have hm0 := hm
  obtain ⟨L, W, rfl, aL, aW⟩ := hm
  refine Ev_body (fd := c21) rfl rfl rfl ?_
  have hlenL := aL.lenE
  have s2 : h.Sub (h.add (.cells .rw [.int .i64 m.errs, L, W])) := (by repeat (first | assumption | exact H.Sub.refl (by assumption) | refine H.Sub.add ?_ _ | refine H.Sub.set ?_ (by first | omega | (simp only [H.next_add, H.next_set, H.next_del] <;> omega)) (by first | omega | (simp only [H.next_add, H.next_set, H.next_del] <;> omega)) (by assumption) _))
  have g1 : (h.add (.cells .rw [.int .i64 m.errs, L, W])).cells h.next = some [.int .i64 m.errs, L, W] := cells_add_new rfl
  simp (maxSteps := 1000000) (implicitDefEqProofs := false) (disch := first | with_reducible rfl | omega | (simp only [nA, nS, nD] <;> omega) | fail) only [c21, go_sem, ↓reduceIte, Nat.reduceEqDiff, Nat.reduceAdd, Nat.reduceSub, Nat.reduceMul, reduceCtorEq, Nat.reduceLeDiff]
  refine W_count m.lots.length (fun i s => ∃ tm h', s = ⟨tm, h', []⟩ ∧ (h.add (.cells .rw [.int .i64 m.errs, L, W])).Sub h' ∧ (∀ j : Int, 0 ≤ j → j < i → OkB m (cOf cl) j) ∧ (Opd.t 1).ev tm = C ∧ (Opd.t 2).ev tm = .ptr h.next 0 ∧ (Opd.t 5).ev tm = .int .i64 (i : Int))
    ?_ ?_ (i := 0) (Nat.zero_le _) ⟨_, _, rfl, H.Sub.refl s2.wf, fun j j0 j1 => by omega, (by simp [ev_c, ev_put] <;> rfl), (by simp [ev_c, ev_put] <;> rfl), (by simp [ev_c, ev_put] <;> rfl)⟩
  · rintro i s hi ⟨tm, h', rfl, hs1, hok, t1, t2, t5⟩
    have hi' : (i : Int) < (m.lots.length : Int) := by omega
    have hs := s2.trans hs1
    simp (maxSteps := 1000000) (implicitDefEqProofs := false) (disch := first | with_reducible rfl | omega | (simp only [nA, nS, nD] <;> omega) | fail) only [go_sem, ↓reduceIte, Nat.reduceEqDiff, Nat.reduceAdd, Nat.reduceSub, Nat.reduceMul, reduceCtorEq, Nat.reduceLeDiff, t1, t2, t5, hs1.cells g1, hlenL, hi']
    refine (up_ev g hcl _ i (Nat.le_refl _) hi hs.wf (hm0.mono hs) (hC.mono hs)).mono fun u h5 hu => ?_
    obtain ⟨s15, t, lo, hi2, rfl, hiff, hval⟩ := hu
    cases t
    · simp (maxSteps := 1000000) (implicitDefEqProofs := false) (disch := first | with_reducible rfl | omega | (simp only [nA, nS, nD] <;> omega) | fail) only [go_sem, ↓reduceIte, Nat.reduceEqDiff, Nat.reduceAdd, Nat.reduceSub, Nat.reduceMul, reduceCtorEq, Nat.reduceLeDiff, t1, t2, t5, Bool.not_false]
      refine q _ _ ⟨hs.trans s15, false, rfl, ?_⟩
      simp only [Bool.false_eq_true, false_iff, agree_iff g]
      intro hall
      have := hiff.2 (OkB_all.2 hall (i : Int) (by omega) hi')
      cases this
    · simp (maxSteps := 1000000) (implicitDefEqProofs := false) (disch := first | with_reducible rfl | omega | (simp only [nA, nS, nD] <;> omega) | fail) only [go_sem, ↓reduceIte, Nat.reduceEqDiff, Nat.reduceAdd, Nat.reduceSub, Nat.reduceMul, reduceCtorEq, Nat.reduceLeDiff, t1, t2, t5, Bool.not_true, wr_succ]
      refine ⟨_, _, rfl, hs1.trans s15, fun j j0 j1 => ?_, (by simp [ev_c, ev_put, t1] <;> rfl), (by simp [ev_c, ev_put, t2] <;> rfl), (by simp [ev_c, ev_put] <;> rfl)⟩
      by_cases e : j = (i : Int)
      · subst e; exact hiff.1 rfl
      · exact hok j j0 (by omega)
  · rintro s ⟨tm, h', rfl, hs1, hok, t1, t2, t5⟩
    simp (maxSteps := 1000000) (implicitDefEqProofs := false) (disch := first | with_reducible rfl | omega | (simp only [nA, nS, nD] <;> omega) | fail) only [go_sem, ↓reduceIte, Nat.reduceEqDiff, Nat.reduceAdd, Nat.reduceSub, Nat.reduceMul, reduceCtorEq, Nat.reduceLeDiff, t1, t2, t5, hs1.cells g1, hlenL, Int.lt_irrefl]
    refine q _ _ ⟨s2.trans hs1, true, rfl, ?_⟩
    simp only [true_iff, agree_iff g]
    exact OkB_all.1 hok
theorem cOf_all (m : Ml) {k : Nat} (hk : k < m.wgs.length) : cOf (List.replicate m.wgs.length true) k = true := by
  rw [cOf_at (by simpa using hk)]; simp
theorem ownK_congr {m : Ml} {c c' : Nat → Bool} {lot : Int} : ∀ k, k ≤ m.wgs.length → (∀ j, j < m.wgs.length → c j = c' j) → ownK m c lot k = ownK m c' lot k
  | 0, _, _ => rfl
  | k + 1, hk, h => by
    have ih := ownK_congr (lot := lot) k (by omega) h
    simp only [ownK]
    rw [List.getElem?_eq_getElem (by omega : k < m.wgs.length)]
    simp only
    rw [h k (by omega), ih]
theorem ownB_congr {m : Ml} {c c' : Nat → Bool} (h : ∀ j, j < m.wgs.length → c j = c' j) : ownB m c = ownB m c' := by
  funext lot
  unfold ownB boxK
  rw [ownK_congr m.wgs.length (Nat.le_refl _) h]
theorem own_all (m : Ml) : ownB m (cOf (List.replicate m.wgs.length true)) = ownB m allC := ownB_congr fun j hj => cOf_all m hj
/-- The bounds that the reference tells. -/
def Dm (m : Ml) : Box := Do m.lots.length (frmAt m) (parts m) (Um m allC)
theorem Dm_exact {m : Ml} (g : Good m) (h : ∃ w, FeasM m allC w) : Exact m.lots.length (parts m) (ownB m allC) (Dm m) := exact_ref (forest g) ((agree_iff g).1 h)
theorem Dm_eq {m : Ml} (g : Good m) {b : Box} (h : ExactM m allC b) {i : Int} (i0 : 0 ≤ i) (i1 : i < m.lots.length) : Dm m i = b i := (Dm_exact g (h.feas g)).uniq h.1 i0 i1
theorem sumL_up1_take {x : Int → Int} {i : Int} {l : List Int} {j : Nat} (hj : j < l.length) : sumL (up1 x i 0) (l.take (j + 1)) = sumL (up1 x i 0) (l.take j) + (if l[j] = i then 0 else x l[j]) := by
  rw [sum_take _ hj]; rfl
set_option maxHeartbeats 2000000 in
/-- Bounds -/
theorem refBounds_ev {m : Ml} (g : Good m) (hag : ∃ w, FeasM m allC w) : ∀ (k : Nat) {h : H} {v : V} (lot : Nat), lot < k → lot < m.lots.length → h.wf → MlIs h v m →
    ∀ (Q : V → H → Prop), (∀ h', h.Sub h' → Q (.agg [.int .i64 (Dm m (lot : Int)).1, .int .i64 (Dm m (lot : Int)).2]) h') → Ev fnG fastA (.fn 23 [] []) [v, .int .i64 (lot : Int)] h Q := by
  intro k
  induction k with
  | zero => intro h v lot h1; omega
  | succ k ih =>
    intro h v lot hk hlot hw hm Q q
    have F := forest g
    have gl := g.lots
    have gw := g.wgs
    have hm0 := hm
    obtain ⟨L, W, rfl, aL, aW⟩ := hm
    have hl0 : (0 : Int) ≤ (lot : Int) := by omega
    have hl1 : (lot : Int) < (m.lots.length : Int) := by omega
    have hall := (agree_iff g).1 hag
    have hUm : ∀ i : Int, 0 ≤ i → i < m.lots.length → 0 ≤ (Um m allC i).1 ∧ (Um m allC i).1 ≤ (Um m allC i).2 ∧ (Um m allC i).2 ≤ 10000 := fun i i0 i1 => by
      have a := Um_bd g allC i0 i1
      have b := hall i i0 i1
      omega
    have hUall : Um m (cOf (List.replicate m.wgs.length true)) = Um m allC := by unfold Um; rw [own_all]
    have upu : ∀ {h' : H} (lt : Nat), lt < m.lots.length → h.Sub h' → ∀ {C : V}, SlAt h' C 1 ((List.replicate m.wgs.length true).map encBo) → ∀ (R : V → H → Prop), (∀ h2, h'.Sub h2 → R (.tup [.int .i64 (Um m allC (lt : Int)).1, .int .i64 (Um m allC (lt : Int)).2, .bool true]) h2) →
        Ev fnG fastA (.fn 76 [] []) [.agg [.int .i64 m.errs, L, W], C, .int .i64 (lt : Int)] h' R := fun {h'} lt hlt hs {C} hC R r => by
      refine (up_ev g (cl := List.replicate m.wgs.length true) (by simp) _ lt (Nat.le_refl _) hlt hs.wf (hm0.mono hs) hC).mono fun u h2 hu => ?_
      obtain ⟨s12, t, lo, hi, rfl, hiff, hval⟩ := hu
      have ht : t = true := hiff.2 (by
        intro j j0 j1 _
        rw [hUall]; exact hall j j0 j1)
      subst ht
      obtain ⟨rfl, rfl⟩ := hval rfl
      rw [hUall]; exact r h2 s12
    refine Ev_body (fd := c23) rfl rfl rfl ?_
    have s2 : h.Sub ((h.add (.cells .rw [.int .i64 m.errs, L, W])).add (.cells .rw [.int .i64 0, .int .i64 0])) := (by repeat (first | assumption | exact H.Sub.refl (by assumption) | refine H.Sub.add ?_ _ | refine H.Sub.set ?_ (by first | omega | (simp only [H.next_add, H.next_set, H.next_del] <;> omega)) (by first | omega | (simp only [H.next_add, H.next_set, H.next_del] <;> omega)) (by assumption) _))
    have g1 : ((h.add (.cells .rw [.int .i64 m.errs, L, W])).add (.cells .rw [.int .i64 0, .int .i64 0])).cells h.next = some [.int .i64 m.errs, L, W] := by simp (maxSteps := 1000000) (implicitDefEqProofs := false) (disch := first | with_reducible rfl | omega | (simp only [nA, nS, nD] <;> omega) | fail) only [go_sem, ↓reduceIte, Nat.reduceEqDiff, Nat.reduceAdd, Nat.reduceSub, Nat.reduceMul, reduceCtorEq, Nat.reduceLeDiff]
    have gr : ((h.add (.cells .rw [.int .i64 m.errs, L, W])).add (.cells .rw [.int .i64 0, .int .i64 0])).get (h.next + 1) = some (.cells .rw [.int .i64 0, .int .i64 0]) := by simp (maxSteps := 1000000) (implicitDefEqProofs := false) (disch := first | with_reducible rfl | omega | (simp only [nA, nS, nD] <;> omega) | fail) only [go_sem, ↓reduceIte, Nat.reduceEqDiff, Nat.reduceAdd, Nat.reduceSub, Nat.reduceMul, reduceCtorEq, Nat.reduceLeDiff]
    have l2 : ((h.add (.cells .rw [.int .i64 m.errs, L, W])).add (.cells .rw [.int .i64 0, .int .i64 0])).next = h.next + 2 := by simp only [H.next_add]
    simp (maxSteps := 1000000) (implicitDefEqProofs := false) (disch := first | with_reducible rfl | omega | (simp only [nA, nS, nD] <;> omega) | fail) only [c23, go_sem, ↓reduceIte, Nat.reduceEqDiff, Nat.reduceAdd, Nat.reduceSub, Nat.reduceMul, reduceCtorEq, Nat.reduceLeDiff]
    generalize (h.add (.cells .rw [.int .i64 m.errs, L, W])).add (.cells .rw [.int .i64 0, .int .i64 0]) = h2 at s2 g1 gr l2 ⊢
    refine All_ev s2.wf (hm0.mono s2) (by omega) _ fun C h3 s23 aC => ?_
    have s3 := s2.trans s23
    simp (maxSteps := 1000000) (implicitDefEqProofs := false) (disch := first | with_reducible rfl | omega | (simp only [nA, nS, nD] <;> omega) | fail) only [go_sem, ↓reduceIte, Nat.reduceEqDiff, Nat.reduceAdd, Nat.reduceSub, Nat.reduceMul, reduceCtorEq, Nat.reduceLeDiff]
    refine upu lot hlot s3 aC _ fun h4 s34 => ?_
    have s24 := s23.trans s34
    have s4 := s2.trans s24
    have l4 := s24.next
    obtain ⟨b1, o1, c1, cs1, rfl, hcs1, hq1, hgg1, hn1, hn01⟩ := (aL.mono s4).at hlot
    have hfr := frmAt_nat hlot
    have hflt := F.lt (lot : Int) hl0 hl1
    have hD := Do_eq F (Um m allC) hl0 hl1
    by_cases hf : m.lots[lot].frm < 0
    · rw [if_pos (by omega)] at hD
      simp (maxSteps := 1000000) (implicitDefEqProofs := false) (disch := first | with_reducible rfl | omega | (simp only [nA, nS, nD] <;> omega) | fail) only [go_sem, ↓reduceIte, Nat.reduceEqDiff, Nat.reduceAdd, Nat.reduceSub, Nat.reduceMul, reduceCtorEq, Nat.reduceLeDiff, g1, s23.cells g1, s24.cells g1, hq1 (nat_cst lot), hcs1, hn01 (by omega), encL, hf, s24.get gr]
      have hq := q _ (s4.set (b := h.next + 1) (by omega) (by omega) hw (.cells .rw [.int .i64 (Um m allC (lot : Int)).1, .int .i64 (Um m allC (lot : Int)).2]))
      have e : Dm m (lot : Int) = Um m allC (lot : Int) := hD
      rw [e] at hq; exact hq
    rw [if_neg (by omega)] at hD
    obtain ⟨fr, efr⟩ := Int.eq_ofNat_of_zero_le (show 0 ≤ m.lots[lot].frm by omega)
    have hfr' : frmAt m (lot : Int) = (fr : Int) := by rw [hfr, efr]
    rw [hfr'] at hD
    simp (maxSteps := 1000000) (implicitDefEqProofs := false) (disch := first | with_reducible rfl | omega | (simp only [nA, nS, nD] <;> omega) | fail) only [go_sem, ↓reduceIte, Nat.reduceEqDiff, Nat.reduceAdd, Nat.reduceSub, Nat.reduceMul, reduceCtorEq, Nat.reduceLeDiff, g1, s23.cells g1, s24.cells g1, hq1 (nat_cst lot), hcs1, hn01 (by omega), encL, hf]
    rw [efr]
    refine ih fr (by omega) (by omega) s4.wf (hm0.mono s4) _ fun h5 s45 => ?_
    have s5 := s4.trans s45
    have s25 := s24.trans s45
    have s56 := (H.Sub.refl s5.wf).add (.cells .rw [.int .i64 (Dm m (fr : Int)).1, .int .i64 (Dm m (fr : Int)).2])
    have s6 := s5.trans s56
    have s26 := s25.trans s56
    have g6 := s26.cells g1
    have l5 := s25.next
    simp (maxSteps := 1000000) (implicitDefEqProofs := false) (disch := first | with_reducible rfl | omega | (simp only [nA, nS, nD] <;> omega) | fail) only [go_sem, ↓reduceIte, Nat.reduceEqDiff, Nat.reduceAdd, Nat.reduceSub, Nat.reduceMul, reduceCtorEq, Nat.reduceLeDiff, g6]
    refine refParts_ev s6.wf (hm0.mono s6) g (by omega : fr < m.lots.length) _ fun P h7 oP => ?_
    have s67 := oP.1
    have s7 := s6.trans s67
    have hpl := parts_len m (fr : Int)
    have aP := oP.sl (by simp only [List.length_map]; omega)
    have hlenP := aP.lenE
    obtain ⟨ps, eps⟩ : ∃ ps, parts m (fr : Int) = ps := ⟨_, rfl⟩
    have hps : ∀ p ∈ ps, 0 ≤ p ∧ p < m.lots.length := fun p hp => by
      obtain ⟨p0, p1, pf⟩ := (F.mem (fr : Int) p).1 (by rw [eps]; exact hp)
      exact ⟨p0, p1⟩
    have hmem : (lot : Int) ∈ ps := by rw [← eps]; exact (F.mem _ _).2 ⟨hl0, hl1, hfr'⟩
    have hnd : ps.Nodup := by rw [← eps]; exact F.nodup _
    have hlo := sumL_up1 (x := lo1 (Um m allC)) (v := 0) hnd hmem
    have hhi := sumL_up1 (x := hi1 (Um m allC)) (v := 0) hnd hmem
    rw [eps] at aP hlenP hpl hD
    have bdS : ∀ l : List Int, (∀ p ∈ l, p ∈ ps) → (l.length : Int) ≤ 12 → 0 ≤ sumL (up1 (lo1 (Um m allC)) (lot : Int) 0) l ∧ sumL (up1 (lo1 (Um m allC)) (lot : Int) 0) l ≤ 120000 ∧ 0 ≤ sumL (up1 (hi1 (Um m allC)) (lot : Int) 0) l ∧ sumL (up1 (hi1 (Um m allC)) (lot : Int) 0) l ≤ 120000 := fun l h1 h2 => by
      have e1 : ∀ (l : List Int), sumL (fun _ => (10000 : Int)) l = l.length * 10000 := fun l => by
        induction l with
        | nil => simp [sumL]
        | cons a l ih => simp only [sumL, ih, List.length_cons, Int.natCast_add]; omega
      have hb : ∀ p ∈ l, 0 ≤ (up1 (lo1 (Um m allC)) (lot : Int) 0) p ∧ (up1 (lo1 (Um m allC)) (lot : Int) 0) p ≤ 10000 ∧ 0 ≤ (up1 (hi1 (Um m allC)) (lot : Int) 0) p ∧ (up1 (hi1 (Um m allC)) (lot : Int) 0) p ≤ 10000 := fun p hp => by
        obtain ⟨p0, p1⟩ := hps p (h1 p hp)
        have := hUm p p0 p1
        simp only [up1, lo1, hi1]
        split <;> omega
      have a1 := sumL_nonneg (l := l) fun p hp => (hb p hp).1
      have a2 := sumL_mono (y := fun _ => 10000) (l := l) fun p hp => (hb p hp).2.1
      have a3 := sumL_nonneg (l := l) fun p hp => (hb p hp).2.2.1
      have a4 := sumL_mono (y := fun _ => 10000) (l := l) fun p hp => (hb p hp).2.2.2
      rw [e1] at a2 a4
      omega
    have hDf := Do_in F (Um m allC) (i := (fr : Int)) (by omega) (by omega)
    have hUf := hUm (fr : Int) (by omega) (by omega)
    have hDm : Dm m (fr : Int) = Do m.lots.length (frmAt m) (parts m) (Um m allC) (fr : Int) := rfl
    rw [← hDm] at hDf hD
    have hDfb : 0 ≤ (Dm m (fr : Int)).1 ∧ (Dm m (fr : Int)).1 ≤ 10000 ∧ 0 ≤ (Dm m (fr : Int)).2 ∧ (Dm m (fr : Int)).2 ≤ 10000 := by
      have := (Dm_exact g hag).ne (fr : Int) (by omega) (by omega)
      omega
    simp (maxSteps := 1000000) (implicitDefEqProofs := false) (disch := first | with_reducible rfl | omega | (simp only [nA, nS, nD] <;> omega) | fail) only [go_sem, ↓reduceIte, Nat.reduceEqDiff, Nat.reduceAdd, Nat.reduceSub, Nat.reduceMul, reduceCtorEq, Nat.reduceLeDiff]
    refine W_count ps.length (fun j s => ∃ tm h', s = ⟨tm, h', []⟩ ∧ h7.Sub h' ∧ (Opd.t 1).ev tm = .int .i64 (lot : Int) ∧ (Opd.t 2).ev tm = .ptr h.next 0 ∧ (Opd.t 4).ev tm = .ptr (h.next + 1) 0 ∧ (Opd.t 5).ev tm = .int .i64 (Um m allC (lot : Int)).1 ∧ (Opd.t 6).ev tm = .int .i64 (Um m allC (lot : Int)).2 ∧
        (Opd.t 10).ev tm = .int .i64 ((Dm m (fr : Int)).1 - sumL (up1 (hi1 (Um m allC)) (lot : Int) 0) (ps.take j)) ∧ (Opd.t 11).ev tm = .int .i64 ((Dm m (fr : Int)).2 - sumL (up1 (lo1 (Um m allC)) (lot : Int) 0) (ps.take j)) ∧ (Opd.t 12).ev tm = P ∧ (Opd.t 13).ev tm = .int .i64 (j : Int))
      ?_ ?_ (i := 0) (Nat.zero_le _) ⟨_, _, rfl, H.Sub.refl s7.wf, (by simp [ev_c, ev_put] <;> rfl), (by simp [ev_c, ev_put] <;> rfl), (by simp [ev_c, ev_put] <;> rfl), (by simp [ev_c, ev_put] <;> rfl), (by simp [ev_c, ev_put] <;> rfl), by (simp only [List.take_zero, sumL, Int.sub_zero]; exact (by simp [ev_c, ev_put] <;> rfl)), by (simp only [List.take_zero, sumL, Int.sub_zero]; exact (by simp [ev_c, ev_put] <;> rfl)), (by simp [ev_c, ev_put] <;> rfl), (by simp [ev_c, ev_put] <;> rfl)⟩
    · rintro j s hj ⟨tm, h', rfl, hs, t1, t2, t4, t5, t6, t10, t11, t12, t13⟩
      have hj' : (j : Int) < (ps.length : Int) := by omega
      have hs7 := s7.trans hs
      have gm := (s26.trans (s67.trans hs)).cells g1
      obtain ⟨b2, o2, c2, cs2, rfl, hcs2, hq2, hgg2, hn2, hn02⟩ := (aP.mono hs).at hj
      obtain ⟨p0, p1⟩ := hps _ (List.getElem_mem hj)
      obtain ⟨p, ep⟩ := Int.eq_ofNat_of_zero_le p0
      have e1 := sumL_up1_take (x := lo1 (Um m allC)) (i := (lot : Int)) hj
      have e2 := sumL_up1_take (x := hi1 (Um m allC)) (i := (lot : Int)) hj
      have hb1 := bdS (ps.take j) (fun p hp => List.mem_of_mem_take hp) (by simp only [List.length_take]; omega)
      rw [ep] at e1 e2
      by_cases hpe : (p : Int) = (lot : Int)
      · rw [if_pos hpe, Int.add_zero] at e1 e2
        simp (maxSteps := 1000000) (implicitDefEqProofs := false) (disch := first | with_reducible rfl | omega | (simp only [nA, nS, nD] <;> omega) | fail) only [go_sem, ↓reduceIte, Nat.reduceEqDiff, Nat.reduceAdd, Nat.reduceSub, Nat.reduceMul, reduceCtorEq, Nat.reduceLeDiff, t1, t2, t4, t5, t6, t10, t11, t12, t13, hlenP, hj', hq2 (nat_cst j), hcs2, hn02 (by omega), encI, ep, ne_eq, hpe, not_true_eq_false, wr_succ]
        exact ⟨_, _, rfl, hs, (by simp [ev_c, ev_put, t1] <;> rfl), (by simp [ev_c, ev_put, t2] <;> rfl), (by simp [ev_c, ev_put, t4] <;> rfl), (by simp [ev_c, ev_put, t5] <;> rfl), (by simp [ev_c, ev_put, t6] <;> rfl), by rw [e2]; exact (by simp [ev_c, ev_put, t10] <;> rfl), by rw [e1]; exact (by simp [ev_c, ev_put, t11] <;> rfl), (by simp [ev_c, ev_put, t12] <;> rfl), (by simp [ev_c, ev_put] <;> rfl)⟩
      · rw [if_neg hpe] at e1 e2
        have f1 : lo1 (Um m allC) (p : Int) = (Um m allC (p : Int)).1 := rfl
        have f2 : hi1 (Um m allC) (p : Int) = (Um m allC (p : Int)).2 := rfl
        rw [f1] at e1
        rw [f2] at e2
        have hup := hUm (p : Int) (by omega) (by omega)
        simp (maxSteps := 1000000) (implicitDefEqProofs := false) (disch := first | with_reducible rfl | omega | (simp only [nA, nS, nD] <;> omega) | fail) only [go_sem, ↓reduceIte, Nat.reduceEqDiff, Nat.reduceAdd, Nat.reduceSub, Nat.reduceMul, reduceCtorEq, Nat.reduceLeDiff, t1, t2, t4, t5, t6, t10, t11, t12, t13, hlenP, hj', hq2 (nat_cst j), hcs2, hn02 (by omega), encI, ep, ne_eq, hpe, not_false_eq_true, gm]
        refine All_ev hs7.wf (hm0.mono hs7) (by omega) _ fun C2 h8 s78 aC2 => ?_
        have hcs8 := s78.cells hcs2
        have gm8 := s78.cells gm
        simp (maxSteps := 1000000) (implicitDefEqProofs := false) (disch := first | with_reducible rfl | omega | (simp only [nA, nS, nD] <;> omega) | fail) only [go_sem, ↓reduceIte, Nat.reduceEqDiff, Nat.reduceAdd, Nat.reduceSub, Nat.reduceMul, reduceCtorEq, Nat.reduceLeDiff, t1, t2, t4, t5, t6, t10, t11, t12, t13, hq2 (nat_cst j), hcs8, hn02 (by omega), encI, ep]
        refine upu p (by omega) (hs7.trans s78) aC2 _ fun h9 s89 => ?_
        have hcs9 := s89.cells hcs8
        have gm9 := s89.cells gm8
        simp (maxSteps := 1000000) (implicitDefEqProofs := false) (disch := first | with_reducible rfl | omega | (simp only [nA, nS, nD] <;> omega) | fail) only [go_sem, ↓reduceIte, Nat.reduceEqDiff, Nat.reduceAdd, Nat.reduceSub, Nat.reduceMul, reduceCtorEq, Nat.reduceLeDiff, t1, t2, t4, t5, t6, t10, t11, t12, t13, hq2 (nat_cst j), hcs2, hcs8, hcs9, hn02 (by omega), encI, ep, gm, gm8, gm9, wr_in, wr_succ]
        exact ⟨_, _, rfl, hs.trans (s78.trans s89), (by simp [ev_c, ev_put, t1] <;> rfl), (by simp [ev_c, ev_put, t2] <;> rfl), (by simp [ev_c, ev_put, t4] <;> rfl), (by simp [ev_c, ev_put, t5] <;> rfl), (by simp [ev_c, ev_put, t6] <;> rfl), by rw [e2, ← Int.sub_sub]; exact (by simp [ev_c, ev_put] <;> rfl), by rw [e1, ← Int.sub_sub]; exact (by simp [ev_c, ev_put] <;> rfl), (by simp [ev_c, ev_put, t12] <;> rfl), (by simp [ev_c, ev_put] <;> rfl)⟩
    · rintro s ⟨tm, h', rfl, hs, t1, t2, t4, t5, t6, t10, t11, t12, t13⟩
      rw [List.take_length] at t10 t11
      rw [hhi] at t10
      rw [hlo] at t11
      have sAll := s26.trans (s67.trans hs)
      have lA := sAll.next
      simp (maxSteps := 1000000) (implicitDefEqProofs := false) (disch := first | with_reducible rfl | omega | (simp only [nA, nS, nD] <;> omega) | fail) only [go_sem, ↓reduceIte, Nat.reduceEqDiff, Nat.reduceAdd, Nat.reduceSub, Nat.reduceMul, reduceCtorEq, Nat.reduceLeDiff, t1, t2, t4, t5, t6, t10, t11, t12, t13, hlenP, Int.lt_irrefl, sAll.get gr]
      have hq := q _ ((s7.trans hs).set (b := h.next + 1) (by omega) (by omega) hw (.cells .rw [.int .i64 (Dm m (lot : Int)).1, .int .i64 (Dm m (lot : Int)).2]))
      have e : Dm m (lot : Int) = (max (Um m allC (lot : Int)).1 ((Dm m (fr : Int)).1 - (sumL (hi1 (Um m allC)) ps - hi1 (Um m allC) (lot : Int) + 0)), min (Um m allC (lot : Int)).2 ((Dm m (fr : Int)).2 - (sumL (lo1 (Um m allC)) ps - lo1 (Um m allC) (lot : Int) + 0))) := by
        rw [Int.add_zero, Int.add_zero]; exact hD
      rw [e] at hq; exact hq
end Go.Ab.Try
set_option linter.unusedSimpArgs false
set_option linter.unusedVariables false
namespace Go.Ab.Try
open Go.Ab.Silk
theorem spansL_get (b : Box) {n i : Nat} (h : i < (spansL b n).length) : (spansL b n)[i] = [(b (i : Int)).1, (b (i : Int)).2] := by simp [spansL]
theorem spansL_succ (b : Box) (n : Nat) : spansL b (n + 1) = spansL b n ++ [[(b (n : Int)).1, (b (n : Int)).2]] := by simp [spansL, List.range_succ]
theorem spansL_congr {b c : Box} {n : Nat} (h : ∀ i : Int, 0 ≤ i → i < n → b i = c i) : spansL b n = spansL c n := by
  unfold spansL
  refine List.map_congr_left fun i hi => ?_
  have : i < n := List.mem_range.1 hi
  rw [h (i : Int) (by omega) (by omega)]
theorem bestW_congr {b c : Box} : ∀ {n : Nat}, (∀ i : Int, 0 ≤ i → i < n → b i = c i) → bestW b n = bestW c n
  | 0, _ => rfl
  | n + 1, h => by
    have ih := bestW_congr (b := b) (c := c) (n := n) fun i i0 i1 => h i i0 (by omega)
    have hl := bestW_lt c n
    simp only [bestW]
    rw [ih, h (n : Int) (by omega) (by omega), h ((bestW c n : Nat) : Int) (by omega) (by omega)]
/-- What is right of weights that fit. -/
theorem has_iff {m : Ml} (g : Good m) (h : ∃ w, FeasM m allC w) {lot dry : Int} (l0 : 0 ≤ lot) (l1 : lot < m.lots.length) : (∃ w, FeasM m allC w ∧ w lot = dry) ↔ (Dm m lot).1 ≤ dry ∧ dry ≤ (Dm m lot).2 := by
  have e := Dm_exact g h
  constructor
  · rintro ⟨w, f, rfl⟩; exact e.sound w f lot l0 l1
  · rintro ⟨h1, h2⟩; exact e.full lot dry l0 l1 h1 h2
theorem Dm_bd {m : Ml} (g : Good m) (h : ∃ w, FeasM m allC w) {i : Int} (i0 : 0 ≤ i) (i1 : i < m.lots.length) : 0 ≤ (Dm m i).1 ∧ (Dm m i).1 ≤ (Dm m i).2 ∧ (Dm m i).2 ≤ 10000 := by
  have e := Dm_exact g h
  have hn := e.ne i i0 i1
  obtain ⟨w1, f1, e1⟩ := e.full i _ i0 i1 (Int.le_refl _) hn
  obtain ⟨w2, f2, e2⟩ := e.full i _ i0 i1 hn (Int.le_refl _)
  have h1 := f1.1 i i0 i1
  have h2 := f2.1 i i0 i1
  have := ownB_bd g allC i
  omega
theorem toNat_lt {a : Int} {k n : Nat} (h0 : 0 ≤ a) (h1 : a ≤ (n : Int) - 1) (hk : k = n) : a.toNat < k := by omega
set_option maxHeartbeats 4000000 in
theorem SilkBounds_ev {h : H} {v K : V} {m : Ml} {ws : List Int} (hw : h.wf) (hm : MlIs h v m) (hk : SlAt h K 1 (ws.map encI)) (lot dry : Int) : Ev fnG fastA (.fn 15 [] []) [v, K, .int .i64 lot, .int .i64 dry] h fun u h' => u = .bool true := by
  refine Ev.gen fun Q q => ?_
  have hm0 := hm
  obtain ⟨L, W, rfl, aL, aW⟩ := hm
  refine Ev_body (fd := c15) rfl rfl rfl ?_
  have s1 : h.Sub (h.add (.cells .rw [.int .i64 m.errs, L, W])) := (by repeat (first | assumption | exact H.Sub.refl (by assumption) | refine H.Sub.add ?_ _ | refine H.Sub.set ?_ (by first | omega | (simp only [H.next_add, H.next_set, H.next_del] <;> omega)) (by first | omega | (simp only [H.next_add, H.next_set, H.next_del] <;> omega)) (by assumption) _))
  simp (maxSteps := 1000000) (implicitDefEqProofs := false) (disch := first | with_reducible rfl | omega | (simp only [nA, nS, nD] <;> omega) | fail) only [c15, go_sem, ↓reduceIte, Nat.reduceEqDiff, Nat.reduceAdd, Nat.reduceSub, Nat.reduceMul, reduceCtorEq, Nat.reduceLeDiff]
  refine great_ev s1.wf (hm0.mono s1) _ fun h2 s12 => ?_
  have s2 := s1.trans s12
  have l2 := s12.next
  simp only [H.next_add] at l2
  have g2 : h2.cells h.next = some [.int .i64 m.errs, L, W] := s12.cells (by simp (maxSteps := 1000000) (implicitDefEqProofs := false) (disch := first | with_reducible rfl | omega | (simp only [nA, nS, nD] <;> omega) | fail) only [go_sem, ↓reduceIte, Nat.reduceEqDiff, Nat.reduceAdd, Nat.reduceSub, Nat.reduceMul, reduceCtorEq, Nat.reduceLeDiff])
  have hlk := hk.lenE
  cases hgr : greatM m
  case true =>
    simp (maxSteps := 1000000) (implicitDefEqProofs := false) (disch := first | with_reducible rfl | omega | (simp only [nA, nS, nD] <;> omega) | fail) only [go_sem, ↓reduceIte, Nat.reduceEqDiff, Nat.reduceAdd, Nat.reduceSub, Nat.reduceMul, reduceCtorEq, Nat.reduceLeDiff, awake_eq]
    exact q _ _ rfl
  by_cases hk24 : 24 < (ws.length : Int)
  case pos =>
    simp (maxSteps := 1000000) (implicitDefEqProofs := false) (disch := first | with_reducible rfl | omega | (simp only [nA, nS, nD] <;> omega) | fail) only [go_sem, ↓reduceIte, Nat.reduceEqDiff, Nat.reduceAdd, Nat.reduceSub, Nat.reduceMul, reduceCtorEq, Nat.reduceLeDiff, hlk, hk24, awake_eq]
    exact q _ _ rfl
  have hle : m.lots.length ≤ 1000 ∧ m.wgs.length ≤ 1000 := by
    simp only [greatM, decide_eq_false_iff_not] at hgr
    omega
  simp (maxSteps := 1000000) (implicitDefEqProofs := false) (disch := first | with_reducible rfl | omega | (simp only [nA, nS, nD] <;> omega) | fail) only [go_sem, ↓reduceIte, Nat.reduceEqDiff, Nat.reduceAdd, Nat.reduceSub, Nat.reduceMul, reduceCtorEq, Nat.reduceLeDiff, hlk, hk24, g2]
  refine Own_own s2.wf (hm0.mono s2) hle _ fun A B h3 s23 oOwn hA hB => ?_
  have s3 := s2.trans s23
  have g3 := s23.cells g2
  have l3 := s23.next
  simp (maxSteps := 1000000) (implicitDefEqProofs := false) (disch := first | with_reducible rfl | omega | (simp only [nA, nS, nD] <;> omega) | fail) only [go_sem, ↓reduceIte, Nat.reduceEqDiff, Nat.reduceAdd, Nat.reduceSub, Nat.reduceMul, reduceCtorEq, Nat.reduceLeDiff, g3]
  refine theirs_ev s3.wf (hm0.mono s3) hle _ fun x h4 s34 hx => ?_
  have s4 := s3.trans s34
  have g4 := s34.cells g3
  have l4 := s34.next
  obtain ⟨X, Y, rfl, aX, aY⟩ := id hx
  have oX1 := aX.one
  have oY1 := aY.one
  simp (maxSteps := 1000000) (implicitDefEqProofs := false) (disch := first | with_reducible rfl | omega | (simp only [nA, nS, nD] <;> omega) | fail) only [go_sem, ↓reduceIte, Nat.reduceEqDiff, Nat.reduceAdd, Nat.reduceSub, Nat.reduceMul, reduceCtorEq, Nat.reduceLeDiff, dupInt_ev s4.wf (hk.mono s4) (by omega), oX1, oY1, hA, hB, cells_one oX1, cells_one oY1, cells_one hA, cells_one hB, g2, g3, g4, hlk]
  have s45 : h4.Sub (((((h4.add (.cells .rw (ws.map encI).flatten)).add (.cells .rw [.int .i64 0, .nils, .nils])).add (.cells .rw [.int .i64 0, .nils, .nils])).set (h4.next + 1) (.cells .rw [.int .i64 m.errs, A, B])).set (h4.next + 1 + 1) (.cells .rw [.int .i64 m.errs, X, Y])) := by
    have w4 := s4.wf
    exact (by repeat (first | assumption | exact H.Sub.refl (by assumption) | refine H.Sub.add ?_ _ | refine H.Sub.set ?_ (by first | omega | (simp only [H.next_add, H.next_set, H.next_del] <;> omega)) (by first | omega | (simp only [H.next_add, H.next_set, H.next_del] <;> omega)) (by assumption) _))
  have gM : (((((h4.add (.cells .rw (ws.map encI).flatten)).add (.cells .rw [.int .i64 0, .nils, .nils])).add (.cells .rw [.int .i64 0, .nils, .nils])).set (h4.next + 1) (.cells .rw [.int .i64 m.errs, A, B])).set (h4.next + 1 + 1) (.cells .rw [.int .i64 m.errs, X, Y])).cells h4.next = some (ws.map encI).flatten := by simp (maxSteps := 1000000) (implicitDefEqProofs := false) (disch := first | with_reducible rfl | omega | (simp only [nA, nS, nD] <;> omega) | fail) only [go_sem, ↓reduceIte, Nat.reduceEqDiff, Nat.reduceAdd, Nat.reduceSub, Nat.reduceMul, reduceCtorEq, Nat.reduceLeDiff]
  have c9 : (((((h4.add (.cells .rw (ws.map encI).flatten)).add (.cells .rw [.int .i64 0, .nils, .nils])).add (.cells .rw [.int .i64 0, .nils, .nils])).set (h4.next + 1) (.cells .rw [.int .i64 m.errs, A, B])).set (h4.next + 1 + 1) (.cells .rw [.int .i64 m.errs, X, Y])).cells (h4.next + 1) = some [.int .i64 m.errs, A, B] := by simp (maxSteps := 1000000) (implicitDefEqProofs := false) (disch := first | with_reducible rfl | omega | (simp only [nA, nS, nD] <;> omega) | fail) only [go_sem, ↓reduceIte, Nat.reduceEqDiff, Nat.reduceAdd, Nat.reduceSub, Nat.reduceMul, reduceCtorEq, Nat.reduceLeDiff]
  have c10 : (((((h4.add (.cells .rw (ws.map encI).flatten)).add (.cells .rw [.int .i64 0, .nils, .nils])).add (.cells .rw [.int .i64 0, .nils, .nils])).set (h4.next + 1) (.cells .rw [.int .i64 m.errs, A, B])).set (h4.next + 1 + 1) (.cells .rw [.int .i64 m.errs, X, Y])).cells (h4.next + 1 + 1) = some [.int .i64 m.errs, X, Y] := by simp (maxSteps := 1000000) (implicitDefEqProofs := false) (disch := first | with_reducible rfl | omega | (simp only [nA, nS, nD] <;> omega) | fail) only [go_sem, ↓reduceIte, Nat.reduceEqDiff, Nat.reduceAdd, Nat.reduceSub, Nat.reduceMul, reduceCtorEq, Nat.reduceLeDiff]
  generalize (((((h4.add (.cells .rw (ws.map encI).flatten)).add (.cells .rw [.int .i64 0, .nils, .nils])).add (.cells .rw [.int .i64 0, .nils, .nils])).set (h4.next + 1) (.cells .rw [.int .i64 m.errs, A, B])).set (h4.next + 1 + 1) (.cells .rw [.int .i64 m.errs, X, Y])) = h5 at s45 gM c9 c10 ⊢
  have s5 := s4.trans s45
  have l45 := s45.next
  have hown5 := (oOwn.mono (s34.trans s45)).is hle
  have hmine5 : SlAt h5 (.sl h4.next 0 ws.length (.fix ws.length)) 1 (ws.map encI) := by
    refine ⟨hk.1, hk.2.1, .inr ⟨h4.next, 0, .fix ws.length, _, by simp, .inr gM, ?_⟩⟩
    have hfl := flatten_len hk.1
    exact getN_full hfl
  refine (refCheck_ev s5.wf (hx.mono s45)).mono fun u h6 hu => ?_
  obtain ⟨rfl, s56⟩ := hu
  have s6 := s5.trans s56
  have l56 := s56.next
  have d9 := s56.cells c9
  have d10 := s56.cells c10
  have d1 := (s45.trans s56).cells g4
  simp (maxSteps := 1000000) (implicitDefEqProofs := false) (disch := first | with_reducible rfl | omega | (simp only [nA, nS, nD] <;> omega) | fail) only [go_sem, ↓reduceIte, Nat.reduceEqDiff, Nat.reduceAdd, Nat.reduceSub, Nat.reduceMul, reduceCtorEq, Nat.reduceLeDiff]
  have s67 := (H.Sub.refl s6.wf).add (.cells .rw [.int .i64 0, .int .i64 0])
  have f18 : (h6.add (.cells .rw [.int .i64 0, .int .i64 0])).get h6.next = some (.cells .rw [.int .i64 0, .int .i64 0]) := get_add_new rfl
  have l67 : (h6.add (.cells .rw [.int .i64 0, .int .i64 0])).next = h6.next + 1 := H.next_add _ _
  generalize h6.add (.cells .rw [.int .i64 0, .int .i64 0]) = h7 at s67 f18 l67 ⊢
  have s7 := s6.trans s67
  have w7 := s7.wf
  have hx7 := hx.mono (s45.trans (s56.trans s67))
  have hm7 := hm0.mono s7
  obtain ⟨I, hI⟩ : ∃ I : St → Prop, ∀ s, I s ↔ ∃ tm h8 isB uE vE wd Bv rows flo fhi, s = ⟨tm, h8, []⟩ ∧ h6.Sub h8 ∧ (Opd.t 1).ev tm = K ∧ (Opd.t 2).ev tm = .int .i64 lot ∧ (Opd.t 3).ev tm = .int .i64 dry ∧ (Opd.t 4).ev tm = .ptr h.next 0 ∧ (Opd.t 9).ev tm = .ptr (h4.next + 1) 0 ∧ (Opd.t 10).ev tm = .ptr (h4.next + 1 + 1) 0 ∧ (Opd.t 11).ev tm = .sl h4.next 0 ws.length (.fix ws.length) ∧ (Opd.t 12).ev tm = .int .i64 (check m) ∧
      (Opd.t 13).ev tm = .int .i64 uE ∧ (Opd.t 14).ev tm = .int .i64 vE ∧ (Opd.t 15).ev tm = .bool isB ∧ (Opd.t 16).ev tm = .int .i64 wd ∧ (Opd.t 17).ev tm = Bv ∧ (Opd.t 18).ev tm = .ptr h6.next 0 ∧ h8.cells h6.next = some [.int .i64 flo, .int .i64 fhi] ∧ SlAt h8 Bv 2 (rows.map (List.map iv)) ∧
      ((check m ≠ 0 ∧ uE = check m ∧ vE = check m ∧ isB = false ∧ wd = 0 ∧ rows = [] ∧ flo = 0 ∧ fhi = 0) ∨
       (check m = 0 ∧ (isB = true ↔ FitsP m ws) ∧ (((¬ ∃ w, FeasM m allC w) ∧ uE = 7 ∧ wd = 0 ∧ rows = [] ∧ flo = 0 ∧ fhi = 0) ∨ ((∃ w, FeasM m allC w) ∧ uE = 0 ∧ wd = (bestW (Dm m) m.lots.length : Nat) ∧ rows = spansL (Dm m) m.lots.length ∧ flo = (Dm m (bestW (Dm m) m.lots.length : Nat)).1 ∧ fhi = (Dm m (bestW (Dm m) m.lots.length : Nat)).2)) ∧
         ((¬ (0 ≤ lot ∧ lot ≤ (m.lots.length : Int) - 1) ∧ vE = 1) ∨ ((0 ≤ lot ∧ lot ≤ (m.lots.length : Int) - 1) ∧ (¬ ∃ w, FeasM m allC w ∧ w lot = dry) ∧ vE = 6) ∨ ((0 ≤ lot ∧ lot ≤ (m.lots.length : Int) - 1) ∧ (∃ w, FeasM m allC w ∧ w lot = dry) ∧ vE = 0)))) := ⟨_, fun s => Iff.rfl⟩
  have nil7 : SlAt h7 .nils 2 (([] : List (List Int)).map (List.map iv)) := (OwnSl.nil (H.Sub.refl w7) 2).sl (by simp)
  refine PB_cut (p := check m = 0) I ?_ ?_ ?_
  · intro c
    have g := good_of c
    have gl := g.lots
    have gw := g.wgs
    have e10 := s67.cells d10
    rw [W_assoc, W_assoc, W_seq]
    obtain ⟨J, hJ⟩ : ∃ J : St → Prop, ∀ s, J s ↔ ∃ tm h8 isB uE wd Bv rows flo fhi, (isB = true ↔ FitsP m ws) ∧ s = ⟨tm, h8, []⟩ ∧ h6.Sub h8 ∧ (Opd.t 1).ev tm = K ∧ (Opd.t 2).ev tm = .int .i64 lot ∧ (Opd.t 3).ev tm = .int .i64 dry ∧ (Opd.t 4).ev tm = .ptr h.next 0 ∧ (Opd.t 9).ev tm = .ptr (h4.next + 1) 0 ∧ (Opd.t 10).ev tm = .ptr (h4.next + 1 + 1) 0 ∧ (Opd.t 11).ev tm = .sl h4.next 0 ws.length (.fix ws.length) ∧ (Opd.t 12).ev tm = .int .i64 (check m) ∧
        (Opd.t 13).ev tm = .int .i64 uE ∧ (Opd.t 14).ev tm = .int .i64 0 ∧ (Opd.t 15).ev tm = .bool isB ∧ (Opd.t 16).ev tm = .int .i64 wd ∧ (Opd.t 17).ev tm = Bv ∧ (Opd.t 18).ev tm = .ptr h6.next 0 ∧ h8.cells h6.next = some [.int .i64 flo, .int .i64 fhi] ∧ SlAt h8 Bv 2 (rows.map (List.map iv)) ∧
        (((¬ ∃ w, FeasM m allC w) ∧ uE = 7 ∧ wd = 0 ∧ rows = [] ∧ flo = 0 ∧ fhi = 0) ∨ ((∃ w, FeasM m allC w) ∧ uE = 0 ∧ wd = (bestW (Dm m) m.lots.length : Nat) ∧ rows = spansL (Dm m) m.lots.length ∧ flo = (Dm m (bestW (Dm m) m.lots.length : Nat)).1 ∧ fhi = (Dm m (bestW (Dm m) m.lots.length : Nat)).2)) := ⟨_, fun s => Iff.rfl⟩
    refine W_cut J ?_ ?_
    · simp (maxSteps := 1000000) (implicitDefEqProofs := false) (disch := first | with_reducible rfl | omega | (simp only [nA, nS, nD] <;> omega) | fail) only [go_sem, ↓reduceIte, Nat.reduceEqDiff, Nat.reduceAdd, Nat.reduceSub, Nat.reduceMul, reduceCtorEq, Nat.reduceLeDiff, e10]
      refine (refFits_ev w7 hx7 g (hk.mono s7)).mono fun u h8 hu => ?_
      obtain ⟨s78, isB, rfl, hisB⟩ := hu
      have s68 := s67.trans s78
      have l78 := s78.next
      have e10' := s78.cells e10
      have f18' := s78.get f18
      simp (maxSteps := 1000000) (implicitDefEqProofs := false) (disch := first | with_reducible rfl | omega | (simp only [nA, nS, nD] <;> omega) | fail) only [go_sem, ↓reduceIte, Nat.reduceEqDiff, Nat.reduceAdd, Nat.reduceSub, Nat.reduceMul, reduceCtorEq, Nat.reduceLeDiff, e10']
      have s8 := s6.trans s68
      have hx8 := hx7.mono s78
      refine All_ev s8.wf hx8 (by omega) _ fun C h9 s89 aC => ?_
      have s9 := s8.trans s89
      have e9 := s89.cells e10'
      simp (maxSteps := 1000000) (implicitDefEqProofs := false) (disch := first | with_reducible rfl | omega | (simp only [nA, nS, nD] <;> omega) | fail) only [go_sem, ↓reduceIte, Nat.reduceEqDiff, Nat.reduceAdd, Nat.reduceSub, Nat.reduceMul, reduceCtorEq, Nat.reduceLeDiff, e10', e9]
      refine (refAgree_ev s9.wf (hx8.mono s89) g aC (by simp)).mono fun u hA2 hu => ?_
      obtain ⟨s9A, t, rfl, ht⟩ := hu
      have ht' : t = true ↔ ∃ w, FeasM m allC w := by rw [ht]; unfold FeasM; rw [own_all]
      have sA := s9.trans s9A
      have s8A := s89.trans s9A
      have s7A := s78.trans s8A
      have s6A := s67.trans s7A
      have k1 := s6A.cells d1
      have k10 := s8A.cells e10'
      have k18 := s8A.get f18'
      have hlenL := aL.lenE
      have lA := s7A.next
      cases t
      · have hno : ¬ ∃ w, FeasM m allC w := fun hf => by have := ht'.2 hf; cases this
        simp (maxSteps := 1000000) (implicitDefEqProofs := false) (disch := first | with_reducible rfl | omega | (simp only [nA, nS, nD] <;> omega) | fail) only [go_sem, ↓reduceIte, Nat.reduceEqDiff, Nat.reduceAdd, Nat.reduceSub, Nat.reduceMul, reduceCtorEq, Nat.reduceLeDiff, e10', e9]
        exact ⟨rfl, (hJ _).2 ⟨_, _, isB, 7, 0, .nils, [], 0, 0, hisB, rfl, s6A, (by simp [ev_c, ev_put] <;> rfl), (by simp [ev_c, ev_put] <;> rfl), (by simp [ev_c, ev_put] <;> rfl), (by simp [ev_c, ev_put] <;> rfl), (by simp [ev_c, ev_put] <;> rfl), (by simp [ev_c, ev_put] <;> rfl), (by simp [ev_c, ev_put] <;> rfl), (by simp [ev_c, ev_put] <;> rfl), (by simp [ev_c, ev_put] <;> rfl), by rw [← c]; exact (by simp [ev_c, ev_put] <;> rfl), (by simp [ev_c, ev_put] <;> rfl), (by simp [ev_c, ev_put] <;> rfl), (by simp [ev_c, ev_put] <;> rfl), (by simp [ev_c, ev_put] <;> rfl), cells_of k18, nil7.mono s7A, .inl ⟨hno, rfl, rfl, rfl, rfl, rfl⟩⟩⟩
      · have hyes := ht'.1 rfl
        simp (maxSteps := 1000000) (implicitDefEqProofs := false) (disch := first | with_reducible rfl | omega | (simp only [nA, nS, nD] <;> omega) | fail) only [go_sem, ↓reduceIte, Nat.reduceEqDiff, Nat.reduceAdd, Nat.reduceSub, Nat.reduceMul, reduceCtorEq, Nat.reduceLeDiff, e10', e9, k1, hlenL]
        have hxA := hx8.mono s8A
        refine W_count m.lots.length (fun i s => ∃ tm h' Bv, s = ⟨tm, h', []⟩ ∧ hA2.Sub h' ∧ OwnSl hA2 h' Bv 2 ((spansL (Dm m) i).map (List.map iv)) ∧ (Opd.t 1).ev tm = K ∧ (Opd.t 2).ev tm = .int .i64 lot ∧ (Opd.t 3).ev tm = .int .i64 dry ∧ (Opd.t 4).ev tm = .ptr h.next 0 ∧ (Opd.t 9).ev tm = .ptr (h4.next + 1) 0 ∧ (Opd.t 10).ev tm = .ptr (h4.next + 1 + 1) 0 ∧ (Opd.t 11).ev tm = .sl h4.next 0 ws.length (.fix ws.length) ∧ (Opd.t 12).ev tm = .int .i64 (check m) ∧
            (Opd.t 13).ev tm = .int .i64 0 ∧ (Opd.t 14).ev tm = .int .i64 0 ∧ (Opd.t 15).ev tm = .bool isB ∧ (Opd.t 16).ev tm = .int .i64 ((bestW (Dm m) i : Nat) : Int) ∧ (Opd.t 17).ev tm = Bv ∧ (Opd.t 18).ev tm = .ptr h6.next 0 ∧ (Opd.t 58).ev tm = .int .i64 (m.lots.length : Int) ∧ (Opd.t 59).ev tm = .int .i64 (i : Int))
          ?_ ?_ (i := 0) (Nat.zero_le _) ⟨_, _, .nils, rfl, H.Sub.refl sA.wf, OwnSl.nil (H.Sub.refl sA.wf) 2, (by simp [ev_c, ev_put] <;> rfl), (by simp [ev_c, ev_put] <;> rfl), (by simp [ev_c, ev_put] <;> rfl), (by simp [ev_c, ev_put] <;> rfl), (by simp [ev_c, ev_put] <;> rfl), (by simp [ev_c, ev_put] <;> rfl), (by simp [ev_c, ev_put] <;> rfl), (by simp [ev_c, ev_put] <;> rfl), (by simp [ev_c, ev_put] <;> rfl), by rw [← c]; exact (by simp [ev_c, ev_put] <;> rfl), (by simp [ev_c, ev_put] <;> rfl), (by simp [ev_c, ev_put] <;> rfl), (by simp [ev_c, ev_put] <;> rfl), (by simp [ev_c, ev_put] <;> rfl), (by simp [ev_c, ev_put] <;> rfl), (by simp [ev_c, ev_put] <;> rfl)⟩
        · rintro i s hi ⟨tm, h', Bv, rfl, hs, oB, t1, t2, t3, t4, t9, t10, t11, t12, t13, t14, t15, t16, t17, t18, t58, t59⟩
          have hi' : (i : Int) < (m.lots.length : Int) := by omega
          have hs' := sA.trans hs
          simp (maxSteps := 1000000) (implicitDefEqProofs := false) (disch := first | with_reducible rfl | omega | (simp only [nA, nS, nD] <;> omega) | fail) only [go_sem, ↓reduceIte, Nat.reduceEqDiff, Nat.reduceAdd, Nat.reduceSub, Nat.reduceMul, reduceCtorEq, Nat.reduceLeDiff, t1, t2, t3, t4, t9, t10, t11, t12, t13, t14, t15, t16, t17, t18, t58, t59, hi', hs.cells k10]
          refine refBounds_ev g hyes (i + 1) i (by omega) hi hs'.wf (hxA.mono hs) _ fun hB2 sB => ?_
          have sB' := hs'.trans sB
          have hll : ((spansL (Dm m) i).map (List.map iv)).length ≤ 12 := by simp only [List.length_map, spansL_len]; omega
          have sC := (H.Sub.refl sB'.wf).add (.cells .rw [.int .i64 (Dm m (i : Int)).1, .int .i64 (Dm m (i : Int)).2])
          simp (maxSteps := 1000000) (implicitDefEqProofs := false) (disch := first | with_reducible rfl | omega | (simp only [nA, nS, nD] <;> omega) | fail) only [go_sem, ↓reduceIte, Nat.reduceEqDiff, Nat.reduceAdd, Nat.reduceSub, Nat.reduceMul, reduceCtorEq, Nat.reduceLeDiff]
          refine ((oB.mono sB).mono sC).app1 (r := [iv (Dm m (i : Int)).1, iv (Dm m (i : Int)).2]) sA.wf rfl (by omega) (SlAt.new _ rfl rfl rfl (by simp) (by simp)) rfl (by omega) (by omega) fun hV oV kV nV => ?_
          have hsucc : (spansL (Dm m) i).map (List.map iv) ++ [[iv (Dm m (i : Int)).1, iv (Dm m (i : Int)).2]] = (spansL (Dm m) (i + 1)).map (List.map iv) := by rw [spansL_succ, List.map_append]; rfl
          rw [hsucc] at oV
          simp only [H.next_add] at oV
          have aB := oV.sl (by simp [spansL_len]; omega)
          have hbl : bestW (Dm m) i ≤ i := by have := bestW_lt (Dm m) i; omega
          have hi1 : i < (spansL (Dm m) (i + 1)).length := by rw [spansL_len]; omega
          have hi2 : bestW (Dm m) i < (spansL (Dm m) (i + 1)).length := by rw [spansL_len]; omega
          obtain ⟨b1, o1, cc1, cs1, e1, hcs1, hq1, hgg1, hn1, hn01⟩ := aB.at hi1
          obtain ⟨b2, o2, cc2, cs2, e2, hcs2, hq2, hgg2, hn2, hn02⟩ := aB.at hi2
          have lo1e := hn01 (by omega)
          have hi1e := hn1 1 (by omega)
          have lo2e := hn02 (by omega)
          have hi2e := hn2 1 (by omega)
          rw [spansL_get] at lo1e hi1e
          rw [spansL_get] at lo2e hi2e
          have d1' := Dm_bd g hyes (i := (i : Int)) (by omega) hi'
          have d2' := Dm_bd g hyes (i := ((bestW (Dm m) i : Nat) : Int)) (by omega) (by omega)
          by_cases hlt : (Dm m (bestW (Dm m) i : Nat)).2 - (Dm m (bestW (Dm m) i : Nat)).1 < (Dm m (i : Int)).2 - (Dm m (i : Int)).1
          · simp (maxSteps := 1000000) (implicitDefEqProofs := false) (disch := first | with_reducible rfl | omega | (simp only [nA, nS, nD] <;> omega) | fail) only [go_sem, ↓reduceIte, Nat.reduceEqDiff, Nat.reduceAdd, Nat.reduceSub, Nat.reduceMul, reduceCtorEq, Nat.reduceLeDiff, t1, t2, t3, t4, t9, t10, t11, t12, t13, t14, t15, t16, t17, t18, t58, t59, hq1 (nat_cst i), hq2 (nat_cst (bestW (Dm m) i)), hcs1, hcs2, lo1e, hi1e, lo2e, hi2e, List.map_cons, List.map_nil, iv, wr_in, hlt, wr_succ]
            exact ⟨_, _, _, rfl, oV.1, oV, (by simp [ev_c, ev_put, t1] <;> rfl), (by simp [ev_c, ev_put, t2] <;> rfl), (by simp [ev_c, ev_put, t3] <;> rfl), (by simp [ev_c, ev_put, t4] <;> rfl), (by simp [ev_c, ev_put, t9] <;> rfl), (by simp [ev_c, ev_put, t10] <;> rfl), (by simp [ev_c, ev_put, t11] <;> rfl), (by simp [ev_c, ev_put, t12] <;> rfl), (by simp [ev_c, ev_put, t13] <;> rfl), (by simp [ev_c, ev_put, t14] <;> rfl), (by simp [ev_c, ev_put, t15] <;> rfl), by simp only [bestW, if_pos hlt]; exact (by simp [ev_c, ev_put] <;> rfl), (by simp [ev_c, ev_put] <;> rfl), (by simp [ev_c, ev_put, t18] <;> rfl), (by simp [ev_c, ev_put, t58] <;> rfl), (by simp [ev_c, ev_put] <;> rfl)⟩
          · simp (maxSteps := 1000000) (implicitDefEqProofs := false) (disch := first | with_reducible rfl | omega | (simp only [nA, nS, nD] <;> omega) | fail) only [go_sem, ↓reduceIte, Nat.reduceEqDiff, Nat.reduceAdd, Nat.reduceSub, Nat.reduceMul, reduceCtorEq, Nat.reduceLeDiff, t1, t2, t3, t4, t9, t10, t11, t12, t13, t14, t15, t16, t17, t18, t58, t59, hq1 (nat_cst i), hq2 (nat_cst (bestW (Dm m) i)), hcs1, hcs2, lo1e, hi1e, lo2e, hi2e, List.map_cons, List.map_nil, iv, wr_in, hlt, wr_succ]
            exact ⟨_, _, _, rfl, oV.1, oV, (by simp [ev_c, ev_put, t1] <;> rfl), (by simp [ev_c, ev_put, t2] <;> rfl), (by simp [ev_c, ev_put, t3] <;> rfl), (by simp [ev_c, ev_put, t4] <;> rfl), (by simp [ev_c, ev_put, t9] <;> rfl), (by simp [ev_c, ev_put, t10] <;> rfl), (by simp [ev_c, ev_put, t11] <;> rfl), (by simp [ev_c, ev_put, t12] <;> rfl), (by simp [ev_c, ev_put, t13] <;> rfl), (by simp [ev_c, ev_put, t14] <;> rfl), (by simp [ev_c, ev_put, t15] <;> rfl), by simp only [bestW, if_neg hlt]; exact (by simp [ev_c, ev_put, t16] <;> rfl), (by simp [ev_c, ev_put] <;> rfl), (by simp [ev_c, ev_put, t18] <;> rfl), (by simp [ev_c, ev_put, t58] <;> rfl), (by simp [ev_c, ev_put] <;> rfl)⟩
        · rintro s ⟨tm, h', Bv, rfl, hs, oB, t1, t2, t3, t4, t9, t10, t11, t12, t13, t14, t15, t16, t17, t18, t58, t59⟩
          have aB := oB.sl (by simp [spansL_len]; omega)
          have hi2 : bestW (Dm m) m.lots.length < (spansL (Dm m) m.lots.length).length := by rw [spansL_len]; have := bestW_lt (Dm m) m.lots.length; omega
          obtain ⟨b2, o2, cc2, cs2, rfl, hcs2, hq2, hgg2, hn2, hn02⟩ := aB.at hi2
          rw [spansL_get] at hgg2
          have k18' := hs.get k18
          have hnx := hs.next
          simp (maxSteps := 1000000) (implicitDefEqProofs := false) (disch := first | with_reducible rfl | omega | (simp only [nA, nS, nD] <;> omega) | fail) only [go_sem, ↓reduceIte, Nat.reduceEqDiff, Nat.reduceAdd, Nat.reduceSub, Nat.reduceMul, reduceCtorEq, Nat.reduceLeDiff, t1, t2, t3, t4, t9, t10, t11, t12, t13, t14, t15, t16, t17, t18, t58, t59, Int.lt_irrefl, hq2 (nat_cst (bestW (Dm m) m.lots.length)), hcs2, hgg2, List.map_cons, List.map_nil, iv, k18']
          have w6 := s6.wf
          refine ⟨rfl, (hJ _).2 ⟨_, _, isB, 0, _, _, spansL (Dm m) m.lots.length, _, _, hisB, rfl, (s6A.trans hs).set (Nat.le_refl _) (by omega) w6 _, (by simp [ev_c, ev_put, t1] <;> rfl), (by simp [ev_c, ev_put, t2] <;> rfl), (by simp [ev_c, ev_put, t3] <;> rfl), (by simp [ev_c, ev_put, t4] <;> rfl), (by simp [ev_c, ev_put, t9] <;> rfl), (by simp [ev_c, ev_put, t10] <;> rfl), (by simp [ev_c, ev_put, t11] <;> rfl), (by simp [ev_c, ev_put, t12] <;> rfl), (by simp [ev_c, ev_put, t13] <;> rfl), (by simp [ev_c, ev_put, t14] <;> rfl), (by simp [ev_c, ev_put, t15] <;> rfl), (by simp [ev_c, ev_put, t16] <;> rfl), (by simp [ev_c, ev_put, t17] <;> rfl), (by simp [ev_c, ev_put, t18] <;> rfl), cells_set_same rfl, ?_, .inr ⟨hyes, rfl, rfl, rfl, rfl, rfl⟩⟩⟩
          exact SlAt_keep aB (Keeps.set h' h6.next _) fun y hy e => by have := (oB.blk hy).1; omega
    · intro s hs
      obtain ⟨tm, hB2, isB, uE, wd, Bv, rows, flo, fhi, hisB, rfl, s6B, t1, t2, t3, t4, t9, t10, t11, t12, t13, t14, t15, t16, t17, t18, k18, aB, spec⟩ := (hJ s).1 hs
      have k1 := s6B.cells d1
      have hlenL := aL.lenE
      have fin : ∀ vE tm' hh, (Opd.t 1).ev tm' = K → (Opd.t 2).ev tm' = .int .i64 lot → (Opd.t 3).ev tm' = .int .i64 dry → (Opd.t 4).ev tm' = .ptr h.next 0 → (Opd.t 9).ev tm' = .ptr (h4.next + 1) 0 → (Opd.t 10).ev tm' = .ptr (h4.next + 1 + 1) 0 → (Opd.t 11).ev tm' = .sl h4.next 0 ws.length (.fix ws.length) → (Opd.t 12).ev tm' = .int .i64 (check m) →
          (Opd.t 13).ev tm' = .int .i64 uE → (Opd.t 14).ev tm' = .int .i64 vE → (Opd.t 15).ev tm' = .bool isB → (Opd.t 16).ev tm' = .int .i64 wd → (Opd.t 17).ev tm' = Bv → (Opd.t 18).ev tm' = .ptr h6.next 0 → hB2.Sub hh →
          ((¬ (0 ≤ lot ∧ lot ≤ (m.lots.length : Int) - 1) ∧ vE = 1) ∨ ((0 ≤ lot ∧ lot ≤ (m.lots.length : Int) - 1) ∧ (¬ ∃ w, FeasM m allC w ∧ w lot = dry) ∧ vE = 6) ∨ ((0 ≤ lot ∧ lot ≤ (m.lots.length : Int) - 1) ∧ (∃ w, FeasM m allC w ∧ w lot = dry) ∧ vE = 0)) → I ⟨tm', hh, []⟩ :=
        fun vE tm' hh a1 a2 a3 a4 a9 a10 a11 a12 a13 a14 a15 a16 a17 a18 hsub hv => (hI _).2 ⟨_, _, isB, uE, vE, wd, Bv, rows, flo, fhi, rfl, s6B.trans hsub, a1, a2, a3, a4, a9, a10, a11, a12, a13, a14, a15, a16, a17, a18, hsub.cells k18, aB.mono hsub, .inr ⟨c, hisB, spec, hv⟩⟩
      have rB := H.Sub.refl s6B.wf
      by_cases a1 : lot < 0
      · simp (maxSteps := 1000000) (implicitDefEqProofs := false) (disch := first | with_reducible rfl | omega | (simp only [nA, nS, nD] <;> omega) | fail) only [go_sem, ↓reduceIte, Nat.reduceEqDiff, Nat.reduceAdd, Nat.reduceSub, Nat.reduceMul, reduceCtorEq, Nat.reduceLeDiff, t1, t2, t3, t4, t9, t10, t11, t12, t13, t14, t15, t16, t17, t18, a1]
        exact ⟨rfl, fin 1 _ _ (by simp [ev_c, ev_put, t1] <;> rfl) (by simp [ev_c, ev_put, t2] <;> rfl) (by simp [ev_c, ev_put, t3] <;> rfl) (by simp [ev_c, ev_put, t4] <;> rfl) (by simp [ev_c, ev_put, t9] <;> rfl) (by simp [ev_c, ev_put, t10] <;> rfl) (by simp [ev_c, ev_put, t11] <;> rfl) (by simp [ev_c, ev_put, t12] <;> rfl) (by simp [ev_c, ev_put, t13] <;> rfl) (by simp [ev_c, ev_put] <;> rfl) (by simp [ev_c, ev_put, t15] <;> rfl) (by simp [ev_c, ev_put, t16] <;> rfl) (by simp [ev_c, ev_put, t17] <;> rfl) (by simp [ev_c, ev_put, t18] <;> rfl) rB (.inl ⟨by omega, rfl⟩)⟩
      by_cases a2 : (m.lots.length : Int) ≤ lot
      · simp (maxSteps := 1000000) (implicitDefEqProofs := false) (disch := first | with_reducible rfl | omega | (simp only [nA, nS, nD] <;> omega) | fail) only [go_sem, ↓reduceIte, Nat.reduceEqDiff, Nat.reduceAdd, Nat.reduceSub, Nat.reduceMul, reduceCtorEq, Nat.reduceLeDiff, t1, t2, t3, t4, t9, t10, t11, t12, t13, t14, t15, t16, t17, t18, a1, k1, hlenL, a2]
        exact ⟨rfl, fin 1 _ _ (by simp [ev_c, ev_put, t1] <;> rfl) (by simp [ev_c, ev_put, t2] <;> rfl) (by simp [ev_c, ev_put, t3] <;> rfl) (by simp [ev_c, ev_put, t4] <;> rfl) (by simp [ev_c, ev_put, t9] <;> rfl) (by simp [ev_c, ev_put, t10] <;> rfl) (by simp [ev_c, ev_put, t11] <;> rfl) (by simp [ev_c, ev_put, t12] <;> rfl) (by simp [ev_c, ev_put, t13] <;> rfl) (by simp [ev_c, ev_put] <;> rfl) (by simp [ev_c, ev_put, t15] <;> rfl) (by simp [ev_c, ev_put, t16] <;> rfl) (by simp [ev_c, ev_put, t17] <;> rfl) (by simp [ev_c, ev_put, t18] <;> rfl) rB (.inl ⟨by omega, rfl⟩)⟩
      have hlr : 0 ≤ lot ∧ lot ≤ (m.lots.length : Int) - 1 := by omega
      obtain ⟨n, rfl⟩ := Int.eq_ofNat_of_zero_le hlr.1
      rcases spec with ⟨hno, rfl, rfl, rfl, rfl, rfl⟩ | ⟨hyes, rfl, rfl, rfl, rfl, rfl⟩
      · simp (maxSteps := 1000000) (implicitDefEqProofs := false) (disch := first | with_reducible rfl | omega | (simp only [nA, nS, nD] <;> omega) | fail) only [go_sem, ↓reduceIte, Nat.reduceEqDiff, Nat.reduceAdd, Nat.reduceSub, Nat.reduceMul, reduceCtorEq, Nat.reduceLeDiff, t1, t2, t3, t4, t9, t10, t11, t12, t13, t14, t15, t16, t17, t18, a1, k1, hlenL, a2, ne_eq, Int.reduceEq, not_false_eq_true]
        exact ⟨rfl, fin 6 _ _ (by simp [ev_c, ev_put, t1] <;> rfl) (by simp [ev_c, ev_put, t2] <;> rfl) (by simp [ev_c, ev_put, t3] <;> rfl) (by simp [ev_c, ev_put, t4] <;> rfl) (by simp [ev_c, ev_put, t9] <;> rfl) (by simp [ev_c, ev_put, t10] <;> rfl) (by simp [ev_c, ev_put, t11] <;> rfl) (by simp [ev_c, ev_put, t12] <;> rfl) (by simp [ev_c, ev_put, t13] <;> rfl) (by simp [ev_c, ev_put] <;> rfl) (by simp [ev_c, ev_put, t15] <;> rfl) (by simp [ev_c, ev_put, t16] <;> rfl) (by simp [ev_c, ev_put, t17] <;> rfl) (by simp [ev_c, ev_put, t18] <;> rfl) rB (.inr (.inl ⟨hlr, fun ⟨w, f, _⟩ => hno ⟨w, f⟩, rfl⟩))⟩
      have hn : n < (spansL (Dm m) m.lots.length).length := by rw [spansL_len]; omega
      obtain ⟨b2, o2, cc2, cs2, rfl, hcs2, hq2, hgg2, hn2, hn02⟩ := aB.at hn
      have lo2e := hn02 (by omega)
      have hi2e := hn2 1 (by omega)
      rw [spansL_get] at lo2e hi2e
      have hh := has_iff g hyes (dry := dry) hlr.1 (by omega)
      by_cases b1 : dry < (Dm m (n : Int)).1
      · simp (maxSteps := 1000000) (implicitDefEqProofs := false) (disch := first | with_reducible rfl | omega | (simp only [nA, nS, nD] <;> omega) | fail) only [go_sem, ↓reduceIte, Nat.reduceEqDiff, Nat.reduceAdd, Nat.reduceSub, Nat.reduceMul, reduceCtorEq, Nat.reduceLeDiff, t1, t2, t3, t4, t9, t10, t11, t12, t13, t14, t15, t16, t17, t18, a1, k1, hlenL, a2, ne_eq, not_true_eq_false, hq2 (nat_cst n), hcs2, lo2e, hi2e, List.map_cons, List.map_nil, iv, b1]
        exact ⟨rfl, fin 6 _ _ (by simp [ev_c, ev_put, t1] <;> rfl) (by simp [ev_c, ev_put, t2] <;> rfl) (by simp [ev_c, ev_put, t3] <;> rfl) (by simp [ev_c, ev_put, t4] <;> rfl) (by simp [ev_c, ev_put, t9] <;> rfl) (by simp [ev_c, ev_put, t10] <;> rfl) (by simp [ev_c, ev_put, t11] <;> rfl) (by simp [ev_c, ev_put, t12] <;> rfl) (by simp [ev_c, ev_put, t13] <;> rfl) (by simp [ev_c, ev_put] <;> rfl) (by simp [ev_c, ev_put, t15] <;> rfl) (by simp [ev_c, ev_put, t16] <;> rfl) (by simp [ev_c, ev_put, t17] <;> rfl) (by simp [ev_c, ev_put, t18] <;> rfl) rB (.inr (.inl ⟨hlr, fun hf => by have := hh.1 hf; omega, rfl⟩))⟩
      by_cases b2' : (Dm m (n : Int)).2 < dry
      · simp (maxSteps := 1000000) (implicitDefEqProofs := false) (disch := first | with_reducible rfl | omega | (simp only [nA, nS, nD] <;> omega) | fail) only [go_sem, ↓reduceIte, Nat.reduceEqDiff, Nat.reduceAdd, Nat.reduceSub, Nat.reduceMul, reduceCtorEq, Nat.reduceLeDiff, t1, t2, t3, t4, t9, t10, t11, t12, t13, t14, t15, t16, t17, t18, a1, k1, hlenL, a2, ne_eq, not_true_eq_false, hq2 (nat_cst n), hcs2, lo2e, hi2e, List.map_cons, List.map_nil, iv, b1, b2']
        exact ⟨rfl, fin 6 _ _ (by simp [ev_c, ev_put, t1] <;> rfl) (by simp [ev_c, ev_put, t2] <;> rfl) (by simp [ev_c, ev_put, t3] <;> rfl) (by simp [ev_c, ev_put, t4] <;> rfl) (by simp [ev_c, ev_put, t9] <;> rfl) (by simp [ev_c, ev_put, t10] <;> rfl) (by simp [ev_c, ev_put, t11] <;> rfl) (by simp [ev_c, ev_put, t12] <;> rfl) (by simp [ev_c, ev_put, t13] <;> rfl) (by simp [ev_c, ev_put] <;> rfl) (by simp [ev_c, ev_put, t15] <;> rfl) (by simp [ev_c, ev_put, t16] <;> rfl) (by simp [ev_c, ev_put, t17] <;> rfl) (by simp [ev_c, ev_put, t18] <;> rfl) rB (.inr (.inl ⟨hlr, fun hf => by have := hh.1 hf; omega, rfl⟩))⟩
      · simp (maxSteps := 1000000) (implicitDefEqProofs := false) (disch := first | with_reducible rfl | omega | (simp only [nA, nS, nD] <;> omega) | fail) only [go_sem, ↓reduceIte, Nat.reduceEqDiff, Nat.reduceAdd, Nat.reduceSub, Nat.reduceMul, reduceCtorEq, Nat.reduceLeDiff, t1, t2, t3, t4, t9, t10, t11, t12, t13, t14, t15, t16, t17, t18, a1, k1, hlenL, a2, ne_eq, not_true_eq_false, hq2 (nat_cst n), hcs2, lo2e, hi2e, List.map_cons, List.map_nil, iv, b1, b2']
        exact ⟨rfl, fin 0 _ _ (by simp [ev_c, ev_put, t1] <;> rfl) (by simp [ev_c, ev_put, t2] <;> rfl) (by simp [ev_c, ev_put, t3] <;> rfl) (by simp [ev_c, ev_put, t4] <;> rfl) (by simp [ev_c, ev_put, t9] <;> rfl) (by simp [ev_c, ev_put, t10] <;> rfl) (by simp [ev_c, ev_put, t11] <;> rfl) (by simp [ev_c, ev_put, t12] <;> rfl) (by simp [ev_c, ev_put, t13] <;> rfl) (by simp [ev_c, ev_put, t14] <;> rfl) (by simp [ev_c, ev_put, t15] <;> rfl) (by simp [ev_c, ev_put, t16] <;> rfl) (by simp [ev_c, ev_put, t17] <;> rfl) (by simp [ev_c, ev_put, t18] <;> rfl) rB (.inr (.inr ⟨hlr, hh.2 (by omega), rfl⟩))⟩
  · intro c
    simp (maxSteps := 1000000) (implicitDefEqProofs := false) (disch := first | with_reducible rfl | omega | (simp only [nA, nS, nD] <;> omega) | fail) only [go_sem, ↓reduceIte, Nat.reduceEqDiff, Nat.reduceAdd, Nat.reduceSub, Nat.reduceMul, reduceCtorEq, Nat.reduceLeDiff]
    exact ⟨rfl, (hI _).2 ⟨_, _, false, check m, check m, 0, .nils, [], 0, 0, rfl, s67, (by simp [ev_c, ev_put] <;> rfl), (by simp [ev_c, ev_put] <;> rfl), (by simp [ev_c, ev_put] <;> rfl), (by simp [ev_c, ev_put] <;> rfl), (by simp [ev_c, ev_put] <;> rfl), (by simp [ev_c, ev_put] <;> rfl), (by simp [ev_c, ev_put] <;> rfl), (by simp [ev_c, ev_put] <;> rfl), (by simp [ev_c, ev_put] <;> rfl), (by simp [ev_c, ev_put] <;> rfl), (by simp [ev_c, ev_put] <;> rfl), (by simp [ev_c, ev_put] <;> rfl), (by simp [ev_c, ev_put] <;> rfl), (by simp [ev_c, ev_put] <;> rfl), cells_of f18, nil7, .inl ⟨c, rfl, rfl, rfl, rfl, rfl, rfl, rfl⟩⟩⟩
  · intro s hs
    obtain ⟨tm, h8, isB, uE, vE, wd, Bv, rows, flo, fhi, rfl, s68, t1, t2, t3, t4, t9, t10, t11, t12, t13, t14, t15, t16, t17, t18, k18, aBv, spec⟩ := (hI s).1 hs
    have s8 := s6.trans s68
    have n9 := s68.cells d9
    have hown8 := hown5.mono (s56.trans s68)
    have hmine8 := hmine5.mono (s56.trans s68)
    simp (maxSteps := 1000000) (implicitDefEqProofs := false) (disch := first | with_reducible rfl | omega | (simp only [nA, nS, nD] <;> omega) | fail) only [go_sem, ↓reduceIte, Nat.reduceEqDiff, Nat.reduceAdd, Nat.reduceSub, Nat.reduceMul, reduceCtorEq, Nat.reduceLeDiff, t1, t2, t3, t4, t9, t10, t11, t12, t13, t14, t15, t16, t17, t18, n9]
    refine (Fits_ev s8.wf hown8 hmine8).mono fun u hA hu => ?_
    obtain ⟨s8A, tF, eF, rfl, specF⟩ := hu
    simp (maxSteps := 1000000) (implicitDefEqProofs := false) (disch := first | with_reducible rfl | omega | (simp only [nA, nS, nD] <;> omega) | fail) only [go_sem, ↓reduceIte, Nat.reduceEqDiff, Nat.reduceAdd, Nat.reduceSub, Nat.reduceMul, reduceCtorEq, Nat.reduceLeDiff, t1, t2, t3, t4, t9, t10, t11, t12, t13, t14, t15, t16, t17, t18, s8A.cells n9]
    refine (Bounds_ev (s8.trans s8A).wf (hown8.mono s8A)).mono fun u hB hu => ?_
    obtain ⟨sAB, xB, lB, eB, rfl, aB, specB⟩ := hu
    have s8B := s8A.trans sAB
    simp (maxSteps := 1000000) (implicitDefEqProofs := false) (disch := first | with_reducible rfl | omega | (simp only [nA, nS, nD] <;> omega) | fail) only [go_sem, ↓reduceIte, Nat.reduceEqDiff, Nat.reduceAdd, Nat.reduceSub, Nat.reduceMul, reduceCtorEq, Nat.reduceLeDiff, t1, t2, t3, t4, t9, t10, t11, t12, t13, t14, t15, t16, t17, t18, s8B.cells n9]
    refine (Weights_ev (s8.trans s8B).wf (hown8.mono s8B) lot dry).mono fun u hC hu => ?_
    obtain ⟨sBC, xK, kl, eK, rfl, aK, specK⟩ := hu
    have s8C := s8B.trans sBC
    simp (maxSteps := 1000000) (implicitDefEqProofs := false) (disch := first | with_reducible rfl | omega | (simp only [nA, nS, nD] <;> omega) | fail) only [go_sem, ↓reduceIte, Nat.reduceEqDiff, Nat.reduceAdd, Nat.reduceSub, Nat.reduceMul, reduceCtorEq, Nat.reduceLeDiff, t1, t2, t3, t4, t9, t10, t11, t12, t13, t14, t15, t16, t17, t18, s8C.cells n9]
    refine (Widest_ev (s8.trans s8C).wf (hown8.mono s8C)).mono fun u hD hu => ?_
    obtain ⟨sCD, nX, loX, hiX, eX, rfl, specX⟩ := hu
    have s8D := s8C.trans sCD
    have sDE := (H.Sub.refl (s8.trans s8D).wf).add (.cells .rw [.int .i64 loX, .int .i64 hiX])
    have s8E := s8D.trans sDE
    have sE := s8.trans s8E
    -- all is the same
    have eqF : eF = check m ∧ tF = isB := by
      rcases specF with ⟨a, b, c⟩ | ⟨a, b, c⟩ <;> rcases spec with ⟨a', _, _, e', _⟩ | ⟨a', e', _, _⟩
      · exact ⟨b, by rw [c, e']⟩
      · exact absurd a' a
      · exact absurd a a'
      · exact ⟨by omega, by rw [Bool.eq_iff_iff, c, e']⟩
    have hDb : check m = 0 → ∀ b, ExactM m allC b → (∀ i : Int, 0 ≤ i → i < m.lots.length → Dm m i = b i) := fun c b hb i i0 i1 => Dm_eq (good_of c) hb i0 i1
    have eqB : eB = uE ∧ lB = rows := by
      rcases specB with ⟨a, b, c⟩ | ⟨a, b, c, d⟩ | ⟨a, b, hb, c, d⟩ <;> rcases spec with ⟨a', b', _, _, _, f', _⟩ | ⟨a', _, (⟨no, b', _, f', _⟩ | ⟨yes, b', _, f', _⟩), _⟩
      · exact ⟨by omega, by rw [c, f']⟩
      · exact absurd a' a
      · exact absurd a' a
      · exact absurd a a'
      · exact ⟨by omega, by rw [d, f']⟩
      · exact absurd yes b
      · exact absurd a a'
      · exact absurd (hb.feas (good_of a)) no
      · exact ⟨by omega, by rw [d, f', spansL_congr (hDb a b hb)]⟩
    have eqX : eX = uE ∧ nX = wd ∧ loX = flo ∧ hiX = fhi := by
      rcases specX with ⟨a, b, c, d, e⟩ | ⟨a, b, c, d, e, f⟩ | ⟨a, b, hb, c, d, e, f⟩ <;> rcases spec with ⟨a', b', _, _, w', _, l', h'⟩ | ⟨a', _, (⟨no, b', w', _, l', h'⟩ | ⟨yes, b', w', _, l', h'⟩), _⟩
      · exact ⟨by omega, by omega, by omega, by omega⟩
      · exact absurd a' a
      · exact absurd a' a
      · exact absurd a a'
      · exact ⟨by omega, by omega, by omega, by omega⟩
      · exact absurd yes b
      · exact absurd a a'
      · exact absurd (hb.feas (good_of a)) no
      · have hd := hDb a b hb
        have gl := (good_of a).lots
        have hbw := bestW_congr hd
        have hl := bestW_lt b m.lots.length
        have hd2 := hd ((bestW b m.lots.length : Nat) : Int) (by omega) (by omega)
        rw [hbw, hd2] at l' h'
        rw [hbw] at w'
        exact ⟨by omega, by omega, by omega, by omega⟩
    have eqK : eK = vE ∧ ((vE ≠ 0 ∧ kl = []) ∨ (vE = 0 ∧ check m = 0 ∧ (0 ≤ lot ∧ lot ≤ (m.lots.length : Int) - 1) ∧ kl.length = m.lots.length ∧ FeasM m allC (wOfL kl) ∧ wOfL kl lot = dry)) := by
      rcases specK with ⟨a, b, c⟩ | ⟨a, b, c, d⟩ | ⟨a, b, c, d, e⟩ | ⟨a, b, c, d, e, f⟩ <;> rcases spec with ⟨a', _, b', _⟩ | ⟨a', _, _, (⟨x', y'⟩ | ⟨x', z', y'⟩ | ⟨x', z', y'⟩)⟩
      · exact ⟨by omega, .inl ⟨by omega, c⟩⟩
      · exact absurd a' a
      · exact absurd a' a
      · exact absurd a' a
      · exact absurd a a'
      · exact ⟨by omega, .inl ⟨by omega, d⟩⟩
      · exact absurd x' b
      · exact absurd x' b
      · exact absurd a a'
      · exact absurd b x'
      · exact ⟨by omega, .inl ⟨by omega, e⟩⟩
      · exact absurd z' c
      · exact absurd a a'
      · exact absurd b x'
      · exact absurd ⟨_, e, f⟩ z'
      · exact ⟨by omega, .inr ⟨y', a, b, d, e, f⟩⟩
    obtain ⟨rfl, rfl⟩ := eqF
    obtain ⟨rfl, rfl⟩ := eqB
    obtain ⟨rfl, rfl, rfl, rfl⟩ := eqX
    obtain ⟨rfl, hK⟩ := eqK
    clear spec specF specB specK specX hDb hI
    have i1 := eqSpan_ev (aB.mono ((sBC.trans sCD).trans sDE)) (aBv.mono s8E)
    have hlenK := aK.lenE
    have gN9 := s8E.cells n9
    have gN4 := (s68.trans s8E).cells d1
    have gN10 := (s68.trans s8E).cells d10
    have i2 := eqInt_ev (hmine8.mono s8E) (hk.mono sE)
    have k18E := s8E.cells k18
    have gX : (hD.add (.cells .rw [.int .i64 nX, .int .i64 nX])).next = hD.next + 1 := H.next_add _ _
    simp (maxSteps := 1000000) (implicitDefEqProofs := false) (disch := first | with_reducible rfl | omega | (simp only [nA, nS, nD] <;> omega) | fail) only [go_sem, ↓reduceIte, Nat.reduceEqDiff, Nat.reduceAdd, Nat.reduceSub, Nat.reduceMul, reduceCtorEq, Nat.reduceLeDiff, t1, t2, t3, t4, t9, t10, t11, t12, t13, t14, t15, t16, t17, t18, ne_eq, not_true_eq_false, beq_self_eq_true, i1, q_feq_2, ngB, and_self, k18E]
    rcases hK with ⟨hv, rfl⟩ | ⟨hv, c, hlr, hkl, hf, hd⟩
    · have hl0 : (([] : List Int).length : Int) = 0 := rfl
      simp (maxSteps := 1000000) (implicitDefEqProofs := false) (disch := first | with_reducible rfl | omega | (simp only [nA, nS, nD] <;> omega) | fail) only [go_sem, ↓reduceIte, Nat.reduceEqDiff, Nat.reduceAdd, Nat.reduceSub, Nat.reduceMul, reduceCtorEq, Nat.reduceLeDiff, t1, t2, t3, t4, t9, t10, t11, t12, t13, t14, t15, t16, t17, t18, hv, not_false_eq_true, hlenK, hl0, gN9, gN4]
      refine same_ev sE.wf (hown8.mono s8E) (hm0.mono sE) _ fun hF sEF => ?_
      have i3 := eqInt_ev (hmine8.mono (s8E.trans sEF)) (hk.mono (sE.trans sEF))
      simp (maxSteps := 1000000) (implicitDefEqProofs := false) (disch := first | with_reducible rfl | omega | (simp only [nA, nS, nD] <;> omega) | fail) only [go_sem, ↓reduceIte, Nat.reduceEqDiff, Nat.reduceAdd, Nat.reduceSub, Nat.reduceMul, reduceCtorEq, Nat.reduceLeDiff, t1, t2, t3, t4, t9, t10, t11, t12, t13, t14, t15, t16, t17, t18, decide_eq_true rfl, i3, awake_eq]
      exact q _ _ rfl
    · have g := good_of c
      have hn : lot.toNat < kl.length := toNat_lt hlr.1 hlr.2 hkl
      have hfits : FitsP m kl := ⟨hkl, hf⟩
      have hnl : ((lot.toNat : Nat) : Int) = lot := Int.toNat_of_nonneg hlr.1
      have hkn : kl[lot.toNat] = dry := by rw [← wOfL_at hn, hnl]; exact hd
      have z01 : 0 < 1 := Nat.zero_lt_one
      have hno := nat_of hlr.1
      have aKE := aK.mono (sCD.trans sDE)
      clear hf hd c hkl hlr
      refine PBd_dec (fun h => absurd hv h) fun _ => ?_
      simp (maxSteps := 1000000) (implicitDefEqProofs := false) (disch := first | with_reducible rfl | omega | (simp only [nA, nS, nD] <;> omega) | fail) only [go_sem, ↓reduceIte, Nat.reduceEqDiff, Nat.reduceAdd, Nat.reduceSub, Nat.reduceMul, reduceCtorEq, Nat.reduceLeDiff, t1, t2, t3, t4, t9, t10, t11, t12, t13, t14, t15, t16, t17, t18, gN10]
      refine (refFits_ev sE.wf (hx.mono (s45.trans (s56.trans (s68.trans s8E)))) g aKE).mono fun u hF hu => ?_
      obtain ⟨sEF, t, rfl, ht⟩ := hu
      have ht' : t = true := ht.2 hfits
      subst ht'
      obtain ⟨b2, o2, cc2, cs2, rfl, hcs2, hq2, hgg2, hn2, hn02⟩ := (aKE.mono sEF).at hn
      simp (maxSteps := 1000000) (implicitDefEqProofs := false) (disch := first | with_reducible rfl | omega | (simp only [nA, nS, nD] <;> omega) | fail) only [go_sem, ↓reduceIte, Nat.reduceEqDiff, Nat.reduceAdd, Nat.reduceSub, Nat.reduceMul, reduceCtorEq, Nat.reduceLeDiff, t1, t2, t3, t4, t9, t10, t11, t12, t13, t14, t15, t16, t17, t18, hq2 hno, hcs2, hn02 z01, encI, hkn, decide_eq_true rfl, sEF.cells gN9, sEF.cells gN4]
      refine same_ev (sE.trans sEF).wf (hown8.mono (s8E.trans sEF)) (hm0.mono (sE.trans sEF)) _ fun hG sFG => ?_
      have i3 := eqInt_ev (hmine8.mono (s8E.trans (sEF.trans sFG))) (hk.mono (sE.trans (sEF.trans sFG)))
      simp (maxSteps := 1000000) (implicitDefEqProofs := false) (disch := first | with_reducible rfl | omega | (simp only [nA, nS, nD] <;> omega) | fail) only [go_sem, ↓reduceIte, Nat.reduceEqDiff, Nat.reduceAdd, Nat.reduceSub, Nat.reduceMul, reduceCtorEq, Nat.reduceLeDiff, t1, t2, t3, t4, t9, t10, t11, t12, t13, t14, t15, t16, t17, t18, decide_eq_true rfl, i3, awake_eq]
      exact q _ _ rfl
end Go.Ab.Try
