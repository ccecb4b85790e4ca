/- The law SilkWhere, on our machine. Bounds of all lots, as narrow as can be: the contracts of narrow, tight. The bounds of all lots by the weighings that count: silk.bounds, told. Copies of a mill; one weighing more; a lot that is split. told, Bounds, Widest: contracts. Weights and Fits: contracts. Fits, of the program and of the reference: contracts. Fits of the reference: contract. The reference's bounds: All, own, up, Agree, Bounds. Shares by kind: shares, Where. Tables by kind: the plain part. The reference's table. Where, and that of the reference. -/
import Derived.Test.YthoghcpemmfebaaG2
import Derived.Test.YthoghcpemmfebaaPa2
import Derived.Test.YthoghcpemmfebaaAc4
import Derived.Test.YthoghcpemmfebaaPa6
set_option linter.unusedSimpArgs false
set_option linter.unusedVariables false
namespace Go.Ab
theorem Keeps.sub {S : Nat → Prop} {h0 h h' : H} (k : Keeps S h h') (s : h0.Sub h) (hw0 : h0.wf) (hS : ∀ c, S c → h0.next ≤ c) (hw : h'.wf) : h0.Sub h' :=
  ⟨⟨Nat.le_trans s.next k.1, fun b x e => k.2 b x (s.get e) fun hs => by have := hS b hs; have := hw0 b x e; omega⟩, hw⟩
theorem Keeps.wf_set {h : H} (hw : h.wf) {b : Nat} {y : Blk} (x : Blk) (hb : h.get b = some y) : Keeps (fun c => c = b) h (h.set b x) ∧ (h.set b x).wf := ⟨Keeps.set h b x, H.wf_set hw x hb⟩
namespace Try
open Go.Ab.Silk
theorem mem_partsL {k : Int} : ∀ {l : List Lt} {i : Nat} {p : Int}, p ∈ partsL k l i ↔ ∃ j, ∃ hj : j < l.length, p = ((i + j : Nat) : Int) ∧ l[j].frm = k
  | [], i, p => by simp [partsL]
  | a :: l, i, p => by
    have ih := mem_partsL (k := k) (l := l) (i := i + 1) (p := p)
    have e : (∃ j, ∃ hj : j < (a :: l).length, p = ((i + j : Nat) : Int) ∧ (a :: l)[j].frm = k) ↔ (p = (i : Int) ∧ a.frm = k) ∨ ∃ j, ∃ hj : j < l.length, p = ((i + 1 + j : Nat) : Int) ∧ l[j].frm = k := by
      constructor
      · rintro ⟨j, hj, h1, h2⟩
        cases j with
        | zero => exact .inl ⟨by simpa using h1, h2⟩
        | succ j => exact .inr ⟨j, by simpa using hj, by omega, h2⟩
      · rintro (⟨h1, h2⟩ | ⟨j, hj, h1, h2⟩)
        · exact ⟨0, by simp, by simpa using h1, h2⟩
        · exact ⟨j + 1, by simpa using hj, by omega, h2⟩
    rw [e, ← ih]
    simp only [partsL]
    by_cases h : a.frm = k
    · simp [h]
    · simp [h]
theorem partsL_nodup {k : Int} : ∀ (l : List Lt) (i : Nat), (partsL k l i).Nodup
  | [], i => by simp [partsL]
  | a :: l, i => by
    have ih := partsL_nodup (k := k) l (i + 1)
    simp only [partsL]
    by_cases h : a.frm = k
    · rw [if_pos h, List.nodup_cons]
      refine ⟨fun hm => ?_, ih⟩
      obtain ⟨j, hj, e, _⟩ := mem_partsL.1 hm
      omega
    · rw [if_neg h]; exact ih
theorem forest {m : Ml} (g : Good m) : Forest m.lots.length (frmAt m) (parts m) := by
  refine ⟨fun i i0 i1 => ?_, fun i p => ?_, fun i => partsL_nodup _ _⟩
  · have := frmAt_lt g i0 i1; omega
  · unfold parts
    rw [mem_partsL]
    constructor
    · rintro ⟨j, hj, rfl, hf⟩
      simp only [Nat.zero_add]
      exact ⟨by omega, by omega, by rw [frmAt_nat hj]; exact hf⟩
    · rintro ⟨p0, p1, hf⟩
      obtain ⟨j, rfl⟩ := Int.eq_ofNat_of_zero_le p0
      exact ⟨j, by omega, by simp, by rw [← frmAt_nat (by omega)]; exact hf⟩
def intsB (b : Box) : List Int := [(b 0).1, (b 0).2, (b 1).1, (b 1).2, (b 2).1, (b 2).2, (b 3).1, (b 3).2, (b 4).1, (b 4).2, (b 5).1, (b 5).2, (b 6).1, (b 6).2, (b 7).1, (b 7).2, (b 8).1, (b 8).2, (b 9).1, (b 9).2, (b 10).1, (b 10).2, (b 11).1, (b 11).2]
def encB (b : Box) : List V := (intsB b).map iv
def updB (b : Box) (i : Int) (p : Int × Int) : Box := fun k => if k = i then p else b k
theorem lt12 {i : Nat} (h : i < 12) : i = 0 ∨ i = 1 ∨ i = 2 ∨ i = 3 ∨ i = 4 ∨ i = 5 ∨ i = 6 ∨ i = 7 ∨ i = 8 ∨ i = 9 ∨ i = 10 ∨ i = 11 := by omega
theorem encB_at (b : Box) {i : Nat} (hi : i < 12) : nth (i * 2) (encB b) = some (.int .i64 (b i).1) ∧ nth (i * 2 + 1) (encB b) = some (.int .i64 (b i).2) ∧ getN (i * 2) 2 (encB b) = some [.int .i64 (b i).1, .int .i64 (b i).2] := by
  rcases lt12 hi with rfl | rfl | rfl | rfl | rfl | rfl | rfl | rfl | rfl | rfl | rfl | rfl <;> exact ⟨rfl, rfl, rfl⟩
theorem encB_put (b : Box) {i : Nat} (hi : i < 12) (x y : Int) : putN (i * 2) [.int .i64 x, .int .i64 y] (encB b) = some (encB (updB b i (x, y))) := by
  rcases lt12 hi with rfl | rfl | rfl | rfl | rfl | rfl | rfl | rfl | rfl | rfl | rfl | rfl <;> rfl
theorem encB_put2 (b : Box) {i : Nat} (hi : i < 12) (y : Int) : putN (i * 2 + 1) [.int .i64 y] (encB b) = some (encB (updB b i ((b i).1, y))) := by
  rcases lt12 hi with rfl | rfl | rfl | rfl | rfl | rfl | rfl | rfl | rfl | rfl | rfl | rfl <;> rfl
theorem intsB_iff (b c : Box) : intsB b = intsB c ↔ ∀ i : Int, 0 ≤ i → i < 12 → b i = c i := by
  constructor
  · intro h i i0 i1
    obtain ⟨j, rfl⟩ := Int.eq_ofNat_of_zero_le i0
    have hj : j < 12 := by omega
    simp only [intsB, List.cons.injEq, and_true] at h
    obtain ⟨a0, a1, a2, a3, a4, a5, a6, a7, a8, a9, b0, b1, b2, b3, b4, b5, b6, b7, b8, b9, d0, d1, d2, d3⟩ := h
    rcases lt12 hj with rfl | rfl | rfl | rfl | rfl | rfl | rfl | rfl | rfl | rfl | rfl | rfl <;> exact Prod.ext (by assumption) (by assumption)
  · intro h
    simp only [intsB, h 0 (by omega) (by omega), h 1 (by omega) (by omega), h 2 (by omega) (by omega), h 3 (by omega) (by omega), h 4 (by omega) (by omega), h 5 (by omega) (by omega), h 6 (by omega) (by omega), h 7 (by omega) (by omega), h 8 (by omega) (by omega), h 9 (by omega) (by omega), h 10 (by omega) (by omega), h 11 (by omega) (by omega)]
theorem q_feq_B (ng : Bool) (b c : Box) : q_feq ng 24 (.agg (encB b)) (.agg (encB c)) = some (.bool (ngB ng (decide (intsB b = intsB c)))) := q_feq_map (n := 24) (intsB b) (intsB c) rfl rfl ng
def zeroB : Box := fun _ => (0, 0)
theorem narrow_upd (b : Box) (i lo hi : Int) : narrow b i lo hi = updB b i (max (b i).1 lo, min (b i).2 hi) := rfl
theorem updB_same (b : Box) (i : Int) : updB b i (b i) = b := by
  funext k
  by_cases h : k = i
  · subst h; simp [updB]
  · simp [updB, h]
theorem ld_B (b : Box) : getN 0 24 (encB b) = some (encB b) := rfl

theorem narrow_ev {h : H} {p i : Nat} {b : Box} (hw : h.wf) (hp : h.get p = some (.cells .rw (encB b))) (hi : i < 12) (lo hi' : Int) (Q : V → H → Prop)
    (q : ∀ h', h'.get p = some (.cells .rw (encB (narrow b i lo hi'))) → Keeps (fun c => c = p) h h' → h'.wf → Q (.tup []) h') : Ev fnG fastA (.fn 152 [] [.ptr p 0]) [.int .i64 (i : Int), .int .i64 lo, .int .i64 hi'] h Q := by
  obtain ⟨n1, n2, n3⟩ := encB_at b hi
  have hc := cells_of hp
  have hlp := hw _ _ hp
  refine Ev_body (fd := c152) rfl rfl rfl ?_
  simp (maxSteps := 1000000) (implicitDefEqProofs := false) (disch := first | with_reducible rfl | omega | (simp only [nA, nS, nD] <;> omega) | fail) only [c152, go_sem, ↓reduceIte, Nat.reduceEqDiff, Nat.reduceAdd, Nat.reduceSub, Nat.reduceMul, reduceCtorEq, Nat.reduceLeDiff, q_iaa_ptr (nat_cst i) hi, hc, n1, n2]
  refine least_use (l := [hi']) (SlAt.new _ rfl (by rfl) (by rfl) (by simp [encI]) (by simp)) ?_
  have s1 : h.Sub ((h.add (.cells .rw [.int .i64 hi'])).add (.cells .rw [.int .i64 (max (b i).1 lo), .int .i64 (min (b i).2 hi')])) := (by repeat (first | assumption | exact H.Sub.refl (by assumption) | refine H.Sub.add ?_ _ | refine H.Sub.set ?_ (by first | omega | (simp only [H.next_add, H.next_set, H.next_del] <;> omega)) (by first | omega | (simp only [H.next_add, H.next_set, H.next_del] <;> omega)) (by assumption) _))
  have k1 := Keeps.of s1 (fun c => c = p)
  have hp1 := s1.get hp
  by_cases e : max (b i).1 lo = (b i).1 ∧ min (b i).2 hi' = (b i).2
  · have hnb : narrow b i lo hi' = b := by
      rw [narrow_upd, e.1, e.2]; exact updB_same b i
    simp (maxSteps := 1000000) (implicitDefEqProofs := false) (disch := first | with_reducible rfl | omega | (simp only [nA, nS, nD] <;> omega) | fail) only [go_sem, ↓reduceIte, Nat.reduceEqDiff, Nat.reduceAdd, Nat.reduceSub, Nat.reduceMul, reduceCtorEq, Nat.reduceLeDiff, q_iaa_ptr (nat_cst i) hi, hc, n1, n2, n3, List.foldl, q_feq_2, e.1, e.2, ngB, and_self, Bool.not_true]
    have := q _ (by rw [hnb]; exact hp1) k1 s1.wf
    rw [e.1, e.2] at this; exact this
  · simp (maxSteps := 1000000) (implicitDefEqProofs := false) (disch := first | with_reducible rfl | omega | (simp only [nA, nS, nD] <;> omega) | fail) only [go_sem, ↓reduceIte, Nat.reduceEqDiff, Nat.reduceAdd, Nat.reduceSub, Nat.reduceMul, reduceCtorEq, Nat.reduceLeDiff, q_iaa_ptr (nat_cst i) hi, hc, n1, n2, n3, List.foldl, q_feq_2, e, ngB, Bool.not_false, hp, encB_put b hi]
    obtain ⟨k2, w2⟩ := Keeps.wf_set s1.wf (.cells .rw (encB (narrow b i lo hi'))) hp1
    exact q _ (get_set_same rfl) ((k1.trans k2).mono fun c h => by rcases h with h | h <;> exact h) w2
def Bd (C : Int) (b : Box) : Prop := ∀ k : Int, -C ≤ (b k).1 ∧ (b k).1 ≤ C ∧ -C ≤ (b k).2 ∧ (b k).2 ≤ C
theorem Bd.mono {C D : Int} {b : Box} (h : Bd C b) (hc : C ≤ D) : Bd D b := fun k => by have := h k; omega
theorem Bd.narrow {C : Int} {b : Box} (h : Bd C b) {i lo hi : Int} (h1 : -C ≤ lo ∧ lo ≤ C) (h2 : -C ≤ hi ∧ hi ≤ C) : Bd C (narrow b i lo hi) := fun k => by
  have hk := h k
  by_cases e : k = i
  · subst e; rw [narrow_same]; simp only; omega
  · rw [narrow_ne _ _ _ e]; exact hk
theorem sum_bd {x : Int → Int} {C : Int} : ∀ {l : List Int}, (∀ p, -C ≤ x p ∧ x p ≤ C) → 0 ≤ C → (l.length : Int) ≤ 12 → -(12 * C) ≤ sumL x l ∧ sumL x l ≤ 12 * C := by
  have : ∀ (l : List Int), (∀ p, -C ≤ x p ∧ x p ≤ C) → -((l.length : Int) * C) ≤ sumL x l ∧ sumL x l ≤ (l.length : Int) * C := by
    intro l h
    induction l with
    | nil => simp [sumL]
    | cons p l ih =>
      have := h p
      simp only [sumL, List.length_cons]
      rw [Int.natCast_add, Int.add_mul]
      omega
  intro l h h0 hl
  have h1 := this l h
  have h2 := Int.mul_le_mul_of_nonneg_right hl h0
  omega
theorem downs_bd {bf : Box} {K C lo hi : Int} {i : Int} (hK : 0 ≤ K) (hKC : K ≤ C) (hbf : Bd K bf) (hlo : -(12 * K) ≤ lo ∧ lo ≤ 12 * K) (hhi : -(12 * K) ≤ hi ∧ hi ≤ 12 * K) : ∀ (l : List Int) (b : Box), i ∉ l → Bd (C + 25 * K) b → (-(C + 12 * K) ≤ (b i).1 ∧ (b i).1 ≤ C + 12 * K ∧ -(C + 12 * K) ≤ (b i).2 ∧ (b i).2 ≤ C + 12 * K) →
    Bd (C + 25 * K) (downs bf i lo hi l b)
  | [], b, _, h, _ => h
  | p :: l, b, hi', h, hb => by
    rw [List.mem_cons, not_or] at hi'
    have hp := hbf p
    simp only [downs]
    refine downs_bd hK hKC hbf hlo hhi l _ hi'.2 (h.narrow (by omega) (by omega)) ?_
    rw [narrow_ne _ _ _ hi'.1]; exact hb
theorem lotStep_bd {m : Ml} (g : Good m) {bf b c : Box} {K C : Int} {i : Int} (hK : 0 ≤ K) (hKC : K ≤ C) (hbf : Bd K bf) (hb : Bd C b) (he : ∀ p ∈ parts m i, b p = bf p) (h0 : 0 ≤ i) (h : lotStep (parts m) bf b i = some c) : Bd (C + 25 * K) c := by
  unfold lotStep at h
  split at h
  · cases h
  · split at h
    · cases h; exact hb.mono (by omega)
    · cases h
      have hl : ((parts m i).length : Int) ≤ 12 := by have := parts_len m i; have := g.lots; omega
      have e1 : sumL (lo1 b) (parts m i) = sumL (lo1 bf) (parts m i) := sumL_congr fun p hp => by simp only [lo1, he p hp]
      have e2 : sumL (hi1 b) (parts m i) = sumL (hi1 bf) (parts m i) := sumL_congr fun p hp => by simp only [hi1, he p hp]
      have b1 := sum_bd (x := lo1 bf) (C := K) (l := parts m i) (fun p => by have := hbf p; simp only [lo1]; omega) hK hl
      have b2 := sum_bd (x := hi1 bf) (C := K) (l := parts m i) (fun p => by have := hbf p; simp only [hi1]; omega) hK hl
      rw [e1, e2]
      have hbi := hb i
      refine downs_bd hK hKC hbf b1 b2 _ _ (fun hm => ?_) ((hb.mono (by omega)).narrow (by omega) (by omega)) ?_
      · obtain ⟨p0, p1, pf⟩ := ((forest g).mem _ _).1 hm
        have := (forest g).lt i p0 p1; omega
      · rw [narrow_same]; simp only; omega
theorem passF_bd {m : Ml} (g : Good m) {bf : Box} {K : Int} (hK : 0 ≤ K) (hbf : Bd K bf) : ∀ (k : Nat) (i : Int) (b c : Box) (C : Int), K ≤ C → 0 ≤ i → Bd C b → Silk.Fresh m.lots.length (frmAt m) bf b i → passF (parts m) bf k i b = some c → Bd (C + 25 * K * k) c
  | 0, i, b, c, C, _, _, hb, _, h => by cases h; exact hb.mono (by simp)
  | k + 1, i, b, c, C, hC, i0, hb, hf, h => by
    simp only [passF] at h
    cases h1 : lotStep (parts m) bf b i with
    | none => rw [h1] at h; cases h
    | some d =>
      rw [h1] at h
      have := passF_bd g hK hbf k (i + 1) d c (C + 25 * K) (by omega) (by omega) (lotStep_bd g hK hC hbf hb (hf.at (forest g)) i0 h1) (hf.step (forest g) i0 h1) h
      have e : C + 25 * K + 25 * K * (k : Int) = C + 25 * K * ((k + 1 : Nat) : Int) := by
        rw [Int.natCast_add, Int.mul_add]; omega
      rw [← e]; exact this
def InvB (b : Box) : Prop := ∀ k : Int, 0 ≤ (b k).1 ∧ (b k).1 ≤ 4000000 ∧ -4000000 ≤ (b k).2 ∧ (b k).2 ≤ 10000
theorem InvB.bd {b : Box} (h : InvB b) : Bd 4000000 b := fun k => by have := h k; omega
theorem InvB.pass {m : Ml} (g : Good m) {b c : Box} (h : InvB b) (hout : ∀ j : Int, ¬ (0 ≤ j ∧ j < m.lots.length) → b j = (0, 0)) (hp : passF (parts m) b m.lots.length 0 b = some c) : InvB c ∧ ∀ j : Int, ¬ (0 ≤ j ∧ j < m.lots.length) → c j = (0, 0) := by
  have hs : ∀ j : Int, 0 ≤ (b j).1 ∧ (b j).1 ≤ 10000 ∧ -10000 ≤ (b j).2 ∧ (b j).2 ≤ 10000 := fun j => by
    by_cases hj : 0 ≤ j ∧ j < m.lots.length
    · have := passF_start _ _ _ _ hp j hj.1 (by omega)
      have := h j; omega
    · rw [hout j hj]; omega
  have hbd : Bd 10000 b := fun k => by have := hs k; omega
  have h2 := passF_bd g (by omega) hbd m.lots.length 0 b c 10000 (by omega) (by omega) hbd (fun _ _ _ _ => rfl) hp
  have hn := passF_nrw _ _ hp
  have gl := g.lots
  refine ⟨fun k => ?_, fun j hj => by rw [passF_out (forest g) _ _ _ _ (by omega) (by omega) hp j hj]; exact hout j hj⟩
  have a1 := h2 k
  have a2 := hn k
  have a3 := hs k
  omega
theorem zerosB : ([.int .i64 0, .int .i64 0, .int .i64 0, .int .i64 0, .int .i64 0, .int .i64 0, .int .i64 0, .int .i64 0, .int .i64 0, .int .i64 0, .int .i64 0, .int .i64 0, .int .i64 0, .int .i64 0, .int .i64 0, .int .i64 0, .int .i64 0, .int .i64 0, .int .i64 0, .int .i64 0, .int .i64 0, .int .i64 0, .int .i64 0, .int .i64 0] : List V) = encB zeroB := rfl
theorem lenB (b : Box) : lenN (encB b) = 24 := rfl
theorem put_B {h : H} {p : Nat} (b c : Box) (hp : h.get p = some (.cells .rw (encB c))) : h.put p 0 (encB b) = some (h.set p (.cells .rw (encB b))) := by
  have hpn : putN 0 (encB b) (encB c) = some (encB b) := by
    rw [putN_0]; exact over_eq.2 ⟨rfl, Nat.le_refl _⟩
  exact H.put_rw (v := iv (b 0).1) rfl hp hpn
def tightV (r : Option Box) : V := match r with
  | none => .tup [.agg (encB zeroB), .bool false]
  | some c => .tup [.agg (encB c), .bool true]
theorem sum_take (x : Int → Int) {l : List Int} {j : Nat} (hj : j < l.length) : sumL x (l.take (j + 1)) = sumL x (l.take j) + x l[j] := by
  rw [List.take_succ_eq_append_getElem hj, sumL_append]; simp [sumL]
theorem downs_drop {bf : Box} {i lo hi : Int} {l : List Int} {j : Nat} (hj : j < l.length) (b : Box) : downs bf i lo hi (l.drop j) b = downs bf i lo hi (l.drop (j + 1)) (narrow b l[j] ((b i).1 - (hi - (bf l[j]).2)) ((b i).2 - (lo - (bf l[j]).1))) := by
  rw [List.drop_eq_getElem_cons hj]; rfl
set_option maxHeartbeats 4000000 in
theorem tight_ev {h : H} {d : Nat} {m : Ml} {b : Box} (hw : h.wf) (hd : DkAt h d m) (g : Good m) (hb : InvB b) (hout : ∀ j : Int, ¬ (0 ≤ j ∧ j < m.lots.length) → b j = (0, 0)) (Q : V → H → Prop)
    (q : ∀ r h', h.Sub h' → TightR m.lots.length (parts m) b r → Q (tightV r) h') : Ev fnG fastA (.fn 126 [] []) [.ptr d 0, .agg (encB b)] h Q := by
  obtain ⟨pm, l, L, W, g1, g2, aL, aW, ap⟩ := hd
  have F := forest g
  have gl := g.lots
  have hld := hw _ _ g1
  have hlp := hw _ _ g2
  have hlenL := aL.lenE
  refine Ev_body (fd := c126) rfl rfl rfl ?_
  have s1 : h.Sub ((h.add (.cells .rw (encB b))).add (.cells .rw (encB zeroB))) := (by repeat (first | assumption | exact H.Sub.refl (by assumption) | refine H.Sub.add ?_ _ | refine H.Sub.set ?_ (by first | omega | (simp only [H.next_add, H.next_set, H.next_del] <;> omega)) (by first | omega | (simp only [H.next_add, H.next_set, H.next_del] <;> omega)) (by assumption) _))
  simp (maxSteps := 1000000) (implicitDefEqProofs := false) (disch := first | with_reducible rfl | omega | (simp only [nA, nS, nD] <;> omega) | fail) only [c126, go_sem, ↓reduceIte, Nat.reduceEqDiff, Nat.reduceAdd, Nat.reduceSub, Nat.reduceMul, reduceCtorEq, Nat.reduceLeDiff, zerosB]
  refine W_loop (fun k s => ∃ tm h' c, s = ⟨tm, h', []⟩ ∧ h.Sub h' ∧ h.next + 1 < h'.next ∧ h'.get h.next = some (.cells .rw (encB c)) ∧ h'.get (h.next + 1) = some (.cells .rw (encB zeroB)) ∧ InvB c ∧ (∀ j : Int, ¬ (0 ≤ j ∧ j < m.lots.length) → c j = (0, 0)) ∧
      (∀ r, TightR m.lots.length (parts m) c r → TightR m.lots.length (parts m) b r) ∧ (Silk.room m.lots.length c + 1).toNat ≤ k ∧ (Opd.t 0).ev tm = .ptr d 0 ∧ (Opd.t 3).ev tm = .ptr h.next 0 ∧ (Opd.t 4).ev tm = .ptr (h.next + 1) 0 ∧ (Opd.t 6).ev tm = .fn 152 [] [.ptr h.next 0])
    ?_ (Silk.room m.lots.length b + 1).toNat _ ⟨_, _, b, rfl, s1, by simp only [H.next_add]; omega, by simp (maxSteps := 1000000) (implicitDefEqProofs := false) (disch := first | with_reducible rfl | omega | (simp only [nA, nS, nD] <;> omega) | fail) only [go_sem, ↓reduceIte, Nat.reduceEqDiff, Nat.reduceAdd, Nat.reduceSub, Nat.reduceMul, reduceCtorEq, Nat.reduceLeDiff], by simp (maxSteps := 1000000) (implicitDefEqProofs := false) (disch := first | with_reducible rfl | omega | (simp only [nA, nS, nD] <;> omega) | fail) only [go_sem, ↓reduceIte, Nat.reduceEqDiff, Nat.reduceAdd, Nat.reduceSub, Nat.reduceMul, reduceCtorEq, Nat.reduceLeDiff], hb, hout, fun r h => h, Nat.le_refl _, (by simp [ev_c, ev_put] <;> rfl), (by simp [ev_c, ev_put] <;> rfl), (by simp [ev_c, ev_put] <;> rfl), (by simp [ev_c, ev_put] <;> rfl)⟩
  rintro k s ⟨tm, h', c, rfl, hs, lt, gb, gz, hi, ho, hR, hk, t0, t3, t4, t6⟩
  have gz' : (h'.add (.cells .rw (encB zeroB))).get h'.next = some (.cells .rw (encB zeroB)) := get_add_new rfl
  simp (maxSteps := 1000000) (implicitDefEqProofs := false) (disch := first | with_reducible rfl | omega | (simp only [nA, nS, nD] <;> omega) | fail) only [go_sem, ↓reduceIte, Nat.reduceEqDiff, Nat.reduceAdd, Nat.reduceSub, Nat.reduceMul, reduceCtorEq, Nat.reduceLeDiff, t0, t3, t4, t6, cells_of gb, ld_B, zerosB, lenB, put_B c zeroB gz', cells_of (hs.get g1), hlenL]
  have sB := (H.Sub.refl hs.wf).add (.cells .rw (encB c))
  have hs1 := hs.trans sB
  have gb1 := sB.get gb
  have gz1 := sB.get gz
  have gf1 : (h'.add (.cells .rw (encB c))).get h'.next = some (.cells .rw (encB c)) := get_add_new rfl
  have l1 : (h'.add (.cells .rw (encB c))).next = h'.next + 1 := H.next_add _ _
  generalize h'.add (.cells .rw (encB c)) = h1 at sB hs1 gb1 gz1 gf1 l1 ⊢
  clear gz'
  refine W_count m.lots.length (fun i s => ∃ tm h2 e, s = ⟨tm, h2, []⟩ ∧ h.Sub h2 ∧ h'.next < h2.next ∧ h2.get h.next = some (.cells .rw (encB e)) ∧ h2.get (h.next + 1) = some (.cells .rw (encB zeroB)) ∧ h2.get h'.next = some (.cells .rw (encB c)) ∧
      passF (parts m) c m.lots.length 0 c = passF (parts m) c (m.lots.length - i) (i : Int) e ∧ Silk.Fresh m.lots.length (frmAt m) c e (i : Int) ∧ Bd (4000000 + 100000000 * i) e ∧
      (Opd.t 0).ev tm = .ptr d 0 ∧ (Opd.t 3).ev tm = .ptr h.next 0 ∧ (Opd.t 4).ev tm = .ptr (h.next + 1) 0 ∧ (Opd.t 6).ev tm = .fn 152 [] [.ptr h.next 0] ∧ (Opd.t 7).ev tm = .ptr h'.next 0 ∧ (Opd.t 23).ev tm = .int .i64 (m.lots.length : Int) ∧ (Opd.t 24).ev tm = .int .i64 (i : Int))
    ?_ ?_ (i := 0) (Nat.zero_le _) ⟨_, _, c, rfl, hs1, by omega, gb1, gz1, gf1, rfl, fun _ _ _ _ => rfl, hi.bd.mono (by omega), (by simp [ev_c, ev_put, t0] <;> rfl), (by simp [ev_c, ev_put, t3] <;> rfl), (by simp [ev_c, ev_put, t4] <;> rfl), (by simp [ev_c, ev_put, t6] <;> rfl), (by simp [ev_c, ev_put] <;> rfl), (by simp [ev_c, ev_put] <;> rfl), (by simp [ev_c, ev_put] <;> rfl)⟩ <;> clear t0 t3 t4 t6 tm
  · rintro i s hin ⟨tm, h2, e, rfl, hs2, lt2, gb2, gz2, gf2, hpass, hfr, hbd, t0, t3, t4, t6, t7, t23, t24⟩
    have hin' : (i : Int) < (m.lots.length : Int) := by omega
    have hi12 : i < 12 := by omega
    obtain ⟨n1, n2, n3⟩ := encB_at e hi12
    have hstep : m.lots.length - i = (m.lots.length - (i + 1)) + 1 := by omega
    rw [hstep, passF] at hpass
    have hbdi := hbd (i : Int)
    by_cases hc : (e i).2 < (e i).1
    · simp (maxSteps := 1000000) (implicitDefEqProofs := false) (disch := first | with_reducible rfl | omega | (simp only [nA, nS, nD] <;> omega) | fail) only [go_sem, ↓reduceIte, Nat.reduceEqDiff, Nat.reduceAdd, Nat.reduceSub, Nat.reduceMul, reduceCtorEq, Nat.reduceLeDiff, t0, t3, t4, t6, t7, t23, t24, hin', q_iaa_ptr (nat_cst i) hi12, cells_of gb2, n1, n2, hc, zerosB, lenB, put_B zeroB zeroB gz2, ld_B]
      have hnone : lotStep (parts m) c e (i : Int) = none := by unfold lotStep; rw [if_pos hc]
      rw [hnone] at hpass
      exact q none _ (hs2.set (by omega) (by have := hs2.next; omega) hw _) (hR none (.bad hpass))
    have hap := (ap (i : Int)).mono hs2
    have hlp := parts_len m (i : Int)
    have hlenP := hap.lenE
    by_cases hps : parts m (i : Int) = []
    · have h0 : ((parts m (i : Int)).length : Int) = 0 := by rw [hps]; rfl
      have hsome : lotStep (parts m) c e (i : Int) = some e := by unfold lotStep; rw [if_neg hc, if_pos hps]
      have hfr' := hfr.step F (by omega) hsome
      rw [hsome] at hpass
      simp (maxSteps := 1000000) (implicitDefEqProofs := false) (disch := first | with_reducible rfl | omega | (simp only [nA, nS, nD] <;> omega) | fail) only [go_sem, ↓reduceIte, Nat.reduceEqDiff, Nat.reduceAdd, Nat.reduceSub, Nat.reduceMul, reduceCtorEq, Nat.reduceLeDiff, t0, t3, t4, t6, t7, t23, t24, hin', q_iaa_ptr (nat_cst i) hi12, cells_of gb2, n1, n2, hc, cells_of (hs2.get g1), hs2.get g2, hlenP, h0, wr_succ]
      exact ⟨_, _, e, rfl, hs2, lt2, gb2, gz2, gf2, hpass, hfr', hbd.mono (by omega), (by simp [ev_c, ev_put, t0] <;> rfl), (by simp [ev_c, ev_put, t3] <;> rfl), (by simp [ev_c, ev_put, t4] <;> rfl), (by simp [ev_c, ev_put, t6] <;> rfl), (by simp [ev_c, ev_put, t7] <;> rfl), (by simp [ev_c, ev_put, t23] <;> rfl), (by simp [ev_c, ev_put] <;> rfl)⟩
    have h0 : ¬ ((parts m (i : Int)).length : Int) = 0 := by have := List.length_pos_iff.2 hps; omega
    obtain ⟨ps, eps⟩ : ∃ ps, parts m (i : Int) = ps := ⟨_, rfl⟩
    obtain ⟨X, eX⟩ : ∃ X, found .nils false (lkA (i : Int) l) = X := ⟨_, rfl⟩
    rw [eX] at hlenP hap
    rw [eps] at hlp hlenP hap h0 hps
    have hpsm : ∀ p ∈ ps, 0 ≤ p ∧ p < m.lots.length ∧ frmAt m p = (i : Int) := fun p hp => (F.mem _ _).1 (by rw [eps]; exact hp)
    simp (maxSteps := 1000000) (implicitDefEqProofs := false) (disch := first | with_reducible rfl | omega | (simp only [nA, nS, nD] <;> omega) | fail) only [go_sem, ↓reduceIte, Nat.reduceEqDiff, Nat.reduceAdd, Nat.reduceSub, Nat.reduceMul, reduceCtorEq, Nat.reduceLeDiff, t0, t3, t4, t6, t7, t23, t24, hin', q_iaa_ptr (nat_cst i) hi12, cells_of gb2, n1, n2, hc, cells_of (hs2.get g1), hs2.get g2, eX, hlenP, h0]
    have bdS : ∀ (x : Int → Int) (l' : List Int), (∀ p, -(4000000 + 100000000 * (i : Int)) ≤ x p ∧ x p ≤ 4000000 + 100000000 * (i : Int)) → (l'.length : Int) ≤ 12 → -(12 * (4000000 + 100000000 * (i : Int))) ≤ sumL x l' ∧ sumL x l' ≤ 12 * (4000000 + 100000000 * (i : Int)) := fun x l' h1 h2 => sum_bd h1 (by omega) h2
    refine W_count ps.length (fun j s => ∃ tm, s = ⟨tm, h2, []⟩ ∧ (Opd.t 0).ev tm = .ptr d 0 ∧ (Opd.t 3).ev tm = .ptr h.next 0 ∧ (Opd.t 4).ev tm = .ptr (h.next + 1) 0 ∧ (Opd.t 6).ev tm = .fn 152 [] [.ptr h.next 0] ∧ (Opd.t 7).ev tm = .ptr h'.next 0 ∧ (Opd.t 8).ev tm = .int .i64 (i : Int) ∧ (Opd.t 9).ev tm = X ∧
        (Opd.t 10).ev tm = .int .i64 (sumL (lo1 e) (ps.take j)) ∧ (Opd.t 11).ev tm = .int .i64 (sumL (hi1 e) (ps.take j)) ∧ (Opd.t 23).ev tm = .int .i64 (m.lots.length : Int) ∧ (Opd.t 24).ev tm = .int .i64 (i : Int) ∧ (Opd.t 46).ev tm = X ∧ (Opd.t 47).ev tm = .int .i64 (ps.length : Int) ∧ (Opd.t 48).ev tm = .int .i64 (j : Int))
      ?_ ?_ (i := 0) (Nat.zero_le _) ⟨_, rfl, (by simp [ev_c, ev_put, t0] <;> rfl), (by simp [ev_c, ev_put, t3] <;> rfl), (by simp [ev_c, ev_put, t4] <;> rfl), (by simp [ev_c, ev_put, t6] <;> rfl), (by simp [ev_c, ev_put, t7] <;> rfl), (by simp [ev_c, ev_put] <;> rfl), (by simp [ev_c, ev_put] <;> rfl), (by simp [ev_c, ev_put] <;> rfl), (by simp [ev_c, ev_put] <;> rfl), (by simp [ev_c, ev_put, t23] <;> rfl), (by simp [ev_c, ev_put, t24] <;> rfl), (by simp [ev_c, ev_put] <;> rfl), (by simp [ev_c, ev_put] <;> rfl), (by simp [ev_c, ev_put] <;> rfl)⟩ <;> clear t0 t3 t4 t6 t7 t23 t24 tm
    · rintro j s hj ⟨tm, rfl, t0, t3, t4, t6, t7, t8, t9, t10, t11, t23, t24, t46, t47, t48⟩
      have hj' : (j : Int) < (ps.length : Int) := by omega
      obtain ⟨bb, o, cc, cs, eb, hcs, hq, hgg, hn, hn0⟩ := hap.at hj
      obtain ⟨p0, p1, pf⟩ := hpsm _ (List.getElem_mem hj)
      obtain ⟨p, ep⟩ := Int.eq_ofNat_of_zero_le p0
      have hp12 : p < 12 := by omega
      obtain ⟨m1, m2, m3⟩ := encB_at e hp12
      have v1 := bdS (lo1 e) (ps.take j) (fun p => by have := hbd p; simp only [lo1]; omega) (by simp only [List.length_take]; omega)
      have v2 := bdS (hi1 e) (ps.take j) (fun p => by have := hbd p; simp only [hi1]; omega) (by simp only [List.length_take]; omega)
      have hbp := hbd (p : Int)
      have e1 := sum_take (lo1 e) hj
      have e2 := sum_take (hi1 e) hj
      rw [ep] at e1 e2
      simp only [lo1, hi1] at e1 e2 v1 v2
      simp (maxSteps := 1000000) (implicitDefEqProofs := false) (disch := first | with_reducible rfl | omega | (simp only [nA, nS, nD] <;> omega) | fail) only [go_sem, ↓reduceIte, Nat.reduceEqDiff, Nat.reduceAdd, Nat.reduceSub, Nat.reduceMul, reduceCtorEq, Nat.reduceLeDiff, t0, t3, t4, t6, t7, t8, t9, t10, t11, t23, t24, t46, t47, t48, hj', hq (nat_cst j), hcs, hn0 (by omega), encI, ep, q_iaa_ptr (nat_cst p) hp12, cells_of gb2, m1, m2, wr_in, wr_succ, lo1, hi1]
      exact ⟨_, rfl, (by simp [ev_c, ev_put, t0] <;> rfl), (by simp [ev_c, ev_put, t3] <;> rfl), (by simp [ev_c, ev_put, t4] <;> rfl), (by simp [ev_c, ev_put, t6] <;> rfl), (by simp [ev_c, ev_put, t7] <;> rfl), (by simp [ev_c, ev_put, t8] <;> rfl), (by simp [ev_c, ev_put, t9] <;> rfl), by rw [e1]; exact (by simp [ev_c, ev_put] <;> rfl), by rw [e2]; exact (by simp [ev_c, ev_put] <;> rfl), (by simp [ev_c, ev_put, t23] <;> rfl), (by simp [ev_c, ev_put, t24] <;> rfl), (by simp [ev_c, ev_put, t46] <;> rfl), (by simp [ev_c, ev_put, t47] <;> rfl), (by simp [ev_c, ev_put] <;> rfl)⟩
    · rintro s ⟨tm, rfl, t0, t3, t4, t6, t7, t8, t9, t10, t11, t23, t24, t46, t47, t48⟩
      rw [List.take_length] at t10 t11
      have v1 := bdS (lo1 e) ps (fun p => by have := hbd p; simp only [lo1]; omega) (by omega)
      have v2 := bdS (hi1 e) ps (fun p => by have := hbd p; simp only [hi1]; omega) (by omega)
      obtain ⟨slo, eslo⟩ : ∃ x, sumL (lo1 e) ps = x := ⟨_, rfl⟩
      obtain ⟨shi, eshi⟩ : ∃ x, sumL (hi1 e) ps = x := ⟨_, rfl⟩
      rw [eslo] at t10 v1
      rw [eshi] at t11 v2
      have hsome : lotStep (parts m) c e (i : Int) = some (downs c (i : Int) slo shi ps (narrow e (i : Int) slo shi)) := by
        unfold lotStep
        rw [if_neg hc, eps, if_neg hps, eslo, eshi]
      rw [hsome] at hpass
      have hfr' := hfr.step F (by omega) hsome
      have hbd' := lotStep_bd g (K := 4000000) (by omega) (by omega) hi.bd hbd (hfr.at F) (by omega) hsome
      have hcf : ∀ p ∈ ps, e p = c p := fun p hp => hfr.at F p (by rw [eps]; exact hp)
      simp (maxSteps := 1000000) (implicitDefEqProofs := false) (disch := first | with_reducible rfl | omega | (simp only [nA, nS, nD] <;> omega) | fail) only [go_sem, ↓reduceIte, Nat.reduceEqDiff, Nat.reduceAdd, Nat.reduceSub, Nat.reduceMul, reduceCtorEq, Nat.reduceLeDiff, t0, t3, t4, t6, t7, t8, t9, t10, t11, t23, t24, t46, t47, t48, Int.lt_irrefl]
      refine narrow_ev hs2.wf gb2 hi12 slo shi _ fun h3 gb3 k3 w3 => ?_
      have hs3 : h.Sub h3 := k3.sub hs2 hw (fun c hc => by omega) w3
      have gz3 := k3.2 _ _ gz2 (by omega)
      have gf3 := k3.2 _ _ gf2 (by omega)
      have l3 := k3.1
      have hx2 := hap.elems
      simp (maxSteps := 1000000) (implicitDefEqProofs := false) (disch := first | with_reducible rfl | omega | (simp only [nA, nS, nD] <;> omega) | fail) only [go_sem, ↓reduceIte, Nat.reduceEqDiff, Nat.reduceAdd, Nat.reduceSub, Nat.reduceMul, reduceCtorEq, Nat.reduceLeDiff, t0, t3, t4, t6, t7, t8, t9, t10, t11, t23, t24, t46, t47, t48, hlenP]
      refine W_count ps.length (fun j s => ∃ tm h4 e4, s = ⟨tm, h4, []⟩ ∧ h.Sub h4 ∧ h'.next < h4.next ∧ h4.get h.next = some (.cells .rw (encB e4)) ∧ h4.get (h.next + 1) = some (.cells .rw (encB zeroB)) ∧ h4.get h'.next = some (.cells .rw (encB c)) ∧
          downs c (i : Int) slo shi ps (narrow e (i : Int) slo shi) = downs c (i : Int) slo shi (ps.drop j) e4 ∧ e4 (i : Int) = narrow e (i : Int) slo shi (i : Int) ∧
          (Opd.t 0).ev tm = .ptr d 0 ∧ (Opd.t 3).ev tm = .ptr h.next 0 ∧ (Opd.t 4).ev tm = .ptr (h.next + 1) 0 ∧ (Opd.t 6).ev tm = .fn 152 [] [.ptr h.next 0] ∧ (Opd.t 7).ev tm = .ptr h'.next 0 ∧ (Opd.t 8).ev tm = .int .i64 (i : Int) ∧
          (Opd.t 10).ev tm = .int .i64 slo ∧ (Opd.t 11).ev tm = .int .i64 shi ∧ (Opd.t 23).ev tm = .int .i64 (m.lots.length : Int) ∧ (Opd.t 24).ev tm = .int .i64 (i : Int) ∧ (Opd.t 70).ev tm = X ∧ (Opd.t 71).ev tm = .int .i64 (ps.length : Int) ∧ (Opd.t 72).ev tm = .int .i64 (j : Int))
        ?_ ?_ (i := 0) (Nat.zero_le _) ⟨_, _, _, rfl, hs3, by omega, gb3, gz3, gf3, rfl, rfl, (by simp [ev_c, ev_put, t0] <;> rfl), (by simp [ev_c, ev_put, t3] <;> rfl), (by simp [ev_c, ev_put, t4] <;> rfl), (by simp [ev_c, ev_put, t6] <;> rfl), (by simp [ev_c, ev_put, t7] <;> rfl), (by simp [ev_c, ev_put, t8] <;> rfl), (by simp [ev_c, ev_put, t10] <;> rfl), (by simp [ev_c, ev_put, t11] <;> rfl), (by simp [ev_c, ev_put, t23] <;> rfl), (by simp [ev_c, ev_put, t24] <;> rfl), (by simp [ev_c, ev_put] <;> rfl), (by simp [ev_c, ev_put] <;> rfl), (by simp [ev_c, ev_put] <;> rfl)⟩ <;> clear t0 t3 t4 t6 t7 t8 t9 t10 t11 t23 t24 t46 t47 t48 tm
      · rintro j s hj ⟨tm, h4, e4, rfl, hs4, lt4, gb4, gz4, gf4, hdn, hei, t0, t3, t4, t6, t7, t8, t10, t11, t23, t24, t70, t71, t72⟩
        have hj' : (j : Int) < (ps.length : Int) := by omega
        have hap4 := (ap (i : Int)).mono hs4
        rw [eX, eps] at hap4
        obtain ⟨bb, o, cc, cs, eb, hcs, hq, hgg, hn, hn0⟩ := hap4.at hj
        obtain ⟨p0, p1, pf⟩ := hpsm _ (List.getElem_mem hj)
        have hlt := F.lt _ p0 p1
        obtain ⟨p, ep⟩ := Int.eq_ofNat_of_zero_le p0
        have hp12 : p < 12 := by omega
        obtain ⟨m1, m2, m3⟩ := encB_at c hp12
        obtain ⟨u1, u2, u3⟩ := encB_at e4 hi12
        rw [downs_drop hj, ep] at hdn
        have hcp := hi (p : Int)
        have b4 : -60000000000 ≤ (e4 (i : Int)).1 ∧ (e4 (i : Int)).1 ≤ 60000000000 ∧ -60000000000 ≤ (e4 (i : Int)).2 ∧ (e4 (i : Int)).2 ≤ 60000000000 := by
          rw [hei, narrow_same]; simp only; omega
        simp (maxSteps := 1000000) (implicitDefEqProofs := false) (disch := first | with_reducible rfl | omega | (simp only [nA, nS, nD] <;> omega) | fail) only [go_sem, ↓reduceIte, Nat.reduceEqDiff, Nat.reduceAdd, Nat.reduceSub, Nat.reduceMul, reduceCtorEq, Nat.reduceLeDiff, t0, t3, t4, t6, t7, t8, t10, t11, t23, t24, t70, t71, t72, hj', hq (nat_cst j), hcs, hn0 (by omega), encI, ep, q_iaa_ptr (nat_cst p) hp12, q_iaa_ptr (nat_cst i) hi12, cells_of gb4, cells_of gf4, m1, m2, u1, u2, wr_in]
        refine narrow_ev hs4.wf gb4 hp12 _ _ _ fun h5 gb5 k5 w5 => ?_
        have hs5 : h.Sub h5 := k5.sub hs4 hw (fun c hc => by omega) w5
        have gz5 := k5.2 _ _ gz4 (by omega)
        have gf5 := k5.2 _ _ gf4 (by omega)
        have l5 := k5.1
        simp (maxSteps := 1000000) (implicitDefEqProofs := false) (disch := first | with_reducible rfl | omega | (simp only [nA, nS, nD] <;> omega) | fail) only [go_sem, ↓reduceIte, Nat.reduceEqDiff, Nat.reduceAdd, Nat.reduceSub, Nat.reduceMul, reduceCtorEq, Nat.reduceLeDiff, t0, t3, t4, t6, t7, t8, t10, t11, t23, t24, t70, t71, t72, wr_succ, cells_of gb4, cells_of gf4, m1, m2, u1, u2]
        exact ⟨_, _, _, rfl, hs5, by omega, gb5, gz5, gf5, hdn, by rw [narrow_ne _ _ _ (by omega)]; exact hei, (by simp [ev_c, ev_put, t0] <;> rfl), (by simp [ev_c, ev_put, t3] <;> rfl), (by simp [ev_c, ev_put, t4] <;> rfl), (by simp [ev_c, ev_put, t6] <;> rfl), (by simp [ev_c, ev_put, t7] <;> rfl), (by simp [ev_c, ev_put, t8] <;> rfl), (by simp [ev_c, ev_put, t10] <;> rfl), (by simp [ev_c, ev_put, t11] <;> rfl), (by simp [ev_c, ev_put, t23] <;> rfl), (by simp [ev_c, ev_put, t24] <;> rfl), (by simp [ev_c, ev_put, t70] <;> rfl), (by simp [ev_c, ev_put, t71] <;> rfl), (by simp [ev_c, ev_put] <;> rfl)⟩
      · rintro s ⟨tm, h4, e4, rfl, hs4, lt4, gb4, gz4, gf4, hdn, hei, t0, t3, t4, t6, t7, t8, t10, t11, t23, t24, t70, t71, t72⟩
        rw [List.drop_length] at hdn
        have hdn' : downs c (i : Int) slo shi ps (narrow e (i : Int) slo shi) = e4 := hdn
        rw [hdn'] at hpass hfr' hbd'
        simp (maxSteps := 1000000) (implicitDefEqProofs := false) (disch := first | with_reducible rfl | omega | (simp only [nA, nS, nD] <;> omega) | fail) only [go_sem, ↓reduceIte, Nat.reduceEqDiff, Nat.reduceAdd, Nat.reduceSub, Nat.reduceMul, reduceCtorEq, Nat.reduceLeDiff, t0, t3, t4, t6, t7, t8, t10, t11, t23, t24, t70, t71, t72, Int.lt_irrefl, wr_succ]
        exact ⟨_, _, e4, rfl, hs4, lt4, gb4, gz4, gf4, hpass, hfr', hbd'.mono (by omega), (by simp [ev_c, ev_put, t0] <;> rfl), (by simp [ev_c, ev_put, t3] <;> rfl), (by simp [ev_c, ev_put, t4] <;> rfl), (by simp [ev_c, ev_put, t6] <;> rfl), (by simp [ev_c, ev_put, t7] <;> rfl), (by simp [ev_c, ev_put, t23] <;> rfl), (by simp [ev_c, ev_put] <;> rfl)⟩
  · rintro s ⟨tm, h2, e, rfl, hs2, lt2, gb2, gz2, gf2, hpass, hfr, hbd, t0, t3, t4, t6, t7, t23, t24⟩
    rw [Nat.sub_self] at hpass
    have hpass' : passF (parts m) c m.lots.length 0 c = some e := hpass
    obtain ⟨hie, hoe⟩ := hi.pass g ho hpass'
    by_cases hec : intsB e = intsB c
    · have hEq : e = c := funext fun j => by
        by_cases hj : 0 ≤ j ∧ j < m.lots.length
        · exact (intsB_iff e c).1 hec j hj.1 (by omega)
        · rw [hoe j hj, ho j hj]
      subst hEq
      simp (maxSteps := 1000000) (implicitDefEqProofs := false) (disch := first | with_reducible rfl | omega | (simp only [nA, nS, nD] <;> omega) | fail) only [go_sem, ↓reduceIte, Nat.reduceEqDiff, Nat.reduceAdd, Nat.reduceSub, Nat.reduceMul, reduceCtorEq, Nat.reduceLeDiff, t0, t3, t4, t6, t7, t23, t24, Int.lt_irrefl, cells_of gb2, cells_of gf2, ld_B, q_feq_B, ngB, zerosB, lenB, put_B e zeroB gz2]
      exact q (some e) _ (hs2.set (by omega) (by have := hs2.next; omega) hw _) (hR _ (.done hpass'))
    · simp (maxSteps := 1000000) (implicitDefEqProofs := false) (disch := first | with_reducible rfl | omega | (simp only [nA, nS, nD] <;> omega) | fail) only [go_sem, ↓reduceIte, Nat.reduceEqDiff, Nat.reduceAdd, Nat.reduceSub, Nat.reduceMul, reduceCtorEq, Nat.reduceLeDiff, t0, t3, t4, t6, t7, t23, t24, Int.lt_irrefl, cells_of gb2, cells_of gf2, ld_B, q_feq_B, ngB, hec]
      have hne : ∃ j : Int, 0 ≤ j ∧ j < m.lots.length ∧ e j ≠ c j := by
        by_cases hall : ∃ j : Int, 0 ≤ j ∧ j < m.lots.length ∧ e j ≠ c j
        · exact hall
        · exfalso
          refine hec ((intsB_iff e c).2 fun j j0 j1 => ?_)
          by_cases hj : j < m.lots.length
          · by_cases he : e j = c j
            · exact he
            · exact absurd ⟨j, j0, hj, he⟩ hall
          · rw [hoe j (by omega), ho j (by omega)]
      obtain ⟨j, j0, j1, hj⟩ := hne
      have r1 := room_lt (passF_nrw _ _ hpass') m.lots.length j j0 j1 hj
      have r2 := room_nonneg (b := c) m.lots.length fun i i0 i1 => passF_start _ _ _ _ hpass' i i0 (by omega)
      exact ⟨(Silk.room m.lots.length e + 1).toNat, by omega, _, _, e, rfl, hs2, by omega, gb2, gz2, hie, hoe, fun r hr => hR r (.more hpass' hr), Nat.le_refl _, (by simp [ev_c, ev_put, t0] <;> rfl), (by simp [ev_c, ev_put, t3] <;> rfl), (by simp [ev_c, ev_put, t4] <;> rfl), (by simp [ev_c, ev_put, t6] <;> rfl)⟩
end Try
end Go.Ab
set_option linter.unusedSimpArgs false
set_option linter.unusedVariables false
namespace Go.Ab.Try
open Go.Ab.Silk
def ownK (m : Ml) (c : Nat → Bool) (lot : Int) : Nat → Int × Int
  | 0 => (0, 10000)
  | k + 1 => match m.wgs[k]? with
    | none => ownK m c lot k
    | some w => if c k = true ∧ w.lot = lot then (max (ownK m c lot k).1 (sayLo m w), min (ownK m c lot k).2 (sayHi m w)) else ownK m c lot k
theorem ownK_hit {m : Ml} {c : Nat → Bool} {lot : Int} {k : Nat} (hk : k < m.wgs.length) (hc : c k = true) (hl : m.wgs[k].lot = lot) : ownK m c lot (k + 1) = (max (ownK m c lot k).1 (sayLo m m.wgs[k]), min (ownK m c lot k).2 (sayHi m m.wgs[k])) := by
  simp only [ownK]
  rw [List.getElem?_eq_getElem hk]
  simp [hc, hl]
theorem ownK_miss {m : Ml} {c : Nat → Bool} {lot : Int} {k : Nat} (hk : k < m.wgs.length) (h : c k = false ∨ m.wgs[k].lot ≠ lot) : ownK m c lot (k + 1) = ownK m c lot k := by
  simp only [ownK]
  rw [List.getElem?_eq_getElem hk]
  simp only
  rw [if_neg]
  rintro ⟨h1, h2⟩
  rcases h with h | h
  · rw [h] at h1; cases h1
  · exact h h2
theorem say_bd {m : Ml} (g : Good m) {k : Nat} (hk : k < m.wgs.length) : 0 ≤ sayLo m m.wgs[k] ∧ sayLo m m.wgs[k] ≤ 20000 ∧ 0 ≤ sayHi m m.wgs[k] ∧ sayHi m m.wgs[k] ≤ 10000 := by
  have w1 := g.wg _ (List.getElem_mem hk)
  have w2 := g.errs
  have q2 := tdiv_le (a := 100 * (m.wgs[k].reads + m.errs)) (b := 100 + m.wgs[k].lo) (by omega) (by omega)
  have h1 := sayLo_nonneg (m := m) (w := m.wgs[k]) (by omega)
  refine ⟨h1, ?_, ?_, ?_⟩
  · rw [sayLo_le (by omega) (by omega)]
    have := Int.mul_le_mul_of_nonneg_left (show (100 : Int) ≤ 100 + m.wgs[k].hi by omega) (show (0 : Int) ≤ 20000 by omega)
    omega
  · unfold sayHi; omega
  · unfold sayHi; omega
theorem ownK_bd {m : Ml} (g : Good m) (c : Nat → Bool) (lot : Int) : ∀ k, 0 ≤ (ownK m c lot k).1 ∧ (ownK m c lot k).1 ≤ 20000 ∧ 0 ≤ (ownK m c lot k).2 ∧ (ownK m c lot k).2 ≤ 10000
  | 0 => by simp [ownK]
  | k + 1 => by
    have ih := ownK_bd g c lot k
    by_cases hk : k < m.wgs.length
    · by_cases h : c k = true ∧ m.wgs[k].lot = lot
      · have := say_bd g hk
        rw [ownK_hit hk h.1 h.2]; simp only; omega
      · rw [ownK_miss hk (by
          by_cases h1 : c k = true
          · exact .inr fun h2 => h ⟨h1, h2⟩
          · exact .inl (by simpa using h1))]
        exact ih
    · simp only [ownK]
      rw [List.getElem?_eq_none (by omega)]
      exact ih
def boxK (m : Ml) (c : Nat → Bool) (k : Nat) : Box := fun lot => if 0 ≤ lot ∧ lot < m.lots.length then ownK m c lot k else (0, 0)
def ownB (m : Ml) (c : Nat → Bool) : Box := boxK m c m.wgs.length
theorem boxK_out {m : Ml} {c : Nat → Bool} {k : Nat} : ∀ j : Int, ¬ (0 ≤ j ∧ j < m.lots.length) → boxK m c k j = (0, 0) := fun j h => by unfold boxK; rw [if_neg h]
theorem boxK_inv {m : Ml} (g : Good m) (c : Nat → Bool) (k : Nat) : InvB (boxK m c k) := fun j => by
  unfold boxK
  split
  · have := ownK_bd g c j k; omega
  · simp
theorem boxK_hit {m : Ml} (g : Good m) {c : Nat → Bool} {k : Nat} (hk : k < m.wgs.length) (hc : c k = true) : boxK m c (k + 1) = updB (boxK m c k) m.wgs[k].lot (max (boxK m c k m.wgs[k].lot).1 (sayLo m m.wgs[k]), min (boxK m c k m.wgs[k].lot).2 (sayHi m m.wgs[k])) := by
  have hl := g.lot _ (List.getElem_mem hk)
  funext lot
  unfold boxK updB
  by_cases e : lot = m.wgs[k].lot
  · subst e
    rw [if_pos ⟨hl.1, by omega⟩, if_pos rfl, if_pos ⟨hl.1, by omega⟩, ownK_hit hk hc rfl]
  · rw [if_neg e]
    dsimp only
    rw [ownK_miss hk (.inr fun e' => e e'.symm)]
theorem boxK_miss {m : Ml} {c : Nat → Bool} {k : Nat} (hk : k < m.wgs.length) (hc : c k = false) : boxK m c (k + 1) = boxK m c k := by
  funext lot
  unfold boxK
  rw [ownK_miss hk (.inl hc)]
def lotsB (i : Nat) : Box := fun lot => if 0 ≤ lot ∧ lot < i then (0, 10000) else (0, 0)
theorem lotsB_step (i : Nat) : lotsB (i + 1) = updB (lotsB i) (i : Int) ((lotsB i (i : Int)).1, 10000) := by
  funext lot
  unfold lotsB updB
  by_cases e : lot = (i : Int)
  · subst e
    rw [if_pos (by omega), if_pos rfl, if_neg (by omega)]
  · rw [if_neg e]
    dsimp only
    by_cases h : 0 ≤ lot ∧ lot < (i : Int)
    · rw [if_pos (by omega), if_pos h]
    · rw [if_neg (by omega), if_neg h]
theorem lotsB_all (m : Ml) (c : Nat → Bool) : lotsB m.lots.length = boxK m c 0 := rfl
set_option maxHeartbeats 2000000 in
theorem bounds_ev {h : H} {d : Nat} {m : Ml} {f : V} {c : Nat → Bool} (hw : h.wf) (hd : DkAt h d m) (g : Good m) (hf1 : f.one = true) (hf : ∀ i, i < m.wgs.length → PureA h f [.int .i64 (i : Int)] (.bool (c i))) (Q : V → H → Prop)
    (q : ∀ r h', h.Sub h' → TightR m.lots.length (parts m) (ownB m c) r → Q (tightV r) h') : Ev fnG fastA (.fn 124 [] []) [.ptr d 0, .agg [f]] h Q := by
  have hd0 := hd
  obtain ⟨pm, l, L, W, g1, g2, aL, aW, ap⟩ := hd
  have gl := g.lots
  have hld := hw _ _ g1
  have hlenL := aL.lenE
  have hlenW := aW.lenE
  refine Ev_body (fd := c124) rfl rfl rfl ?_
  have s1 : h.Sub (((h.add (.cells .rw [f])).add (.cells .rw (encB zeroB))).add (.cells .rw (encB zeroB))) := (by repeat (first | assumption | exact H.Sub.refl (by assumption) | refine H.Sub.add ?_ _ | refine H.Sub.set ?_ (by first | omega | (simp only [H.next_add, H.next_set, H.next_del] <;> omega)) (by first | omega | (simp only [H.next_add, H.next_set, H.next_del] <;> omega)) (by assumption) _))
  have ez : encB zeroB = encB (lotsB 0) := by
    rw [show lotsB 0 = zeroB from funext fun lot => by unfold lotsB zeroB; rw [if_neg (by omega)]]
  have gw := g.wgs
  simp (maxSteps := 1000000) (implicitDefEqProofs := false) (disch := first | with_reducible rfl | omega | (simp only [nA, nS, nD] <;> omega) | fail) only [c124, go_sem, ↓reduceIte, Nat.reduceEqDiff, Nat.reduceAdd, Nat.reduceSub, Nat.reduceMul, reduceCtorEq, Nat.reduceLeDiff, zerosB, hf1, cells_of g1, hlenL]
  refine W_count m.lots.length (fun i s => ∃ tm h', s = ⟨tm, h', []⟩ ∧ h.Sub h' ∧ h.next + 2 < h'.next ∧ h'.get h.next = some (.cells .rw [f]) ∧ h'.get (h.next + 1) = some (.cells .rw (encB zeroB)) ∧ h'.get (h.next + 1 + 1) = some (.cells .rw (encB (lotsB i))) ∧
      (Opd.t 0).ev tm = .ptr d 0 ∧ (Opd.t 3).ev tm = .ptr h.next 0 ∧ (Opd.t 4).ev tm = .ptr (h.next + 1) 0 ∧ (Opd.t 6).ev tm = .ptr (h.next + 1 + 1) 0 ∧ (Opd.t 16).ev tm = .int .i64 (m.lots.length : Int) ∧ (Opd.t 17).ev tm = .int .i64 (i : Int))
    ?_ ?_ (i := 0) (Nat.zero_le _) ⟨_, _, rfl, s1, by simp only [H.next_add]; omega, by simp (maxSteps := 1000000) (implicitDefEqProofs := false) (disch := first | with_reducible rfl | omega | (simp only [nA, nS, nD] <;> omega) | fail) only [go_sem, ↓reduceIte, Nat.reduceEqDiff, Nat.reduceAdd, Nat.reduceSub, Nat.reduceMul, reduceCtorEq, Nat.reduceLeDiff], by simp (maxSteps := 1000000) (implicitDefEqProofs := false) (disch := first | with_reducible rfl | omega | (simp only [nA, nS, nD] <;> omega) | fail) only [go_sem, ↓reduceIte, Nat.reduceEqDiff, Nat.reduceAdd, Nat.reduceSub, Nat.reduceMul, reduceCtorEq, Nat.reduceLeDiff], by rw [← ez]; simp (maxSteps := 1000000) (implicitDefEqProofs := false) (disch := first | with_reducible rfl | omega | (simp only [nA, nS, nD] <;> omega) | fail) only [go_sem, ↓reduceIte, Nat.reduceEqDiff, Nat.reduceAdd, Nat.reduceSub, Nat.reduceMul, reduceCtorEq, Nat.reduceLeDiff], (by simp [ev_c, ev_put] <;> rfl), (by simp [ev_c, ev_put] <;> rfl), (by simp [ev_c, ev_put] <;> rfl), (by simp [ev_c, ev_put] <;> rfl), (by simp [ev_c, ev_put] <;> rfl), (by simp [ev_c, ev_put] <;> rfl)⟩
  · rintro i s hi ⟨tm, h', rfl, hs, lt, ga, gb, gc, t0, t3, t4, t6, t16, t17⟩
    have hi' : (i : Int) < (m.lots.length : Int) := by omega
    have hi12 : i < 12 := by omega
    have hput := encB_put2 (lotsB i) hi12 10000
    rw [← lotsB_step] at hput
    simp (maxSteps := 1000000) (implicitDefEqProofs := false) (disch := first | with_reducible rfl | omega | (simp only [nA, nS, nD] <;> omega) | fail) only [go_sem, ↓reduceIte, Nat.reduceEqDiff, Nat.reduceAdd, Nat.reduceSub, Nat.reduceMul, reduceCtorEq, Nat.reduceLeDiff, t0, t3, t4, t6, t16, t17, hi', q_iaa_ptr (nat_cst i) hi12, gc, hput, wr_succ]
    have s2 := hs.set (b := h.next + 1 + 1) (by omega) (by omega) hw (.cells .rw (encB (lotsB (i + 1))))
    exact ⟨_, _, rfl, s2, by rw [H.next_set]; omega, by rw [get_set_other (by omega)]; exact ga, by rw [get_set_other (by omega)]; exact gb, get_set_same rfl, (by simp [ev_c, ev_put, t0] <;> rfl), (by simp [ev_c, ev_put, t3] <;> rfl), (by simp [ev_c, ev_put, t4] <;> rfl), (by simp [ev_c, ev_put, t6] <;> rfl), (by simp [ev_c, ev_put, t16] <;> rfl), (by simp [ev_c, ev_put] <;> rfl)⟩
  rintro s ⟨tm, h', rfl, hs, lt, ga, gb, gc, t0, t3, t4, t6, t16, t17⟩
  rw [lotsB_all m c] at gc
  simp (maxSteps := 1000000) (implicitDefEqProofs := false) (disch := first | with_reducible rfl | omega | (simp only [nA, nS, nD] <;> omega) | fail) only [go_sem, ↓reduceIte, Nat.reduceEqDiff, Nat.reduceAdd, Nat.reduceSub, Nat.reduceMul, reduceCtorEq, Nat.reduceLeDiff, t0, t3, t4, t6, t16, t17, Int.lt_irrefl, cells_of (hs.get g1), hlenW]
  refine W_count m.wgs.length (fun i s => ∃ tm h', s = ⟨tm, h', []⟩ ∧ h.Sub h' ∧ h.next + 2 < h'.next ∧ h'.get h.next = some (.cells .rw [f]) ∧ h'.get (h.next + 1) = some (.cells .rw (encB zeroB)) ∧ h'.get (h.next + 1 + 1) = some (.cells .rw (encB (boxK m c i))) ∧
      (Opd.t 0).ev tm = .ptr d 0 ∧ (Opd.t 3).ev tm = .ptr h.next 0 ∧ (Opd.t 4).ev tm = .ptr (h.next + 1) 0 ∧ (Opd.t 6).ev tm = .ptr (h.next + 1 + 1) 0 ∧ (Opd.t 28).ev tm = W ∧ (Opd.t 29).ev tm = .int .i64 (m.wgs.length : Int) ∧ (Opd.t 30).ev tm = .int .i64 (i : Int))
    ?_ ?_ (i := 0) (Nat.zero_le _) ⟨_, _, rfl, hs, lt, ga, gb, gc, (by simp [ev_c, ev_put, t0] <;> rfl), (by simp [ev_c, ev_put, t3] <;> rfl), (by simp [ev_c, ev_put, t4] <;> rfl), (by simp [ev_c, ev_put, t6] <;> rfl), (by simp [ev_c, ev_put] <;> rfl), (by simp [ev_c, ev_put] <;> rfl), (by simp [ev_c, ev_put] <;> rfl)⟩ <;> clear t0 t3 t4 t6 t16 t17 ga gb gc lt hs h' tm
  · rintro i s hi ⟨tm, h', rfl, hs, lt, ga, gb, gc, t0, t3, t4, t6, t28, t29, t30⟩
    have hi' : (i : Int) < (m.wgs.length : Int) := by omega
    obtain ⟨bb, o, cc, cs, rfl, hcs, hq, hgg, hn, hn0⟩ := (aW.mono hs).at hi
    have hl := g.lot _ (List.getElem_mem hi)
    obtain ⟨lt', elt⟩ := Int.eq_ofNat_of_zero_le hl.1
    have hlt12 : lt' < 12 := by omega
    have hsay := say_bd g hi
    have sA := (H.Sub.refl hs.wf).add (.cells .rw (encW m.wgs[i]))
    have hsA := hs.trans sA
    simp (maxSteps := 1000000) (implicitDefEqProofs := false) (disch := first | with_reducible rfl | omega | (simp only [nA, nS, nD] <;> omega) | fail) only [go_sem, ↓reduceIte, Nat.reduceEqDiff, Nat.reduceAdd, Nat.reduceSub, Nat.reduceMul, reduceCtorEq, Nat.reduceLeDiff, t0, t3, t4, t6, t28, t29, t30, hi', hq (nat_cst i), hcs, hgg, encW]
    refine (says_ev hsA.wf (hd0.mono hsA) g hi).mono fun u h3 hu => ?_
    obtain ⟨rfl, s23⟩ := hu
    have hs3 := hsA.trans s23
    have l3 := s23.next
    rw [H.next_add] at l3
    have s34 := (H.Sub.refl hs3.wf).add (.cells .rw [.int .i64 (sayLo m m.wgs[i]), .int .i64 (sayHi m m.wgs[i])])
    have hs4 := hs3.trans s34
    have ga3 := (sA.trans s23).get ga
    have gb3 := (sA.trans s23).get gb
    have gc3 := (sA.trans s23).get gc
    have gw3 : h3.cells h'.next = some (encW m.wgs[i]) := s23.cells (cells_add_new rfl)
    simp (maxSteps := 1000000) (implicitDefEqProofs := false) (disch := first | with_reducible rfl | omega | (simp only [nA, nS, nD] <;> omega) | fail) only [go_sem, ↓reduceIte, Nat.reduceEqDiff, Nat.reduceAdd, Nat.reduceSub, Nat.reduceMul, reduceCtorEq, Nat.reduceLeDiff, t0, t3, t4, t6, t28, t29, t30, cells_of ga3]
    refine (hf i hi).use hs4 fun h5 s45 => ?_
    have hs5 := hs4.trans s45
    have l5 := s45.next
    rw [H.next_add] at l5
    have ga5 := (s34.trans s45).get ga3
    have gb5 := (s34.trans s45).get gb3
    have gc5 := (s34.trans s45).get gc3
    have gw5 := (s34.trans s45).cells gw3
    have gs5 : h5.cells h3.next = some [.int .i64 (sayLo m m.wgs[i]), .int .i64 (sayHi m m.wgs[i])] := s45.cells (cells_add_new rfl)
    cases hc : c i
    · simp (maxSteps := 1000000) (implicitDefEqProofs := false) (disch := first | with_reducible rfl | omega | (simp only [nA, nS, nD] <;> omega) | fail) only [go_sem, ↓reduceIte, Nat.reduceEqDiff, Nat.reduceAdd, Nat.reduceSub, Nat.reduceMul, reduceCtorEq, Nat.reduceLeDiff, t0, t3, t4, t6, t28, t29, t30, hc, wr_succ]
      exact ⟨_, _, rfl, hs5, by omega, ga5, gb5, by rw [boxK_miss hi hc]; exact gc5, (by simp [ev_c, ev_put, t0] <;> rfl), (by simp [ev_c, ev_put, t3] <;> rfl), (by simp [ev_c, ev_put, t4] <;> rfl), (by simp [ev_c, ev_put, t6] <;> rfl), (by simp [ev_c, ev_put, t28] <;> rfl), (by simp [ev_c, ev_put, t29] <;> rfl), (by simp [ev_c, ev_put] <;> rfl)⟩
    · obtain ⟨n1, n2, n3⟩ := encB_at (boxK m c i) hlt12
      have hput := fun x y => encB_put (boxK m c i) hlt12 x y
      simp (maxSteps := 1000000) (implicitDefEqProofs := false) (disch := first | with_reducible rfl | omega | (simp only [nA, nS, nD] <;> omega) | fail) only [go_sem, ↓reduceIte, Nat.reduceEqDiff, Nat.reduceAdd, Nat.reduceSub, Nat.reduceMul, reduceCtorEq, Nat.reduceLeDiff, t0, t3, t4, t6, t28, t29, t30, hc, gw5, encW, gs5, elt, q_iaa_ptr (nat_cst lt') hlt12, cells_of gc5, n1, n2]
      refine least_use (l := [sayHi m m.wgs[i]]) (SlAt.new _ rfl (by rfl) (by rfl) (by simp [encI]) (by simp)) ?_
      have s56 := (H.Sub.refl hs5.wf).add (.cells .rw [.int .i64 (sayHi m m.wgs[i])])
      have gc6 := s56.get gc5
      have hhit := boxK_hit g hi hc
      rw [elt] at hhit
      have hs6 := (hs5.trans s56).set (b := h.next + 1 + 1) (by omega) (by rw [H.next_add]; omega) hw (.cells .rw (encB (boxK m c (i + 1))))
      simp (maxSteps := 1000000) (implicitDefEqProofs := false) (disch := first | with_reducible rfl | omega | (simp only [nA, nS, nD] <;> omega) | fail) only [go_sem, ↓reduceIte, Nat.reduceEqDiff, Nat.reduceAdd, Nat.reduceSub, Nat.reduceMul, reduceCtorEq, Nat.reduceLeDiff, t0, t3, t4, t6, t28, t29, t30, hc, gw5, encW, gs5, elt, q_iaa_ptr (nat_cst lt') hlt12, cells_of gc5, cells_of gc6, gc6, n1, n2, List.foldl, hput, ← hhit, wr_succ]
      exact ⟨_, _, rfl, hs6, by rw [H.next_set, H.next_add]; omega, by rw [get_set_other (by omega)]; exact s56.get ga5, by rw [get_set_other (by omega)]; exact s56.get gb5, get_set_same rfl, (by simp [ev_c, ev_put, t0] <;> rfl), (by simp [ev_c, ev_put, t3] <;> rfl), (by simp [ev_c, ev_put, t4] <;> rfl), (by simp [ev_c, ev_put, t6] <;> rfl), (by simp [ev_c, ev_put, t28] <;> rfl), (by simp [ev_c, ev_put, t29] <;> rfl), (by simp [ev_c, ev_put] <;> rfl)⟩
  · rintro s ⟨tm, h', rfl, hs, lt, ga, gb, gc, t0, t3, t4, t6, t28, t29, t30⟩
    simp (maxSteps := 1000000) (implicitDefEqProofs := false) (disch := first | with_reducible rfl | omega | (simp only [nA, nS, nD] <;> omega) | fail) only [go_sem, ↓reduceIte, Nat.reduceEqDiff, Nat.reduceAdd, Nat.reduceSub, Nat.reduceMul, reduceCtorEq, Nat.reduceLeDiff, t0, t3, t4, t6, t28, t29, t30, Int.lt_irrefl, cells_of gc, ld_B]
    refine tight_ev hs.wf (hd0.mono hs) g (boxK_inv g c _) boxK_out _ fun r h2 s12 hr => ?_
    have gb2 := s12.get gb
    have hs2 := hs.trans s12
    have l2 := s12.next
    cases r with
    | none =>
      simp (maxSteps := 1000000) (implicitDefEqProofs := false) (disch := first | with_reducible rfl | omega | (simp only [nA, nS, nD] <;> omega) | fail) only [go_sem, ↓reduceIte, Nat.reduceEqDiff, Nat.reduceAdd, Nat.reduceSub, Nat.reduceMul, reduceCtorEq, Nat.reduceLeDiff, tightV, t0, t3, t4, t6, lenB, put_B zeroB zeroB gb2, ld_B]
      exact q none _ (hs2.set (by omega) (by omega) hw _) hr
    | some b =>
      simp (maxSteps := 1000000) (implicitDefEqProofs := false) (disch := first | with_reducible rfl | omega | (simp only [nA, nS, nD] <;> omega) | fail) only [go_sem, ↓reduceIte, Nat.reduceEqDiff, Nat.reduceAdd, Nat.reduceSub, Nat.reduceMul, reduceCtorEq, Nat.reduceLeDiff, tightV, t0, t3, t4, t6, lenB, put_B b zeroB gb2, ld_B]
      exact q (some b) _ (hs2.set (by omega) (by omega) hw _) hr
end Go.Ab.Try
set_option linter.unusedSimpArgs false
set_option linter.unusedVariables false
namespace Go.Ab
theorem a_msl_nm {h : H} {by_ n m : Nat} {z : List V} (h0 : n ≤ m) (h1 : m * by_ ≤ 1099511627776) (h2 : m ≤ 1099511627776) :
    a_msl h by_ z (.int .i64 (n : Int)) (.int .i64 (m : Int)) = some (.sl h.next 0 n (.fix m), h.add (.cells .rw (repN m z))) := by
  have e1 : Nat.ble (m * by_) 1099511627776 = true := by simpa using h1
  have e2 : Nat.ble m 1099511627776 = true := by simpa using h2
  have e3 : Nat.ble n m = true := by simpa using h0
  simp only [a_msl, nat_cst, e1, e2, e3, og_true, lf_eq]
end Go.Ab
namespace Go.Ab.Try
theorem MlOwn.keep {h0 h h' : H} {S : Nat → Prop} {v : V} {m : Ml} (a : MlOwn h0 h v m) (k : Keeps S h h') (hs : h0.Sub h') (n : ∀ b, S b → ∀ kd cs, h.get b ≠ some (.cells kd cs) ∨ b < h0.next) : MlOwn h0 h' v m := by
  obtain ⟨L, W, e, a1, a2, a3⟩ := a
  refine ⟨L, W, e, a1.keep k hs fun b hb hS => ?_, a2.keep k hs fun b hb hS => ?_, a3⟩
  · obtain ⟨l1, _, kd, cs, hg, _⟩ := a1.blk hb
    rcases n b hS kd cs with h | h
    · exact h hg
    · omega
  · obtain ⟨l1, _, kd, cs, hg, _⟩ := a2.blk hb
    rcases n b hS kd cs with h | h
    · exact h hg
    · omega
end Go.Ab.Try
namespace Go.Ab
theorem H.Sub.lt {h h' : H} (s : h.Sub h') {n : Nat} (l : n < h.next) : n < h'.next := Nat.lt_of_lt_of_le l s.next
namespace Try
def vOff (v : V) (S : Nat → Prop) : Prop := ∀ e L W, v = .agg [e, L, W] → (∀ b, blkOf L b → ¬ S b) ∧ ∀ b, blkOf W b → ¬ S b
theorem MlIs.keep {h h' : H} {S : Nat → Prop} {v : V} {m : Ml} (a : MlIs h v m) (k : Keeps S h h') (n : vOff v S) : MlIs h' v m := by
  obtain ⟨L, W, rfl, a1, a2⟩ := a
  obtain ⟨n1, n2⟩ := n _ _ _ rfl
  exact ⟨L, W, rfl, SlAt_keep a1 k n1, SlAt_keep a2 k n2⟩
theorem MlOwn.off {h0 h : H} {v : V} {m : Ml} (a : MlOwn h0 h v m) {S : Nat → Prop} (n : ∀ b, h0.next ≤ b → ¬ S b) : vOff v S := by
  obtain ⟨L, W, rfl, a1, a2, _⟩ := a
  intro e L' W' e'
  cases e'
  exact ⟨fun b hb => n b (a1.blk hb).1, fun b hb => n b (a2.blk hb).1⟩
theorem Own_own {h : H} {v : V} {m : Ml} (hw : h.wf) (hm : MlIs h v m) (hl : m.lots.length ≤ 1000 ∧ m.wgs.length ≤ 1000) (Q : V → H → Prop) (q : ∀ L W h', h.Sub h' → MlOwn h h' (.agg [.int .i64 m.errs, L, W]) m → L.one = true → W.one = true → Q (.agg [.int .i64 m.errs, L, W]) h') : Ev fnG fastA (.fn 18 [] []) [v] h Q := by
  refine (own_ev hw hm hl).mono fun u h3 hu => ?_
  obtain ⟨s23, a, b, rfl, la1, la2, lb1, lb2, nab, ga, gb⟩ := hu
  refine q _ _ _ s23 ⟨_, _, rfl, ⟨s23, by simp [encL], .inr (.inr ⟨a, m.lots.length, [], by simp, la1, la2, by simpa using ga, by simp, by simp⟩)⟩, ⟨s23, by simp [encW], .inr (.inr ⟨b, m.wgs.length, [], by simp, lb1, lb2, by simpa using gb, by simp, by simp⟩)⟩, fun c ⟨_, _, _, e1⟩ ⟨_, _, _, e2⟩ => ?_⟩ rfl rfl
  cases e1; cases e2; exact nab rfl
end Try
end Go.Ab
set_option linter.unusedSimpArgs false
set_option linter.unusedVariables false
namespace Go.Ab
namespace Try
open Go.Ab.Silk
theorem all_ev (h : H) (Q : V → H → Prop) : Ev fnG fastA (.fn 125 [] []) [] h Q = Q (.agg [.fn 151 [] []]) (h.add (.cells .rw [.fn 151 [] []])) := by
  refine Ev.det (Ev_body (fd := c125) rfl rfl rfl ?_) Q
  simp (maxSteps := 1000000) (implicitDefEqProofs := false) (disch := first | with_reducible rfl | omega | (simp only [nA, nS, nD] <;> omega) | fail) only [c125, go_sem, ↓reduceIte, Nat.reduceEqDiff, Nat.reduceAdd, Nat.reduceSub, Nat.reduceMul, reduceCtorEq, Nat.reduceLeDiff]
theorem all1_pure (h : H) (x : V) : PureA h (.fn 151 [] []) [x] (.bool true) := fun h1 hs => by
  refine Ev_body (fd := c151) rfl rfl rfl ?_
  simp (maxSteps := 1000000) (implicitDefEqProofs := false) (disch := first | with_reducible rfl | omega | (simp only [nA, nS, nD] <;> omega) | fail) only [c151, go_sem, ↓reduceIte, Nat.reduceEqDiff, Nat.reduceAdd, Nat.reduceSub, Nat.reduceMul, reduceCtorEq, Nat.reduceLeDiff]
  exact H.Sub.refl hs.wf
def allC : Nat → Bool := fun _ => true
def FeasM (m : Ml) (c : Nat → Bool) (w : Int → Int) : Prop := Feas m.lots.length (parts m) (ownB m c) w
def ExactM (m : Ml) (c : Nat → Bool) (b : Box) : Prop := Exact m.lots.length (parts m) (ownB m c) b ∧ ∀ j : Int, ¬ (0 ≤ j ∧ j < m.lots.length) → b j = (0, 0)
theorem tightR_sem {m : Ml} (g : Good m) {c : Nat → Bool} {r : Option Box} (h : TightR m.lots.length (parts m) (ownB m c) r) : (r = none ∧ ¬ ∃ w, FeasM m c w) ∨ ∃ b, r = some b ∧ ExactM m c b ∧ Tight m.lots.length (parts m) b := by
  have gl := g.lots
  cases r with
  | none => exact .inl ⟨rfl, (h.none_iff (forest g) (by omega)).1 rfl⟩
  | some b => exact .inr ⟨b, rfl, ⟨h.exact (forest g), fun j hj => by rw [h.out (forest g) j hj]; exact boxK_out j hj⟩, h.nrw.2⟩
theorem ExactM.feas {m : Ml} (g : Good m) {c : Nat → Bool} {b : Box} (h : ExactM m c b) : ∃ w, FeasM m c w := by
  have gl := g.lots
  obtain ⟨w, f, _⟩ := h.1.full 0 _ (by omega) (by omega) (Int.le_refl _) (h.1.ne 0 (by omega) (by omega))
  exact ⟨w, f⟩
theorem ExactM.uniq {m : Ml} {c : Nat → Bool} {b b' : Box} (h : ExactM m c b) (k : ExactM m c b') : b = b' := funext fun j => by
  by_cases hj : 0 ≤ j ∧ j < m.lots.length
  · exact h.1.uniq k.1 hj.1 hj.2
  · rw [h.2 j hj, k.2 j hj]
theorem ownB_bd {m : Ml} (g : Good m) (c : Nat → Bool) (j : Int) : 0 ≤ (ownB m c j).1 ∧ (ownB m c j).2 ≤ 10000 := by
  have := boxK_inv g c m.wgs.length j
  exact ⟨this.1, this.2.2.2⟩
theorem ExactM.bd {m : Ml} (g : Good m) {c : Nat → Bool} {b : Box} (h : ExactM m c b) (j : Int) : 0 ≤ (b j).1 ∧ (b j).1 ≤ 10000 ∧ 0 ≤ (b j).2 ∧ (b j).2 ≤ 10000 := by
  by_cases hj : 0 ≤ j ∧ j < m.lots.length
  · have hn := h.1.ne j hj.1 hj.2
    obtain ⟨w1, f1, e1⟩ := h.1.full j _ hj.1 hj.2 (Int.le_refl _) hn
    obtain ⟨w2, f2, e2⟩ := h.1.full j _ hj.1 hj.2 hn (Int.le_refl _)
    have h1 := f1.1 j hj.1 hj.2
    have h2 := f2.1 j hj.1 hj.2
    have := ownB_bd g c j
    omega
  · rw [h.2 j hj]; simp
theorem SlAt_keep2 {h h' : H} {S : Nat → Prop} {x : V} {sz : Nat} {rows : List (List V)} (a : SlAt h x sz rows) (k : Keeps S h h') (n : rows ≠ [] → ∀ b, blkOf x b → ¬ S b) : SlAt h' x sz rows := by
  obtain ⟨a1, a0, a2⟩ := a
  refine ⟨a1, a0, ?_⟩
  rcases a2 with a2 | ⟨b, o, c, cs, e1, e2, e3⟩
  · exact .inl a2
  · refine .inr ⟨b, o, c, cs, e1, ?_, e3⟩
    by_cases hr : rows = []
    · exact .inl hr
    · exact .inr (k.cells (e2.resolve_left hr) (n hr b ⟨_, _, _, e1⟩))
theorem SlAt_lt {h : H} {x : V} {sz : Nat} {rows : List (List V)} (hw : h.wf) (a : SlAt h x sz rows) (hr : rows ≠ []) : ∀ b, blkOf x b → b < h.next := by
  rintro b ⟨o', n', c', e⟩
  rcases a.2.2 with ⟨rfl, _⟩ | ⟨b', o, c, cs, e1, e2, e3⟩
  · cases e
  · rw [e1] at e; cases e
    obtain ⟨k, hk⟩ := H.cells_eq (e2.resolve_left hr)
    exact hw _ _ hk
theorem opened_keep {h0 h : H} {v : V} {m : Ml} (hs : h0.Sub h) (hw0 : h0.wf) (hm : MlIs h0 v m) : Ev fnG fastA (.fn 87 [] []) [v] h fun u h' => h.Sub h' ∧ ((check m ≠ 0 ∧ u = .tup [.nilp, .int .i64 (check m)]) ∨
    (check m = 0 ∧ ∃ d, u = .tup [.ptr d 0, .int .i64 0] ∧ DkAt h' d m ∧ ∀ (h'' : H) (S : Nat → Prop), Keeps S h' h'' → (∀ c, S c → h0.next ≤ c ∧ c < h.next) → DkAt h'' d m)) := by
  refine (opened_ev hs.wf (hm.mono hs)).mono fun u h' hu => ?_
  obtain ⟨hs', hu | ⟨c, d, pm, l, L, W, e1, ld, lp, e2, g1, g2, pt⟩⟩ := hu
  · exact ⟨hs', .inl hu⟩
  · obtain ⟨L', W', e, aL, aW⟩ := hm
    rw [e2] at e; cases e
    have hgl := (good_of c).lots
    have hparts : ∀ k, SlAt h' (found .nils false (lkA k l)) 1 ((parts m k).map encI) ∧ ∀ b, blkOf (found .nils false (lkA k l)) b → h.next ≤ b := fun k => by
      have hl := parts_len m k
      rcases pt.1 k with ⟨f1, f2⟩ | ⟨s, f1, f2⟩
      · rw [f1, f2]; exact ⟨(OwnSl.nil hs' 1).sl (by simp), fun b hb => (blkOf_nils hb).elim⟩
      · rw [f1]; exact ⟨f2.sl (by simp only [List.length_map]; omega), fun b hb => (f2.blk hb).1⟩
    refine ⟨hs', .inr ⟨c, d, e1, ⟨pm, l, L, W, g1, g2, (aL.mono hs).mono hs', (aW.mono hs).mono hs', fun k => (hparts k).1⟩, fun h'' S k hS => ⟨pm, l, L, W, k.2 _ _ g1 fun h => by have := hS _ h; omega, k.2 _ _ g2 fun h => by have := hS _ h; omega, ?_, ?_, fun j => ?_⟩⟩⟩
    · exact SlAt_keep2 ((aL.mono hs).mono hs') k fun hr b hb h => by have := SlAt_lt hw0 aL hr b hb; have := hS _ h; omega
    · exact SlAt_keep2 ((aW.mono hs).mono hs') k fun hr b hb h => by have := SlAt_lt hw0 aW hr b hb; have := hS _ h; omega
    · exact SlAt_keep2 (hparts j).1 k fun _ b hb h => by have := (hparts j).2 b hb; have := hS _ h; omega
theorem told_ev {h : H} {v : V} {m : Ml} (hw : h.wf) (hm : MlIs h v m) : Ev fnG fastA (.fn 79 [] []) [v] h fun u h' => h.Sub h' ∧ ((check m ≠ 0 ∧ u = .tup [.nilp, .agg (encB zeroB), .int .i64 (check m)]) ∨
    (check m = 0 ∧ (¬ ∃ w, FeasM m allC w) ∧ u = .tup [.nilp, .agg (encB zeroB), .int .i64 7]) ∨
    (check m = 0 ∧ ∃ d b, u = .tup [.ptr d 0, .agg (encB b), .int .i64 0] ∧ DkAt h' d m ∧ ExactM m allC b ∧ Tight m.lots.length (parts m) b)) := by
  refine Ev.gen fun Q q => ?_
  have hm0 := hm
  obtain ⟨L, W, rfl, aL, aW⟩ := hm
  refine Ev_body (fd := c79) rfl rfl rfl ?_
  have s2 : h.Sub ((h.add (.cells .rw [.int .i64 m.errs, L, W])).add (.cells .rw (encB zeroB))) := (by repeat (first | assumption | exact H.Sub.refl (by assumption) | refine H.Sub.add ?_ _ | refine H.Sub.set ?_ (by first | omega | (simp only [H.next_add, H.next_set, H.next_del] <;> omega)) (by first | omega | (simp only [H.next_add, H.next_set, H.next_del] <;> omega)) (by assumption) _))
  simp (maxSteps := 1000000) (implicitDefEqProofs := false) (disch := first | with_reducible rfl | omega | (simp only [nA, nS, nD] <;> omega) | fail) only [c79, go_sem, ↓reduceIte, Nat.reduceEqDiff, Nat.reduceAdd, Nat.reduceSub, Nat.reduceMul, reduceCtorEq, Nat.reduceLeDiff, zerosB]
  refine (opened_keep s2 hw hm0).mono fun u h3 hu => ?_
  obtain ⟨s23, hu⟩ := hu
  have l3 := s23.next
  simp only [H.next_add] at l3
  have s3 := s2.trans s23
  have g2 : h3.get (h.next + 1) = some (.cells .rw (encB zeroB)) := s23.get (by simp (maxSteps := 1000000) (implicitDefEqProofs := false) (disch := first | with_reducible rfl | omega | (simp only [nA, nS, nD] <;> omega) | fail) only [go_sem, ↓reduceIte, Nat.reduceEqDiff, Nat.reduceAdd, Nat.reduceSub, Nat.reduceMul, reduceCtorEq, Nat.reduceLeDiff])
  rcases hu with ⟨c, rfl⟩ | ⟨c, d, rfl, hd, hkeep⟩
  · simp (maxSteps := 1000000) (implicitDefEqProofs := false) (disch := first | with_reducible rfl | omega | (simp only [nA, nS, nD] <;> omega) | fail) only [go_sem, ↓reduceIte, Nat.reduceEqDiff, Nat.reduceAdd, Nat.reduceSub, Nat.reduceMul, reduceCtorEq, Nat.reduceLeDiff, c, ne_eq, not_false_eq_true, zerosB, lenB, put_B zeroB zeroB g2, ld_B]
    exact q _ _ ⟨s3.set (by omega) (by omega) hw _, .inl ⟨c, rfl⟩⟩
  have g := good_of c
  have s34 := (H.Sub.refl s3.wf).add (.cells .rw [.fn 151 [] []])
  simp (maxSteps := 1000000) (implicitDefEqProofs := false) (disch := first | with_reducible rfl | omega | (simp only [nA, nS, nD] <;> omega) | fail) only [go_sem, ↓reduceIte, Nat.reduceEqDiff, Nat.reduceAdd, Nat.reduceSub, Nat.reduceMul, reduceCtorEq, Nat.reduceLeDiff, c, ne_eq, not_true_eq_false, all_ev]
  refine bounds_ev (c := allC) (H.Sub.wf s34) (hd.mono s34) g rfl (fun i _ => all1_pure _ _) _ fun r h4 s44 hr => ?_
  have s4 := s3.trans (s34.trans s44)
  have l4 := (s34.trans s44).next
  have g4 := (s34.trans s44).get g2
  have hz : (h4.add (.cells .rw (encB zeroB))).get h4.next = some (.cells .rw (encB zeroB)) := get_add_new rfl
  rcases tightR_sem g hr with ⟨rfl, hno⟩ | ⟨b, rfl, hex, ht⟩
  · have s45 := (H.Sub.refl s4.wf).add (.cells .rw (encB zeroB))
    have g5 := s45.get g4
    simp (maxSteps := 1000000) (implicitDefEqProofs := false) (disch := first | with_reducible rfl | omega | (simp only [nA, nS, nD] <;> omega) | fail) only [go_sem, ↓reduceIte, Nat.reduceEqDiff, Nat.reduceAdd, Nat.reduceSub, Nat.reduceMul, reduceCtorEq, Nat.reduceLeDiff, tightV, zerosB, lenB, put_B zeroB zeroB hz, put_B zeroB zeroB g5, ld_B]
    exact q _ _ ⟨(s4.trans s45).set (by omega) (by rw [H.next_add]; omega) hw _, .inr (.inl ⟨c, hno, rfl⟩)⟩
  · have s45 := (H.Sub.refl s4.wf).add (.cells .rw (encB b))
    have g5 := s45.get g4
    have e5 : (h4.add (.cells .rw (encB b))).cells h4.next = some (encB b) := cells_add_new rfl
    simp (maxSteps := 1000000) (implicitDefEqProofs := false) (disch := first | with_reducible rfl | omega | (simp only [nA, nS, nD] <;> omega) | fail) only [go_sem, ↓reduceIte, Nat.reduceEqDiff, Nat.reduceAdd, Nat.reduceSub, Nat.reduceMul, reduceCtorEq, Nat.reduceLeDiff, tightV, zerosB, lenB, put_B b zeroB hz, e5, put_B b zeroB g5, ld_B]
    have k6 := (Keeps.of (s34.trans (s44.trans s45)) (fun c => c = h.next + 1)).trans (Keeps.set (h4.add (.cells .rw (encB b))) (h.next + 1) (.cells .rw (encB b)))
    exact q _ _ ⟨(s4.trans s45).set (by omega) (by rw [H.next_add]; omega) hw _, .inr (.inr ⟨c, d, b, rfl, hkeep _ _ k6 (fun c hc => by simp only [H.next_add]; omega), hex, ht⟩)⟩
end Try
end Go.Ab
set_option linter.unusedSimpArgs false
set_option linter.unusedVariables false
namespace Go.Ab.Try
open Go.Ab.Silk
theorem InvB.of {m : Ml} (g : Good m) {b : Box} (ht : Tight m.lots.length (parts m) b) (hn : Nrw (ownB m allC) b) (ho : ∀ j : Int, ¬ (0 ≤ j ∧ j < m.lots.length) → b j = (0, 0)) : ∀ j : Int, 0 ≤ (b j).1 ∧ (b j).1 ≤ 10000 ∧ 0 ≤ (b j).2 ∧ (b j).2 ≤ 10000 := fun j => by
  by_cases hj : 0 ≤ j ∧ j < m.lots.length
  · have h1 := ht.ne j hj.1 hj.2
    have h2 := hn j
    have h3 := ownB_bd g allC j
    omega
  · rw [ho j hj]; simp
end Go.Ab.Try
set_option linter.unusedSimpArgs false
set_option linter.unusedVariables false
namespace Go.Ab.Try
open Go.Ab.Silk
end Go.Ab.Try
set_option linter.unusedSimpArgs false
set_option linter.unusedVariables false
namespace Go.Ab.Try
open Go.Ab.Silk
end Go.Ab.Try
set_option linter.unusedSimpArgs false
set_option linter.unusedVariables false
namespace Go.Ab.Try
open Go.Ab.Silk
def encBo (b : Bool) : List V := [.bool b]
theorem bools_flat (l : List Bool) : (l.map encBo).flatten = l.map V.bool := by
  induction l with
  | nil => rfl
  | cons a l ih => simp [encBo, ih]
theorem bools_put : ∀ (l : List Bool) (i : Nat) (b : Bool), i < l.length → putN i [.bool b] (l.map V.bool) = some ((l.set i b).map V.bool)
  | [], i, b, h => by simp at h
  | a :: l, 0, b, _ => by simp [putN_0, over_s, over_0, consV_some]
  | a :: l, i + 1, b, h => by
    have ih := bools_put l i b (by simpa using h)
    simp only [List.map_cons, putN_s, ih, consV_some, List.set_cons_succ]
theorem repN_bools (n : Nat) (b : Bool) : repN n [V.bool b] = (List.replicate n b).map V.bool := by
  induction n with
  | zero => rfl
  | succ n ih => rw [repN, appN_eq, ih]; rfl
def cOf (l : List Bool) : Nat → Bool := fun k => l.getD k false
theorem cOf_at {l : List Bool} {k : Nat} (h : k < l.length) : cOf l k = l[k] := by
  unfold cOf
  rw [List.getD_eq_getElem?_getD, List.getElem?_eq_getElem h]; rfl
theorem bools_sl {h : H} {b n : Nat} {l : List Bool} (hb : h.cells b = some (l.map V.bool)) (hn : n = l.length) (hl : l.length ≤ 1000000) : SlAt h (.sl b 0 n (.fix n)) 1 (l.map encBo) := by
  subst hn
  refine ⟨fun r hr => by (obtain ⟨b, _, rfl⟩ := List.mem_map.1 hr; rfl), by simp; omega, .inr ⟨b, 0, .fix l.length, _, by simp, .inr hb, ?_⟩⟩
  rw [bools_flat]
  exact getN_full (by simp)
def upTo (n i : Nat) : List Bool := (List.range n).map fun j => decide (j < i)
theorem upTo_len (n i : Nat) : (upTo n i).length = n := by simp [upTo]
theorem upTo_zero (n : Nat) : upTo n 0 = List.replicate n false := by
  refine List.ext_getElem (by simp [upTo]) fun i h1 h2 => ?_
  simp [upTo]
theorem upTo_step {n i : Nat} (h : i < n) : (upTo n i).set i true = upTo n (i + 1) := by
  refine List.ext_getElem (by simp [upTo]) fun k h1 h2 => ?_
  rw [List.getElem_set]
  by_cases e : i = k
  · subst e; simp [upTo]
  · rw [if_neg e]
    simp only [upTo, List.getElem_map, List.getElem_range]
    rw [Bool.eq_iff_iff]; simp; omega
theorem upTo_all (n : Nat) : upTo n n = List.replicate n true := by
  refine List.ext_getElem (by simp [upTo]) fun i h1 h2 => ?_
  rw [upTo_len] at h1
  simp [upTo]; exact h1
theorem All_ev {h : H} {v : V} {m : Ml} (hw : h.wf) (hm : MlIs h v m) (hl : m.wgs.length ≤ 1000) (Q : V → H → Prop) (q : ∀ C h', h.Sub h' → SlAt h' C 1 ((List.replicate m.wgs.length true).map encBo) → Q C h') : Ev fnG fastA (.fn 22 [] []) [v] h Q := by
  obtain ⟨L, W, rfl, aL, aW⟩ := hm
  refine Ev_body (fd := c22) rfl rfl rfl ?_
  have hlenW := aW.lenE
  have s2 : h.Sub ((h.add (.cells .rw [.int .i64 m.errs, L, W])).add (.cells .rw (repN m.wgs.length [.bool false]))) := (by repeat (first | assumption | exact H.Sub.refl (by assumption) | refine H.Sub.add ?_ _ | refine H.Sub.set ?_ (by first | omega | (simp only [H.next_add, H.next_set, H.next_del] <;> omega)) (by first | omega | (simp only [H.next_add, H.next_set, H.next_del] <;> omega)) (by assumption) _))
  simp (maxSteps := 1000000) (implicitDefEqProofs := false) (disch := first | with_reducible rfl | omega | (simp only [nA, nS, nD] <;> omega) | fail) only [c22, go_sem, ↓reduceIte, Nat.reduceEqDiff, Nat.reduceAdd, Nat.reduceSub, Nat.reduceMul, reduceCtorEq, Nat.reduceLeDiff, hlenW, a_msl_nm]
  refine W_count m.wgs.length (fun i s => ∃ tm h', s = ⟨tm, h', []⟩ ∧ h.Sub h' ∧ h.next + 1 < h'.next ∧ h'.get (h.next + 1) = some (.cells .rw ((upTo m.wgs.length i).map V.bool)) ∧ (Opd.t 3).ev tm = .sl (h.next + 1) 0 m.wgs.length (.fix m.wgs.length) ∧ (Opd.t 4).ev tm = .int .i64 (i : Int))
    ?_ ?_ (i := 0) (Nat.zero_le _) ⟨_, _, rfl, s2, by simp only [H.next_add]; omega, by rw [get_add_new (by rw [H.next_add]), repN_bools, upTo_zero], (by simp [ev_c, ev_put] <;> rfl), (by simp [ev_c, ev_put] <;> rfl)⟩
  · rintro i s hi ⟨tm, h', rfl, hs, lt, gb, t3, t4⟩
    have hi' : (i : Int) < (m.wgs.length : Int) := by omega
    have hput := bools_put (upTo m.wgs.length i) i true (by rw [upTo_len]; exact hi)
    rw [upTo_step hi] at hput
    simp (maxSteps := 1000000) (implicitDefEqProofs := false) (disch := first | with_reducible rfl | omega | (simp only [nA, nS, nD] <;> omega) | fail) only [go_sem, ↓reduceIte, Nat.reduceEqDiff, Nat.reduceAdd, Nat.reduceSub, Nat.reduceMul, reduceCtorEq, Nat.reduceLeDiff, t3, t4, hi', q_iad_sl (nat_cst i) hi, Nat.mul_one, gb, hput, wr_succ]
    exact ⟨_, _, rfl, hs.set (by omega) lt hw _, by rw [H.next_set]; exact lt, get_set_same rfl, (by simp [ev_c, ev_put, t3] <;> rfl), (by simp [ev_c, ev_put] <;> rfl)⟩
  · rintro s ⟨tm, h', rfl, hs, lt, gb, t3, t4⟩
    simp (maxSteps := 1000000) (implicitDefEqProofs := false) (disch := first | with_reducible rfl | omega | (simp only [nA, nS, nD] <;> omega) | fail) only [go_sem, ↓reduceIte, Nat.reduceEqDiff, Nat.reduceAdd, Nat.reduceSub, Nat.reduceMul, reduceCtorEq, Nat.reduceLeDiff, t3, t4, Int.lt_irrefl]
    rw [upTo_all] at gb
    exact q _ _ hs (bools_sl (cells_of gb) (by simp) (by simp; omega))
theorem refOwn_ev {h : H} {v C : V} {m : Ml} {cl : List Bool} (hw : h.wf) (hm : MlIs h v m) (g : Good m) (hC : SlAt h C 1 (cl.map encBo)) (hcl : cl.length = m.wgs.length) (lot : Int) (Q : V → H → Prop)
    (q : ∀ h', h.Sub h' → Q (.tup [.int .i64 (ownK m (cOf cl) lot m.wgs.length).1, .int .i64 (ownK m (cOf cl) lot m.wgs.length).2]) h') : Ev fnG fastA (.fn 130 [] []) [v, C, .int .i64 lot] h Q := by
  have hm0 := hm
  obtain ⟨L, W, rfl, aL, aW⟩ := hm
  refine Ev_body (fd := c130) rfl rfl rfl ?_
  have hlenW := aW.lenE
  have gw := g.wgs
  have s2 : h.Sub (h.add (.cells .rw [.int .i64 m.errs, L, W])) := (by repeat (first | assumption | exact H.Sub.refl (by assumption) | refine H.Sub.add ?_ _ | refine H.Sub.set ?_ (by first | omega | (simp only [H.next_add, H.next_set, H.next_del] <;> omega)) (by first | omega | (simp only [H.next_add, H.next_set, H.next_del] <;> omega)) (by assumption) _))
  have g1 : (h.add (.cells .rw [.int .i64 m.errs, L, W])).cells h.next = some [.int .i64 m.errs, L, W] := cells_add_new rfl
  simp (maxSteps := 1000000) (implicitDefEqProofs := false) (disch := first | with_reducible rfl | omega | (simp only [nA, nS, nD] <;> omega) | fail) only [c130, go_sem, ↓reduceIte, Nat.reduceEqDiff, Nat.reduceAdd, Nat.reduceSub, Nat.reduceMul, reduceCtorEq, Nat.reduceLeDiff]
  refine W_count m.wgs.length (fun i s => ∃ tm h', s = ⟨tm, h', []⟩ ∧ (h.add (.cells .rw [.int .i64 m.errs, L, W])).Sub h' ∧ (Opd.t 1).ev tm = C ∧ (Opd.t 2).ev tm = .int .i64 lot ∧ (Opd.t 3).ev tm = .ptr h.next 0 ∧ (Opd.t 8).ev tm = .int .i64 (ownK m (cOf cl) lot i).1 ∧ (Opd.t 9).ev tm = .int .i64 (ownK m (cOf cl) lot i).2 ∧ (Opd.t 10).ev tm = .int .i64 (i : Int))
    ?_ ?_ (i := 0) (Nat.zero_le _) ⟨_, _, rfl, H.Sub.refl s2.wf, (by simp [ev_c, ev_put] <;> rfl), (by simp [ev_c, ev_put] <;> rfl), (by simp [ev_c, ev_put] <;> rfl), (by simp [ev_c, ev_put] <;> rfl), (by simp [ev_c, ev_put] <;> rfl), (by simp [ev_c, ev_put] <;> rfl)⟩
  · rintro i s hi ⟨tm, h', rfl, hs1, t1, t2, t3, t8, t9, t10⟩
    have hi' : (i : Int) < (m.wgs.length : Int) := by omega
    have hic : i < cl.length := by omega
    have hs := s2.trans hs1
    have gm := hs1.cells g1
    obtain ⟨b1, o1, c1, cs1, rfl, hcs1, hq1, hgg1, hn1, hn01⟩ := (hC.mono hs).at hic
    obtain ⟨bb, o, cc, cs, rfl, hcs, hq, hgg, hn, hn0⟩ := (aW.mono hs).at hi
    have hc0 := cOf_at hic
    cases hc : cl[i]
    · rw [hc] at hc0
      simp (maxSteps := 1000000) (implicitDefEqProofs := false) (disch := first | with_reducible rfl | omega | (simp only [nA, nS, nD] <;> omega) | fail) only [go_sem, ↓reduceIte, Nat.reduceEqDiff, Nat.reduceAdd, Nat.reduceSub, Nat.reduceMul, reduceCtorEq, Nat.reduceLeDiff, t1, t2, t3, t8, t9, t10, gm, hlenW, hi', hq1 (nat_cst i), hcs1, hn01 (by omega), encBo, hc, wr_succ]
      exact ⟨_, _, rfl, hs1, (by simp [ev_c, ev_put, t1] <;> rfl), (by simp [ev_c, ev_put, t2] <;> rfl), (by simp [ev_c, ev_put, t3] <;> rfl), by rw [ownK_miss hi (.inl hc0)]; exact (by simp [ev_c, ev_put, t8] <;> rfl), by rw [ownK_miss hi (.inl hc0)]; exact (by simp [ev_c, ev_put, t9] <;> rfl), (by simp [ev_c, ev_put] <;> rfl)⟩
    · rw [hc] at hc0
      by_cases hl : m.wgs[i].lot = lot
      · have hh := ownK_hit hi hc0 hl
        simp (maxSteps := 1000000) (implicitDefEqProofs := false) (disch := first | with_reducible rfl | omega | (simp only [nA, nS, nD] <;> omega) | fail) only [go_sem, ↓reduceIte, Nat.reduceEqDiff, Nat.reduceAdd, Nat.reduceSub, Nat.reduceMul, reduceCtorEq, Nat.reduceLeDiff, t1, t2, t3, t8, t9, t10, gm, hlenW, hi', hq1 (nat_cst i), hcs1, hn01 (by omega), encBo, hc, hq (nat_cst i), hcs, hn0 (by omega), encW, hl]
        refine refSays_ev hs.wf (hm0.mono hs) g hi _ fun h5 s15 => ?_
        simp (maxSteps := 1000000) (implicitDefEqProofs := false) (disch := first | with_reducible rfl | omega | (simp only [nA, nS, nD] <;> omega) | fail) only [go_sem, ↓reduceIte, Nat.reduceEqDiff, Nat.reduceAdd, Nat.reduceSub, Nat.reduceMul, reduceCtorEq, Nat.reduceLeDiff, t1, t2, t3, t8, t9, t10, wr_succ]
        exact ⟨_, _, rfl, hs1.trans s15, (by simp [ev_c, ev_put, t1] <;> rfl), (by simp [ev_c, ev_put, t2] <;> rfl), (by simp [ev_c, ev_put, t3] <;> rfl), by rw [hh]; exact (by simp [ev_c, ev_put] <;> rfl), by rw [hh]; exact (by simp [ev_c, ev_put] <;> rfl), (by simp [ev_c, ev_put] <;> rfl)⟩
      · simp (maxSteps := 1000000) (implicitDefEqProofs := false) (disch := first | with_reducible rfl | omega | (simp only [nA, nS, nD] <;> omega) | fail) only [go_sem, ↓reduceIte, Nat.reduceEqDiff, Nat.reduceAdd, Nat.reduceSub, Nat.reduceMul, reduceCtorEq, Nat.reduceLeDiff, t1, t2, t3, t8, t9, t10, gm, hlenW, hi', hq1 (nat_cst i), hcs1, hn01 (by omega), encBo, hc, hq (nat_cst i), hcs, hn0 (by omega), encW, hl, wr_succ]
        exact ⟨_, _, rfl, hs1, (by simp [ev_c, ev_put, t1] <;> rfl), (by simp [ev_c, ev_put, t2] <;> rfl), (by simp [ev_c, ev_put, t3] <;> rfl), by rw [ownK_miss hi (.inr hl)]; exact (by simp [ev_c, ev_put, t8] <;> rfl), by rw [ownK_miss hi (.inr hl)]; exact (by simp [ev_c, ev_put, t9] <;> rfl), (by simp [ev_c, ev_put] <;> rfl)⟩
  · rintro s ⟨tm, h', rfl, hs1, t1, t2, t3, t8, t9, t10⟩
    simp (maxSteps := 1000000) (implicitDefEqProofs := false) (disch := first | with_reducible rfl | omega | (simp only [nA, nS, nD] <;> omega) | fail) only [go_sem, ↓reduceIte, Nat.reduceEqDiff, Nat.reduceAdd, Nat.reduceSub, Nat.reduceMul, reduceCtorEq, Nat.reduceLeDiff, t1, t2, t3, t8, t9, t10, hs1.cells g1, hlenW, Int.lt_irrefl]
    exact q _ (s2.trans hs1)
def Um (m : Ml) (c : Nat → Bool) : Box := Uo m.lots.length (parts m) (ownB m c)
def OkB (m : Ml) (c : Nat → Bool) (lot : Int) : Prop := ∀ j : Int, 0 ≤ j → j < m.lots.length → Anc (frmAt m) j lot → (Um m c j).1 ≤ (Um m c j).2
theorem OkB_iff {m : Ml} (g : Good m) {c : Nat → Bool} {lot : Int} (l0 : 0 ≤ lot) (l1 : lot < m.lots.length) : OkB m c lot ↔ (Um m c lot).1 ≤ (Um m c lot).2 ∧ ∀ p ∈ parts m lot, OkB m c p := by
  have F := forest g
  constructor
  · intro h
    refine ⟨h lot l0 l1 .self, fun p hp j j0 j1 ha => h j j0 j1 ?_⟩
    obtain ⟨p0, p1, pf⟩ := (F.mem _ _).1 hp
    rw [← pf]; exact .up ha (by omega)
  · rintro ⟨h1, h2⟩ j j0 j1 ha
    cases ha with
    | self => exact h1
    | @up k hk h0 =>
      have hl := hk.le F j0 j1
      exact h2 k ((F.mem _ _).2 ⟨hl.1, by omega, rfl⟩) j j0 j1 hk
theorem Um_bd {m : Ml} (g : Good m) (c : Nat → Bool) {i : Int} (i0 : 0 ≤ i) (i1 : i < m.lots.length) : 0 ≤ (Um m c i).1 ∧ (Um m c i).2 ≤ 10000 := by
  have h1 := Uo_own (forest g) (ownB m c) i0 i1
  have h2 := ownB_bd g c i
  unfold Um; omega
theorem ownB_at {m : Ml} {c : Nat → Bool} {i : Int} (i0 : 0 ≤ i) (i1 : i < m.lots.length) : ownB m c i = ownK m c i m.wgs.length := by unfold ownB boxK; rw [if_pos ⟨i0, i1⟩]
set_option maxHeartbeats 2000000 in
theorem up_ev {m : Ml} (g : Good m) {cl : List Bool} (hcl : cl.length = m.wgs.length) : ∀ (k : Nat) {h : H} {v C : V} (lot : Nat), m.lots.length - lot ≤ k → lot < m.lots.length → h.wf → MlIs h v m → SlAt h C 1 (cl.map encBo) →
    Ev fnG fastA (.fn 76 [] []) [v, C, .int .i64 (lot : Int)] h fun u h' => h.Sub h' ∧ ∃ t lo hi, u = .tup [.int .i64 lo, .int .i64 hi, .bool t] ∧ (t = true ↔ OkB m (cOf cl) (lot : Int)) ∧ (t = true → lo = (Um m (cOf cl) (lot : Int)).1 ∧ hi = (Um m (cOf cl) (lot : Int)).2) := by
  intro k
  induction k with
  | zero => intro h v C lot h1 h2; omega
  | succ k ih =>
    intro h v C lot hk hlot hw hm hC
    refine Ev.gen fun Q q => ?_
    have F := forest g
    have gl := g.lots
    have hm0 := hm
    obtain ⟨L, W, rfl, aL, aW⟩ := hm
    have hl0 : (0 : Int) ≤ (lot : Int) := by omega
    have hl1 : (lot : Int) < (m.lots.length : Int) := by omega
    have hOk := OkB_iff g (c := cOf cl) hl0 hl1
    refine Ev_body (fd := c76) rfl rfl rfl ?_
    have s2 : h.Sub (h.add (.cells .rw [.int .i64 m.errs, L, W])) := (by repeat (first | assumption | exact H.Sub.refl (by assumption) | refine H.Sub.add ?_ _ | refine H.Sub.set ?_ (by first | omega | (simp only [H.next_add, H.next_set, H.next_del] <;> omega)) (by first | omega | (simp only [H.next_add, H.next_set, H.next_del] <;> omega)) (by assumption) _))
    have g1 : (h.add (.cells .rw [.int .i64 m.errs, L, W])).cells h.next = some [.int .i64 m.errs, L, W] := cells_add_new rfl
    simp (maxSteps := 1000000) (implicitDefEqProofs := false) (disch := first | with_reducible rfl | omega | (simp only [nA, nS, nD] <;> omega) | fail) only [c76, go_sem, ↓reduceIte, Nat.reduceEqDiff, Nat.reduceAdd, Nat.reduceSub, Nat.reduceMul, reduceCtorEq, Nat.reduceLeDiff]
    refine refOwn_ev s2.wf (hm0.mono s2) g (hC.mono s2) hcl _ _ fun h3 s23 => ?_
    have s3 := s2.trans s23
    simp (maxSteps := 1000000) (implicitDefEqProofs := false) (disch := first | with_reducible rfl | omega | (simp only [nA, nS, nD] <;> omega) | fail) only [go_sem, ↓reduceIte, Nat.reduceEqDiff, Nat.reduceAdd, Nat.reduceSub, Nat.reduceMul, reduceCtorEq, Nat.reduceLeDiff, s23.cells g1]
    refine refParts_ev s3.wf (hm0.mono s3) g hlot _ fun P h4 oP => ?_
    have s34 := oP.1
    have s4 := s3.trans s34
    have hpl := parts_len m (lot : Int)
    have aP := oP.sl (by simp only [List.length_map]; omega)
    have hlenP := aP.lenE
    obtain ⟨ps, eps⟩ : ∃ ps, parts m (lot : Int) = ps := ⟨_, rfl⟩
    have hps : ∀ p ∈ ps, 0 ≤ p ∧ p < m.lots.length ∧ (lot : Int) < p := fun p hp => by
      obtain ⟨p0, p1, pf⟩ := (F.mem (lot : Int) p).1 (by rw [eps]; exact hp)
      have := F.lt p p0 p1
      omega
    rw [eps] at aP hlenP hpl hOk
    have hown := ownB_at (c := cOf cl) hl0 hl1
    rw [← hown]
    have bdS : ∀ l : List Int, (∀ p ∈ l, p ∈ ps ∧ OkB m (cOf cl) p) → (l.length : Int) ≤ 12 → 0 ≤ sumL (lo1 (Um m (cOf cl))) l ∧ sumL (lo1 (Um m (cOf cl))) l ≤ 120000 ∧ 0 ≤ sumL (hi1 (Um m (cOf cl))) l ∧ sumL (hi1 (Um m (cOf cl))) l ≤ 120000 := fun l h1 h2 => by
      have hb : ∀ p ∈ l, 0 ≤ (Um m (cOf cl) p).1 ∧ (Um m (cOf cl) p).1 ≤ (Um m (cOf cl) p).2 ∧ (Um m (cOf cl) p).2 ≤ 10000 := fun p hp => by
        obtain ⟨p0, p1, _⟩ := hps p (h1 p hp).1
        have a := Um_bd g (cOf cl) p0 p1
        have b := (h1 p hp).2 p p0 p1 .self
        omega
      have e1 : ∀ (l : List Int), sumL (fun _ => (10000 : Int)) l = l.length * 10000 := fun l => by
        induction l with
        | nil => simp [sumL]
        | cons a l ih => simp only [sumL, ih, List.length_cons, Int.natCast_add]; omega
      have a1 := sumL_nonneg (x := lo1 (Um m (cOf cl))) (l := l) fun p hp => (hb p hp).1
      have a2 := sumL_mono (x := lo1 (Um m (cOf cl))) (y := fun _ => 10000) (l := l) fun p hp => by have := hb p hp; simp only [lo1]; omega
      have a3 := sumL_nonneg (x := hi1 (Um m (cOf cl))) (l := l) fun p hp => by have := hb p hp; simp only [hi1]; omega
      have a4 := sumL_mono (x := hi1 (Um m (cOf cl))) (y := fun _ => 10000) (l := l) fun p hp => (hb p hp).2.2
      rw [e1] at a2 a4
      omega
    simp (maxSteps := 1000000) (implicitDefEqProofs := false) (disch := first | with_reducible rfl | omega | (simp only [nA, nS, nD] <;> omega) | fail) only [go_sem, ↓reduceIte, Nat.reduceEqDiff, Nat.reduceAdd, Nat.reduceSub, Nat.reduceMul, reduceCtorEq, Nat.reduceLeDiff]
    refine W_count ps.length (fun j s => ∃ tm h', s = ⟨tm, h', []⟩ ∧ h4.Sub h' ∧ (∀ p ∈ ps.take j, OkB m (cOf cl) p) ∧ (Opd.t 1).ev tm = C ∧ (Opd.t 3).ev tm = .ptr h.next 0 ∧ (Opd.t 9).ev tm = .int .i64 (ownB m (cOf cl) (lot : Int)).1 ∧ (Opd.t 10).ev tm = .int .i64 (ownB m (cOf cl) (lot : Int)).2 ∧ (Opd.t 11).ev tm = P ∧
        (Opd.t 12).ev tm = .int .i64 (sumL (lo1 (Um m (cOf cl))) (ps.take j)) ∧ (Opd.t 13).ev tm = .int .i64 (sumL (hi1 (Um m (cOf cl))) (ps.take j)) ∧ (Opd.t 14).ev tm = .int .i64 (j : Int))
      ?_ ?_ (i := 0) (Nat.zero_le _) ⟨_, _, rfl, H.Sub.refl s4.wf, fun p hp => by simp at hp, (by simp [ev_c, ev_put] <;> rfl), (by simp [ev_c, ev_put] <;> rfl), (by simp [ev_c, ev_put] <;> rfl), (by simp [ev_c, ev_put] <;> rfl), (by simp [ev_c, ev_put] <;> rfl), (by simp [ev_c, ev_put] <;> rfl), (by simp [ev_c, ev_put] <;> rfl), (by simp [ev_c, ev_put] <;> rfl)⟩
    · rintro j s hj ⟨tm, h', rfl, hs, hok, t1, t3, t9, t10, t11, t12, t13, t14⟩
      have hj' : (j : Int) < (ps.length : Int) := by omega
      have hs4 := s4.trans hs
      have gm := (s23.trans (s34.trans hs)).cells g1
      obtain ⟨b2, o2, c2, cs2, rfl, hcs2, hq2, hgg2, hn2, hn02⟩ := (aP.mono hs).at hj
      obtain ⟨p0, p1, p2⟩ := hps _ (List.getElem_mem hj)
      obtain ⟨p, ep⟩ := Int.eq_ofNat_of_zero_le p0
      simp (maxSteps := 1000000) (implicitDefEqProofs := false) (disch := first | with_reducible rfl | omega | (simp only [nA, nS, nD] <;> omega) | fail) only [go_sem, ↓reduceIte, Nat.reduceEqDiff, Nat.reduceAdd, Nat.reduceSub, Nat.reduceMul, reduceCtorEq, Nat.reduceLeDiff, t1, t3, t9, t10, t11, t12, t13, t14, hlenP, hj', gm, hq2 (nat_cst j), hcs2, hn02 (by omega), encI, ep]
      refine (ih p (by omega) (by omega) hs4.wf (hm0.mono hs4) (hC.mono hs4)).mono fun u h5 hu => ?_
      obtain ⟨s45, t, lo, hi, rfl, hiff, hval⟩ := hu
      cases t
      · simp (maxSteps := 1000000) (implicitDefEqProofs := false) (disch := first | with_reducible rfl | omega | (simp only [nA, nS, nD] <;> omega) | fail) only [go_sem, ↓reduceIte, Nat.reduceEqDiff, Nat.reduceAdd, Nat.reduceSub, Nat.reduceMul, reduceCtorEq, Nat.reduceLeDiff, t1, t3, t9, t10, t11, t12, t13, t14, gm, hcs2, hn02 (by omega), encI, ep, Bool.not_false]
        refine q _ _ ⟨hs4.trans s45, false, 0, 0, rfl, ?_, fun h => by cases h⟩
        simp only [Bool.false_eq_true, false_iff]
        intro hb
        have h1 := (hOk.1 hb).2 _ (List.getElem_mem hj)
        rw [ep] at h1
        have := hiff.2 h1
        cases this
      · obtain ⟨rfl, rfl⟩ := hval rfl
        have hokp := hiff.1 rfl
        have hb1 := bdS (ps.take j) (fun p hp => ⟨List.mem_of_mem_take hp, hok p hp⟩) (by simp only [List.length_take]; omega)
        have hup := Um_bd g (cOf cl) (i := (p : Int)) (by omega) (by omega)
        have hup2 := hokp (p : Int) (by omega) (by omega) .self
        have e1 := sum_take (lo1 (Um m (cOf cl))) hj
        have e2 := sum_take (hi1 (Um m (cOf cl))) hj
        rw [ep] at e1 e2
        have f1 : lo1 (Um m (cOf cl)) (p : Int) = (Um m (cOf cl) (p : Int)).1 := rfl
        have f2 : hi1 (Um m (cOf cl)) (p : Int) = (Um m (cOf cl) (p : Int)).2 := rfl
        rw [f1] at e1
        rw [f2] at e2
        simp (maxSteps := 1000000) (implicitDefEqProofs := false) (disch := first | with_reducible rfl | omega | (simp only [nA, nS, nD] <;> omega) | fail) only [go_sem, ↓reduceIte, Nat.reduceEqDiff, Nat.reduceAdd, Nat.reduceSub, Nat.reduceMul, reduceCtorEq, Nat.reduceLeDiff, t1, t3, t9, t10, t11, t12, t13, t14, gm, hcs2, hn02 (by omega), encI, ep, Bool.not_true, wr_in, wr_succ]
        refine ⟨_, _, rfl, hs.trans s45, fun r hr => ?_, (by simp [ev_c, ev_put, t1] <;> rfl), (by simp [ev_c, ev_put, t3] <;> rfl), (by simp [ev_c, ev_put, t9] <;> rfl), (by simp [ev_c, ev_put, t10] <;> rfl), (by simp [ev_c, ev_put, t11] <;> rfl), by rw [e1]; exact (by simp [ev_c, ev_put] <;> rfl), by rw [e2]; exact (by simp [ev_c, ev_put] <;> rfl), (by simp [ev_c, ev_put] <;> rfl)⟩
        rw [List.take_succ_eq_append_getElem hj, List.mem_append, List.mem_singleton] at hr
        rcases hr with hr | rfl
        · exact hok r hr
        · rw [ep]; exact hokp
    · rintro s ⟨tm, h', rfl, hs, hok, t1, t3, t9, t10, t11, t12, t13, t14⟩
      rw [List.take_length] at t12 t13 hok
      have hs4 := s4.trans hs
      by_cases hne : ps = []
      · have h0 : (ps.length : Int) = 0 := by rw [hne]; rfl
        have hU : Um m (cOf cl) (lot : Int) = ownB m (cOf cl) (lot : Int) := Uo_leaf F _ hl0 hl1 (by rw [eps]; exact hne)
        have h00 : ¬ (0 : Int) < 0 := by omega
        have hiff : ((ownB m (cOf cl) (lot : Int)).1 ≤ (ownB m (cOf cl) (lot : Int)).2) ↔ OkB m (cOf cl) (lot : Int) := by
          rw [hOk, hU]; exact ⟨fun h => ⟨h, fun p hp => hok p hp⟩, fun h => h.1⟩
        have h0' : ¬ (0 : Int) < (ps.length : Int) := by omega
        simp (maxSteps := 1000000) (implicitDefEqProofs := false) (disch := first | with_reducible rfl | omega | (simp only [nA, nS, nD] <;> omega) | fail) only [go_sem, ↓reduceIte, Nat.reduceEqDiff, Nat.reduceAdd, Nat.reduceSub, Nat.reduceMul, reduceCtorEq, Nat.reduceLeDiff, t1, t3, t9, t10, t11, t12, t13, t14, hlenP, Int.lt_irrefl, h0', h0, h00]
        exact q _ _ ⟨hs4, _, _, _, rfl, by rw [decide_eq_true_eq]; exact hiff, fun _ => by rw [hU]; exact ⟨rfl, rfl⟩⟩
      · have h0 : (0 : Int) < (ps.length : Int) := by have := List.length_pos_iff.2 hne; omega
        have hU : Um m (cOf cl) (lot : Int) = (max (ownB m (cOf cl) (lot : Int)).1 (sumL (lo1 (Um m (cOf cl))) ps), min (ownB m (cOf cl) (lot : Int)).2 (sumL (hi1 (Um m (cOf cl))) ps)) := by
          have := Uo_node F (ownB m (cOf cl)) hl0 hl1 (by rw [eps]; exact hne)
          rw [eps] at this; exact this
        have hiff : (max (ownB m (cOf cl) (lot : Int)).1 (sumL (lo1 (Um m (cOf cl))) ps) ≤ min (ownB m (cOf cl) (lot : Int)).2 (sumL (hi1 (Um m (cOf cl))) ps)) ↔ OkB m (cOf cl) (lot : Int) := by
          rw [hOk, hU]; exact ⟨fun h => ⟨h, fun p hp => hok p hp⟩, fun h => h.1⟩
        simp (maxSteps := 1000000) (implicitDefEqProofs := false) (disch := first | with_reducible rfl | omega | (simp only [nA, nS, nD] <;> omega) | fail) only [go_sem, ↓reduceIte, Nat.reduceEqDiff, Nat.reduceAdd, Nat.reduceSub, Nat.reduceMul, reduceCtorEq, Nat.reduceLeDiff, t1, t3, t9, t10, t11, t12, t13, t14, hlenP, Int.lt_irrefl, h0]
        exact q _ _ ⟨hs4, _, _, _, rfl, by rw [decide_eq_true_eq]; exact hiff, fun _ => by rw [hU]; exact ⟨rfl, rfl⟩⟩
theorem OkB_all {m : Ml} {c : Nat → Bool} : (∀ i : Int, 0 ≤ i → i < m.lots.length → OkB m c i) ↔ ∀ i : Int, 0 ≤ i → i < m.lots.length → (Um m c i).1 ≤ (Um m c i).2 :=
  ⟨fun h i i0 i1 => h i i0 i1 i i0 i1 .self, fun h i _ _ j j0 j1 _ => h j j0 j1⟩
theorem agree_iff {m : Ml} (g : Good m) {c : Nat → Bool} : (∃ w, FeasM m c w) ↔ ∀ i : Int, 0 ≤ i → i < m.lots.length → (Um m c i).1 ≤ (Um m c i).2 := by
  have gl := g.lots
  exact feas_iff (forest g) (ownB m c) (by omega)
theorem refAgree_ev {h : H} {v C : V} {m : Ml} {cl : List Bool} (hw : h.wf) (hm : MlIs h v m) (g : Good m) (hC : SlAt h C 1 (cl.map encBo)) (hcl : cl.length = m.wgs.length) :
    Ev fnG fastA (.fn 21 [] []) [v, C] h fun u h' => h.Sub h' ∧ ∃ t, u = .bool t ∧ (t = true ↔ ∃ w, FeasM m (cOf cl) w) := by
  refine Ev.gen fun Q q => ?_
  have gl := g.lots
  have hm0 := hm
  obtain ⟨L, W, rfl, aL, aW⟩ := hm
  refine Ev_body (fd := c21) rfl rfl rfl ?_
  have hlenL := aL.lenE
  have s2 : h.Sub (h.add (.cells .rw [.int .i64 m.errs, L, W])) := (by repeat (first | assumption | exact H.Sub.refl (by assumption) | refine H.Sub.add ?_ _ | refine H.Sub.set ?_ (by first | omega | (simp only [H.next_add, H.next_set, H.next_del] <;> omega)) (by first | omega | (simp only [H.next_add, H.next_set, H.next_del] <;> omega)) (by assumption) _))
  have g1 : (h.add (.cells .rw [.int .i64 m.errs, L, W])).cells h.next = some [.int .i64 m.errs, L, W] := cells_add_new rfl
  simp (maxSteps := 1000000) (implicitDefEqProofs := false) (disch := first | with_reducible rfl | omega | (simp only [nA, nS, nD] <;> omega) | fail) only [c21, go_sem, ↓reduceIte, Nat.reduceEqDiff, Nat.reduceAdd, Nat.reduceSub, Nat.reduceMul, reduceCtorEq, Nat.reduceLeDiff]
  refine W_count m.lots.length (fun i s => ∃ tm h', s = ⟨tm, h', []⟩ ∧ (h.add (.cells .rw [.int .i64 m.errs, L, W])).Sub h' ∧ (∀ j : Int, 0 ≤ j → j < i → OkB m (cOf cl) j) ∧ (Opd.t 1).ev tm = C ∧ (Opd.t 2).ev tm = .ptr h.next 0 ∧ (Opd.t 5).ev tm = .int .i64 (i : Int))
    ?_ ?_ (i := 0) (Nat.zero_le _) ⟨_, _, rfl, H.Sub.refl s2.wf, fun j j0 j1 => by omega, (by simp [ev_c, ev_put] <;> rfl), (by simp [ev_c, ev_put] <;> rfl), (by simp [ev_c, ev_put] <;> rfl)⟩
  · rintro i s hi ⟨tm, h', rfl, hs1, hok, t1, t2, t5⟩
    have hi' : (i : Int) < (m.lots.length : Int) := by omega
    have hs := s2.trans hs1
    simp (maxSteps := 1000000) (implicitDefEqProofs := false) (disch := first | with_reducible rfl | omega | (simp only [nA, nS, nD] <;> omega) | fail) only [go_sem, ↓reduceIte, Nat.reduceEqDiff, Nat.reduceAdd, Nat.reduceSub, Nat.reduceMul, reduceCtorEq, Nat.reduceLeDiff, t1, t2, t5, hs1.cells g1, hlenL, hi']
    refine (up_ev g hcl _ i (Nat.le_refl _) hi hs.wf (hm0.mono hs) (hC.mono hs)).mono fun u h5 hu => ?_
    obtain ⟨s15, t, lo, hi2, rfl, hiff, hval⟩ := hu
    cases t
    · simp (maxSteps := 1000000) (implicitDefEqProofs := false) (disch := first | with_reducible rfl | omega | (simp only [nA, nS, nD] <;> omega) | fail) only [go_sem, ↓reduceIte, Nat.reduceEqDiff, Nat.reduceAdd, Nat.reduceSub, Nat.reduceMul, reduceCtorEq, Nat.reduceLeDiff, t1, t2, t5, Bool.not_false]
      refine q _ _ ⟨hs.trans s15, false, rfl, ?_⟩
      simp only [Bool.false_eq_true, false_iff, agree_iff g]
      intro hall
      have := hiff.2 (OkB_all.2 hall (i : Int) (by omega) hi')
      cases this
    · simp (maxSteps := 1000000) (implicitDefEqProofs := false) (disch := first | with_reducible rfl | omega | (simp only [nA, nS, nD] <;> omega) | fail) only [go_sem, ↓reduceIte, Nat.reduceEqDiff, Nat.reduceAdd, Nat.reduceSub, Nat.reduceMul, reduceCtorEq, Nat.reduceLeDiff, t1, t2, t5, Bool.not_true, wr_succ]
      refine ⟨_, _, rfl, hs1.trans s15, fun j j0 j1 => ?_, (by simp [ev_c, ev_put, t1] <;> rfl), (by simp [ev_c, ev_put, t2] <;> rfl), (by simp [ev_c, ev_put] <;> rfl)⟩
      by_cases e : j = (i : Int)
      · subst e; exact hiff.1 rfl
      · exact hok j j0 (by omega)
  · rintro s ⟨tm, h', rfl, hs1, hok, t1, t2, t5⟩
    simp (maxSteps := 1000000) (implicitDefEqProofs := false) (disch := first | with_reducible rfl | omega | (simp only [nA, nS, nD] <;> omega) | fail) only [go_sem, ↓reduceIte, Nat.reduceEqDiff, Nat.reduceAdd, Nat.reduceSub, Nat.reduceMul, reduceCtorEq, Nat.reduceLeDiff, t1, t2, t5, hs1.cells g1, hlenL, Int.lt_irrefl]
    refine q _ _ ⟨s2.trans hs1, true, rfl, ?_⟩
    simp only [true_iff, agree_iff g]
    exact OkB_all.1 hok
theorem cOf_all (m : Ml) {k : Nat} (hk : k < m.wgs.length) : cOf (List.replicate m.wgs.length true) k = true := by
  rw [cOf_at (by simpa using hk)]; simp
theorem ownK_congr {m : Ml} {c c' : Nat → Bool} {lot : Int} : ∀ k, k ≤ m.wgs.length → (∀ j, j < m.wgs.length → c j = c' j) → ownK m c lot k = ownK m c' lot k
  | 0, _, _ => rfl
  | k + 1, hk, h => by
    have ih := ownK_congr (lot := lot) k (by omega) h
    simp only [ownK]
    rw [List.getElem?_eq_getElem (by omega : k < m.wgs.length)]
    simp only
    rw [h k (by omega), ih]
theorem ownB_congr {m : Ml} {c c' : Nat → Bool} (h : ∀ j, j < m.wgs.length → c j = c' j) : ownB m c = ownB m c' := by
  funext lot
  unfold ownB boxK
  rw [ownK_congr m.wgs.length (Nat.le_refl _) h]
theorem own_all (m : Ml) : ownB m (cOf (List.replicate m.wgs.length true)) = ownB m allC := ownB_congr fun j hj => cOf_all m hj
def Dm (m : Ml) : Box := Do m.lots.length (frmAt m) (parts m) (Um m allC)
theorem Dm_exact {m : Ml} (g : Good m) (h : ∃ w, FeasM m allC w) : Exact m.lots.length (parts m) (ownB m allC) (Dm m) := exact_ref (forest g) ((agree_iff g).1 h)
theorem sumL_up1_take {x : Int → Int} {i : Int} {l : List Int} {j : Nat} (hj : j < l.length) : sumL (up1 x i 0) (l.take (j + 1)) = sumL (up1 x i 0) (l.take j) + (if l[j] = i then 0 else x l[j]) := by
  rw [sum_take _ hj]; rfl
set_option maxHeartbeats 2000000 in
theorem refBounds_ev {m : Ml} (g : Good m) (hag : ∃ w, FeasM m allC w) : ∀ (k : Nat) {h : H} {v : V} (lot : Nat), lot < k → lot < m.lots.length → h.wf → MlIs h v m →
    ∀ (Q : V → H → Prop), (∀ h', h.Sub h' → Q (.agg [.int .i64 (Dm m (lot : Int)).1, .int .i64 (Dm m (lot : Int)).2]) h') → Ev fnG fastA (.fn 23 [] []) [v, .int .i64 (lot : Int)] h Q := by
  intro k
  induction k with
  | zero => intro h v lot h1; omega
  | succ k ih =>
    intro h v lot hk hlot hw hm Q q
    have F := forest g
    have gl := g.lots
    have gw := g.wgs
    have hm0 := hm
    obtain ⟨L, W, rfl, aL, aW⟩ := hm
    have hl0 : (0 : Int) ≤ (lot : Int) := by omega
    have hl1 : (lot : Int) < (m.lots.length : Int) := by omega
    have hall := (agree_iff g).1 hag
    have hUm : ∀ i : Int, 0 ≤ i → i < m.lots.length → 0 ≤ (Um m allC i).1 ∧ (Um m allC i).1 ≤ (Um m allC i).2 ∧ (Um m allC i).2 ≤ 10000 := fun i i0 i1 => by
      have a := Um_bd g allC i0 i1
      have b := hall i i0 i1
      omega
    have hUall : Um m (cOf (List.replicate m.wgs.length true)) = Um m allC := by unfold Um; rw [own_all]
    have upu : ∀ {h' : H} (lt : Nat), lt < m.lots.length → h.Sub h' → ∀ {C : V}, SlAt h' C 1 ((List.replicate m.wgs.length true).map encBo) → ∀ (R : V → H → Prop), (∀ h2, h'.Sub h2 → R (.tup [.int .i64 (Um m allC (lt : Int)).1, .int .i64 (Um m allC (lt : Int)).2, .bool true]) h2) →
        Ev fnG fastA (.fn 76 [] []) [.agg [.int .i64 m.errs, L, W], C, .int .i64 (lt : Int)] h' R := fun {h'} lt hlt hs {C} hC R r => by
      refine (up_ev g (cl := List.replicate m.wgs.length true) (by simp) _ lt (Nat.le_refl _) hlt hs.wf (hm0.mono hs) hC).mono fun u h2 hu => ?_
      obtain ⟨s12, t, lo, hi, rfl, hiff, hval⟩ := hu
      have ht : t = true := hiff.2 (by
        intro j j0 j1 _
        rw [hUall]; exact hall j j0 j1)
      subst ht
      obtain ⟨rfl, rfl⟩ := hval rfl
      rw [hUall]; exact r h2 s12
    refine Ev_body (fd := c23) rfl rfl rfl ?_
    have s2 : h.Sub ((h.add (.cells .rw [.int .i64 m.errs, L, W])).add (.cells .rw [.int .i64 0, .int .i64 0])) := (by repeat (first | assumption | exact H.Sub.refl (by assumption) | refine H.Sub.add ?_ _ | refine H.Sub.set ?_ (by first | omega | (simp only [H.next_add, H.next_set, H.next_del] <;> omega)) (by first | omega | (simp only [H.next_add, H.next_set, H.next_del] <;> omega)) (by assumption) _))
    have g1 : ((h.add (.cells .rw [.int .i64 m.errs, L, W])).add (.cells .rw [.int .i64 0, .int .i64 0])).cells h.next = some [.int .i64 m.errs, L, W] := by simp (maxSteps := 1000000) (implicitDefEqProofs := false) (disch := first | with_reducible rfl | omega | (simp only [nA, nS, nD] <;> omega) | fail) only [go_sem, ↓reduceIte, Nat.reduceEqDiff, Nat.reduceAdd, Nat.reduceSub, Nat.reduceMul, reduceCtorEq, Nat.reduceLeDiff]
    have gr : ((h.add (.cells .rw [.int .i64 m.errs, L, W])).add (.cells .rw [.int .i64 0, .int .i64 0])).get (h.next + 1) = some (.cells .rw [.int .i64 0, .int .i64 0]) := by simp (maxSteps := 1000000) (implicitDefEqProofs := false) (disch := first | with_reducible rfl | omega | (simp only [nA, nS, nD] <;> omega) | fail) only [go_sem, ↓reduceIte, Nat.reduceEqDiff, Nat.reduceAdd, Nat.reduceSub, Nat.reduceMul, reduceCtorEq, Nat.reduceLeDiff]
    have l2 : ((h.add (.cells .rw [.int .i64 m.errs, L, W])).add (.cells .rw [.int .i64 0, .int .i64 0])).next = h.next + 2 := by simp only [H.next_add]
    simp (maxSteps := 1000000) (implicitDefEqProofs := false) (disch := first | with_reducible rfl | omega | (simp only [nA, nS, nD] <;> omega) | fail) only [c23, go_sem, ↓reduceIte, Nat.reduceEqDiff, Nat.reduceAdd, Nat.reduceSub, Nat.reduceMul, reduceCtorEq, Nat.reduceLeDiff]
    generalize (h.add (.cells .rw [.int .i64 m.errs, L, W])).add (.cells .rw [.int .i64 0, .int .i64 0]) = h2 at s2 g1 gr l2 ⊢
    refine All_ev s2.wf (hm0.mono s2) (by omega) _ fun C h3 s23 aC => ?_
    have s3 := s2.trans s23
    simp (maxSteps := 1000000) (implicitDefEqProofs := false) (disch := first | with_reducible rfl | omega | (simp only [nA, nS, nD] <;> omega) | fail) only [go_sem, ↓reduceIte, Nat.reduceEqDiff, Nat.reduceAdd, Nat.reduceSub, Nat.reduceMul, reduceCtorEq, Nat.reduceLeDiff]
    refine upu lot hlot s3 aC _ fun h4 s34 => ?_
    have s24 := s23.trans s34
    have s4 := s2.trans s24
    have l4 := s24.next
    obtain ⟨b1, o1, c1, cs1, rfl, hcs1, hq1, hgg1, hn1, hn01⟩ := (aL.mono s4).at hlot
    have hfr := frmAt_nat hlot
    have hflt := F.lt (lot : Int) hl0 hl1
    have hD := Do_eq F (Um m allC) hl0 hl1
    by_cases hf : m.lots[lot].frm < 0
    · rw [if_pos (by omega)] at hD
      simp (maxSteps := 1000000) (implicitDefEqProofs := false) (disch := first | with_reducible rfl | omega | (simp only [nA, nS, nD] <;> omega) | fail) only [go_sem, ↓reduceIte, Nat.reduceEqDiff, Nat.reduceAdd, Nat.reduceSub, Nat.reduceMul, reduceCtorEq, Nat.reduceLeDiff, g1, s23.cells g1, s24.cells g1, hq1 (nat_cst lot), hcs1, hn01 (by omega), encL, hf, s24.get gr]
      have hq := q _ (s4.set (b := h.next + 1) (by omega) (by omega) hw (.cells .rw [.int .i64 (Um m allC (lot : Int)).1, .int .i64 (Um m allC (lot : Int)).2]))
      have e : Dm m (lot : Int) = Um m allC (lot : Int) := hD
      rw [e] at hq; exact hq
    rw [if_neg (by omega)] at hD
    obtain ⟨fr, efr⟩ := Int.eq_ofNat_of_zero_le (show 0 ≤ m.lots[lot].frm by omega)
    have hfr' : frmAt m (lot : Int) = (fr : Int) := by rw [hfr, efr]
    rw [hfr'] at hD
    simp (maxSteps := 1000000) (implicitDefEqProofs := false) (disch := first | with_reducible rfl | omega | (simp only [nA, nS, nD] <;> omega) | fail) only [go_sem, ↓reduceIte, Nat.reduceEqDiff, Nat.reduceAdd, Nat.reduceSub, Nat.reduceMul, reduceCtorEq, Nat.reduceLeDiff, g1, s23.cells g1, s24.cells g1, hq1 (nat_cst lot), hcs1, hn01 (by omega), encL, hf]
    rw [efr]
    refine ih fr (by omega) (by omega) s4.wf (hm0.mono s4) _ fun h5 s45 => ?_
    have s5 := s4.trans s45
    have s25 := s24.trans s45
    have s56 := (H.Sub.refl s5.wf).add (.cells .rw [.int .i64 (Dm m (fr : Int)).1, .int .i64 (Dm m (fr : Int)).2])
    have s6 := s5.trans s56
    have s26 := s25.trans s56
    have g6 := s26.cells g1
    have l5 := s25.next
    simp (maxSteps := 1000000) (implicitDefEqProofs := false) (disch := first | with_reducible rfl | omega | (simp only [nA, nS, nD] <;> omega) | fail) only [go_sem, ↓reduceIte, Nat.reduceEqDiff, Nat.reduceAdd, Nat.reduceSub, Nat.reduceMul, reduceCtorEq, Nat.reduceLeDiff, g6]
    refine refParts_ev s6.wf (hm0.mono s6) g (by omega : fr < m.lots.length) _ fun P h7 oP => ?_
    have s67 := oP.1
    have s7 := s6.trans s67
    have hpl := parts_len m (fr : Int)
    have aP := oP.sl (by simp only [List.length_map]; omega)
    have hlenP := aP.lenE
    obtain ⟨ps, eps⟩ : ∃ ps, parts m (fr : Int) = ps := ⟨_, rfl⟩
    have hps : ∀ p ∈ ps, 0 ≤ p ∧ p < m.lots.length := fun p hp => by
      obtain ⟨p0, p1, pf⟩ := (F.mem (fr : Int) p).1 (by rw [eps]; exact hp)
      exact ⟨p0, p1⟩
    have hmem : (lot : Int) ∈ ps := by rw [← eps]; exact (F.mem _ _).2 ⟨hl0, hl1, hfr'⟩
    have hnd : ps.Nodup := by rw [← eps]; exact F.nodup _
    have hlo := sumL_up1 (x := lo1 (Um m allC)) (v := 0) hnd hmem
    have hhi := sumL_up1 (x := hi1 (Um m allC)) (v := 0) hnd hmem
    rw [eps] at aP hlenP hpl hD
    have bdS : ∀ l : List Int, (∀ p ∈ l, p ∈ ps) → (l.length : Int) ≤ 12 → 0 ≤ sumL (up1 (lo1 (Um m allC)) (lot : Int) 0) l ∧ sumL (up1 (lo1 (Um m allC)) (lot : Int) 0) l ≤ 120000 ∧ 0 ≤ sumL (up1 (hi1 (Um m allC)) (lot : Int) 0) l ∧ sumL (up1 (hi1 (Um m allC)) (lot : Int) 0) l ≤ 120000 := fun l h1 h2 => by
      have e1 : ∀ (l : List Int), sumL (fun _ => (10000 : Int)) l = l.length * 10000 := fun l => by
        induction l with
        | nil => simp [sumL]
        | cons a l ih => simp only [sumL, ih, List.length_cons, Int.natCast_add]; omega
      have hb : ∀ p ∈ l, 0 ≤ (up1 (lo1 (Um m allC)) (lot : Int) 0) p ∧ (up1 (lo1 (Um m allC)) (lot : Int) 0) p ≤ 10000 ∧ 0 ≤ (up1 (hi1 (Um m allC)) (lot : Int) 0) p ∧ (up1 (hi1 (Um m allC)) (lot : Int) 0) p ≤ 10000 := fun p hp => by
        obtain ⟨p0, p1⟩ := hps p (h1 p hp)
        have := hUm p p0 p1
        simp only [up1, lo1, hi1]
        split <;> omega
      have a1 := sumL_nonneg (l := l) fun p hp => (hb p hp).1
      have a2 := sumL_mono (y := fun _ => 10000) (l := l) fun p hp => (hb p hp).2.1
      have a3 := sumL_nonneg (l := l) fun p hp => (hb p hp).2.2.1
      have a4 := sumL_mono (y := fun _ => 10000) (l := l) fun p hp => (hb p hp).2.2.2
      rw [e1] at a2 a4
      omega
    have hDf := Do_in F (Um m allC) (i := (fr : Int)) (by omega) (by omega)
    have hUf := hUm (fr : Int) (by omega) (by omega)
    have hDm : Dm m (fr : Int) = Do m.lots.length (frmAt m) (parts m) (Um m allC) (fr : Int) := rfl
    rw [← hDm] at hDf hD
    have hDfb : 0 ≤ (Dm m (fr : Int)).1 ∧ (Dm m (fr : Int)).1 ≤ 10000 ∧ 0 ≤ (Dm m (fr : Int)).2 ∧ (Dm m (fr : Int)).2 ≤ 10000 := by
      have := (Dm_exact g hag).ne (fr : Int) (by omega) (by omega)
      omega
    simp (maxSteps := 1000000) (implicitDefEqProofs := false) (disch := first | with_reducible rfl | omega | (simp only [nA, nS, nD] <;> omega) | fail) only [go_sem, ↓reduceIte, Nat.reduceEqDiff, Nat.reduceAdd, Nat.reduceSub, Nat.reduceMul, reduceCtorEq, Nat.reduceLeDiff]
    refine W_count ps.length (fun j s => ∃ tm h', s = ⟨tm, h', []⟩ ∧ h7.Sub h' ∧ (Opd.t 1).ev tm = .int .i64 (lot : Int) ∧ (Opd.t 2).ev tm = .ptr h.next 0 ∧ (Opd.t 4).ev tm = .ptr (h.next + 1) 0 ∧ (Opd.t 5).ev tm = .int .i64 (Um m allC (lot : Int)).1 ∧ (Opd.t 6).ev tm = .int .i64 (Um m allC (lot : Int)).2 ∧
        (Opd.t 10).ev tm = .int .i64 ((Dm m (fr : Int)).1 - sumL (up1 (hi1 (Um m allC)) (lot : Int) 0) (ps.take j)) ∧ (Opd.t 11).ev tm = .int .i64 ((Dm m (fr : Int)).2 - sumL (up1 (lo1 (Um m allC)) (lot : Int) 0) (ps.take j)) ∧ (Opd.t 12).ev tm = P ∧ (Opd.t 13).ev tm = .int .i64 (j : Int))
      ?_ ?_ (i := 0) (Nat.zero_le _) ⟨_, _, rfl, H.Sub.refl s7.wf, (by simp [ev_c, ev_put] <;> rfl), (by simp [ev_c, ev_put] <;> rfl), (by simp [ev_c, ev_put] <;> rfl), (by simp [ev_c, ev_put] <;> rfl), (by simp [ev_c, ev_put] <;> rfl), by (simp only [List.take_zero, sumL, Int.sub_zero]; exact (by simp [ev_c, ev_put] <;> rfl)), by (simp only [List.take_zero, sumL, Int.sub_zero]; exact (by simp [ev_c, ev_put] <;> rfl)), (by simp [ev_c, ev_put] <;> rfl), (by simp [ev_c, ev_put] <;> rfl)⟩
    · rintro j s hj ⟨tm, h', rfl, hs, t1, t2, t4, t5, t6, t10, t11, t12, t13⟩
      have hj' : (j : Int) < (ps.length : Int) := by omega
      have hs7 := s7.trans hs
      have gm := (s26.trans (s67.trans hs)).cells g1
      obtain ⟨b2, o2, c2, cs2, rfl, hcs2, hq2, hgg2, hn2, hn02⟩ := (aP.mono hs).at hj
      obtain ⟨p0, p1⟩ := hps _ (List.getElem_mem hj)
      obtain ⟨p, ep⟩ := Int.eq_ofNat_of_zero_le p0
      have e1 := sumL_up1_take (x := lo1 (Um m allC)) (i := (lot : Int)) hj
      have e2 := sumL_up1_take (x := hi1 (Um m allC)) (i := (lot : Int)) hj
      have hb1 := bdS (ps.take j) (fun p hp => List.mem_of_mem_take hp) (by simp only [List.length_take]; omega)
      rw [ep] at e1 e2
      by_cases hpe : (p : Int) = (lot : Int)
      · rw [if_pos hpe, Int.add_zero] at e1 e2
        simp (maxSteps := 1000000) (implicitDefEqProofs := false) (disch := first | with_reducible rfl | omega | (simp only [nA, nS, nD] <;> omega) | fail) only [go_sem, ↓reduceIte, Nat.reduceEqDiff, Nat.reduceAdd, Nat.reduceSub, Nat.reduceMul, reduceCtorEq, Nat.reduceLeDiff, t1, t2, t4, t5, t6, t10, t11, t12, t13, hlenP, hj', hq2 (nat_cst j), hcs2, hn02 (by omega), encI, ep, ne_eq, hpe, not_true_eq_false, wr_succ]
        exact ⟨_, _, rfl, hs, (by simp [ev_c, ev_put, t1] <;> rfl), (by simp [ev_c, ev_put, t2] <;> rfl), (by simp [ev_c, ev_put, t4] <;> rfl), (by simp [ev_c, ev_put, t5] <;> rfl), (by simp [ev_c, ev_put, t6] <;> rfl), by rw [e2]; exact (by simp [ev_c, ev_put, t10] <;> rfl), by rw [e1]; exact (by simp [ev_c, ev_put, t11] <;> rfl), (by simp [ev_c, ev_put, t12] <;> rfl), (by simp [ev_c, ev_put] <;> rfl)⟩
      · rw [if_neg hpe] at e1 e2
        have f1 : lo1 (Um m allC) (p : Int) = (Um m allC (p : Int)).1 := rfl
        have f2 : hi1 (Um m allC) (p : Int) = (Um m allC (p : Int)).2 := rfl
        rw [f1] at e1
        rw [f2] at e2
        have hup := hUm (p : Int) (by omega) (by omega)
        simp (maxSteps := 1000000) (implicitDefEqProofs := false) (disch := first | with_reducible rfl | omega | (simp only [nA, nS, nD] <;> omega) | fail) only [go_sem, ↓reduceIte, Nat.reduceEqDiff, Nat.reduceAdd, Nat.reduceSub, Nat.reduceMul, reduceCtorEq, Nat.reduceLeDiff, t1, t2, t4, t5, t6, t10, t11, t12, t13, hlenP, hj', hq2 (nat_cst j), hcs2, hn02 (by omega), encI, ep, ne_eq, hpe, not_false_eq_true, gm]
        refine All_ev hs7.wf (hm0.mono hs7) (by omega) _ fun C2 h8 s78 aC2 => ?_
        have hcs8 := s78.cells hcs2
        have gm8 := s78.cells gm
        simp (maxSteps := 1000000) (implicitDefEqProofs := false) (disch := first | with_reducible rfl | omega | (simp only [nA, nS, nD] <;> omega) | fail) only [go_sem, ↓reduceIte, Nat.reduceEqDiff, Nat.reduceAdd, Nat.reduceSub, Nat.reduceMul, reduceCtorEq, Nat.reduceLeDiff, t1, t2, t4, t5, t6, t10, t11, t12, t13, hq2 (nat_cst j), hcs8, hn02 (by omega), encI, ep]
        refine upu p (by omega) (hs7.trans s78) aC2 _ fun h9 s89 => ?_
        have hcs9 := s89.cells hcs8
        have gm9 := s89.cells gm8
        simp (maxSteps := 1000000) (implicitDefEqProofs := false) (disch := first | with_reducible rfl | omega | (simp only [nA, nS, nD] <;> omega) | fail) only [go_sem, ↓reduceIte, Nat.reduceEqDiff, Nat.reduceAdd, Nat.reduceSub, Nat.reduceMul, reduceCtorEq, Nat.reduceLeDiff, t1, t2, t4, t5, t6, t10, t11, t12, t13, hq2 (nat_cst j), hcs2, hcs8, hcs9, hn02 (by omega), encI, ep, gm, gm8, gm9, wr_in, wr_succ]
        exact ⟨_, _, rfl, hs.trans (s78.trans s89), (by simp [ev_c, ev_put, t1] <;> rfl), (by simp [ev_c, ev_put, t2] <;> rfl), (by simp [ev_c, ev_put, t4] <;> rfl), (by simp [ev_c, ev_put, t5] <;> rfl), (by simp [ev_c, ev_put, t6] <;> rfl), by rw [e2, ← Int.sub_sub]; exact (by simp [ev_c, ev_put] <;> rfl), by rw [e1, ← Int.sub_sub]; exact (by simp [ev_c, ev_put] <;> rfl), (by simp [ev_c, ev_put, t12] <;> rfl), (by simp [ev_c, ev_put] <;> rfl)⟩
    · rintro s ⟨tm, h', rfl, hs, t1, t2, t4, t5, t6, t10, t11, t12, t13⟩
      rw [List.take_length] at t10 t11
      rw [hhi] at t10
      rw [hlo] at t11
      have sAll := s26.trans (s67.trans hs)
      have lA := sAll.next
      simp (maxSteps := 1000000) (implicitDefEqProofs := false) (disch := first | with_reducible rfl | omega | (simp only [nA, nS, nD] <;> omega) | fail) only [go_sem, ↓reduceIte, Nat.reduceEqDiff, Nat.reduceAdd, Nat.reduceSub, Nat.reduceMul, reduceCtorEq, Nat.reduceLeDiff, t1, t2, t4, t5, t6, t10, t11, t12, t13, hlenP, Int.lt_irrefl, sAll.get gr]
      have hq := q _ ((s7.trans hs).set (b := h.next + 1) (by omega) (by omega) hw (.cells .rw [.int .i64 (Dm m (lot : Int)).1, .int .i64 (Dm m (lot : Int)).2]))
      have e : Dm m (lot : Int) = (max (Um m allC (lot : Int)).1 ((Dm m (fr : Int)).1 - (sumL (hi1 (Um m allC)) ps - hi1 (Um m allC) (lot : Int) + 0)), min (Um m allC (lot : Int)).2 ((Dm m (fr : Int)).2 - (sumL (lo1 (Um m allC)) ps - lo1 (Um m allC) (lot : Int) + 0))) := by
        rw [Int.add_zero, Int.add_zero]; exact hD
      rw [e] at hq; exact hq
end Go.Ab.Try
set_option linter.unusedSimpArgs false
set_option linter.unusedVariables false
namespace Go.Ab.Try
open Go.Ab.Silk
def kindAt (m : Ml) (i : Int) : Int := if h : i.toNat < m.lots.length then m.lots[i.toNat].kind else 0
theorem kindAt_at {m : Ml} {i : Nat} (h : i < m.lots.length) : kindAt m (i : Int) = m.lots[i].kind := by unfold kindAt; simp [h]
def chK (m : Ml) (p : Int → Bool) : Int → Bool := fun i => p (kindAt m i)
def shM (m : Ml) (b : Box) (p : Int → Bool) : Box := sh m.lots.length (parts m) b (chK m p)
theorem conB {m : Ml} (g : Good m) {b : Box} (h : ExactM m allC b) (t : Tight m.lots.length (parts m) b) : Con m.lots.length (parts m) b := ⟨fun i _ _ => (h.bd g i).1, t.ne, t.node⟩
theorem conU {m : Ml} (g : Good m) (h : ∃ w, FeasM m allC w) : Con m.lots.length (parts m) (Um m allC) := by
  refine ⟨fun i i0 i1 => (Um_bd g allC i0 i1).1, (agree_iff g).1 h, fun i i0 i1 hp => ?_⟩
  unfold Um
  rw [Uo_node (forest g) (ownB m allC) i0 i1 hp]
  simp only; omega
theorem feasU {m : Ml} (g : Good m) (w : Int → Int) : Feas m.lots.length (parts m) (Um m allC) w ↔ FeasM m allC w := by
  constructor
  · rintro ⟨h1, h2⟩
    refine ⟨fun i i0 i1 => ?_, h2⟩
    have := Uo_own (forest g) (ownB m allC) i0 i1
    have := h1 i i0 i1
    unfold Um at this; omega
  · exact fun f => ⟨fun i i0 i1 => Uo_sound (forest g) f i i0 i1, f.2⟩
theorem feasB {m : Ml} {b : Box} (h : ExactM m allC b) (w : Int → Int) : Feas m.lots.length (parts m) b w ↔ FeasM m allC w := by
  constructor
  · rintro ⟨h1, h2⟩
    refine ⟨fun i i0 i1 => ?_, h2⟩
    have hn := h.1.ne i i0 i1
    obtain ⟨w1, f1, e1⟩ := h.1.full i _ i0 i1 (Int.le_refl _) hn
    obtain ⟨w2, f2, e2⟩ := h.1.full i _ i0 i1 hn (Int.le_refl _)
    have a1 := f1.1 i i0 i1
    have a2 := f2.1 i i0 i1
    have := h1 i i0 i1
    omega
  · exact fun f => ⟨fun i i0 i1 => h.1.sound w f i i0 i1, f.2⟩
theorem sh_same {m : Ml} (g : Good m) {b : Box} (h : ExactM m allC b) (t : Tight m.lots.length (parts m) b) (p : Int → Bool) {i : Int} (i0 : 0 ≤ i) (i1 : i < m.lots.length) (hf : frmAt m i < 0) : shM m b p i = shM m (Um m allC) p i :=
  sh_root_eq (forest g) _ (conB g h t) (conU g (h.feas g)) (fun w => (feasB h w).trans (feasU g w).symm) i0 i1 hf
theorem sum10k : ∀ {x : Int → Int} {l : List Int}, (∀ p ∈ l, 0 ≤ x p ∧ x p ≤ 10000) → (l.length : Int) ≤ 12 → 0 ≤ sumL x l ∧ sumL x l ≤ 120000 := fun {x l} h hl => by
  have e1 : ∀ (l : List Int), sumL (fun _ => (10000 : Int)) l = l.length * 10000 := fun l => by
    induction l with
    | nil => simp [sumL]
    | cons a l ih => simp only [sumL, ih, List.length_cons, Int.natCast_add]; omega
  have a1 := sumL_nonneg (x := x) (l := l) fun p hp => (h p hp).1
  have a2 := sumL_mono (x := x) (y := fun _ => 10000) (l := l) fun p hp => (h p hp).2
  rw [e1] at a2
  omega
set_option maxHeartbeats 2000000 in
theorem shares_ev {m : Ml} (g : Good m) {b : Box} (cb : Con m.lots.length (parts m) b) (hbd : ∀ i : Int, 0 ≤ i → i < m.lots.length → (b i).2 ≤ 10000) {f : V} {p : Int → Bool} {h0 : H} (hf1 : f.one = true) (hf : ∀ a, PureA h0 f [.int .i64 a] (.bool (p a))) :
    ∀ (k : Nat) {h : H} {d : Nat} (lot : Nat), m.lots.length - lot ≤ k → lot < m.lots.length → h0.Sub h → DkAt h d m → ∀ (Q : V → H → Prop),
      (∀ h', h.Sub h' → Q (.tup [.int .i64 (shM m b p (lot : Int)).1, .int .i64 (shM m b p (lot : Int)).2]) h') → Ev fnG fastA (.fn 80 [] []) [.ptr d 0, .agg (encB b), .int .i64 (lot : Int), f] h Q := by
  intro k
  induction k with
  | zero => intro h d lot h1 h2; omega
  | succ k ih =>
    intro h d lot hk hlot h0s hd Q q
    have F := forest g
    have gl := g.lots
    have hw := h0s.wf
    have hd0 := hd
    obtain ⟨pm, l, L, W, g1, g2, aL, aW, ap⟩ := hd
    have hl0 : (0 : Int) ≤ (lot : Int) := by omega
    have hl1 : (lot : Int) < (m.lots.length : Int) := by omega
    have h12 : lot < 12 := by omega
    obtain ⟨n1, n2, n3⟩ := encB_at b h12
    refine Ev_body (fd := c80) rfl rfl rfl ?_
    have s2 : h.Sub (h.add (.cells .rw (encB b))) := (by repeat (first | assumption | exact H.Sub.refl (by assumption) | refine H.Sub.add ?_ _ | refine H.Sub.set ?_ (by first | omega | (simp only [H.next_add, H.next_set, H.next_del] <;> omega)) (by first | omega | (simp only [H.next_add, H.next_set, H.next_del] <;> omega)) (by assumption) _))
    have gb : (h.add (.cells .rw (encB b))).cells h.next = some (encB b) := cells_add_new rfl
    have hSh := sh_eq F b (chK m p) hl0 hl1
    have hsb := cb.sh F (chK m p)
    have hap := (ap (lot : Int)).mono s2
    have hlp := parts_len m (lot : Int)
    have hlenP := hap.lenE
    obtain ⟨ps, eps⟩ : ∃ ps, parts m (lot : Int) = ps := ⟨_, rfl⟩
    obtain ⟨X, eX⟩ : ∃ X, found .nils false (lkA (lot : Int) l) = X := ⟨_, rfl⟩
    rw [eX] at hlenP hap
    rw [eps] at hlp hlenP hap hSh
    have hpsm : ∀ p ∈ ps, 0 ≤ p ∧ p < m.lots.length ∧ (lot : Int) < p := fun p hp => by
      obtain ⟨p0, p1, pf⟩ := (F.mem (lot : Int) p).1 (by rw [eps]; exact hp)
      have := F.lt p p0 p1
      omega
    by_cases hps : ps = []
    · have h00 : (ps.length : Int) = 0 := by rw [hps]; rfl
      rw [if_pos hps] at hSh
      obtain ⟨bb, o, cc, cs, eb, hcs, hq, hgg, hn, hn0⟩ := (aL.mono s2).at hlot
      have hkind := kindAt_at hlot
      simp (maxSteps := 1000000) (implicitDefEqProofs := false) (disch := first | with_reducible rfl | omega | (simp only [nA, nS, nD] <;> omega) | fail) only [c80, go_sem, ↓reduceIte, Nat.reduceEqDiff, Nat.reduceAdd, Nat.reduceSub, Nat.reduceMul, reduceCtorEq, Nat.reduceLeDiff, cells_of (s2.get g1), s2.get g2, eX, hlenP, h00, hq (nat_cst lot), hcs, hn 1 (by omega), encL]
      refine ((hf m.lots[lot].kind) _ (h0s.trans s2)).mono fun u h3 hu => ?_
      obtain ⟨rfl, s23⟩ := hu
      have gb3 := s23.cells gb
      have e : chK m p (lot : Int) = p m.lots[lot].kind := by unfold chK; rw [hkind]
      rw [e] at hSh
      have hq1 := q h3 (s2.trans s23)
      unfold shM at hq1
      rw [hSh] at hq1
      cases hp : p m.lots[lot].kind
      · rw [hp] at hq1
        simp (maxSteps := 1000000) (implicitDefEqProofs := false) (disch := first | with_reducible rfl | omega | (simp only [nA, nS, nD] <;> omega) | fail) only [go_sem, ↓reduceIte, Nat.reduceEqDiff, Nat.reduceAdd, Nat.reduceSub, Nat.reduceMul, reduceCtorEq, Nat.reduceLeDiff, q_iaa_ptr (nat_cst lot) h12, gb3, n1, n2]
        exact hq1
      · rw [hp] at hq1
        simp (maxSteps := 1000000) (implicitDefEqProofs := false) (disch := first | with_reducible rfl | omega | (simp only [nA, nS, nD] <;> omega) | fail) only [go_sem, ↓reduceIte, Nat.reduceEqDiff, Nat.reduceAdd, Nat.reduceSub, Nat.reduceMul, reduceCtorEq, Nat.reduceLeDiff, q_iaa_ptr (nat_cst lot) h12, gb3, n1, n2]
        exact hq1
    · have h00 : ¬ (ps.length : Int) = 0 := by have := List.length_pos_iff.2 hps; omega
      rw [if_neg hps] at hSh
      have bS : ∀ j, (0 ≤ sumL (lo1 (shM m b p)) (ps.take j) ∧ sumL (lo1 (shM m b p)) (ps.take j) ≤ 120000) ∧ (0 ≤ sumL (hi1 (shM m b p)) (ps.take j) ∧ sumL (hi1 (shM m b p)) (ps.take j) ≤ 120000) := fun j => by
        have hb : ∀ q ∈ ps.take j, (0 ≤ (shM m b p q).1 ∧ (shM m b p q).1 ≤ 10000) ∧ (0 ≤ (shM m b p q).2 ∧ (shM m b p q).2 ≤ 10000) := fun q hq => by
          obtain ⟨p0, p1, _⟩ := hpsm q (List.mem_of_mem_take hq)
          have a1 := hsb q p0 p1
          have a2 := cb.ne q p0 p1
          have a3 := hbd q p0 p1
          unfold shM; omega
        have hl : ((ps.take j).length : Int) ≤ 12 := by simp only [List.length_take]; omega
        exact ⟨sum10k (fun q hq => (hb q hq).1) hl, sum10k (fun q hq => (hb q hq).2) hl⟩
      simp (maxSteps := 1000000) (implicitDefEqProofs := false) (disch := first | with_reducible rfl | omega | (simp only [nA, nS, nD] <;> omega) | fail) only [c80, go_sem, ↓reduceIte, Nat.reduceEqDiff, Nat.reduceAdd, Nat.reduceSub, Nat.reduceMul, reduceCtorEq, Nat.reduceLeDiff, cells_of (s2.get g1), s2.get g2, eX, hlenP, h00]
      refine W_count ps.length (fun j s => ∃ tm h', s = ⟨tm, h', []⟩ ∧ (h.add (.cells .rw (encB b))).Sub h' ∧ (Opd.t 0).ev tm = .ptr d 0 ∧ (Opd.t 2).ev tm = .int .i64 (lot : Int) ∧ (Opd.t 3).ev tm = f ∧ (Opd.t 5).ev tm = .ptr h.next 0 ∧ (Opd.t 8).ev tm = .int .i64 (sumL (lo1 (shM m b p)) (ps.take j)) ∧
          (Opd.t 9).ev tm = .int .i64 (sumL (hi1 (shM m b p)) (ps.take j)) ∧ (Opd.t 46).ev tm = X ∧ (Opd.t 47).ev tm = .int .i64 (ps.length : Int) ∧ (Opd.t 48).ev tm = .int .i64 (j : Int))
        ?_ ?_ (i := 0) (Nat.zero_le _) ⟨_, _, rfl, H.Sub.refl s2.wf, (by simp [ev_c, ev_put] <;> rfl), (by simp [ev_c, ev_put] <;> rfl), (by simp [ev_c, ev_put] <;> rfl), (by simp [ev_c, ev_put] <;> rfl), (by simp [ev_c, ev_put] <;> rfl), (by simp [ev_c, ev_put] <;> rfl), (by simp [ev_c, ev_put] <;> rfl), (by simp [ev_c, ev_put] <;> rfl), (by simp [ev_c, ev_put] <;> rfl)⟩
      · rintro j s hj ⟨tm, h', rfl, hs, t0, t2, t3, t5, t8, t9, t46, t47, t48⟩
        have hj' : (j : Int) < (ps.length : Int) := by omega
        have hsh := s2.trans hs
        have gb' := hs.cells gb
        obtain ⟨b2, o2, c2, cs2, eb, hcs2, hq2, hgg2, hn2, hn02⟩ := (hap.mono hs).at hj
        subst eb
        obtain ⟨p0, p1, p2⟩ := hpsm _ (List.getElem_mem hj)
        obtain ⟨pp, ep⟩ := Int.eq_ofNat_of_zero_le p0
        have e1 := sum_take (lo1 (shM m b p)) hj
        have e2 := sum_take (hi1 (shM m b p)) hj
        rw [ep] at e1 e2
        have f1 : lo1 (shM m b p) (pp : Int) = (shM m b p (pp : Int)).1 := rfl
        have f2 : hi1 (shM m b p) (pp : Int) = (shM m b p (pp : Int)).2 := rfl
        rw [f1] at e1
        rw [f2] at e2
        have bj := bS j
        have bj1 := bS (j + 1)
        simp (maxSteps := 1000000) (implicitDefEqProofs := false) (disch := first | with_reducible rfl | omega | (simp only [nA, nS, nD] <;> omega) | fail) only [go_sem, ↓reduceIte, Nat.reduceEqDiff, Nat.reduceAdd, Nat.reduceSub, Nat.reduceMul, reduceCtorEq, Nat.reduceLeDiff, t0, t2, t3, t5, t8, t9, t46, t47, t48, hj', hq2 (nat_cst j), hcs2, hn02 (by omega), encI, ep, gb', ld_B]
        refine ih pp (by omega) (by omega) (h0s.trans hsh) (hd0.mono hsh) _ fun h5 s45 => ?_
        simp (maxSteps := 1000000) (implicitDefEqProofs := false) (disch := first | with_reducible rfl | omega | (simp only [nA, nS, nD] <;> omega) | fail) only [go_sem, ↓reduceIte, Nat.reduceEqDiff, Nat.reduceAdd, Nat.reduceSub, Nat.reduceMul, reduceCtorEq, Nat.reduceLeDiff, t0, t2, t3, t5, t8, t9, t46, t47, t48, wr_in, wr_succ]
        exact ⟨_, _, rfl, hs.trans s45, (by simp [ev_c, ev_put, t0] <;> rfl), (by simp [ev_c, ev_put, t2] <;> rfl), (by simp [ev_c, ev_put, t3] <;> rfl), (by simp [ev_c, ev_put, t5] <;> rfl), by rw [e1]; exact (by simp [ev_c, ev_put] <;> rfl), by rw [e2]; exact (by simp [ev_c, ev_put] <;> rfl), (by simp [ev_c, ev_put, t46] <;> rfl), (by simp [ev_c, ev_put, t47] <;> rfl), (by simp [ev_c, ev_put] <;> rfl)⟩
      · rintro s ⟨tm, h', rfl, hs, t0, t2, t3, t5, t8, t9, t46, t47, t48⟩
        rw [List.take_length] at t8 t9
        have gb' := hs.cells gb
        have bl := bS ps.length
        rw [List.take_length] at bl
        have bb0 := cb.nn _ hl0 hl1
        have bb1 := cb.ne _ hl0 hl1
        have bb2 := hbd _ hl0 hl1
        have hSh' : shM m b p (lot : Int) = (max (sumL (lo1 (shM m b p)) ps) ((b (lot : Int)).1 - sumL (hi1 (shM m b p)) ps), min (sumL (hi1 (shM m b p)) ps) ((b (lot : Int)).2 - sumL (lo1 (shM m b p)) ps)) := hSh
        simp (maxSteps := 1000000) (implicitDefEqProofs := false) (disch := first | with_reducible rfl | omega | (simp only [nA, nS, nD] <;> omega) | fail) only [go_sem, ↓reduceIte, Nat.reduceEqDiff, Nat.reduceAdd, Nat.reduceSub, Nat.reduceMul, reduceCtorEq, Nat.reduceLeDiff, t0, t2, t3, t5, t8, t9, t46, t47, t48, Int.lt_irrefl, q_iaa_ptr (nat_cst lot) h12, gb', n1, n2, wr_in]
        refine least_use (l := [(b (lot : Int)).2 - sumL (lo1 (shM m b p)) ps]) (SlAt.new _ rfl (by rfl) (by rfl) (by simp [encI]) (by simp)) ?_
        have s6 : h'.Sub (h'.add (.cells .rw [.int .i64 ((b (lot : Int)).2 - sumL (lo1 (shM m b p)) ps)])) := (H.Sub.refl (H.Sub.wf hs)).add _
        simp (maxSteps := 1000000) (implicitDefEqProofs := false) (disch := first | with_reducible rfl | omega | (simp only [nA, nS, nD] <;> omega) | fail) only [go_sem, ↓reduceIte, Nat.reduceEqDiff, Nat.reduceAdd, Nat.reduceSub, Nat.reduceMul, reduceCtorEq, Nat.reduceLeDiff, List.foldl, gb', n1, n2, s6.cells gb']
        have hq1 := q _ ((s2.trans hs).trans s6)
        rw [hSh'] at hq1
        exact hq1
end Go.Ab.Try
set_option linter.unusedSimpArgs false
set_option linter.unusedVariables false
namespace Go.Ab.Try
open Go.Ab.Silk
def tab (f : Int → Int) (n : Nat) : List V := (List.range n).map fun (i : Nat) => iv (f (i : Int))
def fset (f : Int → Int) (i x : Int) : Int → Int := fun k => if k = i then x else f k
theorem tab_len (f : Int → Int) (n : Nat) : (tab f n).length = n := by simp [tab]
theorem tab_nth (f : Int → Int) {n i : Nat} (h : i < n) : nth i (tab f n) = some (.int .i64 (f (i : Int))) := by
  rw [nth_get, List.getElem?_eq_getElem (by rw [tab_len]; exact h)]
  simp [tab, iv]
theorem ints_put : ∀ (l : List Int) (i : Nat) (x : Int), i < l.length → putN i [.int .i64 x] (l.map iv) = some ((l.set i x).map iv)
  | [], i, b, h => by simp at h
  | a :: l, 0, b, _ => by simp [putN_0, over_s, over_0, consV_some, iv]
  | a :: l, i + 1, b, h => by
    have ih := ints_put l i b (by simpa using h)
    simp only [List.map_cons, putN_s, ih, consV_some, List.set_cons_succ]
theorem tab_put (f : Int → Int) {n i : Nat} (h : i < n) (x : Int) : putN i [.int .i64 x] (tab f n) = some (tab (fset f (i : Int) x) n) := by
  have e : ∀ g : Int → Int, tab g n = ((List.range n).map fun (i : Nat) => g (i : Int)).map iv := fun g => by simp [tab]
  rw [e, e, ints_put _ _ _ (by simpa using h)]
  congr 2
  refine List.ext_getElem (by simp) fun k h1 h2 => ?_
  rw [List.getElem_set]
  simp only [List.getElem_map, List.getElem_range, fset]
  by_cases c : i = k
  · subst c; simp
  · rw [if_neg c, if_neg (by omega)]
theorem tab_congr {f g : Int → Int} {n : Nat} (h : ∀ k : Int, 0 ≤ k → k < n → f k = g k) : tab f n = tab g n := by
  unfold tab
  refine List.map_congr_left fun i hi => ?_
  have : i < n := List.mem_range.1 hi
  rw [h (i : Int) (by omega) (by omega)]
theorem tab_zero : ∀ n : Nat, repN n [V.int .i64 0] = tab (fun _ => 0) n := fun n => by
  have : ∀ n, repN n [V.int .i64 0] = List.replicate n (iv 0) := fun n => by
    induction n with
    | zero => rfl
    | succ n ih => rw [repN, appN_eq, ih]; rfl
  rw [this]
  refine List.ext_getElem (by simp [tab]) fun k h1 h2 => ?_
  simp [tab]
def pK (kind : Int) : Int → Bool := fun k => decide (k = kind)
def nK (kind : Int) : Int → Bool := fun k => decide (k ≠ kind)
def Ua (m : Ml) : Box := Um m allC
def sK (m : Ml) (kind : Int) : Box := shM m (Ua m) (pK kind)
def sN (m : Ml) (kind : Int) : Box := shM m (Ua m) (nK kind)
def TL (m : Ml) (kind p n : Int) : Int := tabL (sK m kind p).1 (sK m kind p).2 (Ua m p).1 (Ua m p).2 n
def TG (m : Ml) (kind p n : Int) : Int := tabG (sN m kind p).1 (sN m kind p).2 (Ua m p).1 (Ua m p).2 n
def TLs (m : Ml) (kind : Int) (ps : List Int) (n : Int) : Int := tabL (sumL (lo1 (sK m kind)) ps) (sumL (hi1 (sK m kind)) ps) (sumL (lo1 (Ua m)) ps) (sumL (hi1 (Ua m)) ps) n
def TGs (m : Ml) (kind : Int) (ps : List Int) (n : Int) : Int := tabG (sumL (lo1 (sN m kind)) ps) (sumL (hi1 (sN m kind)) ps) (sumL (lo1 (Ua m)) ps) (sumL (hi1 (Ua m)) ps) n
section
variable {m : Ml} {kind : Int}
theorem sK_quad (g : Good m) (h : ∃ w, FeasM m allC w) {i : Int} (i0 : 0 ≤ i) (i1 : i < m.lots.length) : Quad (sK m kind i).1 (sK m kind i).2 (Ua m i).1 (Ua m i).2 := (conU g h).quad (forest g) _ i0 i1
theorem sN_quad (g : Good m) (h : ∃ w, FeasM m allC w) {i : Int} (i0 : 0 ≤ i) (i1 : i < m.lots.length) : Quad (sN m kind i).1 (sN m kind i).2 (Ua m i).1 (Ua m i).2 := (conU g h).quad (forest g) _ i0 i1
theorem sK_quads (g : Good m) (h : ∃ w, FeasM m allC w) {l : List Int} (hl : ∀ p ∈ l, 0 ≤ p ∧ p < m.lots.length) : Quad (sumL (lo1 (sK m kind)) l) (sumL (hi1 (sK m kind)) l) (sumL (lo1 (Ua m)) l) (sumL (hi1 (Ua m)) l) := (conU g h).quads (forest g) _ hl
theorem sN_quads (g : Good m) (h : ∃ w, FeasM m allC w) {l : List Int} (hl : ∀ p ∈ l, 0 ≤ p ∧ p < m.lots.length) : Quad (sumL (lo1 (sN m kind)) l) (sumL (hi1 (sN m kind)) l) (sumL (lo1 (Ua m)) l) (sumL (hi1 (Ua m)) l) := (conU g h).quads (forest g) _ hl
theorem ch_at {p : Int → Bool} {i : Nat} (h : i < m.lots.length) : chK m p (i : Int) = p m.lots[i].kind := by unfold chK; rw [kindAt_at h]
theorem leaf_L (g : Good m) {i : Nat} (h : i < m.lots.length) (hp : parts m (i : Int) = []) {n : Int} (n0 : 0 ≤ n) :
    (if (ownB m allC (i : Int)).1 ≤ n ∧ n ≤ (ownB m allC (i : Int)).2 then (if m.lots[i].kind = kind then n else 0) else -1) = TL m kind (i : Int) n := by
  have i0 : (0 : Int) ≤ (i : Int) := by omega
  have i1 : (i : Int) < m.lots.length := by omega
  have e : Ua m (i : Int) = ownB m allC (i : Int) := Uo_leaf (forest g) _ i0 i1 hp
  have e2 : sK m kind (i : Int) = _ := sh_eq (forest g) (Ua m) (chK m (pK kind)) i0 i1
  rw [if_pos hp, ch_at h] at e2
  unfold TL tabL
  rw [e2, e]
  by_cases c : (ownB m allC (i : Int)).1 ≤ n ∧ n ≤ (ownB m allC (i : Int)).2
  · rw [if_pos c, if_pos c]
    by_cases k : m.lots[i].kind = kind
    · simp only [pK, k, decide_true, if_true]; omega
    · simp only [pK, k, decide_false, if_false]; simp only [Bool.false_eq_true, if_false]; omega
  · rw [if_neg c, if_neg c]
theorem leaf_G (g : Good m) {i : Nat} (h : i < m.lots.length) (hp : parts m (i : Int) = []) {n : Int} (n0 : 0 ≤ n) :
    (if (ownB m allC (i : Int)).1 ≤ n ∧ n ≤ (ownB m allC (i : Int)).2 then (if m.lots[i].kind = kind then n else 0) else -1) = TG m kind (i : Int) n := by
  have i0 : (0 : Int) ≤ (i : Int) := by omega
  have i1 : (i : Int) < m.lots.length := by omega
  have e : Ua m (i : Int) = ownB m allC (i : Int) := Uo_leaf (forest g) _ i0 i1 hp
  have e2 : sN m kind (i : Int) = _ := sh_eq (forest g) (Ua m) (chK m (nK kind)) i0 i1
  rw [if_pos hp, ch_at h] at e2
  unfold TG tabG
  rw [e2, e]
  by_cases c : (ownB m allC (i : Int)).1 ≤ n ∧ n ≤ (ownB m allC (i : Int)).2
  · rw [if_pos c, if_pos c]
    by_cases k : m.lots[i].kind = kind
    · simp only [nK, k, ne_eq, not_true_eq_false, decide_false, if_true, Bool.false_eq_true, if_false]; omega
    · simp only [nK, k, ne_eq, not_false_eq_true, decide_true, if_false, if_true]; omega
  · rw [if_neg c, if_neg c]
theorem node_L (g : Good m) (hf : ∃ w, FeasM m allC w) {i : Int} (i0 : 0 ≤ i) (i1 : i < m.lots.length) (hp : parts m i ≠ []) {n : Int} (n0 : 0 ≤ n) :
    (if (ownB m allC i).1 ≤ n ∧ n ≤ (ownB m allC i).2 then TLs m kind (parts m i) n else -1) = TL m kind i n := by
  have e : Ua m i = (max (ownB m allC i).1 (sumL (lo1 (Ua m)) (parts m i)), min (ownB m allC i).2 (sumL (hi1 (Ua m)) (parts m i))) := Uo_node (forest g) (ownB m allC) i0 i1 hp
  have e2 : sK m kind i = _ := sh_eq (forest g) (Ua m) (chK m (pK kind)) i0 i1
  rw [if_neg hp] at e2
  have Q := sK_quads (kind := kind) g hf (l := parts m i) fun p hp => by
    obtain ⟨p0, p1, _⟩ := ((forest g).mem _ _).1 hp; exact ⟨p0, p1⟩
  have f : sh m.lots.length (parts m) (Ua m) (chK m (pK kind)) = sK m kind := rfl
  rw [f] at e2
  unfold TL TLs
  rw [e2, e]
  generalize sumL (lo1 (sK m kind)) (parts m i) = s at Q ⊢
  generalize sumL (hi1 (sK m kind)) (parts m i) = r at Q ⊢
  generalize sumL (lo1 (Ua m)) (parts m i) = lo at Q ⊢
  generalize sumL (hi1 (Ua m)) (parts m i) = hi at Q ⊢
  obtain ⟨q1, q2, q3, q4, q5⟩ := Q
  unfold tabL
  simp only
  by_cases c : (ownB m allC i).1 ≤ n ∧ n ≤ (ownB m allC i).2
  · rw [if_pos c]
    by_cases k : lo ≤ n ∧ n ≤ hi
    · rw [if_pos k, if_pos (by omega)]; omega
    · rw [if_neg k, if_neg (by omega)]
  · rw [if_neg c, if_neg (by omega)]
theorem node_G (g : Good m) (hf : ∃ w, FeasM m allC w) {i : Int} (i0 : 0 ≤ i) (i1 : i < m.lots.length) (hp : parts m i ≠ []) {n : Int} (n0 : 0 ≤ n) :
    (if (ownB m allC i).1 ≤ n ∧ n ≤ (ownB m allC i).2 then TGs m kind (parts m i) n else -1) = TG m kind i n := by
  have e : Ua m i = (max (ownB m allC i).1 (sumL (lo1 (Ua m)) (parts m i)), min (ownB m allC i).2 (sumL (hi1 (Ua m)) (parts m i))) := Uo_node (forest g) (ownB m allC) i0 i1 hp
  have e2 : sN m kind i = _ := sh_eq (forest g) (Ua m) (chK m (nK kind)) i0 i1
  rw [if_neg hp] at e2
  have Q := sN_quads (kind := kind) g hf (l := parts m i) fun p hp => by
    obtain ⟨p0, p1, _⟩ := ((forest g).mem _ _).1 hp; exact ⟨p0, p1⟩
  have f : sh m.lots.length (parts m) (Ua m) (chK m (nK kind)) = sN m kind := rfl
  rw [f] at e2
  unfold TG TGs
  rw [e2, e]
  generalize sumL (lo1 (sN m kind)) (parts m i) = s at Q ⊢
  generalize sumL (hi1 (sN m kind)) (parts m i) = r at Q ⊢
  generalize sumL (lo1 (Ua m)) (parts m i) = lo at Q ⊢
  generalize sumL (hi1 (Ua m)) (parts m i) = hi at Q ⊢
  obtain ⟨q1, q2, q3, q4, q5⟩ := Q
  unfold tabG
  simp only
  by_cases c : (ownB m allC i).1 ≤ n ∧ n ≤ (ownB m allC i).2
  · rw [if_pos c]
    by_cases k : lo ≤ n ∧ n ≤ hi
    · rw [if_pos k, if_pos (by omega)]; omega
    · rw [if_neg k, if_neg (by omega)]
  · rw [if_neg c, if_neg (by omega)]
theorem zero_L {n : Int} (n0 : 0 ≤ n) : (if n = 0 then 0 else -1) = TLs m kind [] n := by
  have e : TLs m kind [] n = tabL 0 0 0 0 n := rfl
  rw [e]; unfold tabL
  by_cases c : n = 0
  · subst c; simp
  · rw [if_neg c, if_neg (by omega)]
theorem zero_G {n : Int} (n0 : 0 ≤ n) : (if n = 0 then 0 else -1) = TGs m kind [] n := by
  have e : TGs m kind [] n = tabG 0 0 0 0 n := rfl
  rw [e]; unfold tabG
  by_cases c : n = 0
  · subst c; simp
  · rw [if_neg c, if_neg (by omega)]
theorem min_congr {val val' : Int → Int} {ok ok' : Int → Prop} {k x : Int} (h : MinUpto val ok k x) (h1 : ∀ j, 0 ≤ j → j < k → (ok j ↔ ok' j)) (h2 : ∀ j, 0 ≤ j → j < k → ok j → val j = val' j) : MinUpto val' ok' k x := by
  rcases h with ⟨a, b⟩ | ⟨a, ⟨j, j0, j1, j2, j3⟩, b⟩
  · exact .inl ⟨a, fun j j0 j1 c => b j j0 j1 ((h1 j j0 j1).2 c)⟩
  · exact .inr ⟨a, ⟨j, j0, j1, (h1 j j0 j1).1 j2, by rw [j3]; exact h2 j j0 j1 j2⟩, fun i i0 i1 hi => by have hi' := (h1 i i0 i1).2 hi; rw [← h2 i i0 i1 hi']; exact b i i0 i1 hi'⟩
theorem max_congr {val val' : Int → Int} {ok ok' : Int → Prop} {k x : Int} (h : MaxUpto val ok k x) (h1 : ∀ j, 0 ≤ j → j < k → (ok j ↔ ok' j)) (h2 : ∀ j, 0 ≤ j → j < k → ok j → val j = val' j) : MaxUpto val' ok' k x := by
  rcases h with ⟨a, b⟩ | ⟨a, ⟨j, j0, j1, j2, j3⟩, b⟩
  · exact .inl ⟨a, fun j j0 j1 c => b j j0 j1 ((h1 j j0 j1).2 c)⟩
  · exact .inr ⟨a, ⟨j, j0, j1, (h1 j j0 j1).1 j2, by rw [j3]; exact h2 j j0 j1 j2⟩, fun i i0 i1 hi => by have hi' := (h1 i i0 i1).2 hi; rw [← h2 i i0 i1 hi']; exact b i i0 i1 hi'⟩
theorem max_neg {val : Int → Int} {ok : Int → Prop} {k x : Int} (h : MaxUpto val ok k x) : -1 ≤ x := by
  rcases h with ⟨a, _⟩ | ⟨a, _⟩ <;> omega
theorem tabL_ok {s r lo hi n : Int} (hs : 0 ≤ s) : 0 ≤ tabL s r lo hi n ↔ (lo ≤ n ∧ n ≤ hi) := by
  have := tabL_neg (s := s) (r := r) (lo := lo) (hi := hi) (n := n) hs
  constructor
  · intro h
    by_cases c : lo ≤ n ∧ n ≤ hi
    · exact c
    · have := this.2 c; omega
  · intro c
    by_cases h : 0 ≤ tabL s r lo hi n
    · exact h
    · exact absurd c (this.1 (by omega))
def okC (m : Ml) (kind : Int) (ps : List Int) (p n j : Int) : Prop := 0 ≤ TLs m kind ps (n - j) ∧ 0 ≤ TL m kind p j
theorem conv_L (g : Good m) (hf : ∃ w, FeasM m allC w) {ps : List Int} {p n x : Int} (hl : ∀ p ∈ ps, 0 ≤ p ∧ p < m.lots.length) (hp : 0 ≤ p ∧ p < m.lots.length)
    (h : MinUpto (fun j => TLs m kind ps (n - j) + TL m kind p j) (okC m kind ps p n) (n + 1) x) : x = TLs m kind (ps ++ [p]) n := by
  have Q := sK_quads (kind := kind) g hf hl
  have R := sK_quad (kind := kind) g hf hp.1 hp.2
  have l0 : 0 ≤ sumL (lo1 (Ua m)) ps := by obtain ⟨a, b, c, d, e⟩ := Q; omega
  have l1 : 0 ≤ (Ua m p).1 := by obtain ⟨a, b, c, d, e⟩ := R; omega
  have e : TLs m kind (ps ++ [p]) n = tabL (sumL (lo1 (sK m kind)) ps + (sK m kind p).1) (sumL (hi1 (sK m kind)) ps + (sK m kind p).2) (sumL (lo1 (Ua m)) ps + (Ua m p).1) (sumL (hi1 (Ua m)) ps + (Ua m p).2) n := by
    unfold TLs; simp [sumL_append, sumL, lo1, hi1]
  rw [e]
  refine conv_min l0 l1 ⟨Q.m1, Q.m2⟩ ⟨R.m1, R.m2⟩ (min_congr h (fun j j0 j1 => ?_) fun j j0 j1 hj => ?_)
  · unfold okC TLs TL; rw [tabL_ok Q.s0, tabL_ok R.s0]
  · unfold okC TLs TL at hj
    rw [tabL_ok Q.s0, tabL_ok R.s0] at hj
    unfold TLs TL
    rw [tabL_in hj.1, tabL_in hj.2]
theorem conv_G (g : Good m) (hf : ∃ w, FeasM m allC w) {ps : List Int} {p n x : Int} (hl : ∀ p ∈ ps, 0 ≤ p ∧ p < m.lots.length) (hp : 0 ≤ p ∧ p < m.lots.length)
    (h : MaxUpto (fun j => TGs m kind ps (n - j) + TG m kind p j) (okC m kind ps p n) (n + 1) x) : x = TGs m kind (ps ++ [p]) n := by
  have Q := sK_quads (kind := kind) g hf hl
  have R := sK_quad (kind := kind) g hf hp.1 hp.2
  have Q' := sN_quads (kind := kind) g hf hl
  have R' := sN_quad (kind := kind) g hf hp.1 hp.2
  have l0 : 0 ≤ sumL (lo1 (Ua m)) ps := by obtain ⟨a, b, c, d, e⟩ := Q; omega
  have l1 : 0 ≤ (Ua m p).1 := by obtain ⟨a, b, c, d, e⟩ := R; omega
  have e : TGs m kind (ps ++ [p]) n = tabG (sumL (lo1 (sN m kind)) ps + (sN m kind p).1) (sumL (hi1 (sN m kind)) ps + (sN m kind p).2) (sumL (lo1 (Ua m)) ps + (Ua m p).1) (sumL (hi1 (Ua m)) ps + (Ua m p).2) n := by
    unfold TGs; simp [sumL_append, sumL, lo1, hi1]
  rw [e]
  refine conv_max l0 l1 ⟨Q'.m1, Q'.m2⟩ ⟨R'.m1, R'.m2⟩ (max_congr h (fun j j0 j1 => ?_) fun j j0 j1 hj => ?_)
  · unfold okC TLs TL; rw [tabL_ok Q.s0, tabL_ok R.s0]
  · unfold okC TLs TL at hj
    rw [tabL_ok Q.s0, tabL_ok R.s0] at hj
    unfold TGs TG
    rw [tabG_in hj.1, tabG_in hj.2]
theorem okC_G (g : Good m) (hf : ∃ w, FeasM m allC w) {ps : List Int} {p n j : Int} (hl : ∀ p ∈ ps, 0 ≤ p ∧ p < m.lots.length) (hp : 0 ≤ p ∧ p < m.lots.length) (h : okC m kind ps p n j) : 0 ≤ TGs m kind ps (n - j) ∧ 0 ≤ TG m kind p j := by
  have Q := sK_quads (kind := kind) g hf hl
  have R := sK_quad (kind := kind) g hf hp.1 hp.2
  obtain ⟨a1, a2, a3, a4, a5⟩ := sN_quads (kind := kind) g hf hl
  obtain ⟨b1, b2, b3, b4, b5⟩ := sN_quad (kind := kind) g hf hp.1 hp.2
  unfold okC TLs TL at h
  rw [tabL_ok Q.s0, tabL_ok R.s0] at h
  unfold TGs TG
  rw [tabG_in h.1, tabG_in h.2]
  omega
end
end Go.Ab.Try
set_option linter.unusedSimpArgs false
set_option linter.unusedVariables false
namespace Go.Ab.Try
open Go.Ab.Silk
theorem tab_at {n i : Nat} (h : i < n) (f : Int → Int) : nth i (tab f n) = some (.int .i64 (f (i : Int))) := tab_nth f h
theorem tab_st {n i : Nat} (h : i < n) (f : Int → Int) (x : Int) : putN i [.int .i64 x] (tab f n) = some (tab (fset f (i : Int) x) n) := tab_put f h x
theorem fset_fset (f : Int → Int) (i x y : Int) : fset (fset f i x) i y = fset f i y := by
  funext k; unfold fset; split <;> rfl
theorem fset_at (f : Int → Int) (i x : Int) : fset f i x i = x := by unfold fset; rw [if_pos rfl]
def upI (f : Int → Int) (i : Nat) : Int → Int := fun n => if n < (i : Int) then f n else 0
theorem upI_step (f : Int → Int) (i : Nat) {x : Int} (h : x = f (i : Int)) : fset (upI f i) (i : Int) x = upI f (i + 1) := by
  subst h
  funext k; unfold fset upI
  by_cases c : k = (i : Int)
  · subst c; rw [if_pos rfl, if_pos (by omega)]
  · rw [if_neg c]
    by_cases d : k < (i : Int)
    · rw [if_pos d, if_pos (by omega)]
    · rw [if_neg d, if_neg (by omega)]
theorem upI_zero (f : Int → Int) (n : Nat) : tab (fun _ => 0) n = tab (upI f 0) n := tab_congr fun k k0 _ => by unfold upI; rw [if_neg (by omega)]
theorem upI_all (f : Int → Int) (n : Nat) : tab (upI f n) n = tab f n := tab_congr fun k _ k1 => by unfold upI; rw [if_pos k1]
def cutI (lo hi : Int) (f : Int → Int) (i : Nat) : Int → Int := fun n => if n < (i : Int) then (if lo ≤ n ∧ n ≤ hi then f n else -1) else f n
theorem cutI_off {lo hi : Int} (f : Int → Int) (i : Nat) (h : ¬ (lo ≤ (i : Int) ∧ (i : Int) ≤ hi)) : fset (cutI lo hi f i) (i : Int) (-1) = cutI lo hi f (i + 1) := by
  funext k; unfold fset cutI
  by_cases c : k = (i : Int)
  · subst c; rw [if_pos rfl, if_pos (by omega), if_neg h]
  · rw [if_neg c]
    by_cases d : k < (i : Int)
    · have d' : k < ((i + 1 : Nat) : Int) := by omega
      rw [if_pos d, if_pos d']
    · have d' : ¬ k < ((i + 1 : Nat) : Int) := by omega
      rw [if_neg d, if_neg d']
theorem cutI_in {lo hi : Int} (f : Int → Int) (i : Nat) (h : lo ≤ (i : Int) ∧ (i : Int) ≤ hi) : cutI lo hi f i = cutI lo hi f (i + 1) := by
  funext k; unfold cutI
  by_cases c : k = (i : Int)
  · subst c; rw [if_neg (by omega), if_pos (by omega), if_pos h]
  · by_cases d : k < (i : Int)
    · have d' : k < ((i + 1 : Nat) : Int) := by omega
      rw [if_pos d, if_pos d']
    · have d' : ¬ k < ((i + 1 : Nat) : Int) := by omega
      rw [if_neg d, if_neg d']
theorem cutI_zero (lo hi : Int) (f : Int → Int) (n : Nat) : tab (cutI lo hi f 0) n = tab f n := tab_congr fun k k0 _ => by unfold cutI; rw [if_neg (by omega)]
def ini (m : Ml) (kind : Int) (lot : Int) : Int → Int := fun n => if parts m lot = [] then (if kindAt m lot = kind then n else 0) else -1
def contL (m : Ml) (kind lot : Int) (j : Nat) : Int → Int := if parts m lot = [] then ini m kind lot else TLs m kind ((parts m lot).take j)
def contG (m : Ml) (kind lot : Int) (j : Nat) : Int → Int := if parts m lot = [] then ini m kind lot else TGs m kind ((parts m lot).take j)
theorem over_tab {n : Nat} (h : 0 < n) (f : Int → Int) (x : Int) : over [.int .i64 x] (tab f n) = some (tab (fset f 0 x) n) := by
  rw [← putN_0]; exact tab_put f h x
set_option maxRecDepth 4000 in
set_option maxHeartbeats 8000000 in
theorem table_ev {m : Ml} (g : Good m) (hag : ∃ w, FeasM m allC w) {kind : Int} {M : Nat} (hM : M ≤ 1000) : ∀ (k : Nat) {h : H} {v : V} (lot : Nat), m.lots.length - lot ≤ k → lot < m.lots.length → h.wf → MlIs h v m → ∀ (Q : V → H → Prop),
    (∀ h' b1 b2, h.Sub h' → h'.get b1 = some (.cells .rw (tab (TL m kind (lot : Int)) (M + 1))) → h'.get b2 = some (.cells .rw (tab (TG m kind (lot : Int)) (M + 1))) → Q (.tup [.sl b1 0 (M + 1) (.fix (M + 1)), .sl b2 0 (M + 1) (.fix (M + 1))]) h') →
    Ev fnG fastA (.fn 77 [] []) [v, .int .i64 (lot : Int), .int .i64 kind, .int .i64 (M : Int)] h Q := by
  intro k
  induction k with
  | zero => intro h v lot h1 h2; omega
  | succ k ih =>
    intro h v lot hk hlot hw hm Q q
    have F := forest g
    have gl := g.lots
    have gw := g.wgs
    have hm0 := hm
    obtain ⟨L, W, rfl, aL, aW⟩ := hm
    have hl0 : (0 : Int) ≤ (lot : Int) := by omega
    have hl1 : (lot : Int) < (m.lots.length : Int) := by omega
    refine Ev_body (fd := c77) rfl rfl rfl ?_
    have s1 : h.Sub (h.add (.cells .rw [.int .i64 m.errs, L, W])) := (by repeat (first | assumption | exact H.Sub.refl (by assumption) | refine H.Sub.add ?_ _ | refine H.Sub.set ?_ (by first | omega | (simp only [H.next_add, H.next_set, H.next_del] <;> omega)) (by first | omega | (simp only [H.next_add, H.next_set, H.next_del] <;> omega)) (by assumption) _))
    have g1 : (h.add (.cells .rw [.int .i64 m.errs, L, W])).cells h.next = some [.int .i64 m.errs, L, W] := cells_add_new rfl
    have l1 : (h.add (.cells .rw [.int .i64 m.errs, L, W])).next = h.next + 1 := H.next_add _ _
    simp (maxSteps := 1000000) (implicitDefEqProofs := false) (disch := first | with_reducible rfl | omega | (simp only [nA, nS, nD] <;> omega) | fail) only [c77, go_sem, ↓reduceIte, Nat.reduceEqDiff, Nat.reduceAdd, Nat.reduceSub, Nat.reduceMul, reduceCtorEq, Nat.reduceLeDiff]
    generalize h.add (.cells .rw [.int .i64 m.errs, L, W]) = h1 at s1 g1 l1 ⊢
    have w1 := s1.wf
    refine All_ev s1.wf (hm0.mono s1) (by omega) _ fun C h3 s13 aC => ?_
    have s3 := s1.trans s13
    simp (maxSteps := 1000000) (implicitDefEqProofs := false) (disch := first | with_reducible rfl | omega | (simp only [nA, nS, nD] <;> omega) | fail) only [go_sem, ↓reduceIte, Nat.reduceEqDiff, Nat.reduceAdd, Nat.reduceSub, Nat.reduceMul, reduceCtorEq, Nat.reduceLeDiff, s13.cells g1]
    refine refOwn_ev s3.wf (hm0.mono s3) g aC (by simp) (lot : Int) _ fun h4 s34 => ?_
    have own : ownK m (cOf (List.replicate m.wgs.length true)) (lot : Int) m.wgs.length = ownB m allC (lot : Int) := by
      rw [← ownB_at hl0 hl1, own_all]
    rw [own]
    have s14 := s13.trans s34
    have s4 := s1.trans s14
    have w4 := s4.wf
    have l4 := s14.next
    simp (maxSteps := 1000000) (implicitDefEqProofs := false) (disch := first | with_reducible rfl | omega | (simp only [nA, nS, nD] <;> omega) | fail) only [go_sem, ↓reduceIte, Nat.reduceEqDiff, Nat.reduceAdd, Nat.reduceSub, Nat.reduceMul, reduceCtorEq, Nat.reduceLeDiff, wr_succ, a_msl_nm, g1, s13.cells g1, s14.cells g1]
    have z := tab_zero (M + 1)
    rw [z]
    have s15 : h1.Sub ((h4.add (.cells .rw (tab (fun _ => 0) (M + 1)))).add (.cells .rw (tab (fun _ => 0) (M + 1)))) := s14.trans (((H.Sub.refl w4).add _).add _)
    have e5 : ((h4.add (.cells .rw (tab (fun _ => 0) (M + 1)))).add (.cells .rw (tab (fun _ => 0) (M + 1)))).get h4.next = some (.cells .rw (tab (fun _ => 0) (M + 1))) := by simp (maxSteps := 1000000) (implicitDefEqProofs := false) (disch := first | with_reducible rfl | omega | (simp only [nA, nS, nD] <;> omega) | fail) only [go_sem, ↓reduceIte, Nat.reduceEqDiff, Nat.reduceAdd, Nat.reduceSub, Nat.reduceMul, reduceCtorEq, Nat.reduceLeDiff]
    have f5 : ((h4.add (.cells .rw (tab (fun _ => 0) (M + 1)))).add (.cells .rw (tab (fun _ => 0) (M + 1)))).get (h4.next + 1) = some (.cells .rw (tab (fun _ => 0) (M + 1))) := by simp (maxSteps := 1000000) (implicitDefEqProofs := false) (disch := first | with_reducible rfl | omega | (simp only [nA, nS, nD] <;> omega) | fail) only [go_sem, ↓reduceIte, Nat.reduceEqDiff, Nat.reduceAdd, Nat.reduceSub, Nat.reduceMul, reduceCtorEq, Nat.reduceLeDiff]
    have l5 : ((h4.add (.cells .rw (tab (fun _ => 0) (M + 1)))).add (.cells .rw (tab (fun _ => 0) (M + 1)))).next = h4.next + 2 := by simp only [H.next_add]
    generalize ((h4.add (.cells .rw (tab (fun _ => 0) (M + 1)))).add (.cells .rw (tab (fun _ => 0) (M + 1)))) = h5 at s15 e5 f5 l5 ⊢
    have s5 := s1.trans s15
    refine refParts_ev s5.wf (hm0.mono s5) g hlot _ fun P h6 oP => ?_
    have s56 := oP.1
    have s16 := s15.trans s56
    have l6 := s56.next
    have hpl := parts_len m (lot : Int)
    have aP := oP.sl (by simp only [List.length_map]; omega)
    have hlenP := aP.lenE
    have e6 := s56.get e5
    have f6 := s56.get f5
    have hP : ∀ b, blkOf P b → h5.next ≤ b := fun b hb => (oP.blk hb).1
    clear oP
    have gm6 := s16.cells g1
    obtain ⟨ps, eps⟩ : ∃ ps, parts m (lot : Int) = ps := ⟨_, rfl⟩
    have hpsm : ∀ p ∈ ps, 0 ≤ p ∧ p < m.lots.length ∧ (lot : Int) < p := fun p hp => by
      obtain ⟨p0, p1, pf⟩ := (F.mem (lot : Int) p).1 (by rw [eps]; exact hp)
      have := F.lt p p0 p1
      omega
    rw [eps] at aP hlenP hpl
    have kp1 : ∀ (h' : H) (x : Blk), SlAt h' P 1 (ps.map encI) → SlAt (h'.set h4.next x) P 1 (ps.map encI) := fun h' x a => SlAt_keep a (Keeps.set _ _ _) fun b hb e => by have := hP b hb; omega
    have kp2 : ∀ (h' : H) (x : Blk), SlAt h' P 1 (ps.map encI) → SlAt (h'.set (h4.next + 1) x) P 1 (ps.map encI) := fun h' x a => SlAt_keep a (Keeps.set _ _ _) fun b hb e => by have := hP b hb; omega
    have kd := kindAt_at hlot
    simp (maxSteps := 1000000) (implicitDefEqProofs := false) (disch := first | with_reducible rfl | omega | (simp only [nA, nS, nD] <;> omega) | fail) only [go_sem, ↓reduceIte, Nat.reduceEqDiff, Nat.reduceAdd, Nat.reduceSub, Nat.reduceMul, reduceCtorEq, Nat.reduceLeDiff]
    refine W_count (M + 1) (fun i s => ∃ tm h', s = ⟨tm, h', []⟩ ∧ h1.Sub h' ∧ h4.next + 1 < h'.next ∧ SlAt h' P 1 (ps.map encI) ∧ h'.get h4.next = some (.cells .rw (tab (upI (ini m kind (lot : Int)) i) (M + 1))) ∧ h'.get (h4.next + 1) = some (.cells .rw (tab (upI (ini m kind (lot : Int)) i) (M + 1))) ∧
        (Opd.t 1).ev tm = .int .i64 (lot : Int) ∧ (Opd.t 2).ev tm = .int .i64 kind ∧ (Opd.t 3).ev tm = .int .i64 (M : Int) ∧ (Opd.t 4).ev tm = .ptr h.next 0 ∧ (Opd.t 10).ev tm = .int .i64 (ownB m allC (lot : Int)).1 ∧ (Opd.t 11).ev tm = .int .i64 (ownB m allC (lot : Int)).2 ∧
        (Opd.t 12).ev tm = .sl h4.next 0 (M + 1) (.fix (M + 1)) ∧ (Opd.t 13).ev tm = .sl (h4.next + 1) 0 (M + 1) (.fix (M + 1)) ∧ (Opd.t 14).ev tm = P ∧ (Opd.t 15).ev tm = .int .i64 (i : Int))
      ?_ ?_ (i := 0) (Nat.zero_le _) ⟨_, _, rfl, s16, by omega, aP, by rw [← upI_zero]; exact e6, by rw [← upI_zero]; exact f6, (by simp [ev_c, ev_put] <;> rfl), (by simp [ev_c, ev_put] <;> rfl), (by simp [ev_c, ev_put] <;> rfl), (by simp [ev_c, ev_put] <;> rfl), (by simp [ev_c, ev_put] <;> rfl), (by simp [ev_c, ev_put] <;> rfl), (by simp [ev_c, ev_put] <;> rfl), (by simp [ev_c, ev_put] <;> rfl), (by simp [ev_c, ev_put] <;> rfl), (by simp [ev_c, ev_put] <;> rfl)⟩
    · rintro i s hi ⟨tm, h', rfl, hs, lt, aP', e', f', t1, t2, t3, t4, t10, t11, t12, t13, t14, t15⟩
      have hi' : (i : Int) ≤ (M : Int) := by omega
      by_cases hpe : ps = []
      · have h00 : (ps.length : Int) = 0 := by rw [hpe]; rfl
        obtain ⟨bb, o, cc, cs, eb, hcs, hq, hgg, hn, hn0⟩ := (aL.mono (s1.trans hs)).at hlot
        have hbb : bb < h.next := SlAt_lt hw aL (by intro e; rw [List.map_eq_nil_iff] at e; rw [e] at hlot; simp at hlot) bb ⟨_, _, _, eb⟩
        subst eb
        by_cases hkd : m.lots[lot].kind = kind
        · have hini : (i : Int) = ini m kind (lot : Int) (i : Int) := by unfold ini; rw [eps, if_pos hpe, kd, if_pos hkd]
          simp (maxSteps := 1000000) (implicitDefEqProofs := false) (disch := first | with_reducible rfl | omega | (simp only [nA, nS, nD] <;> omega) | fail) only [go_sem, ↓reduceIte, Nat.reduceEqDiff, Nat.reduceAdd, Nat.reduceSub, Nat.reduceMul, reduceCtorEq, Nat.reduceLeDiff, t1, t2, t3, t4, t10, t11, t12, t13, t14, t15, hi', q_iad_sl (nat_cst i) hi, Nat.mul_one, e', f', tab_st hi, hlenP, h00, hs.cells g1, hq (nat_cst lot), hcs, hn 1 (by omega), encL, hkd, wr_succ]
          exact ⟨_, _, rfl, (by repeat (first | assumption | exact H.Sub.refl (by assumption) | refine H.Sub.add ?_ _ | refine H.Sub.set ?_ (by first | omega | (simp only [H.next_add, H.next_set, H.next_del] <;> omega)) (by first | omega | (simp only [H.next_add, H.next_set, H.next_del] <;> omega)) (by assumption) _)), by simp only [H.next_set]; exact lt, kp2 _ _ (kp1 _ _ (kp2 _ _ (kp1 _ _ (kp2 _ _ (kp1 _ _ aP'))))), by simp (maxSteps := 1000000) (implicitDefEqProofs := false) (disch := first | with_reducible rfl | omega | (simp only [nA, nS, nD] <;> omega) | fail) only [go_sem, ↓reduceIte, Nat.reduceEqDiff, Nat.reduceAdd, Nat.reduceSub, Nat.reduceMul, reduceCtorEq, Nat.reduceLeDiff, fset_fset]; rw [upI_step _ _ hini], by simp (maxSteps := 1000000) (implicitDefEqProofs := false) (disch := first | with_reducible rfl | omega | (simp only [nA, nS, nD] <;> omega) | fail) only [go_sem, ↓reduceIte, Nat.reduceEqDiff, Nat.reduceAdd, Nat.reduceSub, Nat.reduceMul, reduceCtorEq, Nat.reduceLeDiff, fset_fset]; rw [upI_step _ _ hini], (by simp [ev_c, ev_put, t1] <;> rfl), (by simp [ev_c, ev_put, t2] <;> rfl), (by simp [ev_c, ev_put, t3] <;> rfl), (by simp [ev_c, ev_put, t4] <;> rfl), (by simp [ev_c, ev_put, t10] <;> rfl), (by simp [ev_c, ev_put, t11] <;> rfl), (by simp [ev_c, ev_put, t12] <;> rfl), (by simp [ev_c, ev_put, t13] <;> rfl), (by simp [ev_c, ev_put, t14] <;> rfl), (by simp [ev_c, ev_put] <;> rfl)⟩
        · have hini : 0 = ini m kind (lot : Int) (i : Int) := by unfold ini; rw [eps, if_pos hpe, kd, if_neg hkd]
          simp (maxSteps := 1000000) (implicitDefEqProofs := false) (disch := first | with_reducible rfl | omega | (simp only [nA, nS, nD] <;> omega) | fail) only [go_sem, ↓reduceIte, Nat.reduceEqDiff, Nat.reduceAdd, Nat.reduceSub, Nat.reduceMul, reduceCtorEq, Nat.reduceLeDiff, t1, t2, t3, t4, t10, t11, t12, t13, t14, t15, hi', q_iad_sl (nat_cst i) hi, Nat.mul_one, e', f', tab_st hi, hlenP, h00, hs.cells g1, hq (nat_cst lot), hcs, hn 1 (by omega), encL, hkd, wr_succ]
          exact ⟨_, _, rfl, (by repeat (first | assumption | exact H.Sub.refl (by assumption) | refine H.Sub.add ?_ _ | refine H.Sub.set ?_ (by first | omega | (simp only [H.next_add, H.next_set, H.next_del] <;> omega)) (by first | omega | (simp only [H.next_add, H.next_set, H.next_del] <;> omega)) (by assumption) _)), by simp only [H.next_set]; exact lt, kp2 _ _ (kp1 _ _ (kp2 _ _ (kp1 _ _ aP'))), by simp (maxSteps := 1000000) (implicitDefEqProofs := false) (disch := first | with_reducible rfl | omega | (simp only [nA, nS, nD] <;> omega) | fail) only [go_sem, ↓reduceIte, Nat.reduceEqDiff, Nat.reduceAdd, Nat.reduceSub, Nat.reduceMul, reduceCtorEq, Nat.reduceLeDiff, fset_fset]; rw [upI_step _ _ hini], by simp (maxSteps := 1000000) (implicitDefEqProofs := false) (disch := first | with_reducible rfl | omega | (simp only [nA, nS, nD] <;> omega) | fail) only [go_sem, ↓reduceIte, Nat.reduceEqDiff, Nat.reduceAdd, Nat.reduceSub, Nat.reduceMul, reduceCtorEq, Nat.reduceLeDiff, fset_fset]; rw [upI_step _ _ hini], (by simp [ev_c, ev_put, t1] <;> rfl), (by simp [ev_c, ev_put, t2] <;> rfl), (by simp [ev_c, ev_put, t3] <;> rfl), (by simp [ev_c, ev_put, t4] <;> rfl), (by simp [ev_c, ev_put, t10] <;> rfl), (by simp [ev_c, ev_put, t11] <;> rfl), (by simp [ev_c, ev_put, t12] <;> rfl), (by simp [ev_c, ev_put, t13] <;> rfl), (by simp [ev_c, ev_put, t14] <;> rfl), (by simp [ev_c, ev_put] <;> rfl)⟩
      · have h00 : ¬ (ps.length : Int) = 0 := by have := List.length_pos_iff.2 hpe; omega
        have hini : -1 = ini m kind (lot : Int) (i : Int) := by unfold ini; rw [eps, if_neg hpe]
        simp (maxSteps := 1000000) (implicitDefEqProofs := false) (disch := first | with_reducible rfl | omega | (simp only [nA, nS, nD] <;> omega) | fail) only [go_sem, ↓reduceIte, Nat.reduceEqDiff, Nat.reduceAdd, Nat.reduceSub, Nat.reduceMul, reduceCtorEq, Nat.reduceLeDiff, t1, t2, t3, t4, t10, t11, t12, t13, t14, t15, hi', q_iad_sl (nat_cst i) hi, Nat.mul_one, e', f', tab_st hi, hlenP, h00, wr_succ]
        exact ⟨_, _, rfl, (by repeat (first | assumption | exact H.Sub.refl (by assumption) | refine H.Sub.add ?_ _ | refine H.Sub.set ?_ (by first | omega | (simp only [H.next_add, H.next_set, H.next_del] <;> omega)) (by first | omega | (simp only [H.next_add, H.next_set, H.next_del] <;> omega)) (by assumption) _)), by simp only [H.next_set]; exact lt, kp2 _ _ (kp1 _ _ aP'), by simp (maxSteps := 1000000) (implicitDefEqProofs := false) (disch := first | with_reducible rfl | omega | (simp only [nA, nS, nD] <;> omega) | fail) only [go_sem, ↓reduceIte, Nat.reduceEqDiff, Nat.reduceAdd, Nat.reduceSub, Nat.reduceMul, reduceCtorEq, Nat.reduceLeDiff, fset_fset]; rw [upI_step _ _ hini], by simp (maxSteps := 1000000) (implicitDefEqProofs := false) (disch := first | with_reducible rfl | omega | (simp only [nA, nS, nD] <;> omega) | fail) only [go_sem, ↓reduceIte, Nat.reduceEqDiff, Nat.reduceAdd, Nat.reduceSub, Nat.reduceMul, reduceCtorEq, Nat.reduceLeDiff, fset_fset]; rw [upI_step _ _ hini], (by simp [ev_c, ev_put, t1] <;> rfl), (by simp [ev_c, ev_put, t2] <;> rfl), (by simp [ev_c, ev_put, t3] <;> rfl), (by simp [ev_c, ev_put, t4] <;> rfl), (by simp [ev_c, ev_put, t10] <;> rfl), (by simp [ev_c, ev_put, t11] <;> rfl), (by simp [ev_c, ev_put, t12] <;> rfl), (by simp [ev_c, ev_put, t13] <;> rfl), (by simp [ev_c, ev_put, t14] <;> rfl), (by simp [ev_c, ev_put] <;> rfl)⟩
    · rintro s ⟨tm, h', rfl, hs, lt, aP', e', f', t1, t2, t3, t4, t10, t11, t12, t13, t14, t15⟩
      rw [upI_all] at e' f'
      have hM1 : ¬ ((M + 1 : Nat) : Int) ≤ (M : Int) := by omega
      simp (maxSteps := 1000000) (implicitDefEqProofs := false) (disch := first | with_reducible rfl | omega | (simp only [nA, nS, nD] <;> omega) | fail) only [go_sem, ↓reduceIte, Nat.reduceEqDiff, Nat.reduceAdd, Nat.reduceSub, Nat.reduceMul, reduceCtorEq, Nat.reduceLeDiff, t1, t2, t3, t4, t10, t11, t12, t13, t14, t15, hM1, hlenP]
      obtain ⟨J, hJ⟩ : ∃ J : St → Prop, ∀ s, J s ↔ ∃ tm h' bl bg, s = ⟨tm, h', []⟩ ∧ h1.Sub h' ∧ SlAt h' P 1 (ps.map encI) ∧ h1.next ≤ bl ∧ h1.next ≤ bg ∧ bl ≠ bg ∧ h'.get bl = some (.cells .rw (tab (contL m kind (lot : Int) 0) (M + 1))) ∧ h'.get bg = some (.cells .rw (tab (contG m kind (lot : Int) 0) (M + 1))) ∧
          (Opd.t 1).ev tm = .int .i64 (lot : Int) ∧ (Opd.t 2).ev tm = .int .i64 kind ∧ (Opd.t 3).ev tm = .int .i64 (M : Int) ∧ (Opd.t 4).ev tm = .ptr h.next 0 ∧ (Opd.t 10).ev tm = .int .i64 (ownB m allC (lot : Int)).1 ∧ (Opd.t 11).ev tm = .int .i64 (ownB m allC (lot : Int)).2 ∧
          (Opd.t 12).ev tm = .sl bl 0 (M + 1) (.fix (M + 1)) ∧ (Opd.t 13).ev tm = .sl bg 0 (M + 1) (.fix (M + 1)) ∧ (Opd.t 14).ev tm = P := ⟨_, fun s => Iff.rfl⟩
      refine PB_cut (p := 0 < (ps.length : Int)) J ?_ ?_ ?_
      · intro c
        have hpe : ¬ ps = [] := fun e => by rw [e] at c; simp at c
        have M1 : 0 < M + 1 := Nat.succ_pos M
        have c1 : tab (fset (ini m kind (lot : Int)) 0 0) (M + 1) = tab (contL m kind (lot : Int) 0) (M + 1) := tab_congr fun k k0 _ => by
          unfold contL fset ini; rw [eps, if_neg hpe, if_neg hpe, List.take_zero, ← zero_L k0]
        have c2 : tab (fset (ini m kind (lot : Int)) 0 0) (M + 1) = tab (contG m kind (lot : Int) 0) (M + 1) := tab_congr fun k k0 _ => by
          unfold contG fset ini; rw [eps, if_neg hpe, if_neg hpe, List.take_zero, ← zero_G k0]
        simp (maxSteps := 1000000) (implicitDefEqProofs := false) (disch := first | with_reducible rfl | omega | (simp only [nA, nS, nD] <;> omega) | fail) only [go_sem, ↓reduceIte, Nat.reduceEqDiff, Nat.reduceAdd, Nat.reduceSub, Nat.reduceMul, reduceCtorEq, Nat.reduceLeDiff, t1, t2, t3, t4, t10, t11, t12, t13, t14, t15, q_iad_sl nat_zero M1, Nat.zero_mul, e', f', over_tab M1]
        exact ⟨rfl, (hJ _).2 ⟨_, _, h4.next, h4.next + 1, rfl, (by repeat (first | assumption | exact H.Sub.refl (by assumption) | refine H.Sub.add ?_ _ | refine H.Sub.set ?_ (by first | omega | (simp only [H.next_add, H.next_set, H.next_del] <;> omega)) (by first | omega | (simp only [H.next_add, H.next_set, H.next_del] <;> omega)) (by assumption) _)), kp2 _ _ (kp1 _ _ aP'), by omega, by omega, by omega, by rw [← c1]; simp (maxSteps := 1000000) (implicitDefEqProofs := false) (disch := first | with_reducible rfl | omega | (simp only [nA, nS, nD] <;> omega) | fail) only [go_sem, ↓reduceIte, Nat.reduceEqDiff, Nat.reduceAdd, Nat.reduceSub, Nat.reduceMul, reduceCtorEq, Nat.reduceLeDiff], by rw [← c2]; simp (maxSteps := 1000000) (implicitDefEqProofs := false) (disch := first | with_reducible rfl | omega | (simp only [nA, nS, nD] <;> omega) | fail) only [go_sem, ↓reduceIte, Nat.reduceEqDiff, Nat.reduceAdd, Nat.reduceSub, Nat.reduceMul, reduceCtorEq, Nat.reduceLeDiff], (by simp [ev_c, ev_put, t1] <;> rfl), (by simp [ev_c, ev_put, t2] <;> rfl), (by simp [ev_c, ev_put, t3] <;> rfl), (by simp [ev_c, ev_put, t4] <;> rfl), (by simp [ev_c, ev_put, t10] <;> rfl), (by simp [ev_c, ev_put, t11] <;> rfl), (by simp [ev_c, ev_put, t12] <;> rfl), (by simp [ev_c, ev_put, t13] <;> rfl), (by simp [ev_c, ev_put, t14] <;> rfl)⟩⟩
      · intro c
        have hpe : ps = [] := List.length_eq_zero_iff.1 (by omega)
        have c1 : contL m kind (lot : Int) 0 = ini m kind (lot : Int) := by unfold contL; rw [eps, if_pos hpe]
        have c2 : contG m kind (lot : Int) 0 = ini m kind (lot : Int) := by unfold contG; rw [eps, if_pos hpe]
        simp (maxSteps := 1000000) (implicitDefEqProofs := false) (disch := first | with_reducible rfl | omega | (simp only [nA, nS, nD] <;> omega) | fail) only [go_sem, ↓reduceIte, Nat.reduceEqDiff, Nat.reduceAdd, Nat.reduceSub, Nat.reduceMul, reduceCtorEq, Nat.reduceLeDiff]
        exact ⟨rfl, (hJ _).2 ⟨_, _, h4.next, h4.next + 1, rfl, hs, aP', by omega, by omega, by omega, by rw [c1]; exact e', by rw [c2]; exact f', (by simp [ev_c, ev_put, t1] <;> rfl), (by simp [ev_c, ev_put, t2] <;> rfl), (by simp [ev_c, ev_put, t3] <;> rfl), (by simp [ev_c, ev_put, t4] <;> rfl), (by simp [ev_c, ev_put, t10] <;> rfl), (by simp [ev_c, ev_put, t11] <;> rfl), (by simp [ev_c, ev_put, t12] <;> rfl), (by simp [ev_c, ev_put, t13] <;> rfl), (by simp [ev_c, ev_put, t14] <;> rfl)⟩⟩
      clear hs lt aP' e' f' t1 t2 t3 t4 t10 t11 t12 t13 t14 t15 hM1
      intro s hs
      obtain ⟨tm, h', bl, bg, rfl, hs, aP', nl, ng, nlg, e', f', t1, t2, t3, t4, t10, t11, t12, t13, t14⟩ := (hJ s).1 hs
      simp (maxSteps := 1000000) (implicitDefEqProofs := false) (disch := first | with_reducible rfl | omega | (simp only [nA, nS, nD] <;> omega) | fail) only [go_sem, ↓reduceIte, Nat.reduceEqDiff, Nat.reduceAdd, Nat.reduceSub, Nat.reduceMul, reduceCtorEq, Nat.reduceLeDiff]
      refine W_count ps.length (fun j s => ∃ tm h' bl bg, s = ⟨tm, h', []⟩ ∧ h1.Sub h' ∧ SlAt h' P 1 (ps.map encI) ∧ h1.next ≤ bl ∧ h1.next ≤ bg ∧ bl ≠ bg ∧ h'.get bl = some (.cells .rw (tab (contL m kind (lot : Int) j) (M + 1))) ∧ h'.get bg = some (.cells .rw (tab (contG m kind (lot : Int) j) (M + 1))) ∧
          (Opd.t 1).ev tm = .int .i64 (lot : Int) ∧ (Opd.t 2).ev tm = .int .i64 kind ∧ (Opd.t 3).ev tm = .int .i64 (M : Int) ∧ (Opd.t 4).ev tm = .ptr h.next 0 ∧ (Opd.t 10).ev tm = .int .i64 (ownB m allC (lot : Int)).1 ∧ (Opd.t 11).ev tm = .int .i64 (ownB m allC (lot : Int)).2 ∧
          (Opd.t 12).ev tm = .sl bl 0 (M + 1) (.fix (M + 1)) ∧ (Opd.t 13).ev tm = .sl bg 0 (M + 1) (.fix (M + 1)) ∧ (Opd.t 14).ev tm = P ∧ (Opd.t 16).ev tm = .int .i64 (j : Int))
        ?_ ?_ (i := 0) (Nat.zero_le _) ⟨_, _, bl, bg, rfl, hs, aP', nl, ng, nlg, e', f', (by simp [ev_c, ev_put, t1] <;> rfl), (by simp [ev_c, ev_put, t2] <;> rfl), (by simp [ev_c, ev_put, t3] <;> rfl), (by simp [ev_c, ev_put, t4] <;> rfl), (by simp [ev_c, ev_put, t10] <;> rfl), (by simp [ev_c, ev_put, t11] <;> rfl), (by simp [ev_c, ev_put, t12] <;> rfl), (by simp [ev_c, ev_put, t13] <;> rfl), (by simp [ev_c, ev_put, t14] <;> rfl), (by simp [ev_c, ev_put] <;> rfl)⟩
      · clear hs aP' nl ng nlg e' f' t1 t2 t3 t4 t10 t11 t12 t13 t14 e6 f6 e5 f5 kp1 kp2 z own s13 s34 s14 s15 s56 s16 aC l4 l5 l6 hP gm6
        rintro j s hj ⟨tm, h', bl, bg, rfl, hs, aP', nl, ng, nlg, e', f', t1, t2, t3, t4, t10, t11, t12, t13, t14, t16⟩
        have hj' : (j : Int) < (ps.length : Int) := by omega
        have hpe : ps ≠ [] := fun e => by rw [e] at hj; simp at hj
        have cL : ∀ j, contL m kind (lot : Int) j = TLs m kind (ps.take j) := fun j => by unfold contL; rw [eps, if_neg hpe]
        have cG : ∀ j, contG m kind (lot : Int) j = TGs m kind (ps.take j) := fun j => by unfold contG; rw [eps, if_neg hpe]
        rw [cL] at e'
        rw [cG] at f'
        have hs0 := s1.trans hs
        have gm := hs.cells g1
        obtain ⟨b2, o2, c2, cs2, eb, hcs2, hq2, hgg2, hn2, hn02⟩ := aP'.at hj
        obtain ⟨p0, p1, p2⟩ := hpsm _ (List.getElem_mem hj)
        obtain ⟨p, ep⟩ := Int.eq_ofNat_of_zero_le p0
        have hpt : ps.take (j + 1) = ps.take j ++ [(p : Int)] := by rw [List.take_succ_eq_append_getElem hj, ep]
        subst eb
        simp (maxSteps := 1000000) (implicitDefEqProofs := false) (disch := first | with_reducible rfl | omega | (simp only [nA, nS, nD] <;> omega) | fail) only [go_sem, ↓reduceIte, Nat.reduceEqDiff, Nat.reduceAdd, Nat.reduceSub, Nat.reduceMul, reduceCtorEq, Nat.reduceLeDiff, t1, t2, t3, t4, t10, t11, t12, t13, t14, t16, hlenP, hj', gm, hq2 (nat_cst j), hcs2, hn02 (by omega), encI, ep]
        refine ih p (by omega) (by omega) hs0.wf (hm0.mono hs0) _ fun h8 b3 b4 s8 e8 f8 => ?_
        have s18 := hs.trans s8
        simp (maxSteps := 1000000) (implicitDefEqProofs := false) (disch := first | with_reducible rfl | omega | (simp only [nA, nS, nD] <;> omega) | fail) only [go_sem, ↓reduceIte, Nat.reduceEqDiff, Nat.reduceAdd, Nat.reduceSub, Nat.reduceMul, reduceCtorEq, Nat.reduceLeDiff, t1, t2, t3, t4, t10, t11, t12, t13, t14, t16, gm, s18.cells g1, hcs2, s8.cells hcs2, hn02 (by omega), encI, ep, wr_succ, a_msl_nm, tab_zero]
        have hq3 := aP'.mono s8
        have e8' := s8.get e'
        have f8' := s8.get f'
        have w8 := s8.wf
        have n3 := w8 _ _ e8
        have n4 := w8 _ _ f8
        have n5 := w8 _ _ e8'
        have n6 := w8 _ _ f8'
        have hpl' : ∀ q ∈ ps.take j, 0 ≤ q ∧ q < m.lots.length := fun q hq => by have := hpsm q (List.mem_of_mem_take hq); omega
        have hpp : 0 ≤ (p : Int) ∧ (p : Int) < m.lots.length := ⟨by omega, by omega⟩
        have QA := sK_quads (kind := kind) g hag hpl'
        have QB := sK_quad (kind := kind) g hag hpp.1 hpp.2
        have QC := sN_quads (kind := kind) g hag hpl'
        have QD := sN_quad (kind := kind) g hag hpp.1 hpp.2
        refine W_count (M + 1) (fun n s => ∃ tm h'', s = ⟨tm, h'', []⟩ ∧ h8.Sub h'' ∧ h8.next + 1 < h''.next ∧ h''.get h8.next = some (.cells .rw (tab (upI (TLs m kind (ps.take (j + 1))) n) (M + 1))) ∧ h''.get (h8.next + 1) = some (.cells .rw (tab (upI (TGs m kind (ps.take (j + 1))) n) (M + 1))) ∧
            (Opd.t 1).ev tm = .int .i64 (lot : Int) ∧ (Opd.t 2).ev tm = .int .i64 kind ∧ (Opd.t 3).ev tm = .int .i64 (M : Int) ∧ (Opd.t 4).ev tm = .ptr h.next 0 ∧ (Opd.t 10).ev tm = .int .i64 (ownB m allC (lot : Int)).1 ∧ (Opd.t 11).ev tm = .int .i64 (ownB m allC (lot : Int)).2 ∧
            (Opd.t 12).ev tm = .sl bl 0 (M + 1) (.fix (M + 1)) ∧ (Opd.t 13).ev tm = .sl bg 0 (M + 1) (.fix (M + 1)) ∧ (Opd.t 14).ev tm = .sl b2 o2 ps.length c2 ∧ (Opd.t 16).ev tm = .int .i64 (j : Int) ∧ (Opd.t 17).ev tm = .sl b3 0 (M + 1) (.fix (M + 1)) ∧ (Opd.t 18).ev tm = .sl b4 0 (M + 1) (.fix (M + 1)) ∧
            (Opd.t 19).ev tm = .sl h8.next 0 (M + 1) (.fix (M + 1)) ∧ (Opd.t 20).ev tm = .sl (h8.next + 1) 0 (M + 1) (.fix (M + 1)) ∧ (Opd.t 21).ev tm = .int .i64 (n : Int))
          ?_ ?_ (i := 0) (Nat.zero_le _) ⟨_, _, rfl, (by repeat (first | assumption | exact H.Sub.refl (by assumption) | refine H.Sub.add ?_ _ | refine H.Sub.set ?_ (by first | omega | (simp only [H.next_add, H.next_set, H.next_del] <;> omega)) (by first | omega | (simp only [H.next_add, H.next_set, H.next_del] <;> omega)) (by assumption) _)), by simp only [H.next_add]; omega, by rw [← upI_zero]; simp (maxSteps := 1000000) (implicitDefEqProofs := false) (disch := first | with_reducible rfl | omega | (simp only [nA, nS, nD] <;> omega) | fail) only [go_sem, ↓reduceIte, Nat.reduceEqDiff, Nat.reduceAdd, Nat.reduceSub, Nat.reduceMul, reduceCtorEq, Nat.reduceLeDiff], by rw [← upI_zero]; simp (maxSteps := 1000000) (implicitDefEqProofs := false) (disch := first | with_reducible rfl | omega | (simp only [nA, nS, nD] <;> omega) | fail) only [go_sem, ↓reduceIte, Nat.reduceEqDiff, Nat.reduceAdd, Nat.reduceSub, Nat.reduceMul, reduceCtorEq, Nat.reduceLeDiff], (by simp [ev_c, ev_put, t1] <;> rfl), (by simp [ev_c, ev_put, t2] <;> rfl), (by simp [ev_c, ev_put, t3] <;> rfl), (by simp [ev_c, ev_put, t4] <;> rfl), (by simp [ev_c, ev_put, t10] <;> rfl), (by simp [ev_c, ev_put, t11] <;> rfl), (by simp [ev_c, ev_put, t12] <;> rfl), (by simp [ev_c, ev_put, t13] <;> rfl), (by simp [ev_c, ev_put, t14] <;> rfl), (by simp [ev_c, ev_put, t16] <;> rfl), (by simp [ev_c, ev_put] <;> rfl), (by simp [ev_c, ev_put] <;> rfl), (by simp [ev_c, ev_put] <;> rfl), (by simp [ev_c, ev_put] <;> rfl), (by simp [ev_c, ev_put] <;> rfl)⟩
        · clear t1 t2 t3 t4 t10 t11 t12 t13 t14 t16
          rintro n s hn ⟨tm, h'', rfl, hs2, lt2, x2, y2, t1, t2, t3, t4, t10, t11, t12, t13, t14, t16, t17, t18, t19, t20, t21⟩
          have hn' : (n : Int) ≤ (M : Int) := by omega
          simp (maxSteps := 1000000) (implicitDefEqProofs := false) (disch := first | with_reducible rfl | omega | (simp only [nA, nS, nD] <;> omega) | fail) only [go_sem, ↓reduceIte, Nat.reduceEqDiff, Nat.reduceAdd, Nat.reduceSub, Nat.reduceMul, reduceCtorEq, Nat.reduceLeDiff, t1, t2, t3, t4, t10, t11, t12, t13, t14, t16, t17, t18, t19, t20, t21, hn', q_iad_sl (nat_cst n) hn, Nat.mul_one, x2, y2, tab_st hn]
          refine W_count (n + 1) (fun k s => ∃ tm h'' x y, s = ⟨tm, h'', []⟩ ∧ h8.Sub h'' ∧ h8.next + 1 < h''.next ∧ h''.get h8.next = some (.cells .rw (tab (fset (upI (TLs m kind (ps.take (j + 1))) n) (n : Int) x) (M + 1))) ∧ h''.get (h8.next + 1) = some (.cells .rw (tab (fset (upI (TGs m kind (ps.take (j + 1))) n) (n : Int) y) (M + 1))) ∧
              MinUpto (fun j' => TLs m kind (ps.take j) ((n : Int) - j') + TL m kind (p : Int) j') (okC m kind (ps.take j) (p : Int) (n : Int)) (k : Int) x ∧ MaxUpto (fun j' => TGs m kind (ps.take j) ((n : Int) - j') + TG m kind (p : Int) j') (okC m kind (ps.take j) (p : Int) (n : Int)) (k : Int) y ∧
              (Opd.t 1).ev tm = .int .i64 (lot : Int) ∧ (Opd.t 2).ev tm = .int .i64 kind ∧ (Opd.t 3).ev tm = .int .i64 (M : Int) ∧ (Opd.t 4).ev tm = .ptr h.next 0 ∧ (Opd.t 10).ev tm = .int .i64 (ownB m allC (lot : Int)).1 ∧ (Opd.t 11).ev tm = .int .i64 (ownB m allC (lot : Int)).2 ∧
              (Opd.t 12).ev tm = .sl bl 0 (M + 1) (.fix (M + 1)) ∧ (Opd.t 13).ev tm = .sl bg 0 (M + 1) (.fix (M + 1)) ∧ (Opd.t 14).ev tm = .sl b2 o2 ps.length c2 ∧ (Opd.t 16).ev tm = .int .i64 (j : Int) ∧ (Opd.t 17).ev tm = .sl b3 0 (M + 1) (.fix (M + 1)) ∧ (Opd.t 18).ev tm = .sl b4 0 (M + 1) (.fix (M + 1)) ∧
              (Opd.t 19).ev tm = .sl h8.next 0 (M + 1) (.fix (M + 1)) ∧ (Opd.t 20).ev tm = .sl (h8.next + 1) 0 (M + 1) (.fix (M + 1)) ∧ (Opd.t 21).ev tm = .int .i64 (n : Int) ∧ (Opd.t 22).ev tm = .int .i64 (k : Int))
            ?_ ?_ (i := 0) (Nat.zero_le _) ⟨_, _, -1, -1, rfl, (by repeat (first | assumption | exact H.Sub.refl (by assumption) | refine H.Sub.add ?_ _ | refine H.Sub.set ?_ (by first | omega | (simp only [H.next_add, H.next_set, H.next_del] <;> omega)) (by first | omega | (simp only [H.next_add, H.next_set, H.next_del] <;> omega)) (by assumption) _)), by simp only [H.next_set]; exact lt2, by simp (maxSteps := 1000000) (implicitDefEqProofs := false) (disch := first | with_reducible rfl | omega | (simp only [nA, nS, nD] <;> omega) | fail) only [go_sem, ↓reduceIte, Nat.reduceEqDiff, Nat.reduceAdd, Nat.reduceSub, Nat.reduceMul, reduceCtorEq, Nat.reduceLeDiff], by simp (maxSteps := 1000000) (implicitDefEqProofs := false) (disch := first | with_reducible rfl | omega | (simp only [nA, nS, nD] <;> omega) | fail) only [go_sem, ↓reduceIte, Nat.reduceEqDiff, Nat.reduceAdd, Nat.reduceSub, Nat.reduceMul, reduceCtorEq, Nat.reduceLeDiff], MinUpto.zero _ _, MaxUpto.zero _ _, (by simp [ev_c, ev_put, t1] <;> rfl), (by simp [ev_c, ev_put, t2] <;> rfl), (by simp [ev_c, ev_put, t3] <;> rfl), (by simp [ev_c, ev_put, t4] <;> rfl), (by simp [ev_c, ev_put, t10] <;> rfl), (by simp [ev_c, ev_put, t11] <;> rfl), (by simp [ev_c, ev_put, t12] <;> rfl), (by simp [ev_c, ev_put, t13] <;> rfl), (by simp [ev_c, ev_put, t14] <;> rfl), (by simp [ev_c, ev_put, t16] <;> rfl), (by simp [ev_c, ev_put, t17] <;> rfl), (by simp [ev_c, ev_put, t18] <;> rfl), (by simp [ev_c, ev_put, t19] <;> rfl), (by simp [ev_c, ev_put, t20] <;> rfl), (by simp [ev_c, ev_put, t21] <;> rfl), (by simp [ev_c, ev_put] <;> rfl)⟩
          · clear t1 t2 t3 t4 t10 t11 t12 t13 t14 t16 t17 t18 t19 t20 t21 hs2 lt2 x2 y2
            rintro k s hk2 ⟨tm, h'', x, y, rfl, hs2, lt2, x2, y2, mn, mx, t1, t2, t3, t4, t10, t11, t12, t13, t14, t16, t17, t18, t19, t20, t21, t22⟩
            have hk' : (k : Int) ≤ (n : Int) := by omega
            have hkM : k < M + 1 := by omega
            have hdM : n - k < M + 1 := by omega
            have ee : (n : Int) - (k : Int) = ((n - k : Nat) : Int) := by omega
            have cA := cells_of (hs2.get e8')
            have cB := cells_of (hs2.get e8)
            have cC := cells_of (hs2.get f8')
            have cD := cells_of (hs2.get f8)
            have bA : -1 ≤ TLs m kind (ps.take j) ((n - k : Nat) : Int) ∧ TLs m kind (ps.take j) ((n - k : Nat) : Int) ≤ ((n - k : Nat) : Int) := QA.bdL (by omega)
            have bB : -1 ≤ TL m kind (p : Int) (k : Int) ∧ TL m kind (p : Int) (k : Int) ≤ (k : Int) := QB.bdL (by omega)
            have bC : -1 ≤ TGs m kind (ps.take j) ((n - k : Nat) : Int) ∧ TGs m kind (ps.take j) ((n - k : Nat) : Int) ≤ ((n - k : Nat) : Int) := QC.bdG (by omega)
            have bD : -1 ≤ TG m kind (p : Int) (k : Int) ∧ TG m kind (p : Int) (k : Int) ≤ (k : Int) := QD.bdG (by omega)
            by_cases hA : TLs m kind (ps.take j) ((n - k : Nat) : Int) < 0
            · have hno : ¬ okC m kind (ps.take j) (p : Int) (n : Int) (k : Int) := fun h => by unfold okC at h; rw [ee] at h; omega
              simp (maxSteps := 1000000) (implicitDefEqProofs := false) (disch := first | with_reducible rfl | omega | (simp only [nA, nS, nD] <;> omega) | fail) only [go_sem, ↓reduceIte, Nat.reduceEqDiff, Nat.reduceAdd, Nat.reduceSub, Nat.reduceMul, reduceCtorEq, Nat.reduceLeDiff, t1, t2, t3, t4, t10, t11, t12, t13, t14, t16, t17, t18, t19, t20, t21, t22, hk', wr_in, ee, q_iad_sl (nat_cst k) hkM, q_iad_sl (nat_cst (n - k)) hdM, Nat.mul_one, cA, cB, tab_at hkM, tab_at hdM, hA, wr_succ]
              exact ⟨_, _, x, y, rfl, hs2, lt2, x2, y2, mn.skip hno, mx.skip hno, (by simp [ev_c, ev_put, t1] <;> rfl), (by simp [ev_c, ev_put, t2] <;> rfl), (by simp [ev_c, ev_put, t3] <;> rfl), (by simp [ev_c, ev_put, t4] <;> rfl), (by simp [ev_c, ev_put, t10] <;> rfl), (by simp [ev_c, ev_put, t11] <;> rfl), (by simp [ev_c, ev_put, t12] <;> rfl), (by simp [ev_c, ev_put, t13] <;> rfl), (by simp [ev_c, ev_put, t14] <;> rfl), (by simp [ev_c, ev_put, t16] <;> rfl), (by simp [ev_c, ev_put, t17] <;> rfl), (by simp [ev_c, ev_put, t18] <;> rfl), (by simp [ev_c, ev_put, t19] <;> rfl), (by simp [ev_c, ev_put, t20] <;> rfl), (by simp [ev_c, ev_put, t21] <;> rfl), (by simp [ev_c, ev_put] <;> rfl)⟩
            by_cases hB : TL m kind (p : Int) (k : Int) < 0
            · have hno : ¬ okC m kind (ps.take j) (p : Int) (n : Int) (k : Int) := fun h => by unfold okC at h; omega
              simp (maxSteps := 1000000) (implicitDefEqProofs := false) (disch := first | with_reducible rfl | omega | (simp only [nA, nS, nD] <;> omega) | fail) only [go_sem, ↓reduceIte, Nat.reduceEqDiff, Nat.reduceAdd, Nat.reduceSub, Nat.reduceMul, reduceCtorEq, Nat.reduceLeDiff, t1, t2, t3, t4, t10, t11, t12, t13, t14, t16, t17, t18, t19, t20, t21, t22, hk', wr_in, ee, q_iad_sl (nat_cst k) hkM, q_iad_sl (nat_cst (n - k)) hdM, Nat.mul_one, cA, cB, tab_at hkM, tab_at hdM, hA, hB, wr_succ]
              exact ⟨_, _, x, y, rfl, hs2, lt2, x2, y2, mn.skip hno, mx.skip hno, (by simp [ev_c, ev_put, t1] <;> rfl), (by simp [ev_c, ev_put, t2] <;> rfl), (by simp [ev_c, ev_put, t3] <;> rfl), (by simp [ev_c, ev_put, t4] <;> rfl), (by simp [ev_c, ev_put, t10] <;> rfl), (by simp [ev_c, ev_put, t11] <;> rfl), (by simp [ev_c, ev_put, t12] <;> rfl), (by simp [ev_c, ev_put, t13] <;> rfl), (by simp [ev_c, ev_put, t14] <;> rfl), (by simp [ev_c, ev_put, t16] <;> rfl), (by simp [ev_c, ev_put, t17] <;> rfl), (by simp [ev_c, ev_put, t18] <;> rfl), (by simp [ev_c, ev_put, t19] <;> rfl), (by simp [ev_c, ev_put, t20] <;> rfl), (by simp [ev_c, ev_put, t21] <;> rfl), (by simp [ev_c, ev_put] <;> rfl)⟩
            have hok : okC m kind (ps.take j) (p : Int) (n : Int) (k : Int) := by unfold okC; rw [ee]; omega
            have hoG := okC_G g hag hpl' hpp hok
            have k0 : (0 : Int) ≤ (k : Int) := by omega
            have hv1 : 0 ≤ TLs m kind (ps.take j) ((n : Int) - (k : Int)) + TL m kind (p : Int) (k : Int) := by rw [ee]; omega
            have hv2 : 0 ≤ TGs m kind (ps.take j) ((n : Int) - (k : Int)) + TG m kind (p : Int) (k : Int) := by omega
            have mx' : MaxUpto (fun j' => TGs m kind (ps.take j) ((n : Int) - j') + TG m kind (p : Int) j') (okC m kind (ps.take j) (p : Int) (n : Int)) ((k : Int) + 1) (max y (TGs m kind (ps.take j) ((n - k : Nat) : Int) + TG m kind (p : Int) (k : Int))) := by rw [← ee]; exact mx.take k0 hok hv2
            have mn' : (x < 0 ∨ TLs m kind (ps.take j) ((n - k : Nat) : Int) + TL m kind (p : Int) (k : Int) < x) → MinUpto (fun j' => TLs m kind (ps.take j) ((n : Int) - j') + TL m kind (p : Int) j') (okC m kind (ps.take j) (p : Int) (n : Int)) ((k : Int) + 1) (TLs m kind (ps.take j) ((n - k : Nat) : Int) + TL m kind (p : Int) (k : Int)) := by
              rw [← ee]; exact fun hx => mn.take k0 hok hv1 hx
            have cx := cells_of x2
            have cy := cells_of y2
            by_cases hx : x < 0
            · simp (maxSteps := 1000000) (implicitDefEqProofs := false) (disch := first | with_reducible rfl | omega | (simp only [nA, nS, nD] <;> omega) | fail) only [go_sem, ↓reduceIte, Nat.reduceEqDiff, Nat.reduceAdd, Nat.reduceSub, Nat.reduceMul, reduceCtorEq, Nat.reduceLeDiff, t1, t2, t3, t4, t10, t11, t12, t13, t14, t16, t17, t18, t19, t20, t21, t22, hk', wr_in, ee, q_iad_sl (nat_cst k) hkM, q_iad_sl (nat_cst n) hn, q_iad_sl (nat_cst (n - k)) hdM, Nat.mul_one, cA, cB, cC, cD, cx, cy, x2, y2, tab_at hkM, tab_at hdM, tab_at hn, tab_st hn, fset_at, hA, hB, hx, wr_succ]
              exact ⟨_, _, _, _, rfl, (by repeat (first | assumption | exact H.Sub.refl (by assumption) | refine H.Sub.add ?_ _ | refine H.Sub.set ?_ (by first | omega | (simp only [H.next_add, H.next_set, H.next_del] <;> omega)) (by first | omega | (simp only [H.next_add, H.next_set, H.next_del] <;> omega)) (by assumption) _)), by simp only [H.next_set]; exact lt2, by simp (maxSteps := 1000000) (implicitDefEqProofs := false) (disch := first | with_reducible rfl | omega | (simp only [nA, nS, nD] <;> omega) | fail) only [go_sem, ↓reduceIte, Nat.reduceEqDiff, Nat.reduceAdd, Nat.reduceSub, Nat.reduceMul, reduceCtorEq, Nat.reduceLeDiff, fset_fset], by simp (maxSteps := 1000000) (implicitDefEqProofs := false) (disch := first | with_reducible rfl | omega | (simp only [nA, nS, nD] <;> omega) | fail) only [go_sem, ↓reduceIte, Nat.reduceEqDiff, Nat.reduceAdd, Nat.reduceSub, Nat.reduceMul, reduceCtorEq, Nat.reduceLeDiff, fset_fset], mn' (.inl hx), mx', (by simp [ev_c, ev_put, t1] <;> rfl), (by simp [ev_c, ev_put, t2] <;> rfl), (by simp [ev_c, ev_put, t3] <;> rfl), (by simp [ev_c, ev_put, t4] <;> rfl), (by simp [ev_c, ev_put, t10] <;> rfl), (by simp [ev_c, ev_put, t11] <;> rfl), (by simp [ev_c, ev_put, t12] <;> rfl), (by simp [ev_c, ev_put, t13] <;> rfl), (by simp [ev_c, ev_put, t14] <;> rfl), (by simp [ev_c, ev_put, t16] <;> rfl), (by simp [ev_c, ev_put, t17] <;> rfl), (by simp [ev_c, ev_put, t18] <;> rfl), (by simp [ev_c, ev_put, t19] <;> rfl), (by simp [ev_c, ev_put, t20] <;> rfl), (by simp [ev_c, ev_put, t21] <;> rfl), (by simp [ev_c, ev_put] <;> rfl)⟩
            by_cases hv : TLs m kind (ps.take j) ((n - k : Nat) : Int) + TL m kind (p : Int) (k : Int) < x
            · simp (maxSteps := 1000000) (implicitDefEqProofs := false) (disch := first | with_reducible rfl | omega | (simp only [nA, nS, nD] <;> omega) | fail) only [go_sem, ↓reduceIte, Nat.reduceEqDiff, Nat.reduceAdd, Nat.reduceSub, Nat.reduceMul, reduceCtorEq, Nat.reduceLeDiff, t1, t2, t3, t4, t10, t11, t12, t13, t14, t16, t17, t18, t19, t20, t21, t22, hk', wr_in, ee, q_iad_sl (nat_cst k) hkM, q_iad_sl (nat_cst n) hn, q_iad_sl (nat_cst (n - k)) hdM, Nat.mul_one, cA, cB, cC, cD, cx, cy, x2, y2, tab_at hkM, tab_at hdM, tab_at hn, tab_st hn, fset_at, hA, hB, hx, hv, wr_succ]
              exact ⟨_, _, _, _, rfl, (by repeat (first | assumption | exact H.Sub.refl (by assumption) | refine H.Sub.add ?_ _ | refine H.Sub.set ?_ (by first | omega | (simp only [H.next_add, H.next_set, H.next_del] <;> omega)) (by first | omega | (simp only [H.next_add, H.next_set, H.next_del] <;> omega)) (by assumption) _)), by simp only [H.next_set]; exact lt2, by simp (maxSteps := 1000000) (implicitDefEqProofs := false) (disch := first | with_reducible rfl | omega | (simp only [nA, nS, nD] <;> omega) | fail) only [go_sem, ↓reduceIte, Nat.reduceEqDiff, Nat.reduceAdd, Nat.reduceSub, Nat.reduceMul, reduceCtorEq, Nat.reduceLeDiff, fset_fset], by simp (maxSteps := 1000000) (implicitDefEqProofs := false) (disch := first | with_reducible rfl | omega | (simp only [nA, nS, nD] <;> omega) | fail) only [go_sem, ↓reduceIte, Nat.reduceEqDiff, Nat.reduceAdd, Nat.reduceSub, Nat.reduceMul, reduceCtorEq, Nat.reduceLeDiff, fset_fset], mn' (.inr hv), mx', (by simp [ev_c, ev_put, t1] <;> rfl), (by simp [ev_c, ev_put, t2] <;> rfl), (by simp [ev_c, ev_put, t3] <;> rfl), (by simp [ev_c, ev_put, t4] <;> rfl), (by simp [ev_c, ev_put, t10] <;> rfl), (by simp [ev_c, ev_put, t11] <;> rfl), (by simp [ev_c, ev_put, t12] <;> rfl), (by simp [ev_c, ev_put, t13] <;> rfl), (by simp [ev_c, ev_put, t14] <;> rfl), (by simp [ev_c, ev_put, t16] <;> rfl), (by simp [ev_c, ev_put, t17] <;> rfl), (by simp [ev_c, ev_put, t18] <;> rfl), (by simp [ev_c, ev_put, t19] <;> rfl), (by simp [ev_c, ev_put, t20] <;> rfl), (by simp [ev_c, ev_put, t21] <;> rfl), (by simp [ev_c, ev_put] <;> rfl)⟩
            · have hl : ¬ (x < 0 ∨ TLs m kind (ps.take j) ((n : Int) - (k : Int)) + TL m kind (p : Int) (k : Int) < x) := by rw [ee]; omega
              simp (maxSteps := 1000000) (implicitDefEqProofs := false) (disch := first | with_reducible rfl | omega | (simp only [nA, nS, nD] <;> omega) | fail) only [go_sem, ↓reduceIte, Nat.reduceEqDiff, Nat.reduceAdd, Nat.reduceSub, Nat.reduceMul, reduceCtorEq, Nat.reduceLeDiff, t1, t2, t3, t4, t10, t11, t12, t13, t14, t16, t17, t18, t19, t20, t21, t22, hk', wr_in, ee, q_iad_sl (nat_cst k) hkM, q_iad_sl (nat_cst n) hn, q_iad_sl (nat_cst (n - k)) hdM, Nat.mul_one, cA, cB, cC, cD, cx, cy, x2, y2, tab_at hkM, tab_at hdM, tab_at hn, tab_st hn, fset_at, hA, hB, hx, hv, wr_succ]
              exact ⟨_, _, x, _, rfl, (by repeat (first | assumption | exact H.Sub.refl (by assumption) | refine H.Sub.add ?_ _ | refine H.Sub.set ?_ (by first | omega | (simp only [H.next_add, H.next_set, H.next_del] <;> omega)) (by first | omega | (simp only [H.next_add, H.next_set, H.next_del] <;> omega)) (by assumption) _)), by simp only [H.next_set]; exact lt2, by simp (maxSteps := 1000000) (implicitDefEqProofs := false) (disch := first | with_reducible rfl | omega | (simp only [nA, nS, nD] <;> omega) | fail) only [go_sem, ↓reduceIte, Nat.reduceEqDiff, Nat.reduceAdd, Nat.reduceSub, Nat.reduceMul, reduceCtorEq, Nat.reduceLeDiff]; exact x2, by simp (maxSteps := 1000000) (implicitDefEqProofs := false) (disch := first | with_reducible rfl | omega | (simp only [nA, nS, nD] <;> omega) | fail) only [go_sem, ↓reduceIte, Nat.reduceEqDiff, Nat.reduceAdd, Nat.reduceSub, Nat.reduceMul, reduceCtorEq, Nat.reduceLeDiff, fset_fset], mn.leave hl, mx', (by simp [ev_c, ev_put, t1] <;> rfl), (by simp [ev_c, ev_put, t2] <;> rfl), (by simp [ev_c, ev_put, t3] <;> rfl), (by simp [ev_c, ev_put, t4] <;> rfl), (by simp [ev_c, ev_put, t10] <;> rfl), (by simp [ev_c, ev_put, t11] <;> rfl), (by simp [ev_c, ev_put, t12] <;> rfl), (by simp [ev_c, ev_put, t13] <;> rfl), (by simp [ev_c, ev_put, t14] <;> rfl), (by simp [ev_c, ev_put, t16] <;> rfl), (by simp [ev_c, ev_put, t17] <;> rfl), (by simp [ev_c, ev_put, t18] <;> rfl), (by simp [ev_c, ev_put, t19] <;> rfl), (by simp [ev_c, ev_put, t20] <;> rfl), (by simp [ev_c, ev_put, t21] <;> rfl), (by simp [ev_c, ev_put] <;> rfl)⟩
          · clear t1 t2 t3 t4 t10 t11 t12 t13 t14 t16 t17 t18 t19 t20 t21 hs2 lt2 x2 y2
            rintro s ⟨tm, h'', x, y, rfl, hs2, lt2, x2, y2, mn, mx, t1, t2, t3, t4, t10, t11, t12, t13, t14, t16, t17, t18, t19, t20, t21, t22⟩
            have hn1 : ¬ ((n + 1 : Nat) : Int) ≤ (n : Int) := by omega
            have ex : x = TLs m kind (ps.take (j + 1)) (n : Int) := by rw [hpt]; exact conv_L g hag hpl' hpp mn
            have ey : y = TGs m kind (ps.take (j + 1)) (n : Int) := by rw [hpt]; exact conv_G g hag hpl' hpp mx
            rw [upI_step _ _ ex] at x2
            rw [upI_step _ _ ey] at y2
            simp (maxSteps := 1000000) (implicitDefEqProofs := false) (disch := first | with_reducible rfl | omega | (simp only [nA, nS, nD] <;> omega) | fail) only [go_sem, ↓reduceIte, Nat.reduceEqDiff, Nat.reduceAdd, Nat.reduceSub, Nat.reduceMul, reduceCtorEq, Nat.reduceLeDiff, t1, t2, t3, t4, t10, t11, t12, t13, t14, t16, t17, t18, t19, t20, t21, t22, hn1, wr_succ]
            exact ⟨_, _, rfl, hs2, lt2, x2, y2, (by simp [ev_c, ev_put, t1] <;> rfl), (by simp [ev_c, ev_put, t2] <;> rfl), (by simp [ev_c, ev_put, t3] <;> rfl), (by simp [ev_c, ev_put, t4] <;> rfl), (by simp [ev_c, ev_put, t10] <;> rfl), (by simp [ev_c, ev_put, t11] <;> rfl), (by simp [ev_c, ev_put, t12] <;> rfl), (by simp [ev_c, ev_put, t13] <;> rfl), (by simp [ev_c, ev_put, t14] <;> rfl), (by simp [ev_c, ev_put, t16] <;> rfl), (by simp [ev_c, ev_put, t17] <;> rfl), (by simp [ev_c, ev_put, t18] <;> rfl), (by simp [ev_c, ev_put, t19] <;> rfl), (by simp [ev_c, ev_put, t20] <;> rfl), (by simp [ev_c, ev_put] <;> rfl)⟩
        · clear t1 t2 t3 t4 t10 t11 t12 t13 t14 t16
          rintro s ⟨tm, h'', rfl, hs2, lt2, x2, y2, t1, t2, t3, t4, t10, t11, t12, t13, t14, t16, t17, t18, t19, t20, t21⟩
          have hn1 : ¬ ((M + 1 : Nat) : Int) ≤ (M : Int) := by omega
          rw [upI_all] at x2 y2
          have l18 := s18.next
          simp (maxSteps := 1000000) (implicitDefEqProofs := false) (disch := first | with_reducible rfl | omega | (simp only [nA, nS, nD] <;> omega) | fail) only [go_sem, ↓reduceIte, Nat.reduceEqDiff, Nat.reduceAdd, Nat.reduceSub, Nat.reduceMul, reduceCtorEq, Nat.reduceLeDiff, t1, t2, t3, t4, t10, t11, t12, t13, t14, t16, t17, t18, t19, t20, t21, hn1, wr_succ]
          exact ⟨_, _, h8.next, h8.next + 1, rfl, s18.trans hs2, hq3.mono hs2, by omega, by omega, by omega, by rw [cL]; exact x2, by rw [cG]; exact y2, (by simp [ev_c, ev_put, t1] <;> rfl), (by simp [ev_c, ev_put, t2] <;> rfl), (by simp [ev_c, ev_put, t3] <;> rfl), (by simp [ev_c, ev_put, t4] <;> rfl), (by simp [ev_c, ev_put, t10] <;> rfl), (by simp [ev_c, ev_put, t11] <;> rfl), (by simp [ev_c, ev_put] <;> rfl), (by simp [ev_c, ev_put] <;> rfl), (by simp [ev_c, ev_put, t14] <;> rfl), (by simp [ev_c, ev_put] <;> rfl)⟩
      · clear hs aP' nl ng nlg e' f' t1 t2 t3 t4 t10 t11 t12 t13 t14 e6 f6 e5 f5 kp1 kp2 z own s13 s34 s14 s15 s56 s16 aC l4 l5 l6 hP gm6
        rintro s ⟨tm, h', bl, bg, rfl, hs, aP', nl, ng, nlg, e', f', t1, t2, t3, t4, t10, t11, t12, t13, t14, t16⟩
        have hL : tab (cutI (ownB m allC (lot : Int)).1 (ownB m allC (lot : Int)).2 (contL m kind (lot : Int) ps.length) (M + 1)) (M + 1) = tab (TL m kind (lot : Int)) (M + 1) := tab_congr fun n n0 n1 => by
          unfold cutI contL
          rw [if_pos (by omega)]
          by_cases hpe : ps = []
          · rw [← leaf_L g hlot (by rw [eps]; exact hpe) n0, eps, if_pos hpe]
            unfold ini; rw [eps, if_pos hpe, kd]
          · rw [← node_L g hag hl0 hl1 (by rw [eps]; exact hpe) n0, eps, if_neg hpe, List.take_length]
        have hG : tab (cutI (ownB m allC (lot : Int)).1 (ownB m allC (lot : Int)).2 (contG m kind (lot : Int) ps.length) (M + 1)) (M + 1) = tab (TG m kind (lot : Int)) (M + 1) := tab_congr fun n n0 n1 => by
          unfold cutI contG
          rw [if_pos (by omega)]
          by_cases hpe : ps = []
          · rw [← leaf_G g hlot (by rw [eps]; exact hpe) n0, eps, if_pos hpe]
            unfold ini; rw [eps, if_pos hpe, kd]
          · rw [← node_G g hag hl0 hl1 (by rw [eps]; exact hpe) n0, eps, if_neg hpe, List.take_length]
        have hne : ¬ (ps.length : Int) < (ps.length : Int) := Int.lt_irrefl _
        have hs0 := s1.trans hs
        have b0 := hs0.wf _ _ e'
        have b1 := hs0.wf _ _ f'
        simp (maxSteps := 1000000) (implicitDefEqProofs := false) (disch := first | with_reducible rfl | omega | (simp only [nA, nS, nD] <;> omega) | fail) only [go_sem, ↓reduceIte, Nat.reduceEqDiff, Nat.reduceAdd, Nat.reduceSub, Nat.reduceMul, reduceCtorEq, Nat.reduceLeDiff, t1, t2, t3, t4, t10, t11, t12, t13, t14, t16, hlenP, hne]
        refine W_count (M + 1) (fun n s => ∃ tm h', s = ⟨tm, h', []⟩ ∧ h.Sub h' ∧ bl < h'.next ∧ bg < h'.next ∧ h'.get bl = some (.cells .rw (tab (cutI (ownB m allC (lot : Int)).1 (ownB m allC (lot : Int)).2 (contL m kind (lot : Int) ps.length) n) (M + 1))) ∧ h'.get bg = some (.cells .rw (tab (cutI (ownB m allC (lot : Int)).1 (ownB m allC (lot : Int)).2 (contG m kind (lot : Int) ps.length) n) (M + 1))) ∧
            (Opd.t 3).ev tm = .int .i64 (M : Int) ∧ (Opd.t 10).ev tm = .int .i64 (ownB m allC (lot : Int)).1 ∧ (Opd.t 11).ev tm = .int .i64 (ownB m allC (lot : Int)).2 ∧
            (Opd.t 12).ev tm = .sl bl 0 (M + 1) (.fix (M + 1)) ∧ (Opd.t 13).ev tm = .sl bg 0 (M + 1) (.fix (M + 1)) ∧ (Opd.t 23).ev tm = .int .i64 (n : Int))
          ?_ ?_ (i := 0) (Nat.zero_le _) ⟨_, _, rfl, hs0, b0, b1, by rw [cutI_zero]; exact e', by rw [cutI_zero]; exact f', (by simp [ev_c, ev_put, t3] <;> rfl), (by simp [ev_c, ev_put, t10] <;> rfl), (by simp [ev_c, ev_put, t11] <;> rfl), (by simp [ev_c, ev_put, t12] <;> rfl), (by simp [ev_c, ev_put, t13] <;> rfl), (by simp [ev_c, ev_put] <;> rfl)⟩
        · clear t1 t2 t3 t4 t10 t11 t12 t13 t14 t16 e' f' b0 b1 hs0 hs
          rintro n s hn ⟨tm, h', rfl, hs, b0, b1, e', f', t3, t10, t11, t12, t13, t23⟩
          have hn' : (n : Int) ≤ (M : Int) := by omega
          by_cases ho : (ownB m allC (lot : Int)).1 ≤ (n : Int) ∧ (n : Int) ≤ (ownB m allC (lot : Int)).2
          · have hib : inB (n : Int) (ownB m allC (lot : Int)).1 (ownB m allC (lot : Int)).2 = true := by unfold inB; exact decide_eq_true ho
            rw [cutI_in _ _ ho] at e' f'
            simp (maxSteps := 1000000) (implicitDefEqProofs := false) (disch := first | with_reducible rfl | omega | (simp only [nA, nS, nD] <;> omega) | fail) only [go_sem, ↓reduceIte, Nat.reduceEqDiff, Nat.reduceAdd, Nat.reduceSub, Nat.reduceMul, reduceCtorEq, Nat.reduceLeDiff, t3, t10, t11, t12, t13, t23, hn', off_ev, hib, wr_succ]
            exact ⟨_, _, rfl, hs, b0, b1, e', f', (by simp [ev_c, ev_put, t3] <;> rfl), (by simp [ev_c, ev_put, t10] <;> rfl), (by simp [ev_c, ev_put, t11] <;> rfl), (by simp [ev_c, ev_put, t12] <;> rfl), (by simp [ev_c, ev_put, t13] <;> rfl), (by simp [ev_c, ev_put] <;> rfl)⟩
          · have hib : inB (n : Int) (ownB m allC (lot : Int)).1 (ownB m allC (lot : Int)).2 = false := by unfold inB; exact decide_eq_false ho
            simp (maxSteps := 1000000) (implicitDefEqProofs := false) (disch := first | with_reducible rfl | omega | (simp only [nA, nS, nD] <;> omega) | fail) only [go_sem, ↓reduceIte, Nat.reduceEqDiff, Nat.reduceAdd, Nat.reduceSub, Nat.reduceMul, reduceCtorEq, Nat.reduceLeDiff, t3, t10, t11, t12, t13, t23, hn', off_ev, hib, wr_succ, q_iad_sl (nat_cst n) hn, Nat.mul_one, e', f', tab_st hn]
            exact ⟨_, _, rfl, (by repeat (first | assumption | exact H.Sub.refl (by assumption) | refine H.Sub.add ?_ _ | refine H.Sub.set ?_ (by first | omega | (simp only [H.next_add, H.next_set, H.next_del] <;> omega)) (by first | omega | (simp only [H.next_add, H.next_set, H.next_del] <;> omega)) (by assumption) _)), by simp only [H.next_set]; exact b0, by simp only [H.next_set]; exact b1, by rw [← cutI_off _ _ ho]; simp (maxSteps := 1000000) (implicitDefEqProofs := false) (disch := first | with_reducible rfl | omega | (simp only [nA, nS, nD] <;> omega) | fail) only [go_sem, ↓reduceIte, Nat.reduceEqDiff, Nat.reduceAdd, Nat.reduceSub, Nat.reduceMul, reduceCtorEq, Nat.reduceLeDiff], by rw [← cutI_off _ _ ho]; simp (maxSteps := 1000000) (implicitDefEqProofs := false) (disch := first | with_reducible rfl | omega | (simp only [nA, nS, nD] <;> omega) | fail) only [go_sem, ↓reduceIte, Nat.reduceEqDiff, Nat.reduceAdd, Nat.reduceSub, Nat.reduceMul, reduceCtorEq, Nat.reduceLeDiff], (by simp [ev_c, ev_put, t3] <;> rfl), (by simp [ev_c, ev_put, t10] <;> rfl), (by simp [ev_c, ev_put, t11] <;> rfl), (by simp [ev_c, ev_put, t12] <;> rfl), (by simp [ev_c, ev_put, t13] <;> rfl), (by simp [ev_c, ev_put] <;> rfl)⟩
        · clear t1 t2 t3 t4 t10 t11 t12 t13 t14 t16 e' f' b0 b1 hs0 hs
          rintro s ⟨tm, h', rfl, hs, b0, b1, e', f', t3, t10, t11, t12, t13, t23⟩
          have hn1 : ¬ ((M + 1 : Nat) : Int) ≤ (M : Int) := by omega
          rw [hL] at e'
          rw [hG] at f'
          simp (maxSteps := 1000000) (implicitDefEqProofs := false) (disch := first | with_reducible rfl | omega | (simp only [nA, nS, nD] <;> omega) | fail) only [go_sem, ↓reduceIte, Nat.reduceEqDiff, Nat.reduceAdd, Nat.reduceSub, Nat.reduceMul, reduceCtorEq, Nat.reduceLeDiff, t3, t10, t11, t12, t13, t23, hn1]
          exact q _ _ _ hs e' f'
end Go.Ab.Try
set_option linter.unusedSimpArgs false
set_option linter.unusedVariables false
namespace Go.Ab.Try
open Go.Ab.Silk
theorem where1_pure {h : H} {kind : Int} {b : Nat} (hb : h.cells b = some [.int .i64 kind]) (a : Int) : PureA h (.fn 81 [] [.ptr b 0]) [.int .i64 a] (.bool (pK kind a)) := fun h1 hs => by
  have hb1 := hs.cells hb
  refine Ev_body (fd := c81) rfl rfl rfl ?_
  simp (maxSteps := 1000000) (implicitDefEqProofs := false) (disch := first | with_reducible rfl | omega | (simp only [nA, nS, nD] <;> omega) | fail) only [c81, go_sem, ↓reduceIte, Nat.reduceEqDiff, Nat.reduceAdd, Nat.reduceSub, Nat.reduceMul, reduceCtorEq, Nat.reduceLeDiff, hb1]
  exact ⟨rfl, H.Sub.refl hs.wf⟩
theorem where2_pure {h : H} {kind : Int} {b : Nat} (hb : h.cells b = some [.int .i64 kind]) (a : Int) : PureA h (.fn 82 [] [.ptr b 0]) [.int .i64 a] (.bool (nK kind a)) := fun h1 hs => by
  have hb1 := hs.cells hb
  refine Ev_body (fd := c82) rfl rfl rfl ?_
  simp (maxSteps := 1000000) (implicitDefEqProofs := false) (disch := first | with_reducible rfl | omega | (simp only [nA, nS, nD] <;> omega) | fail) only [c82, go_sem, ↓reduceIte, Nat.reduceEqDiff, Nat.reduceAdd, Nat.reduceSub, Nat.reduceMul, reduceCtorEq, Nat.reduceLeDiff, hb1]
  exact ⟨rfl, H.Sub.refl hs.wf⟩
def whLo (m : Ml) (kind : Int) (ps : List Int) : Int := sumL (lo1 (sK m kind)) ps
def whHi (m : Ml) (kind : Int) (ps : List Int) : Int := sumL (hi1 (sN m kind)) ps
def WhereR (m : Ml) (kind lo hi e : Int) : Prop := (check m ≠ 0 ∧ e = check m ∧ lo = 0 ∧ hi = 0) ∨ (check m = 0 ∧ ((allowedK kind = false ∧ e = 3 ∧ lo = 0 ∧ hi = 0) ∨ (allowedK kind = true ∧
  (((¬ ∃ w, FeasM m allC w) ∧ e = 7 ∧ lo = 0 ∧ hi = 0) ∨ ((∃ w, FeasM m allC w) ∧ e = 0 ∧ lo = whLo m kind (parts m (-1)) ∧ hi = whHi m kind (parts m (-1)))))))
theorem roots {m : Ml} (g : Good m) : ∀ p ∈ parts m (-1), 0 ≤ p ∧ p < m.lots.length ∧ frmAt m p < 0 := fun p hp => by
  obtain ⟨p0, p1, pf⟩ := ((forest g).mem (-1) p).1 hp
  exact ⟨p0, p1, by omega⟩
theorem sK_bd {m : Ml} (g : Good m) (hag : ∃ w, FeasM m allC w) (kind : Int) {p : Int} (p0 : 0 ≤ p) (p1 : p < m.lots.length) : (0 ≤ (sK m kind p).1 ∧ (sK m kind p).1 ≤ 10000) ∧ (0 ≤ (sN m kind p).2 ∧ (sN m kind p).2 ≤ 10000) := by
  obtain ⟨a1, a2, a3, a4, a5⟩ := sK_quad (kind := kind) g hag p0 p1
  obtain ⟨b1, b2, b3, b4, b5⟩ := sN_quad (kind := kind) g hag p0 p1
  have := Um_bd g allC p0 p1
  unfold Ua at *
  omega
theorem wh_bd {m : Ml} (g : Good m) (hag : ∃ w, FeasM m allC w) (kind : Int) (j : Nat) : (0 ≤ whLo m kind ((parts m (-1)).take j) ∧ whLo m kind ((parts m (-1)).take j) ≤ 120000) ∧ (0 ≤ whHi m kind ((parts m (-1)).take j) ∧ whHi m kind ((parts m (-1)).take j) ≤ 120000) := by
  have hl : (((parts m (-1)).take j).length : Int) ≤ 12 := by have := parts_len m (-1); have := g.lots; simp only [List.length_take]; omega
  have hb : ∀ p ∈ (parts m (-1)).take j, (0 ≤ (sK m kind p).1 ∧ (sK m kind p).1 ≤ 10000) ∧ (0 ≤ (sN m kind p).2 ∧ (sN m kind p).2 ≤ 10000) := fun p hp => by
    obtain ⟨p0, p1, _⟩ := roots g p (List.mem_of_mem_take hp)
    exact sK_bd g hag kind p0 p1
  exact ⟨sum10k (fun p hp => (hb p hp).1) hl, sum10k (fun p hp => (hb p hp).2) hl⟩
set_option maxHeartbeats 2000000 in
theorem Where_ev {h : H} {v : V} {m : Ml} (hw : h.wf) (hm : MlIs h v m) (kind : Int) : Ev fnG fastA (.fn 25 [] []) [v, .int .i64 kind] h fun u h' => h.Sub h' ∧ ∃ lo hi e, u = .tup [.agg [.int .i64 lo, .int .i64 hi], .int .i64 e] ∧ WhereR m kind lo hi e := by
  refine Ev.gen fun Q q => ?_
  have hm0 := hm
  obtain ⟨L, W, rfl, aL, aW⟩ := hm
  refine Ev_body (fd := c25) rfl rfl rfl ?_
  have s1 : h.Sub (((h.add (.cells .rw [.int .i64 m.errs, L, W])).add (.cells .rw [.int .i64 kind])).add (.cells .rw [.int .i64 0, .int .i64 0])) := (by repeat (first | assumption | exact H.Sub.refl (by assumption) | refine H.Sub.add ?_ _ | refine H.Sub.set ?_ (by first | omega | (simp only [H.next_add, H.next_set, H.next_del] <;> omega)) (by first | omega | (simp only [H.next_add, H.next_set, H.next_del] <;> omega)) (by assumption) _))
  have g1 : (((h.add (.cells .rw [.int .i64 m.errs, L, W])).add (.cells .rw [.int .i64 kind])).add (.cells .rw [.int .i64 0, .int .i64 0])).cells h.next = some [.int .i64 m.errs, L, W] := by simp (maxSteps := 1000000) (implicitDefEqProofs := false) (disch := first | with_reducible rfl | omega | (simp only [nA, nS, nD] <;> omega) | fail) only [go_sem, ↓reduceIte, Nat.reduceEqDiff, Nat.reduceAdd, Nat.reduceSub, Nat.reduceMul, reduceCtorEq, Nat.reduceLeDiff]
  have k1 : (((h.add (.cells .rw [.int .i64 m.errs, L, W])).add (.cells .rw [.int .i64 kind])).add (.cells .rw [.int .i64 0, .int .i64 0])).cells (h.next + 1) = some [.int .i64 kind] := by simp (maxSteps := 1000000) (implicitDefEqProofs := false) (disch := first | with_reducible rfl | omega | (simp only [nA, nS, nD] <;> omega) | fail) only [go_sem, ↓reduceIte, Nat.reduceEqDiff, Nat.reduceAdd, Nat.reduceSub, Nat.reduceMul, reduceCtorEq, Nat.reduceLeDiff]
  have r1 : (((h.add (.cells .rw [.int .i64 m.errs, L, W])).add (.cells .rw [.int .i64 kind])).add (.cells .rw [.int .i64 0, .int .i64 0])).get (h.next + 1 + 1) = some (.cells .rw [.int .i64 0, .int .i64 0]) := by simp (maxSteps := 1000000) (implicitDefEqProofs := false) (disch := first | with_reducible rfl | omega | (simp only [nA, nS, nD] <;> omega) | fail) only [go_sem, ↓reduceIte, Nat.reduceEqDiff, Nat.reduceAdd, Nat.reduceSub, Nat.reduceMul, reduceCtorEq, Nat.reduceLeDiff]
  have l1 : (((h.add (.cells .rw [.int .i64 m.errs, L, W])).add (.cells .rw [.int .i64 kind])).add (.cells .rw [.int .i64 0, .int .i64 0])).next = h.next + 3 := by simp only [H.next_add]
  simp (maxSteps := 1000000) (implicitDefEqProofs := false) (disch := first | with_reducible rfl | omega | (simp only [nA, nS, nD] <;> omega) | fail) only [c25, go_sem, ↓reduceIte, Nat.reduceEqDiff, Nat.reduceAdd, Nat.reduceSub, Nat.reduceMul, reduceCtorEq, Nat.reduceLeDiff]
  generalize (((h.add (.cells .rw [.int .i64 m.errs, L, W])).add (.cells .rw [.int .i64 kind])).add (.cells .rw [.int .i64 0, .int .i64 0])) = h1 at s1 g1 k1 r1 l1 ⊢
  refine (check_ev s1.wf (hm0.mono s1)).mono fun u h2 hu => ?_
  obtain ⟨rfl, s12⟩ := hu
  have s2 := s1.trans s12
  have l2 := s12.next
  have r2 := s12.get r1
  by_cases c : check m = 0
  case neg =>
    simp (maxSteps := 1000000) (implicitDefEqProofs := false) (disch := first | with_reducible rfl | omega | (simp only [nA, nS, nD] <;> omega) | fail) only [go_sem, ↓reduceIte, Nat.reduceEqDiff, Nat.reduceAdd, Nat.reduceSub, Nat.reduceMul, reduceCtorEq, Nat.reduceLeDiff, c, ne_eq, not_false_eq_true, r2, cells_of r2]
    exact q _ _ ⟨(by repeat (first | assumption | exact H.Sub.refl (by assumption) | refine H.Sub.add ?_ _ | refine H.Sub.set ?_ (by first | omega | (simp only [H.next_add, H.next_set, H.next_del] <;> omega)) (by first | omega | (simp only [H.next_add, H.next_set, H.next_del] <;> omega)) (by assumption) _)), 0, 0, check m, rfl, .inl ⟨c, rfl, rfl, rfl⟩⟩
  have g := good_of c
  cases hal : allowedK kind
  case false =>
    simp (maxSteps := 1000000) (implicitDefEqProofs := false) (disch := first | with_reducible rfl | omega | (simp only [nA, nS, nD] <;> omega) | fail) only [go_sem, ↓reduceIte, Nat.reduceEqDiff, Nat.reduceAdd, Nat.reduceSub, Nat.reduceMul, reduceCtorEq, Nat.reduceLeDiff, c, ne_eq, not_true_eq_false, s12.cells k1, allowed_ev, hal, r2, cells_of r2]
    exact q _ _ ⟨(by repeat (first | assumption | exact H.Sub.refl (by assumption) | refine H.Sub.add ?_ _ | refine H.Sub.set ?_ (by first | omega | (simp only [H.next_add, H.next_set, H.next_del] <;> omega)) (by first | omega | (simp only [H.next_add, H.next_set, H.next_del] <;> omega)) (by assumption) _)), 0, 0, 3, rfl, .inr ⟨c, .inl ⟨hal, rfl, rfl, rfl⟩⟩⟩
  simp (maxSteps := 1000000) (implicitDefEqProofs := false) (disch := first | with_reducible rfl | omega | (simp only [nA, nS, nD] <;> omega) | fail) only [go_sem, ↓reduceIte, Nat.reduceEqDiff, Nat.reduceAdd, Nat.reduceSub, Nat.reduceMul, reduceCtorEq, Nat.reduceLeDiff, c, ne_eq, not_true_eq_false, s12.cells k1, s12.cells g1, allowed_ev, hal]
  refine (told_ev s2.wf (hm0.mono s2)).mono fun u h3 hu => ?_
  obtain ⟨s23, hu⟩ := hu
  have s3 := s2.trans s23
  have l3 := s23.next
  have r3 := s23.get r2
  have gz : (h3.add (.cells .rw (encB zeroB))).get h3.next = some (.cells .rw (encB zeroB)) := get_add_new rfl
  rcases hu with ⟨c', _⟩ | ⟨_, hno, rfl⟩ | ⟨_, d, b, rfl, hd, hex, ht⟩
  · exact absurd c c'
  · have n70 : ¬ (7 : Int) = 0 := by omega
    simp (maxSteps := 1000000) (implicitDefEqProofs := false) (disch := first | with_reducible rfl | omega | (simp only [nA, nS, nD] <;> omega) | fail) only [go_sem, ↓reduceIte, Nat.reduceEqDiff, Nat.reduceAdd, Nat.reduceSub, Nat.reduceMul, reduceCtorEq, Nat.reduceLeDiff, zerosB, lenB, put_B zeroB zeroB gz, r3, cells_of r3, ne_eq, n70, not_false_eq_true]
    exact q _ _ ⟨(by repeat (first | assumption | exact H.Sub.refl (by assumption) | refine H.Sub.add ?_ _ | refine H.Sub.set ?_ (by first | omega | (simp only [H.next_add, H.next_set, H.next_del] <;> omega)) (by first | omega | (simp only [H.next_add, H.next_set, H.next_del] <;> omega)) (by assumption) _)), 0, 0, 7, rfl, .inr ⟨c, .inr ⟨hal, .inl ⟨hno, rfl, rfl, rfl⟩⟩⟩⟩
  · have hag := hex.feas g
    have hd0 := hd
    obtain ⟨pm, l, L', W', d1, d2, dL, dW, dp⟩ := hd
    simp (maxSteps := 1000000) (implicitDefEqProofs := false) (disch := first | with_reducible rfl | omega | (simp only [nA, nS, nD] <;> omega) | fail) only [go_sem, ↓reduceIte, Nat.reduceEqDiff, Nat.reduceAdd, Nat.reduceSub, Nat.reduceMul, reduceCtorEq, Nat.reduceLeDiff, zerosB, lenB, put_B b zeroB gz, ne_eq, eq_self, not_true_eq_false]
    have s34 : h3.Sub ((h3.add (.cells .rw (encB b))).add (.cells .rw [.int .i64 0, .int .i64 0])) := by
      have w3 := s3.wf
      exact (by repeat (first | assumption | exact H.Sub.refl (by assumption) | refine H.Sub.add ?_ _ | refine H.Sub.set ?_ (by first | omega | (simp only [H.next_add, H.next_set, H.next_del] <;> omega)) (by first | omega | (simp only [H.next_add, H.next_set, H.next_del] <;> omega)) (by assumption) _))
    have b4 : ((h3.add (.cells .rw (encB b))).add (.cells .rw [.int .i64 0, .int .i64 0])).cells h3.next = some (encB b) := by simp (maxSteps := 1000000) (implicitDefEqProofs := false) (disch := first | with_reducible rfl | omega | (simp only [nA, nS, nD] <;> omega) | fail) only [go_sem, ↓reduceIte, Nat.reduceEqDiff, Nat.reduceAdd, Nat.reduceSub, Nat.reduceMul, reduceCtorEq, Nat.reduceLeDiff]
    have o4 : ((h3.add (.cells .rw (encB b))).add (.cells .rw [.int .i64 0, .int .i64 0])).get (h3.next + 1) = some (.cells .rw [.int .i64 0, .int .i64 0]) := by simp (maxSteps := 1000000) (implicitDefEqProofs := false) (disch := first | with_reducible rfl | omega | (simp only [nA, nS, nD] <;> omega) | fail) only [go_sem, ↓reduceIte, Nat.reduceEqDiff, Nat.reduceAdd, Nat.reduceSub, Nat.reduceMul, reduceCtorEq, Nat.reduceLeDiff]
    have l4 : ((h3.add (.cells .rw (encB b))).add (.cells .rw [.int .i64 0, .int .i64 0])).next = h3.next + 2 := by simp only [H.next_add, H.next_set]
    generalize ((h3.add (.cells .rw (encB b))).add (.cells .rw [.int .i64 0, .int .i64 0])) = h4 at s34 b4 o4 l4 ⊢
    obtain ⟨X, eX⟩ : ∃ X, found .nils false (lkA (-1) l) = X := ⟨_, rfl⟩
    have hdp := (dp (-1)).mono s34
    rw [eX] at hdp
    have hlenP := hdp.lenE
    have s4 := s3.trans s34
    have w4 := s4.wf
    have kc4 := (s12.trans (s23.trans s34)).cells k1
    obtain ⟨ps, eps⟩ : ∃ ps, parts m (-1) = ps := ⟨_, rfl⟩
    have hro := roots g
    have hbd := wh_bd g hag kind
    rw [eps] at hdp hlenP hro hbd
    have hpl := parts_len m (-1)
    rw [eps] at hpl
    have gl := g.lots
    have cb := conB g hex ht
    have hb10 : ∀ i : Int, 0 ≤ i → i < m.lots.length → (b i).2 ≤ 10000 := fun i _ _ => (hex.bd g i).2.2.2
    simp (maxSteps := 1000000) (implicitDefEqProofs := false) (disch := first | with_reducible rfl | omega | (simp only [nA, nS, nD] <;> omega) | fail) only [go_sem, ↓reduceIte, Nat.reduceEqDiff, Nat.reduceAdd, Nat.reduceSub, Nat.reduceMul, reduceCtorEq, Nat.reduceLeDiff, cells_of (s34.get d1), s34.get d2, eX, hlenP]
    refine W_count ps.length (fun j s => ∃ tm h', s = ⟨tm, h', []⟩ ∧ h3.Sub h' ∧ h3.next + 1 < h'.next ∧ h'.cells h3.next = some (encB b) ∧ h'.get (h3.next + 1) = some (.cells .rw [.int .i64 (whLo m kind (ps.take j)), .int .i64 (whHi m kind (ps.take j))]) ∧
        (Opd.t 3).ev tm = .ptr (h.next + 1) 0 ∧ (Opd.t 4).ev tm = .ptr (h.next + 1 + 1) 0 ∧ (Opd.t 7).ev tm = .ptr d 0 ∧ (Opd.t 8).ev tm = .ptr h3.next 0 ∧ (Opd.t 10).ev tm = .ptr (h3.next + 1) 0 ∧ (Opd.t 41).ev tm = X ∧ (Opd.t 42).ev tm = .int .i64 (ps.length : Int) ∧ (Opd.t 43).ev tm = .int .i64 (j : Int))
      ?_ ?_ (i := 0) (Nat.zero_le _) ⟨_, _, rfl, s34, by omega, b4, o4, (by simp [ev_c, ev_put] <;> rfl), (by simp [ev_c, ev_put] <;> rfl), (by simp [ev_c, ev_put] <;> rfl), (by simp [ev_c, ev_put] <;> rfl), (by simp [ev_c, ev_put] <;> rfl), (by simp [ev_c, ev_put] <;> rfl), (by simp [ev_c, ev_put] <;> rfl), (by simp [ev_c, ev_put] <;> rfl)⟩
    · rintro j s hj ⟨tm, h', rfl, hs, lt, gb, go, t3, t4, t7, t8, t10, t41, t42, t43⟩
      have hj' : (j : Int) < (ps.length : Int) := by omega
      have hdj := (dp (-1)).mono hs
      rw [eX, eps] at hdj
      obtain ⟨b2, o2, c2, cs2, eb, hcs2, hq2, hgg2, hn2, hn02⟩ := hdj.at hj
      subst eb
      obtain ⟨p0, p1, p2⟩ := hro _ (List.getElem_mem hj)
      obtain ⟨p, ep⟩ := Int.eq_ofNat_of_zero_le p0
      have e1 : whLo m kind (ps.take (j + 1)) = whLo m kind (ps.take j) + (sK m kind (p : Int)).1 := by
        unfold whLo; rw [sum_take _ hj, ep]; rfl
      have e2 : whHi m kind (ps.take (j + 1)) = whHi m kind (ps.take j) + (sN m kind (p : Int)).2 := by
        unfold whHi; rw [sum_take _ hj, ep]; rfl
      have bj := hbd j
      have bj1 := hbd (j + 1)
      rw [ep] at p0 p1 p2
      have sm1 := sh_same g hex ht (pK kind) p0 p1 p2
      have sm2 := sh_same g hex ht (nK kind) p0 p1 p2
      have kc := ((s12.trans (s23.trans hs))).cells k1
      simp (maxSteps := 1000000) (implicitDefEqProofs := false) (disch := first | with_reducible rfl | omega | (simp only [nA, nS, nD] <;> omega) | fail) only [go_sem, ↓reduceIte, Nat.reduceEqDiff, Nat.reduceAdd, Nat.reduceSub, Nat.reduceMul, reduceCtorEq, Nat.reduceLeDiff, t3, t4, t7, t8, t10, t41, t42, t43, hj', hq2 (nat_cst j), hcs2, hn02 (by omega), encI, ep, gb, ld_B]
      refine shares_ev g cb hb10 (p := pK kind) (f := .fn 81 [] [.ptr (h.next + 1) 0]) (h0 := h') rfl (fun a => where1_pure kc a) m.lots.length p (by omega) (by omega) (H.Sub.refl hs.wf) (hd0.mono hs) _ fun h5 s5 => ?_
      simp (maxSteps := 1000000) (implicitDefEqProofs := false) (disch := first | with_reducible rfl | omega | (simp only [nA, nS, nD] <;> omega) | fail) only [go_sem, ↓reduceIte, Nat.reduceEqDiff, Nat.reduceAdd, Nat.reduceSub, Nat.reduceMul, reduceCtorEq, Nat.reduceLeDiff, t3, t4, t7, t8, t10, t41, t42, t43, s5.cells gb, ld_B]
      refine shares_ev g cb hb10 (p := nK kind) (f := .fn 82 [] [.ptr (h.next + 1) 0]) (h0 := h') rfl (fun a => where2_pure kc a) m.lots.length p (by omega) (by omega) s5 (hd0.mono (hs.trans s5)) _ fun h6 s6 => ?_
      have s56 := s5.trans s6
      have go6 := s56.get go
      have lt6 := s56.next
      have w6 := (hs.trans s56).wf
      have f1 : (shM m b (pK kind) (p : Int)).1 = (sK m kind (p : Int)).1 := by rw [sm1]; rfl
      have f2 : (shM m b (nK kind) (p : Int)).2 = (sN m kind (p : Int)).2 := by rw [sm2]; rfl
      simp (maxSteps := 1000000) (implicitDefEqProofs := false) (disch := first | with_reducible rfl | omega | (simp only [nA, nS, nD] <;> omega) | fail) only [go_sem, ↓reduceIte, Nat.reduceEqDiff, Nat.reduceAdd, Nat.reduceSub, Nat.reduceMul, reduceCtorEq, Nat.reduceLeDiff, t3, t4, t7, t8, t10, t41, t42, t43, cells_of go6, f1, f2, wr_in, wr_succ, go6]
      exact ⟨_, _, rfl, (hs.trans s56).set (by omega) (by omega) s3.wf _, by simp only [H.next_set]; omega, by rw [cells_set_other (by omega)]; exact s56.cells gb, by rw [get_set_same rfl, e1, e2], (by simp [ev_c, ev_put, t3] <;> rfl), (by simp [ev_c, ev_put, t4] <;> rfl), (by simp [ev_c, ev_put, t7] <;> rfl), (by simp [ev_c, ev_put, t8] <;> rfl), (by simp [ev_c, ev_put, t10] <;> rfl), (by simp [ev_c, ev_put, t41] <;> rfl), (by simp [ev_c, ev_put, t42] <;> rfl), (by simp [ev_c, ev_put] <;> rfl)⟩
    · rintro s ⟨tm, h', rfl, hs, lt, gb, go, t3, t4, t7, t8, t10, t41, t42, t43⟩
      rw [List.take_length] at go
      have r4 := hs.get r3
      simp (maxSteps := 1000000) (implicitDefEqProofs := false) (disch := first | with_reducible rfl | omega | (simp only [nA, nS, nD] <;> omega) | fail) only [go_sem, ↓reduceIte, Nat.reduceEqDiff, Nat.reduceAdd, Nat.reduceSub, Nat.reduceMul, reduceCtorEq, Nat.reduceLeDiff, t3, t4, t7, t8, t10, t41, t42, t43, Int.lt_irrefl, cells_of go, r4]
      have h0h := s3.trans hs
      exact q _ _ ⟨(by repeat (first | assumption | exact H.Sub.refl (by assumption) | refine H.Sub.add ?_ _ | refine H.Sub.set ?_ (by first | omega | (simp only [H.next_add, H.next_set, H.next_del] <;> omega)) (by first | omega | (simp only [H.next_add, H.next_set, H.next_del] <;> omega)) (by assumption) _)), _, _, 0, rfl, .inr ⟨c, .inr ⟨hal, .inr ⟨hag, rfl, by rw [eps], by rw [eps]⟩⟩⟩⟩
def rp (m : Ml) (i : Nat) : List Int := partsL (-1) (m.lots.take i) 0
theorem rp_step {m : Ml} {i : Nat} (h : i < m.lots.length) : rp m (i + 1) = rp m i ++ (if m.lots[i].frm = -1 then [(i : Int)] else []) := by
  unfold rp
  rw [List.take_succ_eq_append_getElem h, partsL_app]
  simp only [partsL, List.length_take, Nat.zero_add, Nat.min_eq_left (Nat.le_of_lt h)]
theorem rp_all (m : Ml) : rp m m.lots.length = parts m (-1) := by unfold rp parts; rw [List.take_length]
theorem rp_pre (m : Ml) (i : Nat) : rp m i = (parts m (-1)).take (rp m i).length := by
  have e : parts m (-1) = rp m i ++ partsL (-1) (m.lots.drop i) (0 + (m.lots.take i).length) := by
    unfold rp parts
    rw [← partsL_app, List.take_append_drop]
  rw [e, List.take_left]
theorem whLo_snoc (m : Ml) (kind p : Int) (l : List Int) : whLo m kind (l ++ [p]) = whLo m kind l + (sK m kind p).1 := by
  unfold whLo; rw [sumL_append]; simp [sumL, lo1]
theorem whHi_snoc (m : Ml) (kind p : Int) (l : List Int) : whHi m kind (l ++ [p]) = whHi m kind l + (sN m kind p).2 := by
  unfold whHi; rw [sumL_append]; simp [sumL, hi1]
set_option maxRecDepth 4000 in
set_option maxHeartbeats 4000000 in
theorem refWhere_ev {h : H} {v : V} {m : Ml} (hw : h.wf) (hm : MlIs h v m) (g : Good m) (hag : ∃ w, FeasM m allC w) {kind : Int} {M : Nat} (hM : M ≤ 1000) (hro : ∀ p : Int, 0 ≤ p → p < m.lots.length → frmAt m p = -1 → (Ua m p).2 ≤ M) (Q : V → H → Prop)
    (q : ∀ h', h.Sub h' → Q (.agg [.int .i64 (whLo m kind (parts m (-1))), .int .i64 (whHi m kind (parts m (-1)))]) h') : Ev fnG fastA (.fn 24 [] []) [v, .int .i64 kind, .int .i64 (M : Int)] h Q := by
  have hm0 := hm
  obtain ⟨L, W, rfl, aL, aW⟩ := hm
  have gl := g.lots
  have hlenL := aL.lenE
  refine Ev_body (fd := c24) rfl rfl rfl ?_
  have s1 : h.Sub (((h.add (.cells .rw [.int .i64 m.errs, L, W])).add (.cells .rw [.int .i64 0, .int .i64 0])).add (.cells .rw [.int .i64 0, .int .i64 0])) := (by repeat (first | assumption | exact H.Sub.refl (by assumption) | refine H.Sub.add ?_ _ | refine H.Sub.set ?_ (by first | omega | (simp only [H.next_add, H.next_set, H.next_del] <;> omega)) (by first | omega | (simp only [H.next_add, H.next_set, H.next_del] <;> omega)) (by assumption) _))
  have g1 : (((h.add (.cells .rw [.int .i64 m.errs, L, W])).add (.cells .rw [.int .i64 0, .int .i64 0])).add (.cells .rw [.int .i64 0, .int .i64 0])).get h.next = some (.cells .rw [.int .i64 m.errs, L, W]) := by simp (maxSteps := 1000000) (implicitDefEqProofs := false) (disch := first | with_reducible rfl | omega | (simp only [nA, nS, nD] <;> omega) | fail) only [go_sem, ↓reduceIte, Nat.reduceEqDiff, Nat.reduceAdd, Nat.reduceSub, Nat.reduceMul, reduceCtorEq, Nat.reduceLeDiff]
  have r1 : (((h.add (.cells .rw [.int .i64 m.errs, L, W])).add (.cells .rw [.int .i64 0, .int .i64 0])).add (.cells .rw [.int .i64 0, .int .i64 0])).get (h.next + 1) = some (.cells .rw [.int .i64 0, .int .i64 0]) := by simp (maxSteps := 1000000) (implicitDefEqProofs := false) (disch := first | with_reducible rfl | omega | (simp only [nA, nS, nD] <;> omega) | fail) only [go_sem, ↓reduceIte, Nat.reduceEqDiff, Nat.reduceAdd, Nat.reduceSub, Nat.reduceMul, reduceCtorEq, Nat.reduceLeDiff]
  have o1 : (((h.add (.cells .rw [.int .i64 m.errs, L, W])).add (.cells .rw [.int .i64 0, .int .i64 0])).add (.cells .rw [.int .i64 0, .int .i64 0])).get (h.next + 1 + 1) = some (.cells .rw [.int .i64 0, .int .i64 0]) := by simp (maxSteps := 1000000) (implicitDefEqProofs := false) (disch := first | with_reducible rfl | omega | (simp only [nA, nS, nD] <;> omega) | fail) only [go_sem, ↓reduceIte, Nat.reduceEqDiff, Nat.reduceAdd, Nat.reduceSub, Nat.reduceMul, reduceCtorEq, Nat.reduceLeDiff]
  have l1 : (((h.add (.cells .rw [.int .i64 m.errs, L, W])).add (.cells .rw [.int .i64 0, .int .i64 0])).add (.cells .rw [.int .i64 0, .int .i64 0])).next = h.next + 3 := by simp only [H.next_add]
  simp (maxSteps := 1000000) (implicitDefEqProofs := false) (disch := first | with_reducible rfl | omega | (simp only [nA, nS, nD] <;> omega) | fail) only [c24, go_sem, ↓reduceIte, Nat.reduceEqDiff, Nat.reduceAdd, Nat.reduceSub, Nat.reduceMul, reduceCtorEq, Nat.reduceLeDiff]
  generalize (((h.add (.cells .rw [.int .i64 m.errs, L, W])).add (.cells .rw [.int .i64 0, .int .i64 0])).add (.cells .rw [.int .i64 0, .int .i64 0])) = h1 at s1 g1 r1 o1 l1 ⊢
  refine W_count m.lots.length (fun i s => ∃ tm h', s = ⟨tm, h', []⟩ ∧ h.Sub h' ∧ h.next + 1 + 1 < h'.next ∧ h'.get h.next = some (.cells .rw [.int .i64 m.errs, L, W]) ∧ h'.get (h.next + 1) = some (.cells .rw [.int .i64 0, .int .i64 0]) ∧ h'.get (h.next + 1 + 1) = some (.cells .rw [.int .i64 (whLo m kind (rp m i)), .int .i64 (whHi m kind (rp m i))]) ∧
      (Opd.t 1).ev tm = .int .i64 kind ∧ (Opd.t 2).ev tm = .int .i64 (M : Int) ∧ (Opd.t 3).ev tm = .ptr h.next 0 ∧ (Opd.t 6).ev tm = .ptr (h.next + 1) 0 ∧ (Opd.t 7).ev tm = .ptr (h.next + 1 + 1) 0 ∧ (Opd.t 8).ev tm = .int .i64 (i : Int))
    ?_ ?_ (i := 0) (Nat.zero_le _) ⟨_, _, rfl, s1, by omega, g1, r1, o1, (by simp [ev_c, ev_put] <;> rfl), (by simp [ev_c, ev_put] <;> rfl), (by simp [ev_c, ev_put] <;> rfl), (by simp [ev_c, ev_put] <;> rfl), (by simp [ev_c, ev_put] <;> rfl), (by simp [ev_c, ev_put] <;> rfl)⟩
  · rintro i s hi ⟨tm, h', rfl, hs, lt, gm, gr, go, t1, t2, t3, t6, t7, t8⟩
    have hi' : (i : Int) < (m.lots.length : Int) := by omega
    have i0 : (0 : Int) ≤ (i : Int) := by omega
    obtain ⟨bb, o, cc, cs, rfl, hcs, hq, hgg, hn, hn0⟩ := (aL.mono hs).at hi
    have hf := g.frm i hi
    have hst := rp_step hi
    by_cases hr : 0 ≤ m.lots[i].frm
    · rw [if_neg (by omega), List.append_nil] at hst
      simp (maxSteps := 1000000) (implicitDefEqProofs := false) (disch := first | with_reducible rfl | omega | (simp only [nA, nS, nD] <;> omega) | fail) only [go_sem, ↓reduceIte, Nat.reduceEqDiff, Nat.reduceAdd, Nat.reduceSub, Nat.reduceMul, reduceCtorEq, Nat.reduceLeDiff, t1, t2, t3, t6, t7, t8, cells_of gm, hlenL, hi', hq (nat_cst i), hcs, hn0 (by omega), encL, hr, wr_succ]
      exact ⟨_, _, rfl, hs, lt, gm, gr, by rw [hst]; exact go, (by simp [ev_c, ev_put, t1] <;> rfl), (by simp [ev_c, ev_put, t2] <;> rfl), (by simp [ev_c, ev_put, t3] <;> rfl), (by simp [ev_c, ev_put, t6] <;> rfl), (by simp [ev_c, ev_put, t7] <;> rfl), (by simp [ev_c, ev_put] <;> rfl)⟩
    · have hfr : m.lots[i].frm = -1 := by omega
      rw [if_pos hfr] at hst
      have hfi : frmAt m (i : Int) = -1 := by rw [frmAt_nat hi]; exact hfr
      have hUM := hro (i : Int) i0 hi' hfi
      have QK := sK_quad (kind := kind) g hag i0 hi'
      have QN := sN_quad (kind := kind) g hag i0 hi'
      simp (maxSteps := 1000000) (implicitDefEqProofs := false) (disch := first | with_reducible rfl | omega | (simp only [nA, nS, nD] <;> omega) | fail) only [go_sem, ↓reduceIte, Nat.reduceEqDiff, Nat.reduceAdd, Nat.reduceSub, Nat.reduceMul, reduceCtorEq, Nat.reduceLeDiff, t1, t2, t3, t6, t7, t8, cells_of gm, hlenL, hi', hq (nat_cst i), hcs, hn0 (by omega), encL, hr]
      refine table_ev g hag hM m.lots.length i (by omega) hi hs.wf (hm0.mono hs) _ fun h5 b1 b2 s5 e5 f5 => ?_
      have c5 := cells_of e5
      have d5 := cells_of f5
      simp (maxSteps := 1000000) (implicitDefEqProofs := false) (disch := first | with_reducible rfl | omega | (simp only [nA, nS, nD] <;> omega) | fail) only [go_sem, ↓reduceIte, Nat.reduceEqDiff, Nat.reduceAdd, Nat.reduceSub, Nat.reduceMul, reduceCtorEq, Nat.reduceLeDiff]
      refine W_count (M + 1) (fun n s => ∃ tm x y, s = ⟨tm, h5, []⟩ ∧ MinUpto (fun n => max (sK m kind (i : Int)).1 (n - (sK m kind (i : Int)).2)) (fun n => (Ua m (i : Int)).1 ≤ n ∧ n ≤ (Ua m (i : Int)).2) (n : Int) x ∧ MaxUpto (fun n => min (sN m kind (i : Int)).2 (n - (sN m kind (i : Int)).1)) (fun n => (Ua m (i : Int)).1 ≤ n ∧ n ≤ (Ua m (i : Int)).2) (n : Int) y ∧
          (Opd.t 1).ev tm = .int .i64 kind ∧ (Opd.t 2).ev tm = .int .i64 (M : Int) ∧ (Opd.t 3).ev tm = .ptr h.next 0 ∧ (Opd.t 6).ev tm = .ptr (h.next + 1) 0 ∧ (Opd.t 7).ev tm = .ptr (h.next + 1 + 1) 0 ∧ (Opd.t 8).ev tm = .int .i64 (i : Int) ∧
          (Opd.t 9).ev tm = .sl b1 0 (M + 1) (.fix (M + 1)) ∧ (Opd.t 10).ev tm = .sl b2 0 (M + 1) (.fix (M + 1)) ∧ (Opd.t 11).ev tm = .int .i64 x ∧ (Opd.t 12).ev tm = .int .i64 y ∧ (Opd.t 13).ev tm = .int .i64 (n : Int))
        ?_ ?_ (i := 0) (Nat.zero_le _) ⟨_, -1, -1, rfl, MinUpto.zero _ _, MaxUpto.zero _ _, (by simp [ev_c, ev_put, t1] <;> rfl), (by simp [ev_c, ev_put, t2] <;> rfl), (by simp [ev_c, ev_put, t3] <;> rfl), (by simp [ev_c, ev_put, t6] <;> rfl), (by simp [ev_c, ev_put, t7] <;> rfl), (by simp [ev_c, ev_put, t8] <;> rfl), (by simp [ev_c, ev_put] <;> rfl), (by simp [ev_c, ev_put] <;> rfl), (by simp [ev_c, ev_put] <;> rfl), (by simp [ev_c, ev_put] <;> rfl), (by simp [ev_c, ev_put] <;> rfl)⟩
      · clear t1 t2 t3 t6 t7 t8
        rintro n s hn ⟨tm, x, y, rfl, mn, mx, t1, t2, t3, t6, t7, t8, t9, t10, t11, t12, t13⟩
        have hn' : (n : Int) ≤ (M : Int) := by omega
        have n0 : (0 : Int) ≤ (n : Int) := by omega
        by_cases hok : (Ua m (i : Int)).1 ≤ (n : Int) ∧ (n : Int) ≤ (Ua m (i : Int)).2
        · have eL : TL m kind (i : Int) (n : Int) = max (sK m kind (i : Int)).1 ((n : Int) - (sK m kind (i : Int)).2) := by unfold TL; rw [tabL_in hok]
          have eG : TG m kind (i : Int) (n : Int) = min (sN m kind (i : Int)).2 ((n : Int) - (sN m kind (i : Int)).1) := by unfold TG; rw [tabG_in hok]
          have q1 := QK.s0
          have q2 := QN.r0
          have q3 := QN.sl
          have hv1 : 0 ≤ max (sK m kind (i : Int)).1 ((n : Int) - (sK m kind (i : Int)).2) := by omega
          have hv2 : 0 ≤ min (sN m kind (i : Int)).2 ((n : Int) - (sN m kind (i : Int)).1) := by omega
          have hA : 0 ≤ TL m kind (i : Int) (n : Int) := by rw [eL]; exact hv1
          have mx' := mx.take n0 hok hv2
          by_cases hx : x < 0
          · have mn' := mn.take n0 hok hv1 (.inl hx)
            simp (maxSteps := 1000000) (implicitDefEqProofs := false) (disch := first | with_reducible rfl | omega | (simp only [nA, nS, nD] <;> omega) | fail) only [go_sem, ↓reduceIte, Nat.reduceEqDiff, Nat.reduceAdd, Nat.reduceSub, Nat.reduceMul, reduceCtorEq, Nat.reduceLeDiff, t1, t2, t3, t6, t7, t8, t9, t10, t11, t12, t13, hn', q_iad_sl (nat_cst n) hn, Nat.mul_one, c5, d5, tab_at hn, hA, hx, wr_succ]
            exact ⟨_, _, _, rfl, mn', mx', (by simp [ev_c, ev_put, t1] <;> rfl), (by simp [ev_c, ev_put, t2] <;> rfl), (by simp [ev_c, ev_put, t3] <;> rfl), (by simp [ev_c, ev_put, t6] <;> rfl), (by simp [ev_c, ev_put, t7] <;> rfl), (by simp [ev_c, ev_put, t8] <;> rfl), (by simp [ev_c, ev_put, t9] <;> rfl), (by simp [ev_c, ev_put, t10] <;> rfl), by rw [← eL]; exact (by simp [ev_c, ev_put] <;> rfl), by rw [← eG]; exact (by simp [ev_c, ev_put] <;> rfl), (by simp [ev_c, ev_put] <;> rfl)⟩
          by_cases hv : TL m kind (i : Int) (n : Int) < x
          · have mn' := mn.take n0 hok hv1 (.inr (by rw [← eL]; exact hv))
            simp (maxSteps := 1000000) (implicitDefEqProofs := false) (disch := first | with_reducible rfl | omega | (simp only [nA, nS, nD] <;> omega) | fail) only [go_sem, ↓reduceIte, Nat.reduceEqDiff, Nat.reduceAdd, Nat.reduceSub, Nat.reduceMul, reduceCtorEq, Nat.reduceLeDiff, t1, t2, t3, t6, t7, t8, t9, t10, t11, t12, t13, hn', q_iad_sl (nat_cst n) hn, Nat.mul_one, c5, d5, tab_at hn, hA, hx, hv, wr_succ]
            exact ⟨_, _, _, rfl, mn', mx', (by simp [ev_c, ev_put, t1] <;> rfl), (by simp [ev_c, ev_put, t2] <;> rfl), (by simp [ev_c, ev_put, t3] <;> rfl), (by simp [ev_c, ev_put, t6] <;> rfl), (by simp [ev_c, ev_put, t7] <;> rfl), (by simp [ev_c, ev_put, t8] <;> rfl), (by simp [ev_c, ev_put, t9] <;> rfl), (by simp [ev_c, ev_put, t10] <;> rfl), by rw [← eL]; exact (by simp [ev_c, ev_put] <;> rfl), by rw [← eG]; exact (by simp [ev_c, ev_put] <;> rfl), (by simp [ev_c, ev_put] <;> rfl)⟩
          · have mn' := mn.leave (fun h => by rw [← eL] at h; rcases h with h | h; exact hx h; exact hv h)
            simp (maxSteps := 1000000) (implicitDefEqProofs := false) (disch := first | with_reducible rfl | omega | (simp only [nA, nS, nD] <;> omega) | fail) only [go_sem, ↓reduceIte, Nat.reduceEqDiff, Nat.reduceAdd, Nat.reduceSub, Nat.reduceMul, reduceCtorEq, Nat.reduceLeDiff, t1, t2, t3, t6, t7, t8, t9, t10, t11, t12, t13, hn', q_iad_sl (nat_cst n) hn, Nat.mul_one, c5, d5, tab_at hn, hA, hx, hv, wr_succ]
            exact ⟨_, _, _, rfl, mn', mx', (by simp [ev_c, ev_put, t1] <;> rfl), (by simp [ev_c, ev_put, t2] <;> rfl), (by simp [ev_c, ev_put, t3] <;> rfl), (by simp [ev_c, ev_put, t6] <;> rfl), (by simp [ev_c, ev_put, t7] <;> rfl), (by simp [ev_c, ev_put, t8] <;> rfl), (by simp [ev_c, ev_put, t9] <;> rfl), (by simp [ev_c, ev_put, t10] <;> rfl), (by simp [ev_c, ev_put, t11] <;> rfl), by rw [← eG]; exact (by simp [ev_c, ev_put] <;> rfl), (by simp [ev_c, ev_put] <;> rfl)⟩
        · have eL : TL m kind (i : Int) (n : Int) = -1 := by unfold TL; rw [tabL_out hok]
          have eG : TG m kind (i : Int) (n : Int) = -1 := by unfold TG; rw [tabG_out hok]
          have hA : ¬ 0 ≤ TL m kind (i : Int) (n : Int) := by rw [eL]; omega
          have hy : max y (TG m kind (i : Int) (n : Int)) = y := by have := max_neg mx; rw [eG]; omega
          simp (maxSteps := 1000000) (implicitDefEqProofs := false) (disch := first | with_reducible rfl | omega | (simp only [nA, nS, nD] <;> omega) | fail) only [go_sem, ↓reduceIte, Nat.reduceEqDiff, Nat.reduceAdd, Nat.reduceSub, Nat.reduceMul, reduceCtorEq, Nat.reduceLeDiff, t1, t2, t3, t6, t7, t8, t9, t10, t11, t12, t13, hn', q_iad_sl (nat_cst n) hn, Nat.mul_one, c5, d5, tab_at hn, hA, hy, wr_succ]
          exact ⟨_, _, _, rfl, mn.skip hok, mx.skip hok, (by simp [ev_c, ev_put, t1] <;> rfl), (by simp [ev_c, ev_put, t2] <;> rfl), (by simp [ev_c, ev_put, t3] <;> rfl), (by simp [ev_c, ev_put, t6] <;> rfl), (by simp [ev_c, ev_put, t7] <;> rfl), (by simp [ev_c, ev_put, t8] <;> rfl), (by simp [ev_c, ev_put, t9] <;> rfl), (by simp [ev_c, ev_put, t10] <;> rfl), (by simp [ev_c, ev_put, t11] <;> rfl), (by simp [ev_c, ev_put] <;> rfl), (by simp [ev_c, ev_put] <;> rfl)⟩
      · clear t1 t2 t3 t6 t7 t8
        rintro s ⟨tm, x, y, rfl, mn, mx, t1, t2, t3, t6, t7, t8, t9, t10, t11, t12, t13⟩
        have hn1 : ¬ ((M + 1 : Nat) : Int) ≤ (M : Int) := by omega
        have ex : x = (sK m kind (i : Int)).1 := min_all QK hUM mn
        have ey : y = (sN m kind (i : Int)).2 := max_all QN hUM mx
        subst ex
        subst ey
        have bj := wh_bd g hag kind (rp m i).length
        rw [← rp_pre] at bj
        have bs := sK_bd g hag kind i0 hi'
        have gm5 := s5.get gm
        have gr5 := s5.get gr
        have go5 := s5.get go
        have l5 := s5.next
        have hs5 := hs.trans s5
        simp (maxSteps := 1000000) (implicitDefEqProofs := false) (disch := first | with_reducible rfl | omega | (simp only [nA, nS, nD] <;> omega) | fail) only [go_sem, ↓reduceIte, Nat.reduceEqDiff, Nat.reduceAdd, Nat.reduceSub, Nat.reduceMul, reduceCtorEq, Nat.reduceLeDiff, t1, t2, t3, t6, t7, t8, t9, t10, t11, t12, t13, hn1, cells_of go5, go5, wr_in, wr_succ]
        exact ⟨_, _, rfl, (by repeat (first | assumption | exact H.Sub.refl (by assumption) | refine H.Sub.add ?_ _ | refine H.Sub.set ?_ (by first | omega | (simp only [H.next_add, H.next_set, H.next_del] <;> omega)) (by first | omega | (simp only [H.next_add, H.next_set, H.next_del] <;> omega)) (by assumption) _)), by simp only [H.next_set]; omega, by simp (maxSteps := 1000000) (implicitDefEqProofs := false) (disch := first | with_reducible rfl | omega | (simp only [nA, nS, nD] <;> omega) | fail) only [go_sem, ↓reduceIte, Nat.reduceEqDiff, Nat.reduceAdd, Nat.reduceSub, Nat.reduceMul, reduceCtorEq, Nat.reduceLeDiff]; exact gm5, by simp (maxSteps := 1000000) (implicitDefEqProofs := false) (disch := first | with_reducible rfl | omega | (simp only [nA, nS, nD] <;> omega) | fail) only [go_sem, ↓reduceIte, Nat.reduceEqDiff, Nat.reduceAdd, Nat.reduceSub, Nat.reduceMul, reduceCtorEq, Nat.reduceLeDiff]; exact gr5, by rw [get_set_same rfl, hst, whLo_snoc, whHi_snoc], (by simp [ev_c, ev_put, t1] <;> rfl), (by simp [ev_c, ev_put, t2] <;> rfl), (by simp [ev_c, ev_put, t3] <;> rfl), (by simp [ev_c, ev_put, t6] <;> rfl), (by simp [ev_c, ev_put, t7] <;> rfl), (by simp [ev_c, ev_put] <;> rfl)⟩
  · rintro s ⟨tm, h', rfl, hs, lt, gm, gr, go, t1, t2, t3, t6, t7, t8⟩
    rw [rp_all] at go
    simp (maxSteps := 1000000) (implicitDefEqProofs := false) (disch := first | with_reducible rfl | omega | (simp only [nA, nS, nD] <;> omega) | fail) only [go_sem, ↓reduceIte, Nat.reduceEqDiff, Nat.reduceAdd, Nat.reduceSub, Nat.reduceMul, reduceCtorEq, Nat.reduceLeDiff, t1, t2, t3, t6, t7, t8, cells_of gm, hlenL, Int.lt_irrefl, cells_of go, gr]
    exact q _ (by repeat (first | assumption | exact H.Sub.refl (by assumption) | refine H.Sub.add ?_ _ | refine H.Sub.set ?_ (by first | omega | (simp only [H.next_add, H.next_set, H.next_del] <;> omega)) (by first | omega | (simp only [H.next_add, H.next_set, H.next_del] <;> omega)) (by assumption) _))
end Go.Ab.Try
set_option linter.unusedSimpArgs false
set_option linter.unusedVariables false
namespace Go.Ab.Try
open Go.Ab.Silk
theorem WhereR.uniq {m : Ml} {kind lo hi e lo' hi' e' : Int} (a : WhereR m kind lo hi e) (b : WhereR m kind lo' hi' e') : lo = lo' ∧ hi = hi' ∧ e = e' := by
  rcases a with ⟨a, a1, a2, a3⟩ | ⟨a, ⟨a', a1, a2, a3⟩ | ⟨a', ⟨a'', a1, a2, a3⟩ | ⟨a'', a1, a2, a3⟩⟩⟩ <;> rcases b with ⟨b, b1, b2, b3⟩ | ⟨b, ⟨b', b1, b2, b3⟩ | ⟨b', ⟨b'', b1, b2, b3⟩ | ⟨b'', b1, b2, b3⟩⟩⟩
  all_goals first
    | exact ⟨a2.trans b2.symm, a3.trans b3.symm, a1.trans b1.symm⟩
    | exact absurd a b
    | exact absurd b a
    | exact absurd a'' b''
    | exact absurd b'' a''
    | (rw [a'] at b'; cases b')
theorem fld_hi (a b : Int) : q_fld false 1 1 (.agg [.int .i64 a, .int .i64 b]) = some (.int .i64 b) := rfl
def Big (m : Ml) (i : Int) : Prop := frmAt m i = -1 ∧ 120 < (Dm m i).2
set_option maxHeartbeats 4000000 in
theorem SilkWhere_ev {h : H} {v : V} {m : Ml} (hw : h.wf) (hm : MlIs h v m) (kind : Int) : Ev fnG fastA (.fn 3 [] []) [v, .int .i64 kind] h fun u h' => u = .bool true := by
  refine Ev.gen fun Q q => ?_
  have hm0 := hm
  obtain ⟨L, W, rfl, aL, aW⟩ := hm
  refine Ev_body (fd := c3) rfl rfl rfl ?_
  have s1 : h.Sub (h.add (.cells .rw [.int .i64 m.errs, L, W])) := (by repeat (first | assumption | exact H.Sub.refl (by assumption) | refine H.Sub.add ?_ _ | refine H.Sub.set ?_ (by first | omega | (simp only [H.next_add, H.next_set, H.next_del] <;> omega)) (by first | omega | (simp only [H.next_add, H.next_set, H.next_del] <;> omega)) (by assumption) _))
  simp (maxSteps := 1000000) (implicitDefEqProofs := false) (disch := first | with_reducible rfl | omega | (simp only [nA, nS, nD] <;> omega) | fail) only [c3, go_sem, ↓reduceIte, Nat.reduceEqDiff, Nat.reduceAdd, Nat.reduceSub, Nat.reduceMul, reduceCtorEq, Nat.reduceLeDiff]
  refine great_ev s1.wf (hm0.mono s1) _ fun h2 s12 => ?_
  have s2 := s1.trans s12
  have l2 := s12.next
  simp only [H.next_add] at l2
  have g2 : h2.cells h.next = some [.int .i64 m.errs, L, W] := s12.cells (by simp (maxSteps := 1000000) (implicitDefEqProofs := false) (disch := first | with_reducible rfl | omega | (simp only [nA, nS, nD] <;> omega) | fail) only [go_sem, ↓reduceIte, Nat.reduceEqDiff, Nat.reduceAdd, Nat.reduceSub, Nat.reduceMul, reduceCtorEq, Nat.reduceLeDiff])
  have hlenL := aL.lenE
  cases hgr : greatM m
  case true =>
    simp (maxSteps := 1000000) (implicitDefEqProofs := false) (disch := first | with_reducible rfl | omega | (simp only [nA, nS, nD] <;> omega) | fail) only [go_sem, ↓reduceIte, Nat.reduceEqDiff, Nat.reduceAdd, Nat.reduceSub, Nat.reduceMul, reduceCtorEq, Nat.reduceLeDiff, awake_eq]
    exact q _ _ rfl
  have hle : m.lots.length ≤ 1000 ∧ m.wgs.length ≤ 1000 := by
    simp only [greatM, decide_eq_false_iff_not] at hgr
    omega
  clear hgr
  simp (maxSteps := 1000000) (implicitDefEqProofs := false) (disch := first | with_reducible rfl | omega | (simp only [nA, nS, nD] <;> omega) | fail) only [go_sem, ↓reduceIte, Nat.reduceEqDiff, Nat.reduceAdd, Nat.reduceSub, Nat.reduceMul, reduceCtorEq, Nat.reduceLeDiff, g2]
  refine Own_own s2.wf (hm0.mono s2) hle _ fun A B h3 s23 oOwn hA hB => ?_
  have s3 := s2.trans s23
  have g3 := s23.cells g2
  have l3 := s23.next
  simp (maxSteps := 1000000) (implicitDefEqProofs := false) (disch := first | with_reducible rfl | omega | (simp only [nA, nS, nD] <;> omega) | fail) only [go_sem, ↓reduceIte, Nat.reduceEqDiff, Nat.reduceAdd, Nat.reduceSub, Nat.reduceMul, reduceCtorEq, Nat.reduceLeDiff, g3]
  refine theirs_ev s3.wf (hm0.mono s3) hle _ fun x h4 s34 hx => ?_
  have s4 := s3.trans s34
  have g4 := s34.cells g3
  have l4 := s34.next
  obtain ⟨X, Y, rfl, aX, aY⟩ := id hx
  have oX1 := aX.one
  have oY1 := aY.one
  simp (maxSteps := 1000000) (implicitDefEqProofs := false) (disch := first | with_reducible rfl | omega | (simp only [nA, nS, nD] <;> omega) | fail) only [go_sem, ↓reduceIte, Nat.reduceEqDiff, Nat.reduceAdd, Nat.reduceSub, Nat.reduceMul, reduceCtorEq, Nat.reduceLeDiff, oX1, oY1, hA, hB, cells_one oX1, cells_one oY1, cells_one hA, cells_one hB, g2, g3, g4]
  have s45 : h4.Sub ((((h4.add (.cells .rw [.int .i64 0, .nils, .nils])).add (.cells .rw [.int .i64 0, .nils, .nils])).set h4.next (.cells .rw [.int .i64 m.errs, A, B])).set (h4.next + 1) (.cells .rw [.int .i64 m.errs, X, Y])) := by
    have w4 := s4.wf
    exact (by repeat (first | assumption | exact H.Sub.refl (by assumption) | refine H.Sub.add ?_ _ | refine H.Sub.set ?_ (by first | omega | (simp only [H.next_add, H.next_set, H.next_del] <;> omega)) (by first | omega | (simp only [H.next_add, H.next_set, H.next_del] <;> omega)) (by assumption) _))
  have c9 : ((((h4.add (.cells .rw [.int .i64 0, .nils, .nils])).add (.cells .rw [.int .i64 0, .nils, .nils])).set h4.next (.cells .rw [.int .i64 m.errs, A, B])).set (h4.next + 1) (.cells .rw [.int .i64 m.errs, X, Y])).cells h4.next = some [.int .i64 m.errs, A, B] := by simp (maxSteps := 1000000) (implicitDefEqProofs := false) (disch := first | with_reducible rfl | omega | (simp only [nA, nS, nD] <;> omega) | fail) only [go_sem, ↓reduceIte, Nat.reduceEqDiff, Nat.reduceAdd, Nat.reduceSub, Nat.reduceMul, reduceCtorEq, Nat.reduceLeDiff]
  have c10 : ((((h4.add (.cells .rw [.int .i64 0, .nils, .nils])).add (.cells .rw [.int .i64 0, .nils, .nils])).set h4.next (.cells .rw [.int .i64 m.errs, A, B])).set (h4.next + 1) (.cells .rw [.int .i64 m.errs, X, Y])).cells (h4.next + 1) = some [.int .i64 m.errs, X, Y] := by simp (maxSteps := 1000000) (implicitDefEqProofs := false) (disch := first | with_reducible rfl | omega | (simp only [nA, nS, nD] <;> omega) | fail) only [go_sem, ↓reduceIte, Nat.reduceEqDiff, Nat.reduceAdd, Nat.reduceSub, Nat.reduceMul, reduceCtorEq, Nat.reduceLeDiff]
  generalize ((((h4.add (.cells .rw [.int .i64 0, .nils, .nils])).add (.cells .rw [.int .i64 0, .nils, .nils])).set h4.next (.cells .rw [.int .i64 m.errs, A, B])).set (h4.next + 1) (.cells .rw [.int .i64 m.errs, X, Y])) = h5 at s45 c9 c10 ⊢
  have s5 := s4.trans s45
  have l45 := s45.next
  have hown5 := (oOwn.mono (s34.trans s45)).is hle
  refine (refCheck_ev s5.wf (hx.mono s45)).mono fun u h6 hu => ?_
  obtain ⟨rfl, s56⟩ := hu
  have s6 := s5.trans s56
  have l56 := s56.next
  have d9 := s56.cells c9
  have d10 := s56.cells c10
  have d1 := (s45.trans s56).cells g4
  simp (maxSteps := 1000000) (implicitDefEqProofs := false) (disch := first | with_reducible rfl | omega | (simp only [nA, nS, nD] <;> omega) | fail) only [go_sem, ↓reduceIte, Nat.reduceEqDiff, Nat.reduceAdd, Nat.reduceSub, Nat.reduceMul, reduceCtorEq, Nat.reduceLeDiff]
  have s67 := (H.Sub.refl s6.wf).add (.cells .rw [.int .i64 0, .int .i64 0])
  have f8 : (h6.add (.cells .rw [.int .i64 0, .int .i64 0])).get h6.next = some (.cells .rw [.int .i64 0, .int .i64 0]) := get_add_new rfl
  have l67 : (h6.add (.cells .rw [.int .i64 0, .int .i64 0])).next = h6.next + 1 := H.next_add _ _
  generalize h6.add (.cells .rw [.int .i64 0, .int .i64 0]) = h7 at s67 f8 l67 ⊢
  have s7 := s6.trans s67
  have w7 := s7.wf
  have hx7 := hx.mono (s45.trans (s56.trans s67))
  have e10 := s67.cells d10
  by_cases hE : check m = 0 ∧ allowedK kind = true ∧ (∃ w, FeasM m allC w) ∧ ∃ i : Int, (0 ≤ i ∧ i < m.lots.length) ∧ Big m i
  · obtain ⟨c, hal, hag, i0, ⟨i00, i01⟩, hbig⟩ := hE
    have g := good_of c
    have gl := g.lots
    have gw := g.wgs
    have k1 : ¬ kind < 0 := by simp only [allowedK, decide_eq_true_eq] at hal; omega
    have k2 : ¬ 3 < kind := by simp only [allowedK, decide_eq_true_eq] at hal; omega
    simp (maxSteps := 1000000) (implicitDefEqProofs := false) (disch := first | with_reducible rfl | omega | (simp only [nA, nS, nD] <;> omega) | fail) only [go_sem, ↓reduceIte, Nat.reduceEqDiff, Nat.reduceAdd, Nat.reduceSub, Nat.reduceMul, reduceCtorEq, Nat.reduceLeDiff, c, e10]
    refine All_ev w7 hx7 (by omega) _ fun C h8 s78 aC => ?_
    have e10A := s78.cells e10
    simp (maxSteps := 1000000) (implicitDefEqProofs := false) (disch := first | with_reducible rfl | omega | (simp only [nA, nS, nD] <;> omega) | fail) only [go_sem, ↓reduceIte, Nat.reduceEqDiff, Nat.reduceAdd, Nat.reduceSub, Nat.reduceMul, reduceCtorEq, Nat.reduceLeDiff, e10, e10A]
    refine (refAgree_ev (s7.trans s78).wf (hx7.mono s78) g aC (by simp)).mono fun u h9 hu => ?_
    obtain ⟨s89, t, rfl, ht⟩ := hu
    have ht' : t = true ↔ ∃ w, FeasM m allC w := by rw [ht]; unfold FeasM; rw [own_all]
    have s79 := s78.trans s89
    have s9 := s7.trans s79
    have g79 := (s67.trans s79).cells d1
    obtain rfl : t = true := ht'.2 hag
    simp (maxSteps := 1000000) (implicitDefEqProofs := false) (disch := first | with_reducible rfl | omega | (simp only [nA, nS, nD] <;> omega) | fail) only [go_sem, ↓reduceIte, Nat.reduceEqDiff, Nat.reduceAdd, Nat.reduceSub, Nat.reduceMul, reduceCtorEq, Nat.reduceLeDiff, e10, e10A, s79.cells e10, k1, k2, g79, hlenL, Bool.not_true]
    refine W_count m.lots.length (fun i s => ∃ tm h', s = ⟨tm, h', []⟩ ∧ h9.Sub h' ∧ (∀ k : Int, 0 ≤ k → k < (i : Int) → ¬ Big m k) ∧ (Opd.t 1).ev tm = .int .i64 kind ∧ (Opd.t 2).ev tm = .ptr h.next 0 ∧ (Opd.t 5).ev tm = .ptr h4.next 0 ∧ (Opd.t 6).ev tm = .ptr (h4.next + 1) 0 ∧ (Opd.t 7).ev tm = .int .i64 0 ∧ (Opd.t 8).ev tm = .ptr h6.next 0 ∧
        (Opd.t 30).ev tm = L ∧ (Opd.t 31).ev tm = .int .i64 (m.lots.length : Int) ∧ (Opd.t 32).ev tm = .int .i64 (i : Int))
      ?_ ?_ (i := 0) (Nat.zero_le _) ⟨_, _, rfl, H.Sub.refl s9.wf, fun k k0 k1 => by omega, (by simp [ev_c, ev_put] <;> rfl), (by simp [ev_c, ev_put] <;> rfl), (by simp [ev_c, ev_put] <;> rfl), (by simp [ev_c, ev_put] <;> rfl), by rw [← c]; exact (by simp [ev_c, ev_put] <;> rfl), (by simp [ev_c, ev_put] <;> rfl), (by simp [ev_c, ev_put] <;> rfl), (by simp [ev_c, ev_put] <;> rfl), (by simp [ev_c, ev_put] <;> rfl)⟩
    · rintro i s hi ⟨tm, h', rfl, hs, hno, t1, t2, t5, t6, t7, t8, t30, t31, t32⟩
      have hi' : (i : Int) < (m.lots.length : Int) := by omega
      have hs9 := s9.trans hs
      have e10' := (s79.trans hs).cells e10
      obtain ⟨bb, o, cc, cs, eb, hcs, hq, hgg, hn, hn0⟩ := (aL.mono hs9).at hi
      have hbb : bb < h'.next := SlAt_lt hs9.wf (aL.mono hs9) (by intro e; rw [List.map_eq_nil_iff] at e; rw [e] at hi; simp at hi) bb ⟨_, _, _, eb⟩
      have sA : h'.Sub (h'.add (.cells .rw [.int .i64 m.lots[i].frm, .int .i64 m.lots[i].kind])) := (H.Sub.refl hs9.wf).add _
      have eA := sA.cells e10'
      have hfi := frmAt_nat hi
      have nx : ¬ Big m (i : Int) → ∀ k : Int, 0 ≤ k → k < ((i + 1 : Nat) : Int) → ¬ Big m k := fun hn k k0 k1 => by
        by_cases e : k = (i : Int)
        · rw [e]; exact hn
        · exact hno k k0 (by omega)
      subst eb
      by_cases hf : m.lots[i].frm = -1
      · simp (maxSteps := 1000000) (implicitDefEqProofs := false) (disch := first | with_reducible rfl | omega | (simp only [nA, nS, nD] <;> omega) | fail) only [go_sem, ↓reduceIte, Nat.reduceEqDiff, Nat.reduceAdd, Nat.reduceSub, Nat.reduceMul, reduceCtorEq, Nat.reduceLeDiff, t1, t2, t5, t6, t7, t8, t30, t31, t32, hi', hq (nat_cst i), hcs, hgg, encL, hf, e10']
        rw [hf] at sA eA
        simp (maxSteps := 1000000) (implicitDefEqProofs := false) (disch := first | with_reducible rfl | omega | (simp only [nA, nS, nD] <;> omega) | fail) only [go_sem, ↓reduceIte, Nat.reduceEqDiff, Nat.reduceAdd, Nat.reduceSub, Nat.reduceMul, reduceCtorEq, Nat.reduceLeDiff, eA]
        refine refBounds_ev g hag (i + 1) i (by omega) hi sA.wf (hx7.mono ((s79.trans hs).trans sA)) _ fun hB sB => ?_
        by_cases hb : 120 < (Dm m (i : Int)).2
        · simp (maxSteps := 1000000) (implicitDefEqProofs := false) (disch := first | with_reducible rfl | omega | (simp only [nA, nS, nD] <;> omega) | fail) only [go_sem, ↓reduceIte, Nat.reduceEqDiff, Nat.reduceAdd, Nat.reduceSub, Nat.reduceMul, reduceCtorEq, Nat.reduceLeDiff, t1, t2, t5, t6, t7, t8, t30, t31, t32, fld_hi, hb, awake_eq]
          exact q _ _ rfl
        · simp (maxSteps := 1000000) (implicitDefEqProofs := false) (disch := first | with_reducible rfl | omega | (simp only [nA, nS, nD] <;> omega) | fail) only [go_sem, ↓reduceIte, Nat.reduceEqDiff, Nat.reduceAdd, Nat.reduceSub, Nat.reduceMul, reduceCtorEq, Nat.reduceLeDiff, t1, t2, t5, t6, t7, t8, t30, t31, t32, fld_hi, hb, wr_succ]
          exact ⟨_, _, rfl, (hs.trans sA).trans sB, nx fun hb' => hb hb'.2, (by simp [ev_c, ev_put, t1] <;> rfl), (by simp [ev_c, ev_put, t2] <;> rfl), (by simp [ev_c, ev_put, t5] <;> rfl), (by simp [ev_c, ev_put, t6] <;> rfl), (by simp [ev_c, ev_put, t7] <;> rfl), (by simp [ev_c, ev_put, t8] <;> rfl), (by simp [ev_c, ev_put, t30] <;> rfl), (by simp [ev_c, ev_put, t31] <;> rfl), (by simp [ev_c, ev_put] <;> rfl)⟩
      · simp (maxSteps := 1000000) (implicitDefEqProofs := false) (disch := first | with_reducible rfl | omega | (simp only [nA, nS, nD] <;> omega) | fail) only [go_sem, ↓reduceIte, Nat.reduceEqDiff, Nat.reduceAdd, Nat.reduceSub, Nat.reduceMul, reduceCtorEq, Nat.reduceLeDiff, t1, t2, t5, t6, t7, t8, t30, t31, t32, hi', hq (nat_cst i), hcs, hgg, encL, hf, wr_succ]
        exact ⟨_, _, rfl, hs.trans sA, nx fun hb' => hf (by rw [← hfi]; exact hb'.1), (by simp [ev_c, ev_put, t1] <;> rfl), (by simp [ev_c, ev_put, t2] <;> rfl), (by simp [ev_c, ev_put, t5] <;> rfl), (by simp [ev_c, ev_put, t6] <;> rfl), (by simp [ev_c, ev_put, t7] <;> rfl), (by simp [ev_c, ev_put, t8] <;> rfl), (by simp [ev_c, ev_put, t30] <;> rfl), (by simp [ev_c, ev_put, t31] <;> rfl), (by simp [ev_c, ev_put] <;> rfl)⟩
    · rintro s ⟨tm, h', rfl, hs, hno, t1, t2, t5, t6, t7, t8, t30, t31, t32⟩
      exact absurd hbig (hno i0 i00 i01)
  · obtain ⟨I, hI⟩ : ∃ I : St → Prop, ∀ s, I s ↔ ∃ tm h8 lo hi w, s = ⟨tm, h8, []⟩ ∧ h6.Sub h8 ∧ (Opd.t 1).ev tm = .int .i64 kind ∧ (Opd.t 2).ev tm = .ptr h.next 0 ∧ (Opd.t 5).ev tm = .ptr h4.next 0 ∧ (Opd.t 7).ev tm = .int .i64 w ∧ (Opd.t 8).ev tm = .ptr h6.next 0 ∧
        h8.cells h6.next = some [.int .i64 lo, .int .i64 hi] ∧ WhereR m kind lo hi w := ⟨_, fun s => Iff.rfl⟩
    refine PB_cut (p := check m = 0) I ?_ ?_ ?_
    · intro c
      have g := good_of c
      have gl := g.lots
      have gw := g.wgs
      simp (maxSteps := 1000000) (implicitDefEqProofs := false) (disch := first | with_reducible rfl | omega | (simp only [nA, nS, nD] <;> omega) | fail) only [go_sem, ↓reduceIte, Nat.reduceEqDiff, Nat.reduceAdd, Nat.reduceSub, Nat.reduceMul, reduceCtorEq, Nat.reduceLeDiff, e10]
      refine All_ev w7 hx7 (by omega) _ fun C h8 s78 aC => ?_
      have e10A := s78.cells e10
      simp (maxSteps := 1000000) (implicitDefEqProofs := false) (disch := first | with_reducible rfl | omega | (simp only [nA, nS, nD] <;> omega) | fail) only [go_sem, ↓reduceIte, Nat.reduceEqDiff, Nat.reduceAdd, Nat.reduceSub, Nat.reduceMul, reduceCtorEq, Nat.reduceLeDiff, e10, e10A]
      refine (refAgree_ev (s7.trans s78).wf (hx7.mono s78) g aC (by simp)).mono fun u h9 hu => ?_
      obtain ⟨s89, t, rfl, ht⟩ := hu
      have ht' : t = true ↔ ∃ w, FeasM m allC w := by rw [ht]; unfold FeasM; rw [own_all]
      have s79 := s78.trans s89
      have s69 := s67.trans s79
      have s9 := s7.trans s79
      have g79 := s69.cells d1
      have f89 := cells_of (s79.get f8)
      cases hal : allowedK kind
      case false =>
        have spec : WhereR m kind 0 0 3 := .inr ⟨c, .inl ⟨hal, rfl, rfl, rfl⟩⟩
        by_cases k1 : kind < 0
        · simp (maxSteps := 1000000) (implicitDefEqProofs := false) (disch := first | with_reducible rfl | omega | (simp only [nA, nS, nD] <;> omega) | fail) only [go_sem, ↓reduceIte, Nat.reduceEqDiff, Nat.reduceAdd, Nat.reduceSub, Nat.reduceMul, reduceCtorEq, Nat.reduceLeDiff, e10, e10A, s79.cells e10, k1]
          exact ⟨rfl, (hI _).2 ⟨_, _, 0, 0, 3, rfl, s69, (by simp [ev_c, ev_put] <;> rfl), (by simp [ev_c, ev_put] <;> rfl), (by simp [ev_c, ev_put] <;> rfl), (by simp [ev_c, ev_put] <;> rfl), (by simp [ev_c, ev_put] <;> rfl), f89, spec⟩⟩
        · have k2 : 3 < kind := by simp only [allowedK, decide_eq_false_iff_not] at hal; omega
          simp (maxSteps := 1000000) (implicitDefEqProofs := false) (disch := first | with_reducible rfl | omega | (simp only [nA, nS, nD] <;> omega) | fail) only [go_sem, ↓reduceIte, Nat.reduceEqDiff, Nat.reduceAdd, Nat.reduceSub, Nat.reduceMul, reduceCtorEq, Nat.reduceLeDiff, e10, e10A, s79.cells e10, k1, k2]
          exact ⟨rfl, (hI _).2 ⟨_, _, 0, 0, 3, rfl, s69, (by simp [ev_c, ev_put] <;> rfl), (by simp [ev_c, ev_put] <;> rfl), (by simp [ev_c, ev_put] <;> rfl), (by simp [ev_c, ev_put] <;> rfl), (by simp [ev_c, ev_put] <;> rfl), f89, spec⟩⟩
      have k1 : ¬ kind < 0 := by simp only [allowedK, decide_eq_true_eq] at hal; omega
      have k2 : ¬ 3 < kind := by simp only [allowedK, decide_eq_true_eq] at hal; omega
      cases t
      case false =>
        have hno : ¬ ∃ w, FeasM m allC w := fun hf => by have := ht'.2 hf; cases this
        simp (maxSteps := 1000000) (implicitDefEqProofs := false) (disch := first | with_reducible rfl | omega | (simp only [nA, nS, nD] <;> omega) | fail) only [go_sem, ↓reduceIte, Nat.reduceEqDiff, Nat.reduceAdd, Nat.reduceSub, Nat.reduceMul, reduceCtorEq, Nat.reduceLeDiff, e10, e10A, s79.cells e10, k1, k2, Bool.not_false]
        exact ⟨rfl, (hI _).2 ⟨_, _, 0, 0, 7, rfl, s69, (by simp [ev_c, ev_put] <;> rfl), (by simp [ev_c, ev_put] <;> rfl), (by simp [ev_c, ev_put] <;> rfl), (by simp [ev_c, ev_put] <;> rfl), (by simp [ev_c, ev_put] <;> rfl), f89, .inr ⟨c, .inr ⟨hal, .inl ⟨hno, rfl, rfl, rfl⟩⟩⟩⟩⟩
      have hag := ht'.1 rfl
      simp (maxSteps := 1000000) (implicitDefEqProofs := false) (disch := first | with_reducible rfl | omega | (simp only [nA, nS, nD] <;> omega) | fail) only [go_sem, ↓reduceIte, Nat.reduceEqDiff, Nat.reduceAdd, Nat.reduceSub, Nat.reduceMul, reduceCtorEq, Nat.reduceLeDiff, e10, e10A, s79.cells e10, k1, k2, g79, hlenL, Bool.not_true]
      refine W_count m.lots.length (fun i s => ∃ tm h', s = ⟨tm, h', []⟩ ∧ h9.Sub h' ∧ (∀ k : Int, 0 ≤ k → k < (i : Int) → ¬ Big m k) ∧ (Opd.t 1).ev tm = .int .i64 kind ∧ (Opd.t 2).ev tm = .ptr h.next 0 ∧ (Opd.t 5).ev tm = .ptr h4.next 0 ∧ (Opd.t 6).ev tm = .ptr (h4.next + 1) 0 ∧ (Opd.t 7).ev tm = .int .i64 0 ∧ (Opd.t 8).ev tm = .ptr h6.next 0 ∧
          (Opd.t 30).ev tm = L ∧ (Opd.t 31).ev tm = .int .i64 (m.lots.length : Int) ∧ (Opd.t 32).ev tm = .int .i64 (i : Int))
        ?_ ?_ (i := 0) (Nat.zero_le _) ⟨_, _, rfl, H.Sub.refl s9.wf, fun k k0 k1 => by omega, (by simp [ev_c, ev_put] <;> rfl), (by simp [ev_c, ev_put] <;> rfl), (by simp [ev_c, ev_put] <;> rfl), (by simp [ev_c, ev_put] <;> rfl), by rw [← c]; exact (by simp [ev_c, ev_put] <;> rfl), (by simp [ev_c, ev_put] <;> rfl), (by simp [ev_c, ev_put] <;> rfl), (by simp [ev_c, ev_put] <;> rfl), (by simp [ev_c, ev_put] <;> rfl)⟩
      · rintro i s hi ⟨tm, h', rfl, hs, hno, t1, t2, t5, t6, t7, t8, t30, t31, t32⟩
        have hi' : (i : Int) < (m.lots.length : Int) := by omega
        have hs9 := s9.trans hs
        have e10' := (s79.trans hs).cells e10
        obtain ⟨bb, o, cc, cs, eb, hcs, hq, hgg, hn, hn0⟩ := (aL.mono hs9).at hi
        have hbb : bb < h'.next := SlAt_lt hs9.wf (aL.mono hs9) (by intro e; rw [List.map_eq_nil_iff] at e; rw [e] at hi; simp at hi) bb ⟨_, _, _, eb⟩
        have sA : h'.Sub (h'.add (.cells .rw [.int .i64 m.lots[i].frm, .int .i64 m.lots[i].kind])) := (H.Sub.refl hs9.wf).add _
        have eA := sA.cells e10'
        have hfi := frmAt_nat hi
        have nx : ¬ Big m (i : Int) → ∀ k : Int, 0 ≤ k → k < ((i + 1 : Nat) : Int) → ¬ Big m k := fun hn k k0 k1 => by
          by_cases e : k = (i : Int)
          · rw [e]; exact hn
          · exact hno k k0 (by omega)
        subst eb
        by_cases hf : m.lots[i].frm = -1
        · simp (maxSteps := 1000000) (implicitDefEqProofs := false) (disch := first | with_reducible rfl | omega | (simp only [nA, nS, nD] <;> omega) | fail) only [go_sem, ↓reduceIte, Nat.reduceEqDiff, Nat.reduceAdd, Nat.reduceSub, Nat.reduceMul, reduceCtorEq, Nat.reduceLeDiff, t1, t2, t5, t6, t7, t8, t30, t31, t32, hi', hq (nat_cst i), hcs, hgg, encL, hf, e10']
          rw [hf] at sA eA
          simp (maxSteps := 1000000) (implicitDefEqProofs := false) (disch := first | with_reducible rfl | omega | (simp only [nA, nS, nD] <;> omega) | fail) only [go_sem, ↓reduceIte, Nat.reduceEqDiff, Nat.reduceAdd, Nat.reduceSub, Nat.reduceMul, reduceCtorEq, Nat.reduceLeDiff, eA]
          refine refBounds_ev g hag (i + 1) i (by omega) hi sA.wf (hx7.mono ((s79.trans hs).trans sA)) _ fun hB sB => ?_
          by_cases hb : 120 < (Dm m (i : Int)).2
          · exact absurd ⟨c, hal, hag, (i : Int), ⟨by omega, hi'⟩, by rw [hfi]; exact hf, hb⟩ hE
          · simp (maxSteps := 1000000) (implicitDefEqProofs := false) (disch := first | with_reducible rfl | omega | (simp only [nA, nS, nD] <;> omega) | fail) only [go_sem, ↓reduceIte, Nat.reduceEqDiff, Nat.reduceAdd, Nat.reduceSub, Nat.reduceMul, reduceCtorEq, Nat.reduceLeDiff, t1, t2, t5, t6, t7, t8, t30, t31, t32, fld_hi, hb, wr_succ]
            exact ⟨_, _, rfl, (hs.trans sA).trans sB, nx fun hb' => hb hb'.2, (by simp [ev_c, ev_put, t1] <;> rfl), (by simp [ev_c, ev_put, t2] <;> rfl), (by simp [ev_c, ev_put, t5] <;> rfl), (by simp [ev_c, ev_put, t6] <;> rfl), (by simp [ev_c, ev_put, t7] <;> rfl), (by simp [ev_c, ev_put, t8] <;> rfl), (by simp [ev_c, ev_put, t30] <;> rfl), (by simp [ev_c, ev_put, t31] <;> rfl), (by simp [ev_c, ev_put] <;> rfl)⟩
        · simp (maxSteps := 1000000) (implicitDefEqProofs := false) (disch := first | with_reducible rfl | omega | (simp only [nA, nS, nD] <;> omega) | fail) only [go_sem, ↓reduceIte, Nat.reduceEqDiff, Nat.reduceAdd, Nat.reduceSub, Nat.reduceMul, reduceCtorEq, Nat.reduceLeDiff, t1, t2, t5, t6, t7, t8, t30, t31, t32, hi', hq (nat_cst i), hcs, hgg, encL, hf, wr_succ]
          exact ⟨_, _, rfl, hs.trans sA, nx fun hb' => hf (by rw [← hfi]; exact hb'.1), (by simp [ev_c, ev_put, t1] <;> rfl), (by simp [ev_c, ev_put, t2] <;> rfl), (by simp [ev_c, ev_put, t5] <;> rfl), (by simp [ev_c, ev_put, t6] <;> rfl), (by simp [ev_c, ev_put, t7] <;> rfl), (by simp [ev_c, ev_put, t8] <;> rfl), (by simp [ev_c, ev_put, t30] <;> rfl), (by simp [ev_c, ev_put, t31] <;> rfl), (by simp [ev_c, ev_put] <;> rfl)⟩
      · rintro s ⟨tm, h', rfl, hs, hno, t1, t2, t5, t6, t7, t8, t30, t31, t32⟩
        have hs9 := s9.trans hs
        have e10' := (s79.trans hs).cells e10
        simp (maxSteps := 1000000) (implicitDefEqProofs := false) (disch := first | with_reducible rfl | omega | (simp only [nA, nS, nD] <;> omega) | fail) only [go_sem, ↓reduceIte, Nat.reduceEqDiff, Nat.reduceAdd, Nat.reduceSub, Nat.reduceMul, reduceCtorEq, Nat.reduceLeDiff, t1, t2, t5, t6, t7, t8, t30, t31, t32, Int.lt_irrefl, e10']
        refine refWhere_ev (M := 120) hs9.wf (hx7.mono (s79.trans hs)) g hag (by omega) (fun p p0 p1 pf => ?_) _ fun hB sB => ?_
        · have h1 : ¬ 120 < (Dm m p).2 := fun h => hno p p0 p1 ⟨pf, h⟩
          have h2 : Dm m p = Um m allC p := by unfold Dm; rw [Do_eq (forest g) _ p0 p1, if_pos (by omega)]
          rw [h2] at h1
          unfold Ua; omega
        · have f8B := ((s79.trans hs).trans sB).get f8
          have l9 := ((s79.trans hs).trans sB).next
          simp (maxSteps := 1000000) (implicitDefEqProofs := false) (disch := first | with_reducible rfl | omega | (simp only [nA, nS, nD] <;> omega) | fail) only [go_sem, ↓reduceIte, Nat.reduceEqDiff, Nat.reduceAdd, Nat.reduceSub, Nat.reduceMul, reduceCtorEq, Nat.reduceLeDiff, t1, t2, t5, t6, t7, t8, t30, t31, t32, f8B]
          exact ⟨rfl, (hI _).2 ⟨_, _, _, _, 0, rfl, ((s69.trans hs).trans sB).set (by omega) (by omega) s6.wf _, (by simp [ev_c, ev_put, t1] <;> rfl), (by simp [ev_c, ev_put, t2] <;> rfl), (by simp [ev_c, ev_put, t5] <;> rfl), (by simp [ev_c, ev_put, t7] <;> rfl), (by simp [ev_c, ev_put, t8] <;> rfl), cells_set_same rfl, .inr ⟨c, .inr ⟨hal, .inr ⟨hag, rfl, rfl, rfl⟩⟩⟩⟩⟩
    · intro c
      simp (maxSteps := 1000000) (implicitDefEqProofs := false) (disch := first | with_reducible rfl | omega | (simp only [nA, nS, nD] <;> omega) | fail) only [go_sem, ↓reduceIte, Nat.reduceEqDiff, Nat.reduceAdd, Nat.reduceSub, Nat.reduceMul, reduceCtorEq, Nat.reduceLeDiff]
      exact ⟨rfl, (hI _).2 ⟨_, _, 0, 0, check m, rfl, s67, (by simp [ev_c, ev_put] <;> rfl), (by simp [ev_c, ev_put] <;> rfl), (by simp [ev_c, ev_put] <;> rfl), (by simp [ev_c, ev_put] <;> rfl), (by simp [ev_c, ev_put] <;> rfl), cells_of f8, .inl ⟨c, rfl, rfl, rfl⟩⟩⟩
    · intro s hs
      obtain ⟨tm, h8, lo, hi, w, rfl, s68, t1, t2, t5, t7, t8, f8', spec⟩ := (hI s).1 hs
      have s8 := s6.trans s68
      have n9 := s68.cells d9
      have hown8 := hown5.mono (s56.trans s68)
      simp (maxSteps := 1000000) (implicitDefEqProofs := false) (disch := first | with_reducible rfl | omega | (simp only [nA, nS, nD] <;> omega) | fail) only [go_sem, ↓reduceIte, Nat.reduceEqDiff, Nat.reduceAdd, Nat.reduceSub, Nat.reduceMul, reduceCtorEq, Nat.reduceLeDiff, t1, t2, t5, t7, t8, n9]
      refine (Where_ev s8.wf hown8 kind).mono fun u hA hu => ?_
      obtain ⟨s8A, lo', hi', e', rfl, spec'⟩ := hu
      obtain ⟨rfl, rfl, rfl⟩ := spec.uniq spec'
      have sA := s8.trans s8A
      have sAB := (H.Sub.refl sA.wf).add (.cells .rw [.int .i64 lo, .int .i64 hi])
      have gN5 := (s8A.trans sAB).cells n9
      have gN2 := ((s34.trans s45).trans (s56.trans (s68.trans (s8A.trans sAB)))).cells g3
      have f8N := (s8A.trans sAB).cells f8'
      have cB : (hA.add (.cells .rw [.int .i64 lo, .int .i64 hi])).cells hA.next = some [.int .i64 lo, .int .i64 hi] := cells_add_new rfl
      simp (maxSteps := 1000000) (implicitDefEqProofs := false) (disch := first | with_reducible rfl | omega | (simp only [nA, nS, nD] <;> omega) | fail) only [go_sem, ↓reduceIte, Nat.reduceEqDiff, Nat.reduceAdd, Nat.reduceSub, Nat.reduceMul, reduceCtorEq, Nat.reduceLeDiff, t1, t2, t5, t7, t8, decide_eq_true rfl, gN5, gN2, f8N, cB, q_feq_2, ngB, and_self]
      refine same_ev (sA.trans sAB).wf (hown8.mono (s8A.trans sAB)) (hm0.mono (sA.trans sAB)) _ fun hF sF => ?_
      simp (maxSteps := 1000000) (implicitDefEqProofs := false) (disch := first | with_reducible rfl | omega | (simp only [nA, nS, nD] <;> omega) | fail) only [go_sem, ↓reduceIte, Nat.reduceEqDiff, Nat.reduceAdd, Nat.reduceSub, Nat.reduceMul, reduceCtorEq, Nat.reduceLeDiff, t1, t2, t5, t7, t8, awake_eq]
      exact q _ _ rfl
end Go.Ab.Try
