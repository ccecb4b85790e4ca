/- The reference's searches: sets, choice, list, before, Listed. Bounds of all lots, as narrow as can be: the contracts of narrow, tight. The bounds of all lots by the weighings that count: silk.bounds, told. Copies of a mill; one weighing more; a lot that is split. told, Bounds, Widest: contracts. Weights and Fits: contracts. Fits, of the program and of the reference: contracts. Fits of the reference: contract. The reference's bounds: All, own, up, Agree, Bounds. Which weighings agree: Contains, agree, Agree, Listed. The first of the shortest lists: the contracts of first, Clash, Wrong. -/
import Derived.Test.YthoghcpemmfebaaG2
import Derived.Test.YthoghcpemmfebaaGP
import Derived.Test.YthoghcpemmfebaaAc4
set_option linter.unusedSimpArgs false
set_option linter.unusedVariables false
namespace Go.Ab
theorem Keeps.sub {S : Nat → Prop} {h0 h h' : H} (k : Keeps S h h') (s : h0.Sub h) (hw0 : h0.wf) (hS : ∀ c, S c → h0.next ≤ c) (hw : h'.wf) : h0.Sub h' :=
  ⟨⟨Nat.le_trans s.next k.1, fun b x e => k.2 b x (s.get e) fun hs => by have := hS b hs; have := hw0 b x e; omega⟩, hw⟩
theorem Keeps.wf_set {h : H} (hw : h.wf) {b : Nat} {y : Blk} (x : Blk) (hb : h.get b = some y) : Keeps (fun c => c = b) h (h.set b x) ∧ (h.set b x).wf := ⟨Keeps.set h b x, H.wf_set hw x hb⟩
namespace Try
open Go.Ab.Silk
theorem mem_partsL {k : Int} : ∀ {l : List Lt} {i : Nat} {p : Int}, p ∈ partsL k l i ↔ ∃ j, ∃ hj : j < l.length, p = ((i + j : Nat) : Int) ∧ l[j].frm = k
  | [], i, p => by simp [partsL]
  | a :: l, i, p => by
    have ih := mem_partsL (k := k) (l := l) (i := i + 1) (p := p)
    have e : (∃ j, ∃ hj : j < (a :: l).length, p = ((i + j : Nat) : Int) ∧ (a :: l)[j].frm = k) ↔ (p = (i : Int) ∧ a.frm = k) ∨ ∃ j, ∃ hj : j < l.length, p = ((i + 1 + j : Nat) : Int) ∧ l[j].frm = k := by
      constructor
      · rintro ⟨j, hj, h1, h2⟩
        cases j with
        | zero => exact .inl ⟨by simpa using h1, h2⟩
        | succ j => exact .inr ⟨j, by simpa using hj, by omega, h2⟩
      · rintro (⟨h1, h2⟩ | ⟨j, hj, h1, h2⟩)
        · exact ⟨0, by simp, by simpa using h1, h2⟩
        · exact ⟨j + 1, by simpa using hj, by omega, h2⟩
    rw [e, ← ih]
    simp only [partsL]
    by_cases h : a.frm = k
    · simp [h]
    · simp [h]
theorem partsL_nodup {k : Int} : ∀ (l : List Lt) (i : Nat), (partsL k l i).Nodup
  | [], i => by simp [partsL]
  | a :: l, i => by
    have ih := partsL_nodup (k := k) l (i + 1)
    simp only [partsL]
    by_cases h : a.frm = k
    · rw [if_pos h, List.nodup_cons]
      refine ⟨fun hm => ?_, ih⟩
      obtain ⟨j, hj, e, _⟩ := mem_partsL.1 hm
      omega
    · rw [if_neg h]; exact ih
theorem forest {m : Ml} (g : Good m) : Forest m.lots.length (frmAt m) (parts m) := by
  refine ⟨fun i i0 i1 => ?_, fun i p => ?_, fun i => partsL_nodup _ _⟩
  · have := frmAt_lt g i0 i1; omega
  · unfold parts
    rw [mem_partsL]
    constructor
    · rintro ⟨j, hj, rfl, hf⟩
      simp only [Nat.zero_add]
      exact ⟨by omega, by omega, by rw [frmAt_nat hj]; exact hf⟩
    · rintro ⟨p0, p1, hf⟩
      obtain ⟨j, rfl⟩ := Int.eq_ofNat_of_zero_le p0
      exact ⟨j, by omega, by simp, by rw [← frmAt_nat (by omega)]; exact hf⟩
def intsB (b : Box) : List Int := [(b 0).1, (b 0).2, (b 1).1, (b 1).2, (b 2).1, (b 2).2, (b 3).1, (b 3).2, (b 4).1, (b 4).2, (b 5).1, (b 5).2, (b 6).1, (b 6).2, (b 7).1, (b 7).2, (b 8).1, (b 8).2, (b 9).1, (b 9).2, (b 10).1, (b 10).2, (b 11).1, (b 11).2]
def encB (b : Box) : List V := (intsB b).map iv
def updB (b : Box) (i : Int) (p : Int × Int) : Box := fun k => if k = i then p else b k
theorem lt12 {i : Nat} (h : i < 12) : i = 0 ∨ i = 1 ∨ i = 2 ∨ i = 3 ∨ i = 4 ∨ i = 5 ∨ i = 6 ∨ i = 7 ∨ i = 8 ∨ i = 9 ∨ i = 10 ∨ i = 11 := by omega
theorem encB_at (b : Box) {i : Nat} (hi : i < 12) : nth (i * 2) (encB b) = some (.int .i64 (b i).1) ∧ nth (i * 2 + 1) (encB b) = some (.int .i64 (b i).2) ∧ getN (i * 2) 2 (encB b) = some [.int .i64 (b i).1, .int .i64 (b i).2] := by
  rcases lt12 hi with rfl | rfl | rfl | rfl | rfl | rfl | rfl | rfl | rfl | rfl | rfl | rfl <;> exact ⟨rfl, rfl, rfl⟩
theorem encB_put (b : Box) {i : Nat} (hi : i < 12) (x y : Int) : putN (i * 2) [.int .i64 x, .int .i64 y] (encB b) = some (encB (updB b i (x, y))) := by
  rcases lt12 hi with rfl | rfl | rfl | rfl | rfl | rfl | rfl | rfl | rfl | rfl | rfl | rfl <;> rfl
theorem encB_put2 (b : Box) {i : Nat} (hi : i < 12) (y : Int) : putN (i * 2 + 1) [.int .i64 y] (encB b) = some (encB (updB b i ((b i).1, y))) := by
  rcases lt12 hi with rfl | rfl | rfl | rfl | rfl | rfl | rfl | rfl | rfl | rfl | rfl | rfl <;> rfl
theorem intsB_iff (b c : Box) : intsB b = intsB c ↔ ∀ i : Int, 0 ≤ i → i < 12 → b i = c i := by
  constructor
  · intro h i i0 i1
    obtain ⟨j, rfl⟩ := Int.eq_ofNat_of_zero_le i0
    have hj : j < 12 := by omega
    simp only [intsB, List.cons.injEq, and_true] at h
    obtain ⟨a0, a1, a2, a3, a4, a5, a6, a7, a8, a9, b0, b1, b2, b3, b4, b5, b6, b7, b8, b9, d0, d1, d2, d3⟩ := h
    rcases lt12 hj with rfl | rfl | rfl | rfl | rfl | rfl | rfl | rfl | rfl | rfl | rfl | rfl <;> exact Prod.ext (by assumption) (by assumption)
  · intro h
    simp only [intsB, h 0 (by omega) (by omega), h 1 (by omega) (by omega), h 2 (by omega) (by omega), h 3 (by omega) (by omega), h 4 (by omega) (by omega), h 5 (by omega) (by omega), h 6 (by omega) (by omega), h 7 (by omega) (by omega), h 8 (by omega) (by omega), h 9 (by omega) (by omega), h 10 (by omega) (by omega), h 11 (by omega) (by omega)]
theorem q_feq_B (ng : Bool) (b c : Box) : q_feq ng 24 (.agg (encB b)) (.agg (encB c)) = some (.bool (ngB ng (decide (intsB b = intsB c)))) := q_feq_map (n := 24) (intsB b) (intsB c) rfl rfl ng
def zeroB : Box := fun _ => (0, 0)
theorem narrow_upd (b : Box) (i lo hi : Int) : narrow b i lo hi = updB b i (max (b i).1 lo, min (b i).2 hi) := rfl
theorem updB_same (b : Box) (i : Int) : updB b i (b i) = b := by
  funext k
  by_cases h : k = i
  · subst h; simp [updB]
  · simp [updB, h]
theorem ld_B (b : Box) : getN 0 24 (encB b) = some (encB b) := rfl

theorem narrow_ev {h : H} {p i : Nat} {b : Box} (hw : h.wf) (hp : h.get p = some (.cells .rw (encB b))) (hi : i < 12) (lo hi' : Int) (Q : V → H → Prop)
    (q : ∀ h', h'.get p = some (.cells .rw (encB (narrow b i lo hi'))) → Keeps (fun c => c = p) h h' → h'.wf → Q (.tup []) h') : Ev fnG fastA (.fn 152 [] [.ptr p 0]) [.int .i64 (i : Int), .int .i64 lo, .int .i64 hi'] h Q := by
  obtain ⟨n1, n2, n3⟩ := encB_at b hi
  have hc := cells_of hp
  have hlp := hw _ _ hp
  refine Ev_body (fd := c152) rfl rfl rfl ?_
  simp -implicitDefEqProofs (maxSteps := 999999) (disch := first | with_reducible rfl | omega | (simp only [nA, nS, nD] <;> omega) | fail) only [c152, go_sem, q_iaa_ptr (nat_cst i) hi, hc, n1, n2]
  refine least_use (l := [hi']) (SlAt.new _ rfl (by rfl) (by rfl) (by simp [encI]) (by simp)) ?_
  have s1 : h.Sub ((h.add (.cells .rw [.int .i64 hi'])).add (.cells .rw [.int .i64 (max (b i).1 lo), .int .i64 (min (b i).2 hi')])) := (by repeat (first | assumption | exact H.Sub.refl (by assumption) | refine H.Sub.add ?_ _ | refine H.Sub.set ?_ (by first | omega | (simp only [H.next_add, H.next_set, H.next_del] <;> omega)) (by first | omega | (simp only [H.next_add, H.next_set, H.next_del] <;> omega)) (by assumption) _))
  have k1 := Keeps.of s1 (fun c => c = p)
  have hp1 := s1.get hp
  by_cases e : max (b i).1 lo = (b i).1 ∧ min (b i).2 hi' = (b i).2
  · have hnb : narrow b i lo hi' = b := by
      rw [narrow_upd, e.1, e.2]; exact updB_same b i
    simp -implicitDefEqProofs (maxSteps := 999999) (disch := first | with_reducible rfl | omega | (simp only [nA, nS, nD] <;> omega) | fail) only [go_sem, q_iaa_ptr (nat_cst i) hi, hc, n1, n2, n3, List.foldl, q_feq_2, e.1, e.2, ngB, and_self, Bool.not_true]
    have := q _ (by rw [hnb]; exact hp1) k1 s1.wf
    rw [e.1, e.2] at this; exact this
  · simp -implicitDefEqProofs (maxSteps := 999999) (disch := first | with_reducible rfl | omega | (simp only [nA, nS, nD] <;> omega) | fail) only [go_sem, q_iaa_ptr (nat_cst i) hi, hc, n1, n2, n3, List.foldl, q_feq_2, e, ngB, Bool.not_false, hp, encB_put b hi]
    obtain ⟨k2, w2⟩ := Keeps.wf_set s1.wf (.cells .rw (encB (narrow b i lo hi'))) hp1
    exact q _ (get_set_same rfl) ((k1.trans k2).mono fun c h => by rcases h with h | h <;> exact h) w2
def Bd (C : Int) (b : Box) : Prop := ∀ k : Int, -C ≤ (b k).1 ∧ (b k).1 ≤ C ∧ -C ≤ (b k).2 ∧ (b k).2 ≤ C
theorem Bd.mono {C D : Int} {b : Box} (h : Bd C b) (hc : C ≤ D) : Bd D b := fun k => by have := h k; omega
theorem Bd.narrow {C : Int} {b : Box} (h : Bd C b) {i lo hi : Int} (h1 : -C ≤ lo ∧ lo ≤ C) (h2 : -C ≤ hi ∧ hi ≤ C) : Bd C (narrow b i lo hi) := fun k => by
  have hk := h k
  by_cases e : k = i
  · subst e; rw [narrow_same]; simp only; omega
  · rw [narrow_ne _ _ _ e]; exact hk
theorem sum_bd {x : Int → Int} {C : Int} : ∀ {l : List Int}, (∀ p, -C ≤ x p ∧ x p ≤ C) → 0 ≤ C → (l.length : Int) ≤ 12 → -(12 * C) ≤ sumL x l ∧ sumL x l ≤ 12 * C := by
  have : ∀ (l : List Int), (∀ p, -C ≤ x p ∧ x p ≤ C) → -((l.length : Int) * C) ≤ sumL x l ∧ sumL x l ≤ (l.length : Int) * C := by
    intro l h
    induction l with
    | nil => simp [sumL]
    | cons p l ih =>
      have := h p
      simp only [sumL, List.length_cons]
      rw [Int.natCast_add, Int.add_mul]
      omega
  intro l h h0 hl
  have h1 := this l h
  have h2 := Int.mul_le_mul_of_nonneg_right hl h0
  omega
theorem downs_bd {bf : Box} {K C lo hi : Int} {i : Int} (hK : 0 ≤ K) (hKC : K ≤ C) (hbf : Bd K bf) (hlo : -(12 * K) ≤ lo ∧ lo ≤ 12 * K) (hhi : -(12 * K) ≤ hi ∧ hi ≤ 12 * K) : ∀ (l : List Int) (b : Box), i ∉ l → Bd (C + 25 * K) b → (-(C + 12 * K) ≤ (b i).1 ∧ (b i).1 ≤ C + 12 * K ∧ -(C + 12 * K) ≤ (b i).2 ∧ (b i).2 ≤ C + 12 * K) →
    Bd (C + 25 * K) (downs bf i lo hi l b)
  | [], b, _, h, _ => h
  | p :: l, b, hi', h, hb => by
    rw [List.mem_cons, not_or] at hi'
    have hp := hbf p
    simp only [downs]
    refine downs_bd hK hKC hbf hlo hhi l _ hi'.2 (h.narrow (by omega) (by omega)) ?_
    rw [narrow_ne _ _ _ hi'.1]; exact hb
theorem lotStep_bd {m : Ml} (g : Good m) {bf b c : Box} {K C : Int} {i : Int} (hK : 0 ≤ K) (hKC : K ≤ C) (hbf : Bd K bf) (hb : Bd C b) (he : ∀ p ∈ parts m i, b p = bf p) (h0 : 0 ≤ i) (h : lotStep (parts m) bf b i = some c) : Bd (C + 25 * K) c := by
  unfold lotStep at h
  split at h
  · cases h
  · split at h
    · cases h; exact hb.mono (by omega)
    · cases h
      have hl : ((parts m i).length : Int) ≤ 12 := by have := parts_len m i; have := g.lots; omega
      have e1 : sumL (lo1 b) (parts m i) = sumL (lo1 bf) (parts m i) := sumL_congr fun p hp => by simp only [lo1, he p hp]
      have e2 : sumL (hi1 b) (parts m i) = sumL (hi1 bf) (parts m i) := sumL_congr fun p hp => by simp only [hi1, he p hp]
      have b1 := sum_bd (x := lo1 bf) (C := K) (l := parts m i) (fun p => by have := hbf p; simp only [lo1]; omega) hK hl
      have b2 := sum_bd (x := hi1 bf) (C := K) (l := parts m i) (fun p => by have := hbf p; simp only [hi1]; omega) hK hl
      rw [e1, e2]
      have hbi := hb i
      refine downs_bd hK hKC hbf b1 b2 _ _ (fun hm => ?_) ((hb.mono (by omega)).narrow (by omega) (by omega)) ?_
      · obtain ⟨p0, p1, pf⟩ := ((forest g).mem _ _).1 hm
        have := (forest g).lt i p0 p1; omega
      · rw [narrow_same]; simp only; omega
theorem passF_bd {m : Ml} (g : Good m) {bf : Box} {K : Int} (hK : 0 ≤ K) (hbf : Bd K bf) : ∀ (k : Nat) (i : Int) (b c : Box) (C : Int), K ≤ C → 0 ≤ i → Bd C b → Silk.Fresh m.lots.length (frmAt m) bf b i → passF (parts m) bf k i b = some c → Bd (C + 25 * K * k) c
  | 0, i, b, c, C, _, _, hb, _, h => by cases h; exact hb.mono (by simp)
  | k + 1, i, b, c, C, hC, i0, hb, hf, h => by
    simp only [passF] at h
    cases h1 : lotStep (parts m) bf b i with
    | none => rw [h1] at h; cases h
    | some d =>
      rw [h1] at h
      have := passF_bd g hK hbf k (i + 1) d c (C + 25 * K) (by omega) (by omega) (lotStep_bd g hK hC hbf hb (hf.at (forest g)) i0 h1) (hf.step (forest g) i0 h1) h
      have e : C + 25 * K + 25 * K * (k : Int) = C + 25 * K * ((k + 1 : Nat) : Int) := by
        rw [Int.natCast_add, Int.mul_add]; omega
      rw [← e]; exact this
def InvB (b : Box) : Prop := ∀ k : Int, 0 ≤ (b k).1 ∧ (b k).1 ≤ 4000000 ∧ -4000000 ≤ (b k).2 ∧ (b k).2 ≤ 10000
theorem InvB.bd {b : Box} (h : InvB b) : Bd 4000000 b := fun k => by have := h k; omega
theorem InvB.pass {m : Ml} (g : Good m) {b c : Box} (h : InvB b) (hout : ∀ j : Int, ¬ (0 ≤ j ∧ j < m.lots.length) → b j = (0, 0)) (hp : passF (parts m) b m.lots.length 0 b = some c) : InvB c ∧ ∀ j : Int, ¬ (0 ≤ j ∧ j < m.lots.length) → c j = (0, 0) := by
  have hs : ∀ j : Int, 0 ≤ (b j).1 ∧ (b j).1 ≤ 10000 ∧ -10000 ≤ (b j).2 ∧ (b j).2 ≤ 10000 := fun j => by
    by_cases hj : 0 ≤ j ∧ j < m.lots.length
    · have := passF_start _ _ _ _ hp j hj.1 (by omega)
      have := h j; omega
    · rw [hout j hj]; omega
  have hbd : Bd 10000 b := fun k => by have := hs k; omega
  have h2 := passF_bd g (by omega) hbd m.lots.length 0 b c 10000 (by omega) (by omega) hbd (fun _ _ _ _ => rfl) hp
  have hn := passF_nrw _ _ hp
  have gl := g.lots
  refine ⟨fun k => ?_, fun j hj => by rw [passF_out (forest g) _ _ _ _ (by omega) (by omega) hp j hj]; exact hout j hj⟩
  have a1 := h2 k
  have a2 := hn k
  have a3 := hs k
  omega
theorem zerosB : ([.int .i64 0, .int .i64 0, .int .i64 0, .int .i64 0, .int .i64 0, .int .i64 0, .int .i64 0, .int .i64 0, .int .i64 0, .int .i64 0, .int .i64 0, .int .i64 0, .int .i64 0, .int .i64 0, .int .i64 0, .int .i64 0, .int .i64 0, .int .i64 0, .int .i64 0, .int .i64 0, .int .i64 0, .int .i64 0, .int .i64 0, .int .i64 0] : List V) = encB zeroB := rfl
theorem lenB (b : Box) : lenN (encB b) = 24 := rfl
theorem put_B {h : H} {p : Nat} (b c : Box) (hp : h.get p = some (.cells .rw (encB c))) : h.put p 0 (encB b) = some (h.set p (.cells .rw (encB b))) := by
  have hpn : putN 0 (encB b) (encB c) = some (encB b) := by
    rw [putN_0]; exact over_eq.2 ⟨rfl, Nat.le_refl _⟩
  exact H.put_rw (v := iv (b 0).1) rfl hp hpn
def tightV (r : Option Box) : V := match r with
  | none => .tup [.agg (encB zeroB), .bool false]
  | some c => .tup [.agg (encB c), .bool true]
theorem sum_take (x : Int → Int) {l : List Int} {j : Nat} (hj : j < l.length) : sumL x (l.take (j + 1)) = sumL x (l.take j) + x l[j] := by
  rw [List.take_succ_eq_append_getElem hj, sumL_append]; simp [sumL]
theorem downs_drop {bf : Box} {i lo hi : Int} {l : List Int} {j : Nat} (hj : j < l.length) (b : Box) : downs bf i lo hi (l.drop j) b = downs bf i lo hi (l.drop (j + 1)) (narrow b l[j] ((b i).1 - (hi - (bf l[j]).2)) ((b i).2 - (lo - (bf l[j]).1))) := by
  rw [List.drop_eq_getElem_cons hj]; rfl
set_option maxHeartbeats 4000000 in
theorem tight_ev {h : H} {d : Nat} {m : Ml} {b : Box} (hw : h.wf) (hd : DkAt h d m) (g : Good m) (hb : InvB b) (hout : ∀ j : Int, ¬ (0 ≤ j ∧ j < m.lots.length) → b j = (0, 0)) (Q : V → H → Prop)
    (q : ∀ r h', h.Sub h' → TightR m.lots.length (parts m) b r → Q (tightV r) h') : Ev fnG fastA (.fn 126 [] []) [.ptr d 0, .agg (encB b)] h Q := by
  obtain ⟨pm, l, L, W, g1, g2, aL, aW, ap⟩ := hd
  have F := forest g
  have gl := g.lots
  have hld := hw _ _ g1
  have hlp := hw _ _ g2
  have hlenL := aL.lenE
  refine Ev_body (fd := c126) rfl rfl rfl ?_
  have s1 : h.Sub ((h.add (.cells .rw (encB b))).add (.cells .rw (encB zeroB))) := (by repeat (first | assumption | exact H.Sub.refl (by assumption) | refine H.Sub.add ?_ _ | refine H.Sub.set ?_ (by first | omega | (simp only [H.next_add, H.next_set, H.next_del] <;> omega)) (by first | omega | (simp only [H.next_add, H.next_set, H.next_del] <;> omega)) (by assumption) _))
  simp -implicitDefEqProofs (maxSteps := 999999) (disch := first | with_reducible rfl | omega | (simp only [nA, nS, nD] <;> omega) | fail) only [c126, go_sem, zerosB]
  refine W_loop (fun k s => ∃ tm h' c, s = ⟨tm, h', []⟩ ∧ h.Sub h' ∧ h.next + 1 < h'.next ∧ h'.get h.next = some (.cells .rw (encB c)) ∧ h'.get (h.next + 1) = some (.cells .rw (encB zeroB)) ∧ InvB c ∧ (∀ j : Int, ¬ (0 ≤ j ∧ j < m.lots.length) → c j = (0, 0)) ∧
      (∀ r, TightR m.lots.length (parts m) c r → TightR m.lots.length (parts m) b r) ∧ (Silk.room m.lots.length c + 1).toNat ≤ k ∧ (Opd.t 0).ev tm = .ptr d 0 ∧ (Opd.t 3).ev tm = .ptr h.next 0 ∧ (Opd.t 4).ev tm = .ptr (h.next + 1) 0 ∧ (Opd.t 6).ev tm = .fn 152 [] [.ptr h.next 0])
    ?_ (Silk.room m.lots.length b + 1).toNat _ ⟨_, _, b, rfl, s1, by simp only [H.next_add]; omega, by simp -implicitDefEqProofs (maxSteps := 999999) (disch := first | with_reducible rfl | omega | (simp only [nA, nS, nD] <;> omega) | fail) only [go_sem], by simp -implicitDefEqProofs (maxSteps := 999999) (disch := first | with_reducible rfl | omega | (simp only [nA, nS, nD] <;> omega) | fail) only [go_sem], hb, hout, fun r h => h, Nat.le_refl _, (by simp [ev_c, ev_put] <;> rfl), (by simp [ev_c, ev_put] <;> rfl), (by simp [ev_c, ev_put] <;> rfl), (by simp [ev_c, ev_put] <;> rfl)⟩
  rintro k s ⟨tm, h', c, rfl, hs, lt, gb, gz, hi, ho, hR, hk, t0, t3, t4, t6⟩
  have gz' : (h'.add (.cells .rw (encB zeroB))).get h'.next = some (.cells .rw (encB zeroB)) := get_add_new rfl
  simp -implicitDefEqProofs (maxSteps := 999999) (disch := first | with_reducible rfl | omega | (simp only [nA, nS, nD] <;> omega) | fail) only [go_sem, t0, t3, t4, t6, cells_of gb, ld_B, zerosB, lenB, put_B c zeroB gz', cells_of (hs.get g1), hlenL]
  have sB := (H.Sub.refl hs.wf).add (.cells .rw (encB c))
  have hs1 := hs.trans sB
  have gb1 := sB.get gb
  have gz1 := sB.get gz
  have gf1 : (h'.add (.cells .rw (encB c))).get h'.next = some (.cells .rw (encB c)) := get_add_new rfl
  have l1 : (h'.add (.cells .rw (encB c))).next = h'.next + 1 := H.next_add _ _
  generalize h'.add (.cells .rw (encB c)) = h1 at sB hs1 gb1 gz1 gf1 l1 ⊢
  clear gz'
  refine W_count m.lots.length (fun i s => ∃ tm h2 e, s = ⟨tm, h2, []⟩ ∧ h.Sub h2 ∧ h'.next < h2.next ∧ h2.get h.next = some (.cells .rw (encB e)) ∧ h2.get (h.next + 1) = some (.cells .rw (encB zeroB)) ∧ h2.get h'.next = some (.cells .rw (encB c)) ∧
      passF (parts m) c m.lots.length 0 c = passF (parts m) c (m.lots.length - i) (i : Int) e ∧ Silk.Fresh m.lots.length (frmAt m) c e (i : Int) ∧ Bd (4000000 + 100000000 * i) e ∧
      (Opd.t 0).ev tm = .ptr d 0 ∧ (Opd.t 3).ev tm = .ptr h.next 0 ∧ (Opd.t 4).ev tm = .ptr (h.next + 1) 0 ∧ (Opd.t 6).ev tm = .fn 152 [] [.ptr h.next 0] ∧ (Opd.t 7).ev tm = .ptr h'.next 0 ∧ (Opd.t 23).ev tm = .int .i64 (m.lots.length : Int) ∧ (Opd.t 24).ev tm = .int .i64 (i : Int))
    ?_ ?_ (i := 0) (Nat.zero_le _) ⟨_, _, c, rfl, hs1, by omega, gb1, gz1, gf1, rfl, fun _ _ _ _ => rfl, hi.bd.mono (by omega), (by simp [ev_c, ev_put, t0] <;> rfl), (by simp [ev_c, ev_put, t3] <;> rfl), (by simp [ev_c, ev_put, t4] <;> rfl), (by simp [ev_c, ev_put, t6] <;> rfl), (by simp [ev_c, ev_put] <;> rfl), (by simp [ev_c, ev_put] <;> rfl), (by simp [ev_c, ev_put] <;> rfl)⟩ <;> clear t0 t3 t4 t6 tm
  · rintro i s hin ⟨tm, h2, e, rfl, hs2, lt2, gb2, gz2, gf2, hpass, hfr, hbd, t0, t3, t4, t6, t7, t23, t24⟩
    have hin' : (i : Int) < (m.lots.length : Int) := by omega
    have hi12 : i < 12 := by omega
    obtain ⟨n1, n2, n3⟩ := encB_at e hi12
    have hstep : m.lots.length - i = (m.lots.length - (i + 1)) + 1 := by omega
    rw [hstep, passF] at hpass
    have hbdi := hbd (i : Int)
    by_cases hc : (e i).2 < (e i).1
    · simp -implicitDefEqProofs (maxSteps := 999999) (disch := first | with_reducible rfl | omega | (simp only [nA, nS, nD] <;> omega) | fail) only [go_sem, t0, t3, t4, t6, t7, t23, t24, hin', q_iaa_ptr (nat_cst i) hi12, cells_of gb2, n1, n2, hc, zerosB, lenB, put_B zeroB zeroB gz2, ld_B]
      have hnone : lotStep (parts m) c e (i : Int) = none := by unfold lotStep; rw [if_pos hc]
      rw [hnone] at hpass
      exact q none _ (hs2.set (by omega) (by have := hs2.next; omega) hw _) (hR none (.bad hpass))
    have hap := (ap (i : Int)).mono hs2
    have hlp := parts_len m (i : Int)
    have hlenP := hap.lenE
    by_cases hps : parts m (i : Int) = []
    · have h0 : ((parts m (i : Int)).length : Int) = 0 := by rw [hps]; rfl
      have hsome : lotStep (parts m) c e (i : Int) = some e := by unfold lotStep; rw [if_neg hc, if_pos hps]
      have hfr' := hfr.step F (by omega) hsome
      rw [hsome] at hpass
      simp -implicitDefEqProofs (maxSteps := 999999) (disch := first | with_reducible rfl | omega | (simp only [nA, nS, nD] <;> omega) | fail) only [go_sem, t0, t3, t4, t6, t7, t23, t24, hin', q_iaa_ptr (nat_cst i) hi12, cells_of gb2, n1, n2, hc, cells_of (hs2.get g1), hs2.get g2, hlenP, h0, wr_succ]
      exact ⟨_, _, e, rfl, hs2, lt2, gb2, gz2, gf2, hpass, hfr', hbd.mono (by omega), (by simp [ev_c, ev_put, t0] <;> rfl), (by simp [ev_c, ev_put, t3] <;> rfl), (by simp [ev_c, ev_put, t4] <;> rfl), (by simp [ev_c, ev_put, t6] <;> rfl), (by simp [ev_c, ev_put, t7] <;> rfl), (by simp [ev_c, ev_put, t23] <;> rfl), (by simp [ev_c, ev_put] <;> rfl)⟩
    have h0 : ¬ ((parts m (i : Int)).length : Int) = 0 := by have := List.length_pos_iff.2 hps; omega
    obtain ⟨ps, eps⟩ : ∃ ps, parts m (i : Int) = ps := ⟨_, rfl⟩
    obtain ⟨X, eX⟩ : ∃ X, found .nils false (lkA (i : Int) l) = X := ⟨_, rfl⟩
    rw [eX] at hlenP hap
    rw [eps] at hlp hlenP hap h0 hps
    have hpsm : ∀ p ∈ ps, 0 ≤ p ∧ p < m.lots.length ∧ frmAt m p = (i : Int) := fun p hp => (F.mem _ _).1 (by rw [eps]; exact hp)
    simp -implicitDefEqProofs (maxSteps := 999999) (disch := first | with_reducible rfl | omega | (simp only [nA, nS, nD] <;> omega) | fail) only [go_sem, t0, t3, t4, t6, t7, t23, t24, hin', q_iaa_ptr (nat_cst i) hi12, cells_of gb2, n1, n2, hc, cells_of (hs2.get g1), hs2.get g2, eX, hlenP, h0]
    have bdS : ∀ (x : Int → Int) (l' : List Int), (∀ p, -(4000000 + 100000000 * (i : Int)) ≤ x p ∧ x p ≤ 4000000 + 100000000 * (i : Int)) → (l'.length : Int) ≤ 12 → -(12 * (4000000 + 100000000 * (i : Int))) ≤ sumL x l' ∧ sumL x l' ≤ 12 * (4000000 + 100000000 * (i : Int)) := fun x l' h1 h2 => sum_bd h1 (by omega) h2
    refine W_count ps.length (fun j s => ∃ tm, s = ⟨tm, h2, []⟩ ∧ (Opd.t 0).ev tm = .ptr d 0 ∧ (Opd.t 3).ev tm = .ptr h.next 0 ∧ (Opd.t 4).ev tm = .ptr (h.next + 1) 0 ∧ (Opd.t 6).ev tm = .fn 152 [] [.ptr h.next 0] ∧ (Opd.t 7).ev tm = .ptr h'.next 0 ∧ (Opd.t 8).ev tm = .int .i64 (i : Int) ∧ (Opd.t 9).ev tm = X ∧
        (Opd.t 10).ev tm = .int .i64 (sumL (lo1 e) (ps.take j)) ∧ (Opd.t 11).ev tm = .int .i64 (sumL (hi1 e) (ps.take j)) ∧ (Opd.t 23).ev tm = .int .i64 (m.lots.length : Int) ∧ (Opd.t 24).ev tm = .int .i64 (i : Int) ∧ (Opd.t 46).ev tm = X ∧ (Opd.t 47).ev tm = .int .i64 (ps.length : Int) ∧ (Opd.t 48).ev tm = .int .i64 (j : Int))
      ?_ ?_ (i := 0) (Nat.zero_le _) ⟨_, rfl, (by simp [ev_c, ev_put, t0] <;> rfl), (by simp [ev_c, ev_put, t3] <;> rfl), (by simp [ev_c, ev_put, t4] <;> rfl), (by simp [ev_c, ev_put, t6] <;> rfl), (by simp [ev_c, ev_put, t7] <;> rfl), (by simp [ev_c, ev_put] <;> rfl), (by simp [ev_c, ev_put] <;> rfl), (by simp [ev_c, ev_put] <;> rfl), (by simp [ev_c, ev_put] <;> rfl), (by simp [ev_c, ev_put, t23] <;> rfl), (by simp [ev_c, ev_put, t24] <;> rfl), (by simp [ev_c, ev_put] <;> rfl), (by simp [ev_c, ev_put] <;> rfl), (by simp [ev_c, ev_put] <;> rfl)⟩ <;> clear t0 t3 t4 t6 t7 t23 t24 tm
    · rintro j s hj ⟨tm, rfl, t0, t3, t4, t6, t7, t8, t9, t10, t11, t23, t24, t46, t47, t48⟩
      have hj' : (j : Int) < (ps.length : Int) := by omega
      obtain ⟨bb, o, cc, cs, eb, hcs, hq, hgg, hn, hn0⟩ := hap.at hj
      obtain ⟨p0, p1, pf⟩ := hpsm _ (List.getElem_mem hj)
      obtain ⟨p, ep⟩ := Int.eq_ofNat_of_zero_le p0
      have hp12 : p < 12 := by omega
      obtain ⟨m1, m2, m3⟩ := encB_at e hp12
      have v1 := bdS (lo1 e) (ps.take j) (fun p => by have := hbd p; simp only [lo1]; omega) (by simp only [List.length_take]; omega)
      have v2 := bdS (hi1 e) (ps.take j) (fun p => by have := hbd p; simp only [hi1]; omega) (by simp only [List.length_take]; omega)
      have hbp := hbd (p : Int)
      have e1 := sum_take (lo1 e) hj
      have e2 := sum_take (hi1 e) hj
      rw [ep] at e1 e2
      simp only [lo1, hi1] at e1 e2 v1 v2
      simp -implicitDefEqProofs (maxSteps := 999999) (disch := first | with_reducible rfl | omega | (simp only [nA, nS, nD] <;> omega) | fail) only [go_sem, t0, t3, t4, t6, t7, t8, t9, t10, t11, t23, t24, t46, t47, t48, hj', hq (nat_cst j), hcs, hn0 (by omega), encI, ep, q_iaa_ptr (nat_cst p) hp12, cells_of gb2, m1, m2, wr_in, wr_succ, lo1, hi1]
      exact ⟨_, rfl, (by simp [ev_c, ev_put, t0] <;> rfl), (by simp [ev_c, ev_put, t3] <;> rfl), (by simp [ev_c, ev_put, t4] <;> rfl), (by simp [ev_c, ev_put, t6] <;> rfl), (by simp [ev_c, ev_put, t7] <;> rfl), (by simp [ev_c, ev_put, t8] <;> rfl), (by simp [ev_c, ev_put, t9] <;> rfl), by rw [e1]; exact (by simp [ev_c, ev_put] <;> rfl), by rw [e2]; exact (by simp [ev_c, ev_put] <;> rfl), (by simp [ev_c, ev_put, t23] <;> rfl), (by simp [ev_c, ev_put, t24] <;> rfl), (by simp [ev_c, ev_put, t46] <;> rfl), (by simp [ev_c, ev_put, t47] <;> rfl), (by simp [ev_c, ev_put] <;> rfl)⟩
    · rintro s ⟨tm, rfl, t0, t3, t4, t6, t7, t8, t9, t10, t11, t23, t24, t46, t47, t48⟩
      rw [List.take_length] at t10 t11
      have v1 := bdS (lo1 e) ps (fun p => by have := hbd p; simp only [lo1]; omega) (by omega)
      have v2 := bdS (hi1 e) ps (fun p => by have := hbd p; simp only [hi1]; omega) (by omega)
      obtain ⟨slo, eslo⟩ : ∃ x, sumL (lo1 e) ps = x := ⟨_, rfl⟩
      obtain ⟨shi, eshi⟩ : ∃ x, sumL (hi1 e) ps = x := ⟨_, rfl⟩
      rw [eslo] at t10 v1
      rw [eshi] at t11 v2
      have hsome : lotStep (parts m) c e (i : Int) = some (downs c (i : Int) slo shi ps (narrow e (i : Int) slo shi)) := by
        unfold lotStep
        rw [if_neg hc, eps, if_neg hps, eslo, eshi]
      rw [hsome] at hpass
      have hfr' := hfr.step F (by omega) hsome
      have hbd' := lotStep_bd g (K := 4000000) (by omega) (by omega) hi.bd hbd (hfr.at F) (by omega) hsome
      have hcf : ∀ p ∈ ps, e p = c p := fun p hp => hfr.at F p (by rw [eps]; exact hp)
      simp -implicitDefEqProofs (maxSteps := 999999) (disch := first | with_reducible rfl | omega | (simp only [nA, nS, nD] <;> omega) | fail) only [go_sem, t0, t3, t4, t6, t7, t8, t9, t10, t11, t23, t24, t46, t47, t48, Int.lt_irrefl]
      refine narrow_ev hs2.wf gb2 hi12 slo shi _ fun h3 gb3 k3 w3 => ?_
      have hs3 : h.Sub h3 := k3.sub hs2 hw (fun c hc => by omega) w3
      have gz3 := k3.2 _ _ gz2 (by omega)
      have gf3 := k3.2 _ _ gf2 (by omega)
      have l3 := k3.1
      have hx2 := hap.elems
      simp -implicitDefEqProofs (maxSteps := 999999) (disch := first | with_reducible rfl | omega | (simp only [nA, nS, nD] <;> omega) | fail) only [go_sem, t0, t3, t4, t6, t7, t8, t9, t10, t11, t23, t24, t46, t47, t48, hlenP]
      refine W_count ps.length (fun j s => ∃ tm h4 e4, s = ⟨tm, h4, []⟩ ∧ h.Sub h4 ∧ h'.next < h4.next ∧ h4.get h.next = some (.cells .rw (encB e4)) ∧ h4.get (h.next + 1) = some (.cells .rw (encB zeroB)) ∧ h4.get h'.next = some (.cells .rw (encB c)) ∧
          downs c (i : Int) slo shi ps (narrow e (i : Int) slo shi) = downs c (i : Int) slo shi (ps.drop j) e4 ∧ e4 (i : Int) = narrow e (i : Int) slo shi (i : Int) ∧
          (Opd.t 0).ev tm = .ptr d 0 ∧ (Opd.t 3).ev tm = .ptr h.next 0 ∧ (Opd.t 4).ev tm = .ptr (h.next + 1) 0 ∧ (Opd.t 6).ev tm = .fn 152 [] [.ptr h.next 0] ∧ (Opd.t 7).ev tm = .ptr h'.next 0 ∧ (Opd.t 8).ev tm = .int .i64 (i : Int) ∧
          (Opd.t 10).ev tm = .int .i64 slo ∧ (Opd.t 11).ev tm = .int .i64 shi ∧ (Opd.t 23).ev tm = .int .i64 (m.lots.length : Int) ∧ (Opd.t 24).ev tm = .int .i64 (i : Int) ∧ (Opd.t 70).ev tm = X ∧ (Opd.t 71).ev tm = .int .i64 (ps.length : Int) ∧ (Opd.t 72).ev tm = .int .i64 (j : Int))
        ?_ ?_ (i := 0) (Nat.zero_le _) ⟨_, _, _, rfl, hs3, by omega, gb3, gz3, gf3, rfl, rfl, (by simp [ev_c, ev_put, t0] <;> rfl), (by simp [ev_c, ev_put, t3] <;> rfl), (by simp [ev_c, ev_put, t4] <;> rfl), (by simp [ev_c, ev_put, t6] <;> rfl), (by simp [ev_c, ev_put, t7] <;> rfl), (by simp [ev_c, ev_put, t8] <;> rfl), (by simp [ev_c, ev_put, t10] <;> rfl), (by simp [ev_c, ev_put, t11] <;> rfl), (by simp [ev_c, ev_put, t23] <;> rfl), (by simp [ev_c, ev_put, t24] <;> rfl), (by simp [ev_c, ev_put] <;> rfl), (by simp [ev_c, ev_put] <;> rfl), (by simp [ev_c, ev_put] <;> rfl)⟩ <;> clear t0 t3 t4 t6 t7 t8 t9 t10 t11 t23 t24 t46 t47 t48 tm
      · rintro j s hj ⟨tm, h4, e4, rfl, hs4, lt4, gb4, gz4, gf4, hdn, hei, t0, t3, t4, t6, t7, t8, t10, t11, t23, t24, t70, t71, t72⟩
        have hj' : (j : Int) < (ps.length : Int) := by omega
        have hap4 := (ap (i : Int)).mono hs4
        rw [eX, eps] at hap4
        obtain ⟨bb, o, cc, cs, eb, hcs, hq, hgg, hn, hn0⟩ := hap4.at hj
        obtain ⟨p0, p1, pf⟩ := hpsm _ (List.getElem_mem hj)
        have hlt := F.lt _ p0 p1
        obtain ⟨p, ep⟩ := Int.eq_ofNat_of_zero_le p0
        have hp12 : p < 12 := by omega
        obtain ⟨m1, m2, m3⟩ := encB_at c hp12
        obtain ⟨u1, u2, u3⟩ := encB_at e4 hi12
        rw [downs_drop hj, ep] at hdn
        have hcp := hi (p : Int)
        have b4 : -60000000000 ≤ (e4 (i : Int)).1 ∧ (e4 (i : Int)).1 ≤ 60000000000 ∧ -60000000000 ≤ (e4 (i : Int)).2 ∧ (e4 (i : Int)).2 ≤ 60000000000 := by
          rw [hei, narrow_same]; simp only; omega
        simp -implicitDefEqProofs (maxSteps := 999999) (disch := first | with_reducible rfl | omega | (simp only [nA, nS, nD] <;> omega) | fail) only [go_sem, t0, t3, t4, t6, t7, t8, t10, t11, t23, t24, t70, t71, t72, hj', hq (nat_cst j), hcs, hn0 (by omega), encI, ep, q_iaa_ptr (nat_cst p) hp12, q_iaa_ptr (nat_cst i) hi12, cells_of gb4, cells_of gf4, m1, m2, u1, u2, wr_in]
        refine narrow_ev hs4.wf gb4 hp12 _ _ _ fun h5 gb5 k5 w5 => ?_
        have hs5 : h.Sub h5 := k5.sub hs4 hw (fun c hc => by omega) w5
        have gz5 := k5.2 _ _ gz4 (by omega)
        have gf5 := k5.2 _ _ gf4 (by omega)
        have l5 := k5.1
        simp -implicitDefEqProofs (maxSteps := 999999) (disch := first | with_reducible rfl | omega | (simp only [nA, nS, nD] <;> omega) | fail) only [go_sem, t0, t3, t4, t6, t7, t8, t10, t11, t23, t24, t70, t71, t72, wr_succ, cells_of gb4, cells_of gf4, m1, m2, u1, u2]
        exact ⟨_, _, _, rfl, hs5, by omega, gb5, gz5, gf5, hdn, by rw [narrow_ne _ _ _ (by omega)]; exact hei, (by simp [ev_c, ev_put, t0] <;> rfl), (by simp [ev_c, ev_put, t3] <;> rfl), (by simp [ev_c, ev_put, t4] <;> rfl), (by simp [ev_c, ev_put, t6] <;> rfl), (by simp [ev_c, ev_put, t7] <;> rfl), (by simp [ev_c, ev_put, t8] <;> rfl), (by simp [ev_c, ev_put, t10] <;> rfl), (by simp [ev_c, ev_put, t11] <;> rfl), (by simp [ev_c, ev_put, t23] <;> rfl), (by simp [ev_c, ev_put, t24] <;> rfl), (by simp [ev_c, ev_put, t70] <;> rfl), (by simp [ev_c, ev_put, t71] <;> rfl), (by simp [ev_c, ev_put] <;> rfl)⟩
      · rintro s ⟨tm, h4, e4, rfl, hs4, lt4, gb4, gz4, gf4, hdn, hei, t0, t3, t4, t6, t7, t8, t10, t11, t23, t24, t70, t71, t72⟩
        rw [List.drop_length] at hdn
        have hdn' : downs c (i : Int) slo shi ps (narrow e (i : Int) slo shi) = e4 := hdn
        rw [hdn'] at hpass hfr' hbd'
        simp -implicitDefEqProofs (maxSteps := 999999) (disch := first | with_reducible rfl | omega | (simp only [nA, nS, nD] <;> omega) | fail) only [go_sem, t0, t3, t4, t6, t7, t8, t10, t11, t23, t24, t70, t71, t72, Int.lt_irrefl, wr_succ]
        exact ⟨_, _, e4, rfl, hs4, lt4, gb4, gz4, gf4, hpass, hfr', hbd'.mono (by omega), (by simp [ev_c, ev_put, t0] <;> rfl), (by simp [ev_c, ev_put, t3] <;> rfl), (by simp [ev_c, ev_put, t4] <;> rfl), (by simp [ev_c, ev_put, t6] <;> rfl), (by simp [ev_c, ev_put, t7] <;> rfl), (by simp [ev_c, ev_put, t23] <;> rfl), (by simp [ev_c, ev_put] <;> rfl)⟩
  · rintro s ⟨tm, h2, e, rfl, hs2, lt2, gb2, gz2, gf2, hpass, hfr, hbd, t0, t3, t4, t6, t7, t23, t24⟩
    rw [Nat.sub_self] at hpass
    have hpass' : passF (parts m) c m.lots.length 0 c = some e := hpass
    obtain ⟨hie, hoe⟩ := hi.pass g ho hpass'
    by_cases hec : intsB e = intsB c
    · have hEq : e = c := funext fun j => by
        by_cases hj : 0 ≤ j ∧ j < m.lots.length
        · exact (intsB_iff e c).1 hec j hj.1 (by omega)
        · rw [hoe j hj, ho j hj]
      subst hEq
      simp -implicitDefEqProofs (maxSteps := 999999) (disch := first | with_reducible rfl | omega | (simp only [nA, nS, nD] <;> omega) | fail) only [go_sem, t0, t3, t4, t6, t7, t23, t24, Int.lt_irrefl, cells_of gb2, cells_of gf2, ld_B, q_feq_B, ngB, zerosB, lenB, put_B e zeroB gz2]
      exact q (some e) _ (hs2.set (by omega) (by have := hs2.next; omega) hw _) (hR _ (.done hpass'))
    · simp -implicitDefEqProofs (maxSteps := 999999) (disch := first | with_reducible rfl | omega | (simp only [nA, nS, nD] <;> omega) | fail) only [go_sem, t0, t3, t4, t6, t7, t23, t24, Int.lt_irrefl, cells_of gb2, cells_of gf2, ld_B, q_feq_B, ngB, hec]
      have hne : ∃ j : Int, 0 ≤ j ∧ j < m.lots.length ∧ e j ≠ c j := by
        by_cases hall : ∃ j : Int, 0 ≤ j ∧ j < m.lots.length ∧ e j ≠ c j
        · exact hall
        · exfalso
          refine hec ((intsB_iff e c).2 fun j j0 j1 => ?_)
          by_cases hj : j < m.lots.length
          · by_cases he : e j = c j
            · exact he
            · exact absurd ⟨j, j0, hj, he⟩ hall
          · rw [hoe j (by omega), ho j (by omega)]
      obtain ⟨j, j0, j1, hj⟩ := hne
      have r1 := room_lt (passF_nrw _ _ hpass') m.lots.length j j0 j1 hj
      have r2 := room_nonneg (b := c) m.lots.length fun i i0 i1 => passF_start _ _ _ _ hpass' i i0 (by omega)
      exact ⟨(Silk.room m.lots.length e + 1).toNat, by omega, _, _, e, rfl, hs2, by omega, gb2, gz2, hie, hoe, fun r hr => hR r (.more hpass' hr), Nat.le_refl _, (by simp [ev_c, ev_put, t0] <;> rfl), (by simp [ev_c, ev_put, t3] <;> rfl), (by simp [ev_c, ev_put, t4] <;> rfl), (by simp [ev_c, ev_put, t6] <;> rfl)⟩
end Try
end Go.Ab
set_option linter.unusedSimpArgs false
set_option linter.unusedVariables false
namespace Go.Ab.Try
open Go.Ab.Silk
def ownK (m : Ml) (c : Nat → Bool) (lot : Int) : Nat → Int × Int
  | 0 => (0, 10000)
  | k + 1 => match m.wgs[k]? with
    | none => ownK m c lot k
    | some w => if c k = true ∧ w.lot = lot then (max (ownK m c lot k).1 (sayLo m w), min (ownK m c lot k).2 (sayHi m w)) else ownK m c lot k
theorem ownK_hit {m : Ml} {c : Nat → Bool} {lot : Int} {k : Nat} (hk : k < m.wgs.length) (hc : c k = true) (hl : m.wgs[k].lot = lot) : ownK m c lot (k + 1) = (max (ownK m c lot k).1 (sayLo m m.wgs[k]), min (ownK m c lot k).2 (sayHi m m.wgs[k])) := by
  simp only [ownK]
  rw [List.getElem?_eq_getElem hk]
  simp [hc, hl]
theorem ownK_miss {m : Ml} {c : Nat → Bool} {lot : Int} {k : Nat} (hk : k < m.wgs.length) (h : c k = false ∨ m.wgs[k].lot ≠ lot) : ownK m c lot (k + 1) = ownK m c lot k := by
  simp only [ownK]
  rw [List.getElem?_eq_getElem hk]
  simp only
  rw [if_neg]
  rintro ⟨h1, h2⟩
  rcases h with h | h
  · rw [h] at h1; cases h1
  · exact h h2
theorem say_bd {m : Ml} (g : Good m) {k : Nat} (hk : k < m.wgs.length) : 0 ≤ sayLo m m.wgs[k] ∧ sayLo m m.wgs[k] ≤ 20000 ∧ 0 ≤ sayHi m m.wgs[k] ∧ sayHi m m.wgs[k] ≤ 10000 := by
  have w1 := g.wg _ (List.getElem_mem hk)
  have w2 := g.errs
  have q2 := tdiv_le (a := 100 * (m.wgs[k].reads + m.errs)) (b := 100 + m.wgs[k].lo) (by omega) (by omega)
  have h1 := sayLo_nonneg (m := m) (w := m.wgs[k]) (by omega)
  refine ⟨h1, ?_, ?_, ?_⟩
  · rw [sayLo_le (by omega) (by omega)]
    have := Int.mul_le_mul_of_nonneg_left (show (100 : Int) ≤ 100 + m.wgs[k].hi by omega) (show (0 : Int) ≤ 20000 by omega)
    omega
  · unfold sayHi; omega
  · unfold sayHi; omega
theorem ownK_bd {m : Ml} (g : Good m) (c : Nat → Bool) (lot : Int) : ∀ k, 0 ≤ (ownK m c lot k).1 ∧ (ownK m c lot k).1 ≤ 20000 ∧ 0 ≤ (ownK m c lot k).2 ∧ (ownK m c lot k).2 ≤ 10000
  | 0 => by simp [ownK]
  | k + 1 => by
    have ih := ownK_bd g c lot k
    by_cases hk : k < m.wgs.length
    · by_cases h : c k = true ∧ m.wgs[k].lot = lot
      · have := say_bd g hk
        rw [ownK_hit hk h.1 h.2]; simp only; omega
      · rw [ownK_miss hk (by
          by_cases h1 : c k = true
          · exact .inr fun h2 => h ⟨h1, h2⟩
          · exact .inl (by simpa using h1))]
        exact ih
    · simp only [ownK]
      rw [List.getElem?_eq_none (by omega)]
      exact ih
def boxK (m : Ml) (c : Nat → Bool) (k : Nat) : Box := fun lot => if 0 ≤ lot ∧ lot < m.lots.length then ownK m c lot k else (0, 0)
def ownB (m : Ml) (c : Nat → Bool) : Box := boxK m c m.wgs.length
theorem boxK_out {m : Ml} {c : Nat → Bool} {k : Nat} : ∀ j : Int, ¬ (0 ≤ j ∧ j < m.lots.length) → boxK m c k j = (0, 0) := fun j h => by unfold boxK; rw [if_neg h]
theorem boxK_inv {m : Ml} (g : Good m) (c : Nat → Bool) (k : Nat) : InvB (boxK m c k) := fun j => by
  unfold boxK
  split
  · have := ownK_bd g c j k; omega
  · simp
theorem boxK_hit {m : Ml} (g : Good m) {c : Nat → Bool} {k : Nat} (hk : k < m.wgs.length) (hc : c k = true) : boxK m c (k + 1) = updB (boxK m c k) m.wgs[k].lot (max (boxK m c k m.wgs[k].lot).1 (sayLo m m.wgs[k]), min (boxK m c k m.wgs[k].lot).2 (sayHi m m.wgs[k])) := by
  have hl := g.lot _ (List.getElem_mem hk)
  funext lot
  unfold boxK updB
  by_cases e : lot = m.wgs[k].lot
  · subst e
    rw [if_pos ⟨hl.1, by omega⟩, if_pos rfl, if_pos ⟨hl.1, by omega⟩, ownK_hit hk hc rfl]
  · rw [if_neg e]
    dsimp only
    rw [ownK_miss hk (.inr fun e' => e e'.symm)]
theorem boxK_miss {m : Ml} {c : Nat → Bool} {k : Nat} (hk : k < m.wgs.length) (hc : c k = false) : boxK m c (k + 1) = boxK m c k := by
  funext lot
  unfold boxK
  rw [ownK_miss hk (.inl hc)]
def lotsB (i : Nat) : Box := fun lot => if 0 ≤ lot ∧ lot < i then (0, 10000) else (0, 0)
theorem lotsB_step (i : Nat) : lotsB (i + 1) = updB (lotsB i) (i : Int) ((lotsB i (i : Int)).1, 10000) := by
  funext lot
  unfold lotsB updB
  by_cases e : lot = (i : Int)
  · subst e
    rw [if_pos (by omega), if_pos rfl, if_neg (by omega)]
  · rw [if_neg e]
    dsimp only
    by_cases h : 0 ≤ lot ∧ lot < (i : Int)
    · rw [if_pos (by omega), if_pos h]
    · rw [if_neg (by omega), if_neg h]
theorem lotsB_all (m : Ml) (c : Nat → Bool) : lotsB m.lots.length = boxK m c 0 := rfl
set_option maxHeartbeats 2000000 in
theorem bounds_ev {h : H} {d : Nat} {m : Ml} {f : V} {c : Nat → Bool} (hw : h.wf) (hd : DkAt h d m) (g : Good m) (hf1 : f.one = true) (hf : ∀ i, i < m.wgs.length → PureA h f [.int .i64 (i : Int)] (.bool (c i))) (Q : V → H → Prop)
    (q : ∀ r h', h.Sub h' → TightR m.lots.length (parts m) (ownB m c) r → Q (tightV r) h') : Ev fnG fastA (.fn 124 [] []) [.ptr d 0, .agg [f]] h Q := by
  have hd0 := hd
  obtain ⟨pm, l, L, W, g1, g2, aL, aW, ap⟩ := hd
  have gl := g.lots
  have hld := hw _ _ g1
  have hlenL := aL.lenE
  have hlenW := aW.lenE
  refine Ev_body (fd := c124) rfl rfl rfl ?_
  have s1 : h.Sub (((h.add (.cells .rw [f])).add (.cells .rw (encB zeroB))).add (.cells .rw (encB zeroB))) := (by repeat (first | assumption | exact H.Sub.refl (by assumption) | refine H.Sub.add ?_ _ | refine H.Sub.set ?_ (by first | omega | (simp only [H.next_add, H.next_set, H.next_del] <;> omega)) (by first | omega | (simp only [H.next_add, H.next_set, H.next_del] <;> omega)) (by assumption) _))
  have ez : encB zeroB = encB (lotsB 0) := by
    rw [show lotsB 0 = zeroB from funext fun lot => by unfold lotsB zeroB; rw [if_neg (by omega)]]
  have gw := g.wgs
  simp -implicitDefEqProofs (maxSteps := 999999) (disch := first | with_reducible rfl | omega | (simp only [nA, nS, nD] <;> omega) | fail) only [c124, go_sem, zerosB, hf1, cells_of g1, hlenL]
  refine W_count m.lots.length (fun i s => ∃ tm h', s = ⟨tm, h', []⟩ ∧ h.Sub h' ∧ h.next + 2 < h'.next ∧ h'.get h.next = some (.cells .rw [f]) ∧ h'.get (h.next + 1) = some (.cells .rw (encB zeroB)) ∧ h'.get (h.next + 1 + 1) = some (.cells .rw (encB (lotsB i))) ∧
      (Opd.t 0).ev tm = .ptr d 0 ∧ (Opd.t 3).ev tm = .ptr h.next 0 ∧ (Opd.t 4).ev tm = .ptr (h.next + 1) 0 ∧ (Opd.t 6).ev tm = .ptr (h.next + 1 + 1) 0 ∧ (Opd.t 16).ev tm = .int .i64 (m.lots.length : Int) ∧ (Opd.t 17).ev tm = .int .i64 (i : Int))
    ?_ ?_ (i := 0) (Nat.zero_le _) ⟨_, _, rfl, s1, by simp only [H.next_add]; omega, by simp -implicitDefEqProofs (maxSteps := 999999) (disch := first | with_reducible rfl | omega | (simp only [nA, nS, nD] <;> omega) | fail) only [go_sem], by simp -implicitDefEqProofs (maxSteps := 999999) (disch := first | with_reducible rfl | omega | (simp only [nA, nS, nD] <;> omega) | fail) only [go_sem], by rw [← ez]; simp -implicitDefEqProofs (maxSteps := 999999) (disch := first | with_reducible rfl | omega | (simp only [nA, nS, nD] <;> omega) | fail) only [go_sem], (by simp [ev_c, ev_put] <;> rfl), (by simp [ev_c, ev_put] <;> rfl), (by simp [ev_c, ev_put] <;> rfl), (by simp [ev_c, ev_put] <;> rfl), (by simp [ev_c, ev_put] <;> rfl), (by simp [ev_c, ev_put] <;> rfl)⟩
  · rintro i s hi ⟨tm, h', rfl, hs, lt, ga, gb, gc, t0, t3, t4, t6, t16, t17⟩
    have hi' : (i : Int) < (m.lots.length : Int) := by omega
    have hi12 : i < 12 := by omega
    have hput := encB_put2 (lotsB i) hi12 10000
    rw [← lotsB_step] at hput
    simp -implicitDefEqProofs (maxSteps := 999999) (disch := first | with_reducible rfl | omega | (simp only [nA, nS, nD] <;> omega) | fail) only [go_sem, t0, t3, t4, t6, t16, t17, hi', q_iaa_ptr (nat_cst i) hi12, gc, hput, wr_succ]
    have s2 := hs.set (b := h.next + 1 + 1) (by omega) (by omega) hw (.cells .rw (encB (lotsB (i + 1))))
    exact ⟨_, _, rfl, s2, by rw [H.next_set]; omega, by rw [get_set_other (by omega)]; exact ga, by rw [get_set_other (by omega)]; exact gb, get_set_same rfl, (by simp [ev_c, ev_put, t0] <;> rfl), (by simp [ev_c, ev_put, t3] <;> rfl), (by simp [ev_c, ev_put, t4] <;> rfl), (by simp [ev_c, ev_put, t6] <;> rfl), (by simp [ev_c, ev_put, t16] <;> rfl), (by simp [ev_c, ev_put] <;> rfl)⟩
  rintro s ⟨tm, h', rfl, hs, lt, ga, gb, gc, t0, t3, t4, t6, t16, t17⟩
  rw [lotsB_all m c] at gc
  simp -implicitDefEqProofs (maxSteps := 999999) (disch := first | with_reducible rfl | omega | (simp only [nA, nS, nD] <;> omega) | fail) only [go_sem, t0, t3, t4, t6, t16, t17, Int.lt_irrefl, cells_of (hs.get g1), hlenW]
  refine W_count m.wgs.length (fun i s => ∃ tm h', s = ⟨tm, h', []⟩ ∧ h.Sub h' ∧ h.next + 2 < h'.next ∧ h'.get h.next = some (.cells .rw [f]) ∧ h'.get (h.next + 1) = some (.cells .rw (encB zeroB)) ∧ h'.get (h.next + 1 + 1) = some (.cells .rw (encB (boxK m c i))) ∧
      (Opd.t 0).ev tm = .ptr d 0 ∧ (Opd.t 3).ev tm = .ptr h.next 0 ∧ (Opd.t 4).ev tm = .ptr (h.next + 1) 0 ∧ (Opd.t 6).ev tm = .ptr (h.next + 1 + 1) 0 ∧ (Opd.t 28).ev tm = W ∧ (Opd.t 29).ev tm = .int .i64 (m.wgs.length : Int) ∧ (Opd.t 30).ev tm = .int .i64 (i : Int))
    ?_ ?_ (i := 0) (Nat.zero_le _) ⟨_, _, rfl, hs, lt, ga, gb, gc, (by simp [ev_c, ev_put, t0] <;> rfl), (by simp [ev_c, ev_put, t3] <;> rfl), (by simp [ev_c, ev_put, t4] <;> rfl), (by simp [ev_c, ev_put, t6] <;> rfl), (by simp [ev_c, ev_put] <;> rfl), (by simp [ev_c, ev_put] <;> rfl), (by simp [ev_c, ev_put] <;> rfl)⟩ <;> clear t0 t3 t4 t6 t16 t17 ga gb gc lt hs h' tm
  · rintro i s hi ⟨tm, h', rfl, hs, lt, ga, gb, gc, t0, t3, t4, t6, t28, t29, t30⟩
    have hi' : (i : Int) < (m.wgs.length : Int) := by omega
    obtain ⟨bb, o, cc, cs, rfl, hcs, hq, hgg, hn, hn0⟩ := (aW.mono hs).at hi
    have hl := g.lot _ (List.getElem_mem hi)
    obtain ⟨lt', elt⟩ := Int.eq_ofNat_of_zero_le hl.1
    have hlt12 : lt' < 12 := by omega
    have hsay := say_bd g hi
    have sA := (H.Sub.refl hs.wf).add (.cells .rw (encW m.wgs[i]))
    have hsA := hs.trans sA
    simp -implicitDefEqProofs (maxSteps := 999999) (disch := first | with_reducible rfl | omega | (simp only [nA, nS, nD] <;> omega) | fail) only [go_sem, t0, t3, t4, t6, t28, t29, t30, hi', hq (nat_cst i), hcs, hgg, encW]
    refine (says_ev hsA.wf (hd0.mono hsA) g hi).mono fun u h3 hu => ?_
    obtain ⟨rfl, s23⟩ := hu
    have hs3 := hsA.trans s23
    have l3 := s23.next
    rw [H.next_add] at l3
    have s34 := (H.Sub.refl hs3.wf).add (.cells .rw [.int .i64 (sayLo m m.wgs[i]), .int .i64 (sayHi m m.wgs[i])])
    have hs4 := hs3.trans s34
    have ga3 := (sA.trans s23).get ga
    have gb3 := (sA.trans s23).get gb
    have gc3 := (sA.trans s23).get gc
    have gw3 : h3.cells h'.next = some (encW m.wgs[i]) := s23.cells (cells_add_new rfl)
    simp -implicitDefEqProofs (maxSteps := 999999) (disch := first | with_reducible rfl | omega | (simp only [nA, nS, nD] <;> omega) | fail) only [go_sem, t0, t3, t4, t6, t28, t29, t30, cells_of ga3]
    refine (hf i hi).use hs4 fun h5 s45 => ?_
    have hs5 := hs4.trans s45
    have l5 := s45.next
    rw [H.next_add] at l5
    have ga5 := (s34.trans s45).get ga3
    have gb5 := (s34.trans s45).get gb3
    have gc5 := (s34.trans s45).get gc3
    have gw5 := (s34.trans s45).cells gw3
    have gs5 : h5.cells h3.next = some [.int .i64 (sayLo m m.wgs[i]), .int .i64 (sayHi m m.wgs[i])] := s45.cells (cells_add_new rfl)
    cases hc : c i
    · simp -implicitDefEqProofs (maxSteps := 999999) (disch := first | with_reducible rfl | omega | (simp only [nA, nS, nD] <;> omega) | fail) only [go_sem, t0, t3, t4, t6, t28, t29, t30, hc, wr_succ]
      exact ⟨_, _, rfl, hs5, by omega, ga5, gb5, by rw [boxK_miss hi hc]; exact gc5, (by simp [ev_c, ev_put, t0] <;> rfl), (by simp [ev_c, ev_put, t3] <;> rfl), (by simp [ev_c, ev_put, t4] <;> rfl), (by simp [ev_c, ev_put, t6] <;> rfl), (by simp [ev_c, ev_put, t28] <;> rfl), (by simp [ev_c, ev_put, t29] <;> rfl), (by simp [ev_c, ev_put] <;> rfl)⟩
    · obtain ⟨n1, n2, n3⟩ := encB_at (boxK m c i) hlt12
      have hput := fun x y => encB_put (boxK m c i) hlt12 x y
      simp -implicitDefEqProofs (maxSteps := 999999) (disch := first | with_reducible rfl | omega | (simp only [nA, nS, nD] <;> omega) | fail) only [go_sem, t0, t3, t4, t6, t28, t29, t30, hc, gw5, encW, gs5, elt, q_iaa_ptr (nat_cst lt') hlt12, cells_of gc5, n1, n2]
      refine least_use (l := [sayHi m m.wgs[i]]) (SlAt.new _ rfl (by rfl) (by rfl) (by simp [encI]) (by simp)) ?_
      have s56 := (H.Sub.refl hs5.wf).add (.cells .rw [.int .i64 (sayHi m m.wgs[i])])
      have gc6 := s56.get gc5
      have hhit := boxK_hit g hi hc
      rw [elt] at hhit
      have hs6 := (hs5.trans s56).set (b := h.next + 1 + 1) (by omega) (by rw [H.next_add]; omega) hw (.cells .rw (encB (boxK m c (i + 1))))
      simp -implicitDefEqProofs (maxSteps := 999999) (disch := first | with_reducible rfl | omega | (simp only [nA, nS, nD] <;> omega) | fail) only [go_sem, t0, t3, t4, t6, t28, t29, t30, hc, gw5, encW, gs5, elt, q_iaa_ptr (nat_cst lt') hlt12, cells_of gc5, cells_of gc6, gc6, n1, n2, List.foldl, hput, ← hhit, wr_succ]
      exact ⟨_, _, rfl, hs6, by rw [H.next_set, H.next_add]; omega, by rw [get_set_other (by omega)]; exact s56.get ga5, by rw [get_set_other (by omega)]; exact s56.get gb5, get_set_same rfl, (by simp [ev_c, ev_put, t0] <;> rfl), (by simp [ev_c, ev_put, t3] <;> rfl), (by simp [ev_c, ev_put, t4] <;> rfl), (by simp [ev_c, ev_put, t6] <;> rfl), (by simp [ev_c, ev_put, t28] <;> rfl), (by simp [ev_c, ev_put, t29] <;> rfl), (by simp [ev_c, ev_put] <;> rfl)⟩
  · rintro s ⟨tm, h', rfl, hs, lt, ga, gb, gc, t0, t3, t4, t6, t28, t29, t30⟩
    simp -implicitDefEqProofs (maxSteps := 999999) (disch := first | with_reducible rfl | omega | (simp only [nA, nS, nD] <;> omega) | fail) only [go_sem, t0, t3, t4, t6, t28, t29, t30, Int.lt_irrefl, cells_of gc, ld_B]
    refine tight_ev hs.wf (hd0.mono hs) g (boxK_inv g c _) boxK_out _ fun r h2 s12 hr => ?_
    have gb2 := s12.get gb
    have hs2 := hs.trans s12
    have l2 := s12.next
    cases r with
    | none =>
      simp -implicitDefEqProofs (maxSteps := 999999) (disch := first | with_reducible rfl | omega | (simp only [nA, nS, nD] <;> omega) | fail) only [go_sem, tightV, t0, t3, t4, t6, lenB, put_B zeroB zeroB gb2, ld_B]
      exact q none _ (hs2.set (by omega) (by omega) hw _) hr
    | some b =>
      simp -implicitDefEqProofs (maxSteps := 999999) (disch := first | with_reducible rfl | omega | (simp only [nA, nS, nD] <;> omega) | fail) only [go_sem, tightV, t0, t3, t4, t6, lenB, put_B b zeroB gb2, ld_B]
      exact q (some b) _ (hs2.set (by omega) (by omega) hw _) hr
end Go.Ab.Try
set_option linter.unusedSimpArgs false
set_option linter.unusedVariables false
namespace Go.Ab
theorem a_msl_nm {h : H} {by_ n m : Nat} {z : List V} (h0 : n ≤ m) (h1 : m * by_ ≤ 1099511627776) (h2 : m ≤ 1099511627776) :
    a_msl h by_ z (.int .i64 (n : Int)) (.int .i64 (m : Int)) = some (.sl h.next 0 n (.fix m), h.add (.cells .rw (repN m z))) := by
  have e1 : Nat.ble (m * by_) 1099511627776 = true := by simpa using h1
  have e2 : Nat.ble m 1099511627776 = true := by simpa using h2
  have e3 : Nat.ble n m = true := by simpa using h0
  simp only [a_msl, nat_cst, e1, e2, e3, og_true, lf_eq]
end Go.Ab
namespace Go.Ab.Try
end Go.Ab.Try
namespace Go.Ab
theorem H.Sub.lt {h h' : H} (s : h.Sub h') {n : Nat} (l : n < h.next) : n < h'.next := Nat.lt_of_lt_of_le l s.next
namespace Try
def vOff (v : V) (S : Nat → Prop) : Prop := ∀ e L W, v = .agg [e, L, W] → (∀ b, blkOf L b → ¬ S b) ∧ ∀ b, blkOf W b → ¬ S b
theorem MlIs.keep {h h' : H} {S : Nat → Prop} {v : V} {m : Ml} (a : MlIs h v m) (k : Keeps S h h') (n : vOff v S) : MlIs h' v m := by
  obtain ⟨L, W, rfl, a1, a2⟩ := a
  obtain ⟨n1, n2⟩ := n _ _ _ rfl
  exact ⟨L, W, rfl, SlAt_keep a1 k n1, SlAt_keep a2 k n2⟩
end Try
end Go.Ab
set_option linter.unusedSimpArgs false
set_option linter.unusedVariables false
namespace Go.Ab
theorem clone_core {h : H} {x : V} {sz by_ : Nat} {rows : List (List V)} {Q : V → H → Prop} (hw : h.wf) (hx : SlAt h x sz rows) (hl : rows.length * by_ ≤ 1000000000) (hl2 : rows.length ≤ 1000000000) (q : ∀ v h', OwnC h h' v sz rows → Q v h') :
    P2 (e_app' (h.add (.cells .rw [])) sz by_ (.sl h.next 0 0 (.fix 0)) x) Q := by
  have s1 : h.Sub (h.add (.cells .rw [])) := (H.Sub.refl hw).add _
  have hx1 := (hx.mono s1).elems
  rw [e_app_eq, hx1.1, hx1.2]
  simp only [ob_some]
  cases hn : rows.length with
  | zero =>
    have e : rows = [] := List.length_eq_zero_iff.1 hn
    rw [e_app_fix0]
    have : Nat.ble 0 0 = true := rfl
    rw [this, og_true, P2_some]
    exact q _ _ (by rw [e]; exact ⟨s1, by simp, .inr (.inr ⟨h.next, 0, [], rfl, Nat.le_refl _, by rw [H.next_add]; omega, get_add_new rfl, by simp, Nat.le_refl _⟩)⟩)
  | succ k =>
    rw [e_app_full (by omega) (elems_0 _ _ _ _ _) (by rw [hn] at hl; simp only [Nat.zero_add]; omega) (by omega), grown_eq, P2_some]
    exact q _ _ ⟨s1.add _, hx.1, .inr (.inl ⟨(h.add (.cells .rw [])).next, by rw [hn, Nat.zero_add], by rw [H.next_add]; omega, by simp only [H.next_add]; omega, by rw [get_add_new rfl]; rfl⟩)⟩
namespace Try
open Go.Ab.Silk
theorem cloneInt_ev {h : H} {x : V} {rows : List (List V)} (hw : h.wf) (hx : SlAt h x 1 rows) (hl : rows.length ≤ 1000000) (Q : V → H → Prop) (q : ∀ v h', OwnC h h' v 1 rows → Q v h') : Ev fnG fastA (.fn 63 [] []) [x] h Q := by
  refine Ev_body (fd := c63) rfl rfl rfl ?_
  rcases hx.2.2 with ⟨rfl, e⟩ | ⟨b, o, c, cs, rfl, _⟩
  · simp -implicitDefEqProofs (maxSteps := 999999) (disch := first | with_reducible rfl | omega | (simp only [nA, nS, nD] <;> omega) | fail) only [c63, go_sem]
    exact q _ _ (by rw [e]; exact (OwnSl.nil (H.Sub.refl hw) 1).c)
  · simp -implicitDefEqProofs (maxSteps := 999999) (disch := first | with_reducible rfl | omega | (simp only [nA, nS, nD] <;> omega) | fail) only [c63, go_sem]
    refine clone_core hw hx (by omega) (by omega) fun v h' ov => ?_
    simp -implicitDefEqProofs (maxSteps := 999999) (disch := first | with_reducible rfl | omega | (simp only [nA, nS, nD] <;> omega) | fail) only [go_sem]
    exact q _ _ ov
def allC : Nat → Bool := fun _ => true
def FeasM (m : Ml) (c : Nat → Bool) (w : Int → Int) : Prop := Feas m.lots.length (parts m) (ownB m c) w
def ExactM (m : Ml) (c : Nat → Bool) (b : Box) : Prop := Exact m.lots.length (parts m) (ownB m c) b ∧ ∀ j : Int, ¬ (0 ≤ j ∧ j < m.lots.length) → b j = (0, 0)
theorem tightR_sem {m : Ml} (g : Good m) {c : Nat → Bool} {r : Option Box} (h : TightR m.lots.length (parts m) (ownB m c) r) : (r = none ∧ ¬ ∃ w, FeasM m c w) ∨ ∃ b, r = some b ∧ ExactM m c b ∧ Tight m.lots.length (parts m) b := by
  have gl := g.lots
  cases r with
  | none => exact .inl ⟨rfl, (h.none_iff (forest g) (by omega)).1 rfl⟩
  | some b => exact .inr ⟨b, rfl, ⟨h.exact (forest g), fun j hj => by rw [h.out (forest g) j hj]; exact boxK_out j hj⟩, h.nrw.2⟩
theorem ExactM.feas {m : Ml} (g : Good m) {c : Nat → Bool} {b : Box} (h : ExactM m c b) : ∃ w, FeasM m c w := by
  have gl := g.lots
  obtain ⟨w, f, _⟩ := h.1.full 0 _ (by omega) (by omega) (Int.le_refl _) (h.1.ne 0 (by omega) (by omega))
  exact ⟨w, f⟩
theorem ownB_bd {m : Ml} (g : Good m) (c : Nat → Bool) (j : Int) : 0 ≤ (ownB m c j).1 ∧ (ownB m c j).2 ≤ 10000 := by
  have := boxK_inv g c m.wgs.length j
  exact ⟨this.1, this.2.2.2⟩
theorem ExactM.bd {m : Ml} (g : Good m) {c : Nat → Bool} {b : Box} (h : ExactM m c b) (j : Int) : 0 ≤ (b j).1 ∧ (b j).1 ≤ 10000 ∧ 0 ≤ (b j).2 ∧ (b j).2 ≤ 10000 := by
  by_cases hj : 0 ≤ j ∧ j < m.lots.length
  · have hn := h.1.ne j hj.1 hj.2
    obtain ⟨w1, f1, e1⟩ := h.1.full j _ hj.1 hj.2 (Int.le_refl _) hn
    obtain ⟨w2, f2, e2⟩ := h.1.full j _ hj.1 hj.2 hn (Int.le_refl _)
    have h1 := f1.1 j hj.1 hj.2
    have h2 := f2.1 j hj.1 hj.2
    have := ownB_bd g c j
    omega
  · rw [h.2 j hj]; simp
theorem SlAt_lt {h : H} {x : V} {sz : Nat} {rows : List (List V)} (hw : h.wf) (a : SlAt h x sz rows) (hr : rows ≠ []) : ∀ b, blkOf x b → b < h.next := by
  rintro b ⟨o', n', c', e⟩
  rcases a.2.2 with ⟨rfl, _⟩ | ⟨b', o, c, cs, e1, e2, e3⟩
  · cases e
  · rw [e1] at e; cases e
    obtain ⟨k, hk⟩ := H.cells_eq (e2.resolve_left hr)
    exact hw _ _ hk
end Try
end Go.Ab
set_option linter.unusedSimpArgs false
set_option linter.unusedVariables false
namespace Go.Ab.Try
open Go.Ab.Silk
theorem InvB.of {m : Ml} (g : Good m) {b : Box} (ht : Tight m.lots.length (parts m) b) (hn : Nrw (ownB m allC) b) (ho : ∀ j : Int, ¬ (0 ≤ j ∧ j < m.lots.length) → b j = (0, 0)) : ∀ j : Int, 0 ≤ (b j).1 ∧ (b j).1 ≤ 10000 ∧ 0 ≤ (b j).2 ∧ (b j).2 ≤ 10000 := fun j => by
  by_cases hj : 0 ≤ j ∧ j < m.lots.length
  · have h1 := ht.ne j hj.1 hj.2
    have h2 := hn j
    have h3 := ownB_bd g allC j
    omega
  · rw [ho j hj]; simp
end Go.Ab.Try
set_option linter.unusedSimpArgs false
set_option linter.unusedVariables false
namespace Go.Ab.Try
open Go.Ab.Silk
theorem ownK_iff {m : Ml} {c : Nat → Bool} {lot x : Int} : ∀ k, k ≤ m.wgs.length → (((ownK m c lot k).1 ≤ x ∧ x ≤ (ownK m c lot k).2) ↔ (0 ≤ x ∧ x ≤ 10000) ∧ ∀ j (hj : j < m.wgs.length), j < k → c j = true → m.wgs[j].lot = lot → sayLo m m.wgs[j] ≤ x ∧ x ≤ sayHi m m.wgs[j])
  | 0, _ => by simp [ownK]
  | k + 1, hk => by
    have ih := ownK_iff (m := m) (c := c) (lot := lot) (x := x) k (by omega)
    have hk' : k < m.wgs.length := by omega
    by_cases h : c k = true ∧ m.wgs[k].lot = lot
    · rw [ownK_hit hk' h.1 h.2]
      simp only
      constructor
      · intro h1
        obtain ⟨a1, a2⟩ := ih.1 ⟨by omega, by omega⟩
        refine ⟨a1, fun j hj hjk hc hl => ?_⟩
        by_cases e : j = k
        · subst e; omega
        · exact a2 j hj (by omega) hc hl
      · rintro ⟨a1, a2⟩
        have h1 := ih.2 ⟨a1, fun j hj hjk hc hl => a2 j hj (by omega) hc hl⟩
        have h2 := a2 k hk' (by omega) h.1 h.2
        omega
    · rw [ownK_miss hk' (by
        by_cases h1 : c k = true
        · exact .inr fun h2 => h ⟨h1, h2⟩
        · exact .inl (by simpa using h1)), ih]
      constructor
      · rintro ⟨a1, a2⟩
        refine ⟨a1, fun j hj hjk hc hl => ?_⟩
        by_cases e : j = k
        · subst e; exact absurd ⟨hc, hl⟩ h
        · exact a2 j hj (by omega) hc hl
      · rintro ⟨a1, a2⟩
        exact ⟨a1, fun j hj hjk hc hl => a2 j hj (by omega) hc hl⟩
theorem own_iff {m : Ml} (g : Good m) {c : Nat → Bool} {w : Int → Int} : (∀ i : Int, 0 ≤ i → i < m.lots.length → (ownB m c i).1 ≤ w i ∧ w i ≤ (ownB m c i).2) ↔
    (∀ i : Int, 0 ≤ i → i < m.lots.length → 0 ≤ w i ∧ w i ≤ 10000) ∧ ∀ k (hk : k < m.wgs.length), c k = true → sayLo m m.wgs[k] ≤ w m.wgs[k].lot ∧ w m.wgs[k].lot ≤ sayHi m m.wgs[k] := by
  have e : ∀ i : Int, 0 ≤ i → i < m.lots.length → ownB m c i = ownK m c i m.wgs.length := fun i i0 i1 => by unfold ownB boxK; rw [if_pos ⟨i0, i1⟩]
  constructor
  · intro h
    refine ⟨fun i i0 i1 => ?_, fun k hk hc => ?_⟩
    · have h1 := h i i0 i1
      rw [e i i0 i1] at h1
      exact ((ownK_iff m.wgs.length (Nat.le_refl _)).1 h1).1
    · have hl := g.lot _ (List.getElem_mem hk)
      have h1 := h _ hl.1 (by omega)
      rw [e _ hl.1 (by omega)] at h1
      exact ((ownK_iff m.wgs.length (Nat.le_refl _)).1 h1).2 k hk hk hc rfl
  · rintro ⟨h1, h2⟩ i i0 i1
    rw [e i i0 i1]
    exact (ownK_iff m.wgs.length (Nat.le_refl _)).2 ⟨h1 i i0 i1, fun j hj _ hc hl => by have := h2 j hj hc; rw [hl] at this; exact this⟩
end Go.Ab.Try
set_option linter.unusedSimpArgs false
set_option linter.unusedVariables false
namespace Go.Ab.Try
open Go.Ab.Silk
end Go.Ab.Try
set_option linter.unusedSimpArgs false
set_option linter.unusedVariables false
namespace Go.Ab.Try
open Go.Ab.Silk
theorem ownK_congr {m : Ml} {c c' : Nat → Bool} {lot : Int} : ∀ k, k ≤ m.wgs.length → (∀ j, j < m.wgs.length → c j = c' j) → ownK m c lot k = ownK m c' lot k
  | 0, _, _ => rfl
  | k + 1, hk, h => by
    have ih := ownK_congr (lot := lot) k (by omega) h
    simp only [ownK]
    rw [List.getElem?_eq_getElem (by omega : k < m.wgs.length)]
    simp only
    rw [h k (by omega), ih]
theorem ownB_congr {m : Ml} {c c' : Nat → Bool} (h : ∀ j, j < m.wgs.length → c j = c' j) : ownB m c = ownB m c' := by
  funext lot
  unfold ownB boxK
  rw [ownK_congr m.wgs.length (Nat.le_refl _) h]
end Go.Ab.Try
set_option linter.unusedSimpArgs false
set_option linter.unusedVariables false
namespace Go.Ab
theorem subO_to {b o sz n c k : Nat} {tm : T V} {x : Opd} {kd : IntKind} (hx : x.ev tm = .int kd (k : Int)) (hk : k ≤ n) (hc : n ≤ c) : subO b o sz (bnd3 tm n c none (some x) none) = some (.sl b (bsel (Nat.beq c 0) o (o + 0 * sz)) k (.fix c)) := by
  have e1 : Nat.ble 0 k = true := by simp
  have e2 : Nat.ble k c = true := by simp; omega
  have e3 : Nat.ble c c = true := by simp
  simp only [bnd3, natO, hx, natk_cst, bnds, e1, e2, e3, og_true, subO, sub, Nat.sub_zero]
noncomputable def slcTo (h : H) (sz : Nat) (x k : V) : Option V := q_slc .nil h sz x none (some (.c k)) none
theorem q_slc_to (tm : T V) (h : H) (sz : Nat) (x : V) (y : Opd) : q_slc tm h sz x none (some y) none = slcTo h sz x (y.ev tm) := rfl
theorem OwnC.to {h0 h : H} {x : V} {sz k : Nat} {kd : IntKind} {rows : List (List V)} (a : OwnC h0 h x sz rows) (hl : rows.length ≤ 1000000) (hk : k ≤ rows.length) (hk0 : 0 < rows.length) (h00 : 0 < sz := by omega) :
    ∃ y, slcTo h sz x (.int kd (k : Int)) = some y ∧ SlAt h y sz (rows.take k) := by
  have hi : ∀ tm, (Opd.c (.int kd (k : Int))).ev tm = .int kd (k : Int) := fun _ => rfl
  obtain ⟨a0, a1, a2⟩ := a
  have hr : ∀ r ∈ rows.take k, r.length = sz := fun r hr => a1 r (List.mem_of_mem_take hr)
  have hlt : (rows.take k).length = k := by rw [List.length_take]; omega
  have hfl : (rows.take k).flatten = rows.flatten.take (k * sz) := by
    have h1 := flatten_len hr
    rw [hlt] at h1
    have e : rows.flatten = (rows.take k).flatten ++ (rows.drop k).flatten := by rw [← List.flatten_append, List.take_append_drop]
    rw [e, List.take_left' h1]
  rcases a2 with ⟨rfl, rfl⟩ | ⟨b, rfl, l1, l2, hb⟩ | ⟨b, c, rest, rfl, l1, l2, hb, hc, hlc⟩
  · simp at hk0
  · have fl := flatten_len a1
    have e1 : Nat.ble 0 k = true := by simp
    have e2 : Nat.ble k rows.length = true := by simpa using hk
    have e3 : Nat.ble rows.length rows.length = true := by simp
    have e4 : Nat.blt 0 (rows.length + k) = true := by rw [Nat.blt_eq]; omega
    have e5 : Nat.beq sz sz = true := by simp
    have e6 : Nat.beq 0 (0 * sz) = true := by simp
    have e7 : Nat.ble (0 + rows.length * sz) rows.flatten.length = true := by rw [fl]; simp
    have e8 : slkRoom h b 0 sz = rows.length := by simp only [slkRoom, hb, lenN_eq, fl, Nat.sub_zero]; exact Nat.mul_div_cancel _ h00
    refine ⟨.sl b (0 + 0 * sz) k (.slk (0 + 0) 0), ?_, ?_⟩
    · simp only [slcTo, q_slc, slkOk, hb, e5, e6, lenN_eq, e7, og_true, bnd3, natO, hi, natk_cst, bnds, e1, e2, e3, subS, e4, e8, Nat.sub_zero]
    · refine ⟨hr, by rw [hlt]; omega, .inr ⟨b, 0 + 0 * sz, _, _, by rw [hlt], .inr (cells_of hb), ?_⟩⟩
      refine getN_eq.2 ⟨by rw [hlt]; simp [hfl], ?_⟩
      rw [hlt, fl]
      have := Nat.mul_le_mul_right sz hk; omega
  · have fl := flatten_len a1
    have hz : bsel (Nat.beq c 0) 0 (0 + 0 * sz) = 0 := by cases Nat.beq c 0 <;> simp [bsel]
    refine ⟨.sl b 0 k (.fix c), ?_, ?_⟩
    · simp only [slcTo, q_slc]
      rw [subO_to (hi _) hk hlc, hz]
    · refine ⟨hr, by rw [hlt]; omega, .inr ⟨b, 0, _, _, by rw [hlt], .inr (cells_of hb), ?_⟩⟩
      have := Nat.mul_le_mul_right sz hk
      refine getN_eq.2 ⟨?_, by rw [hlt, List.length_append, fl]; omega⟩
      rw [hlt, List.drop_zero, hfl, List.take_append_of_le_length (by rw [fl]; omega)]
def CutC (h : H) (x : V) (sz : Nat) (rows : List (List V)) : Prop := SlAt h x sz rows ∧ ((x = .nils ∧ rows = []) ∨ (∃ b rest j, x = .sl b 0 rows.length (.slk 0 0) ∧ h.get b = some (.cells (.gr sz) (rows.flatten ++ rest)) ∧ rest.length = j * sz) ∨ ∃ b o c, x = .sl b o rows.length (.fix c) ∧ rows.length ≤ c)
theorem CutC.keep {h h' : H} {S : Nat → Prop} {x : V} {sz : Nat} {rows : List (List V)} (a : CutC h x sz rows) (k : Keeps S h h') (n : ∀ b, blkOf x b → ¬ S b) : CutC h' x sz rows := by
  refine ⟨SlAt_keep a.1 k n, ?_⟩
  rcases a.2 with a2 | ⟨b, rest, j, e, hb, hr⟩ | a2
  · exact .inl a2
  · exact .inr (.inl ⟨b, rest, j, e, k.2 b _ hb (n b ⟨_, _, _, e⟩), hr⟩)
  · exact .inr (.inr a2)
theorem CutC.mono {h h' : H} {x : V} {sz : Nat} {rows : List (List V)} (a : CutC h x sz rows) (s : h.Sub h') : CutC h' x sz rows := a.keep (Keeps.of s fun _ => False) fun _ _ => id
theorem OwnC.cut {h0 h : H} {x : V} {sz : Nat} {rows : List (List V)} (a : OwnC h0 h x sz rows) (hl : rows.length ≤ 1000000) : CutC h x sz rows := by
  refine ⟨a.sl (by omega), ?_⟩
  rcases a.2.2 with a2 | ⟨b, e, _, _, hb⟩ | ⟨b, c, rest, e, _, _, hb, _, hc⟩
  · exact .inl a2
  · exact .inr (.inl ⟨b, [], 0, e, by rw [List.append_nil]; exact hb, by simp⟩)
  · exact .inr (.inr ⟨b, 0, c, e, hc⟩)
theorem CutC.to {h : H} {x : V} {sz k : Nat} {kd : IntKind} {rows : List (List V)} (a : CutC h x sz rows) (hl : rows.length ≤ 1000000) (hk : k ≤ rows.length) (hk0 : 0 < rows.length) (h00 : 0 < sz := by omega) :
    ∃ y, slcTo h sz x (.int kd (k : Int)) = some y ∧ SlAt h y sz (rows.take k) := by
  have hi : ∀ tm, (Opd.c (.int kd (k : Int))).ev tm = .int kd (k : Int) := fun _ => rfl
  obtain ⟨⟨a1, _, a0⟩, a2⟩ := a
  have hr : ∀ r ∈ rows.take k, r.length = sz := fun r hr => a1 r (List.mem_of_mem_take hr)
  have hlt : (rows.take k).length = k := by rw [List.length_take]; omega
  have fl := flatten_len a1
  have hml := Nat.mul_le_mul_right sz hk
  have hfl : (rows.take k).flatten = rows.flatten.take (k * sz) := by
    have h1 := flatten_len hr
    rw [hlt] at h1
    have e : rows.flatten = (rows.take k).flatten ++ (rows.drop k).flatten := by rw [← List.flatten_append, List.take_append_drop]
    rw [e, List.take_left' h1]
  rcases a0 with ⟨rfl, rfl⟩ | ⟨b, o, c, cs, rfl, hc, hg⟩
  · simp at hk0
  have hc : h.cells b = some cs := hc.resolve_left (fun e => by rw [e] at hk0; simp at hk0)
  obtain ⟨g1, g2⟩ := getN_eq.1 hg
  have fin : ∀ c', SlAt h (.sl b o k c') sz (rows.take k) := fun c' => ⟨hr, by rw [hlt]; omega, .inr ⟨b, o, c', cs, by rw [hlt], .inr hc, getN_eq.2 ⟨by rw [hlt, hfl, g1, List.take_take, Nat.min_eq_left hml], by rw [hlt]; omega⟩⟩⟩
  rcases a2 with ⟨e, _⟩ | ⟨b', rest, j, e, hb, hr'⟩ | ⟨b', o', c', e, hcc⟩
  · cases e
  · injection e with x1 x2 x3 x4
    subst x1; subst x2; subst x4
    have e1 : Nat.ble 0 k = true := by simp
    have e2 : Nat.ble k (rows.length + j) = true := by simp; omega
    have e3 : Nat.ble (rows.length + j) (rows.length + j) = true := by simp
    have e4 : Nat.blt 0 (rows.length + k) = true := by rw [Nat.blt_eq]; omega
    have e5 : Nat.beq sz sz = true := by simp
    have e6 : Nat.beq 0 (0 * sz) = true := by simp
    have hall : (rows.flatten ++ rest).length = (rows.length + j) * sz := by rw [List.length_append, fl, hr', Nat.add_mul]
    have e7 : Nat.ble (0 + rows.length * sz) (rows.flatten ++ rest).length = true := by rw [hall, Nat.add_mul]; simp
    have e8 : slkRoom h b 0 sz = rows.length + j := by simp only [slkRoom, hb, lenN_eq, hall, Nat.sub_zero]; exact Nat.mul_div_cancel _ h00
    have hfin := fin (.slk (0 + 0) 0)
    refine ⟨.sl b (0 + 0 * sz) k (.slk (0 + 0) 0), ?_, by rw [Nat.zero_mul]; exact hfin⟩
    simp only [slcTo, q_slc, slkOk, hb, e5, e6, lenN_eq, e7, og_true, bnd3, natO, hi, natk_cst, bnds, e1, e2, e3, subS, e4, e8, Nat.sub_zero]
  · injection e with x1 x2 x3 x4
    subst x1; subst x2; subst x4
    refine ⟨.sl b (bsel (Nat.beq c' 0) o (o + 0 * sz)) k (.fix c'), ?_, ?_⟩
    · simp only [slcTo, q_slc]
      rw [subO_to (hi _) hk hcc]
    · have : bsel (Nat.beq c' 0) o (o + 0 * sz) = o := by cases Nat.beq c' 0 <;> simp [bsel]
      rw [this]; exact fin _
noncomputable def slcFrom (h : H) (sz : Nat) (x k : V) : Option V := q_slc .nil h sz x (some (.c k)) none none
theorem q_slc_from (tm : T V) (h : H) (sz : Nat) (x : V) (y : Opd) : q_slc tm h sz x (some y) none none = slcFrom h sz x (y.ev tm) := rfl
theorem OwnC.from {h0 h : H} {x : V} {sz k : Nat} {kd : IntKind} {rows : List (List V)} (a : OwnC h0 h x sz rows) (hl : rows.length ≤ 1000000) (hk : k ≤ rows.length) (hk0 : 0 < rows.length) (h00 : 0 < sz := by omega) :
    ∃ y, slcFrom h sz x (.int kd (k : Int)) = some y ∧ SlAt h y sz (rows.drop k) := by
  have hi : ∀ tm, (Opd.c (.int kd (k : Int))).ev tm = .int kd (k : Int) := fun _ => rfl
  obtain ⟨a0, a1, a2⟩ := a
  have hr : ∀ r ∈ rows.drop k, r.length = sz := fun r hr => a1 r (List.mem_of_mem_drop hr)
  have hld : (rows.drop k).length = rows.length - k := List.length_drop
  have hlt : (rows.take k).length = k := by rw [List.length_take]; omega
  have hfl : (rows.drop k).flatten = rows.flatten.drop (k * sz) := by
    have h1 := flatten_len (sz := sz) (rows := rows.take k) fun r hr => a1 r (List.mem_of_mem_take hr)
    rw [hlt] at h1
    have e : rows.flatten = (rows.take k).flatten ++ (rows.drop k).flatten := by rw [← List.flatten_append, List.take_append_drop]
    rw [e, List.drop_left' h1]
  have hmul : (rows.length - k) * sz + k * sz = rows.length * sz := by rw [← Nat.add_mul, Nat.sub_add_cancel hk]
  have e1 : Nat.ble k rows.length = true := by simpa using hk
  have e3 : Nat.ble rows.length rows.length = true := by simp
  rcases a2 with ⟨rfl, rfl⟩ | ⟨b, rfl, l1, l2, hb⟩ | ⟨b, c, rest, rfl, l1, l2, hb, hc, hlc⟩
  · simp at hk0
  · have fl := flatten_len a1
    have e4 : Nat.blt 0 (rows.length + rows.length) = true := by rw [Nat.blt_eq]; omega
    have e5 : Nat.beq sz sz = true := by simp
    have e6 : Nat.beq 0 (0 * sz) = true := by simp
    have e7 : Nat.ble (0 + rows.length * sz) rows.flatten.length = true := by rw [fl]; simp
    have e8 : slkRoom h b 0 sz = rows.length := by simp only [slkRoom, hb, lenN_eq, fl, Nat.sub_zero]; exact Nat.mul_div_cancel _ h00
    refine ⟨.sl b (0 + k * sz) (rows.length - k) (.slk (0 + k) 0), ?_, ?_⟩
    · simp only [slcFrom, q_slc, slkOk, hb, e5, e6, lenN_eq, e7, og_true, bnd3, natO, hi, natk_cst, bnds, e1, e3, subS, e4, e8]
    · refine ⟨hr, by rw [hld]; omega, .inr ⟨b, 0 + k * sz, _, _, by rw [hld], .inr (cells_of hb), ?_⟩⟩
      refine getN_eq.2 ⟨?_, by rw [hld, fl]; omega⟩
      rw [hld, hfl, Nat.zero_add, List.take_of_length_le (by rw [List.length_drop, fl]; omega)]
  · have fl := flatten_len a1
    have e2 : Nat.ble rows.length c = true := by simpa using hlc
    have e4 : Nat.ble c c = true := by simp
    refine ⟨.sl b (bsel (Nat.beq c k) 0 (0 + k * sz)) (rows.length - k) (.fix (c - k)), ?_, ?_⟩
    · simp only [slcFrom, q_slc, bnd3, natO, hi, natk_cst, bnds, e1, e2, e4, og_true, subO, sub]
    · refine ⟨hr, by rw [hld]; omega, .inr ⟨b, _, _, _, by rw [hld], .inr (cells_of hb), ?_⟩⟩
      cases hb2 : Nat.beq c k with
      | true =>
        have := Nat.eq_of_beq_eq_true hb2
        have hz : rows.drop k = [] := List.drop_eq_nil_of_le (by omega)
        rw [hz]
        exact getN_eq.2 ⟨by simp, by simp⟩
      | false =>
        show getN (0 + k * sz) _ _ = _
        refine getN_eq.2 ⟨?_, by rw [hld, List.length_append, fl]; omega⟩
        rw [hld, hfl, Nat.zero_add, List.drop_append_of_le_length (by rw [fl]; omega), List.take_append_of_le_length (by rw [List.length_drop, fl]; omega), List.take_of_length_le (by rw [List.length_drop, fl]; omega)]
namespace Try
open Go.Ab.Silk
theorem index_ev {h : H} {x : V} {l : List Int} (hx : SlAt h x 1 (l.map encI)) (n : Int) : Ev fnG fastA (.fn 121 [] []) [x, .int .i64 n] h fun v h' => v = .int .i64 (fidx (fun a => decide (n = a)) l 0) ∧ h' = h := by
  have hb := hx.boundE
  refine Ev_body (fd := c121) rfl rfl rfl ?_
  simp -implicitDefEqProofs (maxSteps := 999999) (disch := first | with_reducible rfl | omega | (simp only [nA, nS, nD] <;> omega) | fail) only [c121, go_sem, hx.lenE]
  refine W_count l.length (fun i s => ∃ tm, s = ⟨tm, h, []⟩ ∧ (Opd.t 0).ev tm = x ∧ (Opd.t 1).ev tm = .int .i64 n ∧ (Opd.t 7).ev tm = .int .i64 (l.length : Int) ∧ (Opd.t 8).ev tm = .int .i64 (i : Int) ∧ fidx (fun a => decide (n = a)) l 0 = fidx (fun a => decide (n = a)) (l.drop i) i)
    ?_ ?_ (i := 0) (Nat.zero_le _) ⟨_, rfl, (by simp [ev_c, ev_put] <;> rfl), (by simp [ev_c, ev_put] <;> rfl), (by simp [ev_c, ev_put] <;> rfl), (by simp [ev_c, ev_put] <;> rfl), rfl⟩
  · rintro i s hi ⟨tm, rfl, t0, t1, t7, t8, e9⟩
    have hi' : (i : Int) < (l.length : Int) := by omega
    obtain ⟨b, o, c, cs, rfl, hc, hq, hg, hn, hn0⟩ := hx.at hi
    by_cases he : n = l[i]
    · simp -implicitDefEqProofs (maxSteps := 999999) (disch := first | with_reducible rfl | omega | (simp only [nA, nS, nD] <;> omega) | fail) only [go_sem, t0, t1, t7, t8, hi', hq (nat_cst i), hc, hn0 (by omega), encI, he]
      rw [fidx_hit (p := fun a => decide (n = a)) hi (by simp [he])] at e9
      rw [← he, e9]
    · simp -implicitDefEqProofs (maxSteps := 999999) (disch := first | with_reducible rfl | omega | (simp only [nA, nS, nD] <;> omega) | fail) only [go_sem, t0, t1, t7, t8, hi', hq (nat_cst i), hc, hn0 (by omega), encI, he, wr_succ]
      exact ⟨_, rfl, (by simp [ev_c, ev_put, t0] <;> rfl), (by simp [ev_c, ev_put, t1] <;> rfl), (by simp [ev_c, ev_put, t7] <;> rfl), (by simp [ev_c, ev_put] <;> rfl), by rw [e9, fidx_miss hi (by simp [he])]⟩
  · rintro s ⟨tm, rfl, t0, t1, t7, t8, e9⟩
    simp -implicitDefEqProofs (maxSteps := 999999) (disch := first | with_reducible rfl | omega | (simp only [nA, nS, nD] <;> omega) | fail) only [go_sem, t0, t1, t7, t8, Int.lt_irrefl]
    rw [e9]; simp [fidx]
theorem contains_ev {h : H} {x : V} {l : List Int} (hx : SlAt h x 1 (l.map encI)) (n : Int) (Q : V → H → Prop) : Ev fnG fastA (.fn 61 [] []) [x, .int .i64 n] h Q = Q (.bool (decide (n ∈ l))) h := by
  refine Ev.det (Ev_body (fd := c61) rfl rfl rfl ?_) Q
  simp -implicitDefEqProofs (maxSteps := 999999) (disch := first | with_reducible rfl | omega | (simp only [nA, nS, nD] <;> omega) | fail) only [c61, go_sem]
  refine (index_ev hx n).mono fun v h' hv => ?_
  obtain ⟨rfl, rfl⟩ := hv
  simp -implicitDefEqProofs (maxSteps := 999999) (disch := first | with_reducible rfl | omega | (simp only [nA, nS, nD] <;> omega) | fail) only [go_sem]
  congr 1
  rw [fidx_any, Bool.eq_iff_iff, List.any_eq_true, decide_eq_true_eq]
  exact ⟨fun ⟨a, ha, e⟩ => by (have := of_decide_eq_true e; subst this; exact ha), fun ha => ⟨n, ha, by simp⟩⟩
def inL (l : List Int) (o : Bool) : Nat → Bool := fun i => !(decide ((i : Int) ∈ l) == o)
theorem agree1_pure {h : H} {a b : Nat} {x : V} {l : List Int} {o : Bool} (ha : h.cells a = some [x]) (hx : SlAt h x 1 (l.map encI)) (hb : h.cells b = some [.bool o]) (i : Nat) : PureA h (.fn 143 [] [.ptr a 0, .ptr b 0]) [.int .i64 (i : Int)] (.bool (inL l o i)) := fun h1 hs => by
  have ha1 := hs.cells ha
  have hb1 := hs.cells hb
  refine Ev_body (fd := c143) rfl rfl rfl ?_
  simp -implicitDefEqProofs (maxSteps := 999999) (disch := first | with_reducible rfl | omega | (simp only [nA, nS, nD] <;> omega) | fail) only [c143, go_sem, ha1, contains_ev (hx.mono hs), hb1]
  exact ⟨rfl, H.Sub.refl hs.wf⟩
noncomputable def agreeB (m : Ml) (c : Nat → Bool) : Bool := @decide (∃ w, FeasM m c w) (Classical.propDecidable _)
theorem agreeB_iff {m : Ml} {c : Nat → Bool} {t : Bool} (h : t = true ↔ ∃ w, FeasM m c w) : t = agreeB m c := by
  by_cases e : ∃ w, FeasM m c w
  · rw [h.2 e]; exact (@decide_eq_true _ (Classical.propDecidable _) e).symm
  · have ht : t = false := by
      cases t with
      | false => rfl
      | true => exact absurd (h.1 rfl) e
    rw [ht]; exact (@decide_eq_false _ (Classical.propDecidable _) e).symm
theorem agreeB_congr {m : Ml} {c c' : Nat → Bool} (h : ∀ j, j < m.wgs.length → c j = c' j) : agreeB m c = agreeB m c' := by
  unfold agreeB FeasM
  rw [ownB_congr h]
theorem agree_ev {h : H} {d : Nat} {m : Ml} {x : V} {l : List Int} (hw : h.wf) (hd : DkAt h d m) (g : Good m) (hx : SlAt h x 1 (l.map encI)) (o : Bool) (Q : V → H → Prop) (q : ∀ h', h.Sub h' → Q (.bool (agreeB m (inL l o))) h') :
    Ev fnG fastA (.fn 105 [] []) [.ptr d 0, x, .bool o] h Q := by
  have gl := g.lots
  refine Ev_body (fd := c105) rfl rfl rfl ?_
  have s2 : h.Sub ((h.add (.cells .rw [x])).add (.cells .rw [.bool o])) := (by repeat (first | assumption | exact H.Sub.refl (by assumption) | refine H.Sub.add ?_ _ | refine H.Sub.set ?_ (by first | omega | (simp only [H.next_add, H.next_set, H.next_del] <;> omega)) (by first | omega | (simp only [H.next_add, H.next_set, H.next_del] <;> omega)) (by assumption) _))
  have hx1 := hx.one
  have ga : ((h.add (.cells .rw [x])).add (.cells .rw [.bool o])).cells h.next = some [x] := by simp -implicitDefEqProofs (maxSteps := 999999) (disch := first | with_reducible rfl | omega | (simp only [nA, nS, nD] <;> omega) | fail) only [go_sem]
  have gb : ((h.add (.cells .rw [x])).add (.cells .rw [.bool o])).cells (h.next + 1) = some [.bool o] := by simp -implicitDefEqProofs (maxSteps := 999999) (disch := first | with_reducible rfl | omega | (simp only [nA, nS, nD] <;> omega) | fail) only [go_sem]
  simp -implicitDefEqProofs (maxSteps := 999999) (disch := first | with_reducible rfl | omega | (simp only [nA, nS, nD] <;> omega) | fail) only [c105, go_sem, hx1, cells_one hx1, zerosB]
  refine bounds_ev (c := inL l o) s2.wf (hd.mono s2) g rfl (fun i _ => agree1_pure ga (hx.mono s2) gb i) _ fun r h3 s23 hr => ?_
  have hz : (h3.add (.cells .rw (encB zeroB))).get h3.next = some (.cells .rw (encB zeroB)) := get_add_new rfl
  have s3 := s2.trans s23
  rcases tightR_sem g hr with ⟨rfl, hno⟩ | ⟨b, rfl, hex, ht⟩
  · simp -implicitDefEqProofs (maxSteps := 999999) (disch := first | with_reducible rfl | omega | (simp only [nA, nS, nD] <;> omega) | fail) only [go_sem, tightV, zerosB, lenB, put_B zeroB zeroB hz]
    have := q _ (s3.add (.cells .rw (encB zeroB)))
    rw [← agreeB_iff (t := false) (by simpa using hno)] at this; exact this
  · simp -implicitDefEqProofs (maxSteps := 999999) (disch := first | with_reducible rfl | omega | (simp only [nA, nS, nD] <;> omega) | fail) only [go_sem, tightV, zerosB, lenB, put_B b zeroB hz]
    have := q _ (s3.add (.cells .rw (encB b)))
    rw [← agreeB_iff (t := true) (by simpa using hex.feas g)] at this; exact this
def dupAt (l : List Int) : Nat → Bool
  | 0 => false
  | k + 1 => dupAt l k || (match l[k]? with | some n => decide (n ∈ l.take k) | none => false)
theorem dupAt_step {l : List Int} {k : Nat} (h : k < l.length) : dupAt l (k + 1) = (dupAt l k || decide (l[k] ∈ l.take k)) := by
  simp only [dupAt]
  rw [List.getElem?_eq_getElem h]
theorem dupAt_up {l : List Int} {k : Nat} (h : dupAt l k = true) : ∀ j, k ≤ j → dupAt l j = true := by
  intro j hj
  induction j with
  | zero => rw [show k = 0 by omega] at h; exact h
  | succ j ih =>
    by_cases e : k = j + 1
    · rw [← e]; exact h
    · simp only [dupAt, ih (by omega), Bool.true_or]
def knownB (m : Ml) (l : List Int) : Bool := l.all fun n => inB n 0 ((m.wgs.length : Int) - 1)
def listE (m : Ml) (l : List Int) : Int := if check m ≠ 0 then check m else if knownB m l = false then 1 else if dupAt l l.length = true then 5 else 0
set_option maxHeartbeats 2000000 in
theorem Agree_cut {h : H} {v x : V} {m : Ml} {l : List Int} (hw : h.wf) (hm : MlIs h v m) (hx : CutC h x 1 (l.map encI)) (hl : l.length ≤ 1000) : Ev fnG fastA (.fn 46 [] []) [v, x] h fun u h' => h.Sub h' ∧ ∃ t, u = .tup [.bool t, .int .i64 (listE m l)] ∧
    ((listE m l ≠ 0 ∧ t = false) ∨ (listE m l = 0 ∧ t = agreeB m (inL l false))) := by
  refine Ev.gen fun Q q => ?_
  have hm0 := hm
  have aX := hx.1
  obtain ⟨L, W, rfl, aL, aW⟩ := hm
  have hlenX := aX.lenE
  refine Ev_body (fd := c46) rfl rfl rfl ?_
  have s2 : h.Sub (h.add (.cells .rw [.int .i64 m.errs, L, W])) := (by repeat (first | assumption | exact H.Sub.refl (by assumption) | refine H.Sub.add ?_ _ | refine H.Sub.set ?_ (by first | omega | (simp only [H.next_add, H.next_set, H.next_del] <;> omega)) (by first | omega | (simp only [H.next_add, H.next_set, H.next_del] <;> omega)) (by assumption) _))
  simp -implicitDefEqProofs (maxSteps := 999999) (disch := first | with_reducible rfl | omega | (simp only [nA, nS, nD] <;> omega) | fail) only [c46, go_sem]
  refine (opened_dk s2.wf (hm0.mono s2)).mono fun u h3 hu => ?_
  obtain ⟨s23, hu⟩ := hu
  have s3 := s2.trans s23
  have g1 : h3.cells h.next = some [.int .i64 m.errs, L, W] := s23.cells (cells_add_new rfl)
  rcases hu with ⟨c, rfl⟩ | ⟨c, d, rfl, hd⟩
  · have e1 : listE m l = check m := by simp [listE, c]
    simp -implicitDefEqProofs (maxSteps := 999999) (disch := first | with_reducible rfl | omega | (simp only [nA, nS, nD] <;> omega) | fail) only [go_sem, ne_eq, c, not_false_eq_true]
    exact q _ _ ⟨s3, false, by rw [e1], .inl ⟨by rw [e1]; exact c, rfl⟩⟩
  have g := good_of c
  simp -implicitDefEqProofs (maxSteps := 999999) (disch := first | with_reducible rfl | omega | (simp only [nA, nS, nD] <;> omega) | fail) only [go_sem, ne_eq, not_true_eq_false, g1]
  refine (everyInt_ev (p := fun n => inB n 0 ((m.wgs.length : Int) - 1)) s3.wf (aX.mono s3) fun n _ h1 hs => by
    rw [Ev_fn]
    exact weighing_ev ((hm0.mono s3).mono hs) n _ (fun h' s => ⟨rfl, s⟩) hs.wf).mono fun u h4 hu => ?_
  obtain ⟨rfl, s34⟩ := hu
  have s4 := s3.trans s34
  cases ck : l.all fun n => inB n 0 ((m.wgs.length : Int) - 1)
  · have e1 : listE m l = 1 := by simp only [listE, c, ne_eq, not_true_eq_false, ↓reduceIte, knownB, ck]
    simp -implicitDefEqProofs (maxSteps := 999999) (disch := first | with_reducible rfl | omega | (simp only [nA, nS, nD] <;> omega) | fail) only [go_sem, Bool.not_false]
    exact q _ _ ⟨s4, false, by rw [e1], .inl ⟨by rw [e1]; omega, rfl⟩⟩
  have aX4 := aX.mono s4
  simp -implicitDefEqProofs (maxSteps := 999999) (disch := first | with_reducible rfl | omega | (simp only [nA, nS, nD] <;> omega) | fail) only [go_sem, Bool.not_true, hlenX]
  refine W_count l.length (fun i s => ∃ tm, s = ⟨tm, h4, []⟩ ∧ dupAt l i = false ∧ (Opd.t 1).ev tm = x ∧ (Opd.t 6).ev tm = .ptr d 0 ∧ (Opd.t 25).ev tm = x ∧ (Opd.t 26).ev tm = .int .i64 (l.length : Int) ∧ (Opd.t 27).ev tm = .int .i64 (i : Int))
    ?_ ?_ (i := 0) (Nat.zero_le _) ⟨_, rfl, rfl, (by simp [ev_c, ev_put] <;> rfl), (by simp [ev_c, ev_put] <;> rfl), (by simp [ev_c, ev_put] <;> rfl), (by simp [ev_c, ev_put] <;> rfl), (by simp [ev_c, ev_put] <;> rfl)⟩
  · rintro i s hi ⟨tm, rfl, hdup, t1, t6, t25, t26, t27⟩
    have hi' : (i : Int) < (l.length : Int) := by omega
    obtain ⟨b, o, cc, cs, rfl, hc, hq, hg, hn, hn0⟩ := aX4.at hi
    have hst := dupAt_step hi
    rw [hdup, Bool.false_or] at hst
    obtain ⟨y, hy, aY⟩ := (hx.mono s4).to (kd := .i64) (k := i) (by simp; omega) (by simp; omega) (by simp; omega)
    rw [← List.map_take] at aY
    simp -implicitDefEqProofs (maxSteps := 999999) (disch := first | with_reducible rfl | omega | (simp only [nA, nS, nD] <;> omega) | fail) only [go_sem, t1, t6, t25, t26, t27, hi', hq (nat_cst i), hc, hn0 (by omega), encI, q_slc_to, hy, contains_ev aY]
    by_cases hd2 : l[i] ∈ l.take i
    · have e1 : listE m l = 5 := by
        have := dupAt_up (l := l) (k := i + 1) (by rw [hst]; simp [hd2]) l.length (by omega)
        simp only [listE, c, ne_eq, not_true_eq_false, ↓reduceIte, knownB, ck, this, Bool.true_eq_false]
      simp -implicitDefEqProofs (maxSteps := 999999) (disch := first | with_reducible rfl | omega | (simp only [nA, nS, nD] <;> omega) | fail) only [go_sem, hd2]
      exact q _ _ ⟨s4, false, by rw [e1], .inl ⟨by rw [e1]; omega, rfl⟩⟩
    · simp -implicitDefEqProofs (maxSteps := 999999) (disch := first | with_reducible rfl | omega | (simp only [nA, nS, nD] <;> omega) | fail) only [go_sem, hd2, t27, wr_succ]
      exact ⟨_, rfl, by rw [hst]; simp [hd2], (by simp [ev_c, ev_put, t1] <;> rfl), (by simp [ev_c, ev_put, t6] <;> rfl), (by simp [ev_c, ev_put, t25] <;> rfl), (by simp [ev_c, ev_put, t26] <;> rfl), (by simp [ev_c, ev_put] <;> rfl)⟩
  · rintro s ⟨tm, rfl, hdup, t1, t6, t25, t26, t27⟩
    have e1 : listE m l = 0 := by simp only [listE, c, ne_eq, not_true_eq_false, ↓reduceIte, knownB, ck, hdup, Bool.true_eq_false, Bool.false_eq_true]
    simp -implicitDefEqProofs (maxSteps := 999999) (disch := first | with_reducible rfl | omega | (simp only [nA, nS, nD] <;> omega) | fail) only [go_sem, t1, t6, t25, t26, t27, Int.lt_irrefl]
    refine agree_ev s4.wf (hd.mono s34) g aX4 false _ fun h5 s45 => ?_
    simp -implicitDefEqProofs (maxSteps := 999999) (disch := first | with_reducible rfl | omega | (simp only [nA, nS, nD] <;> omega) | fail) only [go_sem]
    exact q _ _ ⟨s4.trans s45, _, by rw [e1], .inr ⟨e1, rfl⟩⟩
theorem Agree_ev {h h0 : H} {v x : V} {m : Ml} {l : List Int} (hw : h.wf) (hm : MlIs h v m) (hx : OwnC h0 h x 1 (l.map encI)) (hl : l.length ≤ 1000) : Ev fnG fastA (.fn 46 [] []) [v, x] h fun u h' => h.Sub h' ∧ ∃ t, u = .tup [.bool t, .int .i64 (listE m l)] ∧
    ((listE m l ≠ 0 ∧ t = false) ∨ (listE m l = 0 ∧ t = agreeB m (inL l false))) :=
  Agree_cut hw hm (hx.cut (by simp; omega)) hl
end Try
end Go.Ab
set_option linter.unusedSimpArgs false
set_option linter.unusedVariables false
namespace Go.Ab.Try
open Go.Ab.Silk
theorem find_step (P : List Int → Bool) (l : List Int) (k f : Nat) (j : Int) : (comb (k + 1) (f + 1) j).find? (fun c => P (l ++ c)) =
    match (comb k f (j + 1)).find? (fun c => P ((l ++ [j]) ++ c)) with | some c => some (j :: c) | none => (comb (k + 1) f (j + 1)).find? (fun c => P (l ++ c)) := by
  simp only [comb, List.find?_append, List.find?_map]
  have e : (fun c => P (l ++ c)) ∘ (fun l' => j :: l') = fun c => P ((l ++ [j]) ++ c) := by
    funext c; simp
  rw [e]
  cases (comb k f (j + 1)).find? (fun c => P ((l ++ [j]) ++ c)) <;> simp
def HoldsOf (hb : H) (hv : V) (P : List Int → Bool) : Prop := ∀ (l : List Int) (x : V) (h1 : H), hb.Sub h1 → SlAt h1 x 1 (l.map encI) → ∀ R : V → H → Prop, (∀ h2, h1.Sub h2 → R (.bool (P l)) h2) → Ev fnG fastA hv [x] h1 R
def MoreRes (P : List Int → Bool) (l : List Int) (oC : Nat) (r : Option (List Int)) (t : Bool) (h' : H) : Prop := match r with
  | some c => t = true ∧ ∃ y, h'.get oC = some (.cells .rw [y]) ∧ CutC h' y 1 ((l ++ c).map encI)
  | none => t = false ∧ ∃ y, h'.get oC = some (.cells .rw [y])
set_option maxHeartbeats 2000000 in
theorem more_ev {hb : H} (hwb : hb.wf) {d : Nat} {m : Ml} (hd : DkAt hb d m) (g : Good m) {hv : V} {P : List Int → Bool} (hP : HoldsOf hb hv P) {mC oC hC dC fC : Nat} (ho : hb.next ≤ oC) (n1 : mC ≠ oC) (n2 : hC ≠ oC) (n3 : dC ≠ oC) (n4 : fC ≠ oC) {many : Nat} (hmany : many ≤ 11) :
    ∀ (k : Nat) (h : H) (x : V) (l : List Int) (i : Nat), l.length + k = many → hb.Sub h → h.cells mC = some [.int .i64 (many : Int)] → h.cells hC = some [hv] → h.cells dC = some [.ptr d 0] → h.cells fC = some [.fn 144 [] [.ptr mC 0, .ptr oC 0, .ptr hC 0, .ptr dC 0, .ptr fC 0]] →
      (∃ y, h.get oC = some (.cells .rw [y])) → CutC h x 1 (l.map encI) → (∀ b, blkOf x b → b ≠ oC) → i ≤ m.wgs.length → ∀ (Q : V → H → Prop), (∀ t h', Keeps (fun c => c = oC) h h' → h'.wf → MoreRes P l oC ((comb k (m.wgs.length - i) (i : Int)).find? fun c => P (l ++ c)) t h' → Q (.bool t) h') →
      Ev fnG fastA (.fn 144 [] [.ptr mC 0, .ptr oC 0, .ptr hC 0, .ptr dC 0, .ptr fC 0]) [x, .int .i64 (i : Int)] h Q := by
  obtain ⟨pm, ll, L', W', k1, k2, aL', aW', _⟩ := id hd
  have hlenW := aW'.lenE
  have gw := g.wgs
  intro k
  induction k with
  | zero =>
    intro h x l i hk hs cm ch cd cf ⟨y0, go⟩ ax0 nx hi Q q
    have ax := ax0.1
    have hlx := ax.lenE
    have hll : (l.length : Int) = (many : Int) := by omega
    have hlo := hs.wf _ _ go
    refine Ev_body (fd := c144) rfl rfl rfl ?_
    have hx1 := ax.one
    have kS := Keeps.set h oC (.cells .rw [x])
    have wS := H.wf_set hs.wf (.cells .rw [x]) go
    have sS : hb.Sub (h.set oC (.cells .rw [x])) := kS.sub hs hwb (fun c hc => by omega) wS
    have axS : SlAt (h.set oC (.cells .rw [x])) x 1 (l.map encI) := SlAt_keep ax kS nx
    simp -implicitDefEqProofs (maxSteps := 999999) (disch := first | with_reducible rfl | omega | (simp only [nA, nS, nD] <;> omega) | fail) only [c144, go_sem, hlx, hll, cm, go, hx1, cells_one hx1, ch]
    refine hP l x _ sS axS _ fun h2 s2 => ?_
    simp -implicitDefEqProofs (maxSteps := 999999) (disch := first | with_reducible rfl | omega | (simp only [nA, nS, nD] <;> omega) | fail) only [go_sem]
    refine q _ _ ((kS.trans (Keeps.of s2 fun c => c = oC)).mono fun c h => by rcases h with h | h <;> exact h) s2.wf ?_
    have e : (comb 0 (m.wgs.length - i) (i : Int)).find? (fun c => P (l ++ c)) = if P l = true then some [] else none := by
      simp only [comb, List.find?_cons, List.find?_nil, List.append_nil]
      cases P l <;> rfl
    rw [e]
    have go2 : h2.get oC = some (.cells .rw [x]) := s2.get (get_set_same rfl)
    cases hp : P l
    · exact ⟨rfl, x, go2⟩
    · exact ⟨rfl, x, go2, by rw [List.append_nil]; exact (ax0.keep kS nx).mono s2⟩
  | succ k ih =>
    intro h x l i hk hs cm ch cd cf hgo ax0 nx hi Q q
    have ax := ax0.1
    have hlx := ax.lenE
    have hll : ¬ (l.length : Int) = (many : Int) := by omega
    refine Ev_body (fd := c144) rfl rfl rfl ?_
    simp -implicitDefEqProofs (maxSteps := 999999) (disch := first | with_reducible rfl | omega | (simp only [nA, nS, nD] <;> omega) | fail) only [c144, go_sem, hlx, hll, cm]
    refine W_count m.wgs.length (fun j s => ∃ tm h', s = ⟨tm, h', []⟩ ∧ Keeps (fun c => c = oC) h h' ∧ h'.wf ∧ (∃ y, h'.get oC = some (.cells .rw [y])) ∧ ((comb (k + 1) (m.wgs.length - i) (i : Int)).find? fun c => P (l ++ c)) = ((comb (k + 1) (m.wgs.length - j) (j : Int)).find? fun c => P (l ++ c)) ∧
        (Opd.t 0).ev tm = x ∧ (Opd.t 5).ev tm = .ptr dC 0 ∧ (Opd.t 6).ev tm = .ptr fC 0 ∧ (Opd.t 10).ev tm = .int .i64 (j : Int))
      ?_ ?_ (i := i) hi ⟨_, _, rfl, Keeps.refl _ _, hs.wf, hgo, rfl, (by simp [ev_c, ev_put] <;> rfl), (by simp [ev_c, ev_put] <;> rfl), (by simp [ev_c, ev_put] <;> rfl), (by simp [ev_c, ev_put] <;> rfl)⟩
    · rintro j s hj ⟨tm, h', rfl, kh, wh, ⟨y0, go⟩, hfind, t0, t5, t6, t10⟩
      have hj' : (j : Int) < (m.wgs.length : Int) := by omega
      have hs' : hb.Sub h' := kh.sub hs hwb (fun c hc => by omega) wh
      have cm' := kh.cells cm n1
      have ch' := kh.cells ch n2
      have cd' := kh.cells cd n3
      have cf' := kh.cells cf n4
      have ax' := SlAt_keep ax kh nx
      have hlo := wh _ _ go
      have hll2 : (l.map encI).length ≤ 12 := by simp; omega
      simp -implicitDefEqProofs (maxSteps := 999999) (disch := first | with_reducible rfl | omega | (simp only [nA, nS, nD] <;> omega) | fail) only [go_sem, t0, t5, t6, t10, cd', cells_of (hs'.get k1), hlenW, hj', cf']
      refine cloneInt_ev wh ax' (by omega) _ fun v h1 ov => ?_
      have s01 := ov.1
      have cf1 := s01.cells cf'
      simp -implicitDefEqProofs (maxSteps := 999999) (disch := first | with_reducible rfl | omega | (simp only [nA, nS, nD] <;> omega) | fail) only [go_sem, t0, t5, t6, t10]
      have s12 := (H.Sub.refl s01.wf).add (.cells .rw [.int .i64 (j : Int)])
      refine (ov.mono s12).app1 (r := encI (j : Int)) wh rfl (by omega) (own1_lit _) rfl (by omega) (by omega) fun x2 h2 ox2 dx2 kx2 => ?_
      have s02 := ox2.1
      have cf2 := s02.cells cf'
      have ax2 := ox2.cut (by simp; omega)
      have e2 : l.map encI ++ [encI (j : Int)] = (l ++ [(j : Int)]).map encI := by simp
      rw [e2] at ax2
      simp -implicitDefEqProofs (maxSteps := 999999) (disch := first | with_reducible rfl | omega | (simp only [nA, nS, nD] <;> omega) | fail) only [go_sem, t0, t5, t6, t10, wr_succ]
      refine ih h2 x2 (l ++ [(j : Int)]) (j + 1) (by simp; omega) (hs'.trans s02) (s02.cells cm') (s02.cells ch') (s02.cells cd') cf2 ⟨y0, s02.get go⟩ ax2 (fun b hb => by have := (ox2.blk hb).1; omega) (by omega) _ fun t h3 k23 w3 hres => ?_
      have k03 : Keeps (fun c => c = oC) h h3 := ((kh.trans (Keeps.of s02 fun c => c = oC)).trans k23).mono fun c h => by rcases h with (h | h) | h <;> exact h
      have hst := find_step P l k (m.wgs.length - (j + 1)) (j : Int)
      have ef : m.wgs.length - j = (m.wgs.length - (j + 1)) + 1 := by omega
      have ej : ((j : Int) + 1) = ((j + 1 : Nat) : Int) := by omega
      rw [ef, hst, ej] at hfind
      cases hr : (comb k (m.wgs.length - (j + 1)) ((j + 1 : Nat) : Int)).find? (fun c => P ((l ++ [(j : Int)]) ++ c)) with
      | some c =>
        rw [hr] at hres hfind
        obtain ⟨rfl, y, gy, ay⟩ := hres
        simp -implicitDefEqProofs (maxSteps := 999999) (disch := first | with_reducible rfl | omega | (simp only [nA, nS, nD] <;> omega) | fail) only [go_sem, t0, t5, t6, t10, cf', cf1, cf2]
        refine q _ _ k03 w3 ?_
        rw [hfind]
        exact ⟨rfl, y, gy, by rw [List.append_assoc] at ay; exact ay⟩
      | none =>
        rw [hr] at hres hfind
        obtain ⟨rfl, y, gy⟩ := hres
        simp -implicitDefEqProofs (maxSteps := 999999) (disch := first | with_reducible rfl | omega | (simp only [nA, nS, nD] <;> omega) | fail) only [go_sem, t0, t5, t6, t10, cf', cf1, cf2, wr_succ]
        exact ⟨_, _, rfl, k03, w3, ⟨y, gy⟩, hfind, (by simp [ev_c, ev_put, t0] <;> rfl), (by simp [ev_c, ev_put, t5] <;> rfl), (by simp [ev_c, ev_put, t6] <;> rfl), (by simp [ev_c, ev_put] <;> rfl)⟩
    · rintro s ⟨tm, h', rfl, kh, wh, hgo', hfind, t0, t5, t6, t10⟩
      have hs' : hb.Sub h' := kh.sub hs hwb (fun c hc => by omega) wh
      have cd' := kh.cells cd n3
      simp -implicitDefEqProofs (maxSteps := 999999) (disch := first | with_reducible rfl | omega | (simp only [nA, nS, nD] <;> omega) | fail) only [go_sem, t0, t5, t6, t10, cd', cells_of (hs'.get k1), hlenW, Int.lt_irrefl]
      refine q _ _ kh wh ?_
      rw [hfind, Nat.sub_self]
      exact ⟨rfl, hgo'⟩
theorem HoldsOf.mono {hb h : H} {hv : V} {P : List Int → Bool} (a : HoldsOf hb hv P) (s : hb.Sub h) : HoldsOf h hv P := fun l x h1 s1 ax R r => a l x h1 (s.trans s1) ax R r
set_option maxHeartbeats 2000000 in
theorem first_ev {h : H} {d : Nat} {m : Ml} {hv : V} {P : List Int → Bool} (hw : h.wf) (hd : DkAt h d m) (g : Good m) (hv1 : hv.one = true) (hP : HoldsOf h hv P) (Q : V → H → Prop)
    (q : ∀ y t h', h.Sub h' → (match firstOf P m.wgs.length (m.wgs.length + 1) 0 with | some c => t = true ∧ CutC h' y 1 (c.map encI) | none => t = false) → Q (.tup [y, .bool t]) h') : Ev fnG fastA (.fn 106 [] []) [.ptr d 0, hv] h Q := by
  obtain ⟨pm, ll, L', W', k1, k2, aL', aW', _⟩ := id hd
  have hlenW := aW'.lenE
  have gw := g.wgs
  have hld := hw _ _ k1
  refine Ev_body (fd := c106) rfl rfl rfl ?_
  have s2 : h.Sub (((h.add (.cells .rw [.ptr d 0])).add (.cells .rw [hv])).add (.cells .rw [.nils])) := (by repeat (first | assumption | exact H.Sub.refl (by assumption) | refine H.Sub.add ?_ _ | refine H.Sub.set ?_ (by first | omega | (simp only [H.next_add, H.next_set, H.next_del] <;> omega)) (by first | omega | (simp only [H.next_add, H.next_set, H.next_del] <;> omega)) (by assumption) _))
  simp -implicitDefEqProofs (maxSteps := 999999) (disch := first | with_reducible rfl | omega | (simp only [nA, nS, nD] <;> omega) | fail) only [c106, go_sem, hv1, cells_one hv1, cells_of k1, hlenW, wr_succ]
  refine W_count (m.wgs.length + 1) (fun k s => ∃ tm h', s = ⟨tm, h', []⟩ ∧ h.Sub h' ∧ h.next + 2 < h'.next ∧ h'.cells h.next = some [.ptr d 0] ∧ h'.cells (h.next + 1) = some [hv] ∧ (∃ y, h'.get (h.next + 1 + 1) = some (.cells .rw [y])) ∧ firstOf P m.wgs.length (m.wgs.length + 1) 0 = firstOf P m.wgs.length (m.wgs.length + 1 - k) k ∧
      (Opd.t 2).ev tm = .ptr h.next 0 ∧ (Opd.t 3).ev tm = .ptr (h.next + 1) 0 ∧ (Opd.t 6).ev tm = .ptr (h.next + 1 + 1) 0 ∧ (Opd.t 7).ev tm = .bool false ∧ (Opd.t 16).ev tm = .int .i64 ((m.wgs.length + 1 : Nat) : Int) ∧ (Opd.t 17).ev tm = .int .i64 (k : Int))
    ?_ ?_ (i := 0) (Nat.zero_le _) ⟨_, _, rfl, s2, by simp only [H.next_add]; omega, by simp -implicitDefEqProofs (maxSteps := 999999) (disch := first | with_reducible rfl | omega | (simp only [nA, nS, nD] <;> omega) | fail) only [go_sem], by simp -implicitDefEqProofs (maxSteps := 999999) (disch := first | with_reducible rfl | omega | (simp only [nA, nS, nD] <;> omega) | fail) only [go_sem], ⟨.nils, by simp -implicitDefEqProofs (maxSteps := 999999) (disch := first | with_reducible rfl | omega | (simp only [nA, nS, nD] <;> omega) | fail) only [go_sem]⟩, rfl, (by simp only [ev_c, ev_put, ↓reduceIte, Nat.reduceEqDiff] <;> rfl), (by simp only [ev_c, ev_put, ↓reduceIte, Nat.reduceEqDiff] <;> rfl), (by simp only [ev_c, ev_put, ↓reduceIte, Nat.reduceEqDiff] <;> rfl), (by simp only [ev_c, ev_put, ↓reduceIte, Nat.reduceEqDiff] <;> rfl), (by simp only [ev_c, ev_put, ↓reduceIte, Nat.reduceEqDiff] <;> rfl), (by simp only [ev_c, ev_put, ↓reduceIte, Nat.reduceEqDiff] <;> rfl)⟩
  · rintro k s hk ⟨tm, h', rfl, hs, lt, gd, gh, ⟨y0, go⟩, hfirst, t2, t3, t6, t7, t16, t17⟩
    have hk' : (k : Int) < ((m.wgs.length + 1 : Nat) : Int) := by omega
    have sA := ((H.Sub.refl hs.wf).add (.cells .rw [.int .i64 (k : Int)])).add (.cells .rw [.fn 144 [] [.ptr h'.next 0, .ptr (h.next + 1 + 1) 0, .ptr (h.next + 1) 0, .ptr h.next 0, .ptr (h'.next + 1) 0]])
    have hsA := hs.trans sA
    have gm : ((h'.add (.cells .rw [.int .i64 (k : Int)])).add (.cells .rw [.fn 144 [] [.ptr h'.next 0, .ptr (h.next + 1 + 1) 0, .ptr (h.next + 1) 0, .ptr h.next 0, .ptr (h'.next + 1) 0]])).cells h'.next = some [.int .i64 (k : Int)] := by simp -implicitDefEqProofs (maxSteps := 999999) (disch := first | with_reducible rfl | omega | (simp only [nA, nS, nD] <;> omega) | fail) only [go_sem]
    have gf : ((h'.add (.cells .rw [.int .i64 (k : Int)])).add (.cells .rw [.fn 144 [] [.ptr h'.next 0, .ptr (h.next + 1 + 1) 0, .ptr (h.next + 1) 0, .ptr h.next 0, .ptr (h'.next + 1) 0]])).cells (h'.next + 1) = some [.fn 144 [] [.ptr h'.next 0, .ptr (h.next + 1 + 1) 0, .ptr (h.next + 1) 0, .ptr h.next 0, .ptr (h'.next + 1) 0]] := by simp -implicitDefEqProofs (maxSteps := 999999) (disch := first | with_reducible rfl | omega | (simp only [nA, nS, nD] <;> omega) | fail) only [go_sem]
    simp -implicitDefEqProofs (maxSteps := 999999) (disch := first | with_reducible rfl | omega | (simp only [nA, nS, nD] <;> omega) | fail) only [go_sem, t2, t3, t6, t7, t16, t17, hk']
    refine more_ev hw hd g hP (by omega) (by omega) (by omega) (by omega) (by omega) (many := k) (by omega) k _ .nils [] 0 (by simp) hsA gm (sA.cells gh) (sA.cells gd) gf ⟨y0, sA.get go⟩ ((OwnSl.nil (H.Sub.refl hsA.wf) 1).c.cut (by simp)) (fun b hb => (blkOf_nils hb).elim) (Nat.zero_le _) _ fun t h3 k3 w3 hres => ?_
    have s3 : h.Sub h3 := k3.sub hsA hw (fun c hc => by omega) w3
    have l3 := k3.1
    simp only [H.next_add] at l3
    have hst : firstOf P m.wgs.length (m.wgs.length + 1 - k) k = (match (comb k m.wgs.length 0).find? P with | some c => some c | none => firstOf P m.wgs.length (m.wgs.length - k) (k + 1)) := by
      rw [show m.wgs.length + 1 - k = (m.wgs.length - k) + 1 by omega]; rfl
    have hres' : MoreRes P [] (h.next + 1 + 1) ((comb k m.wgs.length 0).find? P) t h3 := hres
    cases hr : (comb k m.wgs.length 0).find? P with
    | some c =>
      rw [hr] at hres' hst
      obtain ⟨rfl, y, gy, ay⟩ := hres'
      have ay1 := ay.1.one
      simp -implicitDefEqProofs (maxSteps := 999999) (disch := first | with_reducible rfl | omega | (simp only [nA, nS, nD] <;> omega) | fail) only [go_sem, t2, t3, t6, t7, t16, t17, cells_of gy]
      refine q _ _ _ s3 ?_
      rw [hfirst, hst]
      exact ⟨rfl, ay⟩
    | none =>
      rw [hr] at hres' hst
      obtain ⟨rfl, y, gy⟩ := hres'
      simp -implicitDefEqProofs (maxSteps := 999999) (disch := first | with_reducible rfl | omega | (simp only [nA, nS, nD] <;> omega) | fail) only [go_sem, t2, t3, t6, t7, t16, t17, wr_succ]
      exact ⟨_, _, rfl, s3, by omega, k3.cells (sA.cells gd) (by omega), k3.cells (sA.cells gh) (by omega), ⟨y, gy⟩, by rw [hfirst, hst, show m.wgs.length + 1 - (k + 1) = m.wgs.length - k by omega], (by simp [ev_c, ev_put, t2] <;> rfl), (by simp [ev_c, ev_put, t3] <;> rfl), (by simp [ev_c, ev_put, t6] <;> rfl), (by simp [ev_c, ev_put] <;> rfl), (by simp [ev_c, ev_put, t16] <;> rfl), (by simp only [ev_c, ev_put, ↓reduceIte, Nat.reduceEqDiff] <;> rfl)⟩
  · rintro s ⟨tm, h', rfl, hs, lt, gd, gh, ⟨y0, go⟩, hfirst, t2, t3, t6, t7, t16, t17⟩
    simp -implicitDefEqProofs (maxSteps := 999999) (disch := first | with_reducible rfl | omega | (simp only [nA, nS, nD] <;> omega) | fail) only [go_sem, t2, t3, t6, t7, t16, t17, Int.lt_irrefl, cells_of go]
    refine q _ _ _ hs ?_
    rw [hfirst, Nat.sub_self]
    rfl
noncomputable def clashP (m : Ml) : List Int → Bool := fun l => !agreeB m (inL l false)
noncomputable def wrongP (m : Ml) : List Int → Bool := fun l => agreeB m (inL l true)
theorem clash1_holds {h : H} {d a : Nat} {m : Ml} (hd : DkAt h d m) (g : Good m) (ha : h.cells a = some [.ptr d 0]) : HoldsOf h (.fn 107 [] [.ptr a 0]) (clashP m) := fun l x h1 s1 ax R r => by
  have ha1 := s1.cells ha
  refine Ev_body (fd := c107) rfl rfl rfl ?_
  simp -implicitDefEqProofs (maxSteps := 999999) (disch := first | with_reducible rfl | omega | (simp only [nA, nS, nD] <;> omega) | fail) only [c107, go_sem, ha1]
  refine agree_ev s1.wf (hd.mono s1) g ax false _ fun h2 s2 => ?_
  simp -implicitDefEqProofs (maxSteps := 999999) (disch := first | with_reducible rfl | omega | (simp only [nA, nS, nD] <;> omega) | fail) only [go_sem]
  exact r _ s2
theorem wrong1_holds {h : H} {d a : Nat} {m : Ml} (hd : DkAt h d m) (g : Good m) (ha : h.cells a = some [.ptr d 0]) : HoldsOf h (.fn 108 [] [.ptr a 0]) (wrongP m) := fun l x h1 s1 ax R r => by
  have ha1 := s1.cells ha
  refine Ev_body (fd := c108) rfl rfl rfl ?_
  simp -implicitDefEqProofs (maxSteps := 999999) (disch := first | with_reducible rfl | omega | (simp only [nA, nS, nD] <;> omega) | fail) only [c108, go_sem, ha1]
  refine agree_ev s1.wf (hd.mono s1) g ax true _ fun h2 s2 => ?_
  simp -implicitDefEqProofs (maxSteps := 999999) (disch := first | with_reducible rfl | omega | (simp only [nA, nS, nD] <;> omega) | fail) only [go_sem]
  exact r _ s2
theorem Clash_cut {h : H} {v : V} {m : Ml} (hw : h.wf) (hm : MlIs h v m) : Ev fnG fastA (.fn 47 [] []) [v] h fun u h' => h.Sub h' ∧ ∃ x l e, u = .tup [x, .int .i64 e] ∧ CutC h' x 1 (l.map encI) ∧ ((check m ≠ 0 ∧ e = check m ∧ l = []) ∨
    (check m = 0 ∧ firstOf (clashP m) m.wgs.length (m.wgs.length + 1) 0 = none ∧ e = 6 ∧ l = []) ∨ (check m = 0 ∧ firstOf (clashP m) m.wgs.length (m.wgs.length + 1) 0 = some l ∧ e = 0)) := by
  refine Ev.gen fun Q q => ?_
  have hm0 := hm
  obtain ⟨L, W, rfl, aL, aW⟩ := hm
  refine Ev_body (fd := c47) rfl rfl rfl ?_
  have s2 : h.Sub (h.add (.cells .rw [.int .i64 m.errs, L, W])) := (by repeat (first | assumption | exact H.Sub.refl (by assumption) | refine H.Sub.add ?_ _ | refine H.Sub.set ?_ (by first | omega | (simp only [H.next_add, H.next_set, H.next_del] <;> omega)) (by first | omega | (simp only [H.next_add, H.next_set, H.next_del] <;> omega)) (by assumption) _))
  simp -implicitDefEqProofs (maxSteps := 999999) (disch := first | with_reducible rfl | omega | (simp only [nA, nS, nD] <;> omega) | fail) only [c47, go_sem]
  refine (opened_dk s2.wf (hm0.mono s2)).mono fun u h3 hu => ?_
  obtain ⟨s23, hu⟩ := hu
  have s3 := s2.trans s23
  rcases hu with ⟨c, rfl⟩ | ⟨c, d, rfl, hd⟩
  · simp -implicitDefEqProofs (maxSteps := 999999) (disch := first | with_reducible rfl | omega | (simp only [nA, nS, nD] <;> omega) | fail) only [go_sem, ne_eq, c, not_false_eq_true]
    exact q _ _ ⟨s3.add _, .nils, [], check m, rfl, (OwnSl.nil (s3.add _) 1).c.cut (by simp), .inl ⟨c, rfl, rfl⟩⟩
  have g := good_of c
  have s34 := (H.Sub.refl s3.wf).add (.cells .rw [.ptr d 0])
  have gd : (h3.add (.cells .rw [.ptr d 0])).cells h3.next = some [.ptr d 0] := cells_add_new rfl
  simp -implicitDefEqProofs (maxSteps := 999999) (disch := first | with_reducible rfl | omega | (simp only [nA, nS, nD] <;> omega) | fail) only [go_sem, ne_eq, not_true_eq_false]
  refine first_ev (P := clashP m) s34.wf (hd.mono s34) g rfl (clash1_holds (hd.mono s34) g gd) _ fun y t h5 s45 hr => ?_
  have s5 := s3.trans (s34.trans s45)
  cases hf : firstOf (clashP m) m.wgs.length (m.wgs.length + 1) 0 with
  | none =>
    rw [hf] at hr
    have hr' : t = false := hr
    subst hr'
    simp -implicitDefEqProofs (maxSteps := 999999) (disch := first | with_reducible rfl | omega | (simp only [nA, nS, nD] <;> omega) | fail) only [go_sem, Bool.not_false]
    exact q _ _ ⟨s5, .nils, [], 6, rfl, (OwnSl.nil s5 1).c.cut (by simp), .inr (.inl ⟨c, hf, rfl, rfl⟩)⟩
  | some l =>
    rw [hf] at hr
    obtain ⟨rfl, ay⟩ := hr
    simp -implicitDefEqProofs (maxSteps := 999999) (disch := first | with_reducible rfl | omega | (simp only [nA, nS, nD] <;> omega) | fail) only [go_sem, Bool.not_true]
    exact q _ _ ⟨s5, y, l, 0, rfl, ay, .inr (.inr ⟨c, hf, rfl⟩)⟩
theorem Clash_ev {h : H} {v : V} {m : Ml} (hw : h.wf) (hm : MlIs h v m) : Ev fnG fastA (.fn 47 [] []) [v] h fun u h' => h.Sub h' ∧ ∃ x l e, u = .tup [x, .int .i64 e] ∧ SlAt h' x 1 (l.map encI) ∧ ((check m ≠ 0 ∧ e = check m ∧ l = []) ∨
    (check m = 0 ∧ firstOf (clashP m) m.wgs.length (m.wgs.length + 1) 0 = none ∧ e = 6 ∧ l = []) ∨ (check m = 0 ∧ firstOf (clashP m) m.wgs.length (m.wgs.length + 1) 0 = some l ∧ e = 0)) :=
  (Clash_cut hw hm).mono fun u h' hu => by
    obtain ⟨s, x, l, e, a, b, c⟩ := hu
    exact ⟨s, x, l, e, a, b.1, c⟩
theorem wrong_some {m : Ml} (g : Good m) : ∃ l, firstOf (wrongP m) m.wgs.length (m.wgs.length + 1) 0 = some l ∧ IsMin (wrongP m) m.wgs.length l := by
  rcases firstOf_spec (wrongP m) m.wgs.length (m.wgs.length + 1) 0 (by omega) (fun d _ h => by omega) with h | ⟨_, h⟩
  · exact h
  · exfalso
    have hb : ∀ (n : Nat) (i : Int), Inc (i + n) i ((List.range n).map fun (k : Nat) => i + (k : Int)) ∧ ∀ k : Nat, k < n → i + (k : Int) ∈ (List.range n).map fun (k : Nat) => i + (k : Int) := fun n => by
      induction n with
      | zero => intro i; exact ⟨trivial, fun k hk => by omega⟩
      | succ n ih =>
        intro i
        refine ⟨?_, fun k hk => List.mem_map.2 ⟨k, List.mem_range.2 hk, rfl⟩⟩
        have h1 := (ih (i + 1)).1
        rw [List.range_succ_eq_map, List.map_cons, List.map_map]
        refine ⟨by simp, by simp; omega, ?_⟩
        have e : (fun k : Nat => i + (k : Int)) ∘ Nat.succ = fun k : Nat => i + 1 + (k : Int) := by funext k; simp only [Function.comp]; omega
        rw [e]
        simp only [Int.ofNat_zero, Int.add_zero]
        rw [show i + ((n + 1 : Nat) : Int) = i + 1 + (n : Int) by omega]
        simpa using h1
    have hh := h _ (by have := (hb m.wgs.length 0).1; rwa [Int.zero_add] at this)
    have : agreeB m (inL ((List.range m.wgs.length).map fun (k : Nat) => (0 : Int) + (k : Int)) true) = true := by
      rw [← agreeB_iff (t := true)]
      simp only [true_iff]
      refine ⟨fun _ => 0, (own_iff g).2 ⟨fun i _ _ => by omega, fun k hk hc => ?_⟩, fun i _ _ _ => ?_⟩
      · have hm := (hb m.wgs.length 0).2 k hk
        rw [Int.zero_add] at hm
        unfold inL at hc
        rw [decide_eq_true hm] at hc
        cases hc
      · have e0 : ∀ l : List Int, sumL (fun _ => (0 : Int)) l = 0 := fun l => by
          induction l with
          | nil => rfl
          | cons a l ih => simp only [sumL, ih]; omega
        exact (e0 _).symm
    unfold wrongP at hh
    rw [this] at hh; cases hh
theorem Wrong_ev {h : H} {v : V} {m : Ml} (hw : h.wf) (hm : MlIs h v m) : Ev fnG fastA (.fn 48 [] []) [v] h fun u h' => h.Sub h' ∧ ∃ x l e, u = .tup [x, .int .i64 e] ∧ SlAt h' x 1 (l.map encI) ∧ ((check m ≠ 0 ∧ e = check m ∧ l = []) ∨
    (check m = 0 ∧ firstOf (wrongP m) m.wgs.length (m.wgs.length + 1) 0 = some l ∧ e = 0)) := by
  refine Ev.gen fun Q q => ?_
  have hm0 := hm
  obtain ⟨L, W, rfl, aL, aW⟩ := hm
  refine Ev_body (fd := c48) rfl rfl rfl ?_
  have s2 : h.Sub (h.add (.cells .rw [.int .i64 m.errs, L, W])) := (by repeat (first | assumption | exact H.Sub.refl (by assumption) | refine H.Sub.add ?_ _ | refine H.Sub.set ?_ (by first | omega | (simp only [H.next_add, H.next_set, H.next_del] <;> omega)) (by first | omega | (simp only [H.next_add, H.next_set, H.next_del] <;> omega)) (by assumption) _))
  simp -implicitDefEqProofs (maxSteps := 999999) (disch := first | with_reducible rfl | omega | (simp only [nA, nS, nD] <;> omega) | fail) only [c48, go_sem]
  refine (opened_dk s2.wf (hm0.mono s2)).mono fun u h3 hu => ?_
  obtain ⟨s23, hu⟩ := hu
  have s3 := s2.trans s23
  rcases hu with ⟨c, rfl⟩ | ⟨c, d, rfl, hd⟩
  · simp -implicitDefEqProofs (maxSteps := 999999) (disch := first | with_reducible rfl | omega | (simp only [nA, nS, nD] <;> omega) | fail) only [go_sem, ne_eq, c, not_false_eq_true]
    exact q _ _ ⟨s3.add _, .nils, [], check m, rfl, (OwnSl.nil (s3.add _) 1).sl (by simp), .inl ⟨c, rfl, rfl⟩⟩
  have g := good_of c
  have s34 := (H.Sub.refl s3.wf).add (.cells .rw [.ptr d 0])
  have gd : (h3.add (.cells .rw [.ptr d 0])).cells h3.next = some [.ptr d 0] := cells_add_new rfl
  simp -implicitDefEqProofs (maxSteps := 999999) (disch := first | with_reducible rfl | omega | (simp only [nA, nS, nD] <;> omega) | fail) only [go_sem, ne_eq, not_true_eq_false]
  refine first_ev (P := wrongP m) s34.wf (hd.mono s34) g rfl (wrong1_holds (hd.mono s34) g gd) _ fun y t h5 s45 hr => ?_
  have s5 := s3.trans (s34.trans s45)
  obtain ⟨l, hf, _⟩ := wrong_some g
  rw [hf] at hr
  obtain ⟨rfl, ay⟩ := hr
  simp -implicitDefEqProofs (maxSteps := 999999) (disch := first | with_reducible rfl | omega | (simp only [nA, nS, nD] <;> omega) | fail) only [go_sem]
  exact q _ _ ⟨s5, y, l, 0, rfl, ay.1, .inr ⟨c, hf, rfl⟩⟩
end Go.Ab.Try
set_option linter.unusedSimpArgs false
set_option linter.unusedVariables false
namespace Go.Ab.Try
open Go.Ab.Silk
def lst (c : Nat → Bool) : Nat → List Int
  | 0 => []
  | n + 1 => lst c n ++ if c n = true then [(n : Int)] else []
theorem lst_len (c : Nat → Bool) : ∀ n, (lst c n).length ≤ n
  | 0 => Nat.le_refl _
  | n + 1 => by have := lst_len c n; simp only [lst, List.length_append]; split <;> simp <;> omega
theorem mem_lst (c : Nat → Bool) (i : Nat) : ∀ n, (i : Int) ∈ lst c n ↔ i < n ∧ c i = true
  | 0 => by simp [lst]
  | n + 1 => by
    simp only [lst, List.mem_append, mem_lst c i n]
    by_cases e : i = n
    · subst e
      cases c i <;> simp
    · constructor
      · rintro (⟨h1, h2⟩ | h)
        · exact ⟨by omega, h2⟩
        · split at h
          · simp at h; omega
          · cases h
      · rintro ⟨h1, h2⟩
        exact .inl ⟨by omega, h2⟩
theorem lst_congr {c d : Nat → Bool} : ∀ {n : Nat}, (∀ i, i < n → c i = d i) → lst c n = lst d n
  | 0, _ => rfl
  | n + 1, h => by
    have ih := lst_congr (c := c) (d := d) (n := n) fun i hi => h i (by omega)
    simp only [lst, ih, h n (by omega)]
end Go.Ab.Try
