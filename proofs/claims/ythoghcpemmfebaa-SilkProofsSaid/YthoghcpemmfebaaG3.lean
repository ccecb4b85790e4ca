/- SilkProofs is true of the given program at every input, and leaves what is passed in as it was. No condition. awake() is true, wherever it is called. What comes in, as our machine sees it: mills, rows, integers; what stays. A proof that comes in. -/
import Derived.Test.YthoghcpemmfebaaRows
import Derived.ProofKit
import Derived.Test.YthoghcpemmfebaaAwk
import Derived.Test.YthoghcpemmfebaaG2
import Derived.Test.YthoghcpemmfebaaAbX
import Derived.Test.YthoghcpemmfebaaAc5
import Derived.Test.YthoghcpemmfebaaAc7
import Derived.Test.YthoghcpemmfebaaG5
namespace Go.Ab.Try
open Go.Proofs
theorem awake_spec (h : H) : SpecOk Try.prog tyG 17 [] h (.bool true) h :=
  closed_spec (awk_ok.is (args := []) (h := ⟨0, .nil⟩) rfl rfl rfl) trivial h
theorem fastA_ok : FastOk Try.prog tyG fastA := by
  refine ⟨fun f g h => ?_⟩
  unfold fastA at h
  split at h
  · rename_i hb
    have := Nat.eq_of_beq_eq_true hb; subst this
    cases h
    refine ⟨callable (fd := c17) rfl, fun args h v h' e => ?_⟩
    dsimp only at e
    split at e
    · cases e; exact awake_spec h
    · cases e
  · cases h
theorem spec_of {f : FuncId} {fd : FD} (hf : fnG f = some fd) {args : List V} {h : H} {Q : V → H → Prop} (he : Ev fnG fastA (.fn f [] []) args h Q) : ∃ v h', SpecOk Try.prog tyG f args h v h' ∧ Q v h' :=
  he.spec tyOK depth_ok mixed_ok fnOK fastA_ok (callable hf)
end Go.Ab.Try
set_option linter.unusedSimpArgs false
set_option linter.unusedVariables false
namespace Go.Proofs.Ythoghcpemmfebaa
open Go.ChangeShapes Go.WideShapes Go.ChangeAt Go.RowKit
open Go.Ab
theorem Try.own : ownKnob Try.prog.godebug = none := by kernel_rfl
theorem Try.laidOut : laidOutB Try.prog = true := by kernel_rfl
theorem Try.cells3 : Try.prog.cellsOf 3 = 1 := by kernel_rfl
theorem Try.cells22 : Try.prog.cellsOf 22 = 1 := by kernel_rfl
theorem Try.cells23 : Try.prog.cellsOf 23 = 1 := by kernel_rfl
theorem Try.cells25 : Try.prog.cellsOf 25 = 3 := by kernel_rfl
theorem Try.cells26 : Try.prog.cellsOf 26 = 1 := by kernel_rfl
theorem Try.cells38 : Try.prog.cellsOf 38 = 2 := by kernel_rfl
theorem Try.cells44 : Try.prog.cellsOf 44 = 2 := by kernel_rfl
theorem Try.cells70 : Try.prog.cellsOf 70 = 4 := by kernel_rfl
theorem Try.ctypes25 : Try.prog.cellTypes Try.prog.depth 25 = some [3, 22, 23] := by kernel_rfl
def rvL (l : Go.Ab.Try.Lt) : List Value := [.int .i64 l.frm, .int .i64 l.kind]
def rvW (w : Go.Ab.Try.Wg) : List Value := [.int .i64 w.lot, .int .i64 w.reads, .int .i64 w.lo, .int .i64 w.hi]
section
variable {H : Type} {enc : TypeId × Value → H} {w : World} {base : Nat} {spare : Nat → Bool} {held : Bool}
theorem list2 {α : Type} {l : List α} (h : l.length = 2) : ∃ a b, l = [a, b] := by
  match l, h with
  | [a, b], _ => exact ⟨a, b, rfl⟩
theorem list3 {α : Type} {l : List α} (h : l.length = 3) : ∃ a b c, l = [a, b, c] := by
  match l, h with
  | [a, b, c], _ => exact ⟨a, b, c, rfl⟩
theorem list4 {α : Type} {l : List α} (h : l.length = 4) : ∃ a b c d, l = [a, b, c, d] := by
  match l, h with
  | [a, b, c, d], _ => exact ⟨a, b, c, d, rfl⟩
theorem take1 {l : List Value} {i : Nat} {v : Value} (h : (l.drop i).take 1 = [v]) : l[i]? = some v := by
  have := congrArg (fun x => x[0]?) h
  simp only [List.getElem?_take, List.getElem?_drop] at this
  simpa using this
theorem int_field {k i j t : Nat} {cs : List Value} {xs : List (DataW H × List MemPlace)} (ht : Try.prog.underlying t = some (.int .i64)) (hc : Try.prog.cellsOf t = 1)
    (hf : DataW.trod enc Try.prog w base spare held k t ((cs.drop i).take (Try.prog.cellsOf t)) = xs[j]?) (hj : j < xs.length) : ∃ a, cs[i]? = some (.int .i64 a) := by
  rw [List.getElem?_eq_getElem hj, hc] at hf
  obtain ⟨a, h1, _⟩ := DataW.trod_int ht hf
  exact ⟨a, take1 h1⟩
theorem lot_row (n : Nat) (cs : List Value) (x : DataW H × List MemPlace) (h : DataW.trod enc Try.prog w base spare held n 44 cs = some x) : ∃ r, cs = rvL r := by
  obtain ⟨xs, k, _, _, hl, hx, hf⟩ := DataW.trod_struct Try.underlying44 h
  rw [Try.cells44] at hl
  replace hx : xs.length = 2 := hx
  obtain ⟨a, ha⟩ := int_field (t := 3) (i := 0) (j := 0) Try.underlying3 Try.cells3 (hf 0 _ rfl) (by omega)
  obtain ⟨b, hb⟩ := int_field (t := 26) (i := 1) (j := 1) Try.underlying26 Try.cells26 (hf 1 _ rfl) (by omega)
  clear hf
  obtain ⟨u, v, rfl⟩ := list2 hl
  simp at ha hb
  exact ⟨⟨a, b⟩, by rw [ha, hb]; rfl⟩
theorem wg_row (n : Nat) (cs : List Value) (x : DataW H × List MemPlace) (h : DataW.trod enc Try.prog w base spare held n 70 cs = some x) : ∃ r, cs = rvW r := by
  obtain ⟨xs, k, _, _, hl, hx, hf⟩ := DataW.trod_struct Try.underlying70 h
  rw [Try.cells70] at hl
  replace hx : xs.length = 3 := hx
  obtain ⟨a, ha⟩ := int_field (t := 3) (i := 0) (j := 0) Try.underlying3 Try.cells3 (hf 0 _ rfl) (by omega)
  obtain ⟨b, hb⟩ := int_field (t := 3) (i := 1) (j := 1) Try.underlying3 Try.cells3 (hf 1 _ rfl) (by omega)
  have f2 : DataW.trod enc Try.prog w base spare held k 38 ((cs.drop 2).take (Try.prog.cellsOf 38)) = xs[2]? := hf 2 _ rfl
  rw [List.getElem?_eq_getElem (by omega), Try.cells38] at f2
  obtain ⟨ys, k', _, _, hl', hy, hf'⟩ := DataW.trod_struct Try.underlying38 f2
  replace hy : ys.length = 2 := hy
  obtain ⟨c, hc⟩ := int_field (t := 3) (i := 0) (j := 0) Try.underlying3 Try.cells3 (hf' 0 _ rfl) (by omega)
  obtain ⟨d, hd⟩ := int_field (t := 3) (i := 1) (j := 1) Try.underlying3 Try.cells3 (hf' 1 _ rfl) (by omega)
  clear hf hf' f2
  obtain ⟨u, v, y, z, rfl⟩ := list4 hl
  simp at ha hb hc hd
  exact ⟨⟨a, b, c, d⟩, by rw [ha, hb, hc, hd]; rfl⟩
def plainS (v : Value) : Prop := ∀ a n c, v = .slice (some a) n c → a.spot = none
set_option maxRecDepth 100000 in
theorem mill_in {v : Value} {d : DataW H} {ps : List MemPlace} {r : Reach} {b0 : Nat} (hval : Value.okWide Try.prog w r b0 25 v) (hd : DataW.Trod enc Try.prog w base spare held 25 v d ps) :
    ∃ errs SL SW, v = .agg #[.int .i64 errs, SL, SW] ∧ plainS SL ∧ plainS SW ∧
      (SL = .slice none 0 0 ∨ ∃ (a : Addr) (len cap : Nat) (rows : List Go.Ab.Try.Lt), SL = .slice (some a) len cap ∧ rows.length = len ∧ len ≤ maxLen ∧ ∀ i (hi : i < rows.length) j, j < 2 → w.cell? ((a.add (i * 2)).add j) = (rvL rows[i])[j]?) ∧
      (SW = .slice none 0 0 ∨ ∃ (a : Addr) (len cap : Nat) (rows : List Go.Ab.Try.Wg), SW = .slice (some a) len cap ∧ rows.length = len ∧ len ≤ maxLen ∧ ∀ i (hi : i < rows.length) j, j < 4 → w.cell? ((a.add (i * 4)).add j) = (rvW rows[i])[j]?) := by
  simp only [Value.okWide, Try.underlying25] at hval
  obtain ⟨cs, rfl, hsz, ts, hts, _, hrow⟩ := hval
  rw [Try.ctypes25] at hts
  cases hts
  rw [Try.cells25] at hsz
  obtain ⟨fuel, hf⟩ := hd
  obtain ⟨xs, k, _, _, hl, hx, hf⟩ := DataW.trod_struct Try.underlying25 hf
  replace hx : xs.length = 3 := hx
  obtain ⟨a, ha⟩ := int_field (t := 3) (i := 0) (j := 0) Try.underlying3 Try.cells3 (hf 0 _ rfl) (by omega)
  have f1 : DataW.trod enc Try.prog w base spare held k 22 (((Value.agg cs).cells.toList.drop 1).take (Try.prog.cellsOf 22)) = xs[1]? := hf 1 _ rfl
  have f2 : DataW.trod enc Try.prog w base spare held k 23 (((Value.agg cs).cells.toList.drop 2).take (Try.prog.cellsOf 23)) = xs[2]? := hf 2 _ rfl
  rw [List.getElem?_eq_getElem (by omega), Try.cells22] at f1
  rw [List.getElem?_eq_getElem (by omega), Try.cells23] at f2
  have g1 := slice_rows (rv := rvL) Try.underlying22 Try.cells44 lot_row f1
  have g2 := slice_rows (rv := rvW) Try.underlying23 Try.cells70 wg_row f2
  clear hf
  obtain ⟨l⟩ := cs
  obtain ⟨u, SL, SW, rfl⟩ := list3 hsz
  simp [Value.cells] at ha
  have p1 : plainS SL := fun a n c e => by
    obtain ⟨t, ht, hok⟩ := hrow 1 SL rfl
    simp at ht; subst ht; subst e
    simp only [Cell.okWide, Try.underlying22, Cell.ok, World.has] at hok
    exact hok.2.2.2.1
  have p2 : plainS SW := fun a n c e => by
    obtain ⟨t, ht, hok⟩ := hrow 2 SW rfl
    simp at ht; subst ht; subst e
    simp only [Cell.okWide, Try.underlying23, Cell.ok, World.has] at hok
    exact hok.2.2.2.1
  refine ⟨a, SL, SW, by rw [ha], p1, p2, ?_, ?_⟩
  · rcases g1 with g1 | ⟨a, len, cap, rows, e, r1, r2, r3⟩
    · exact .inl (by simpa [Value.cells] using g1)
    · exact .inr ⟨a, len, cap, rows, by simpa [Value.cells] using e, r1, r2, r3⟩
  · rcases g2 with g2 | ⟨a, len, cap, rows, e, r1, r2, r3⟩
    · exact .inl (by simpa [Value.cells] using g2)
    · exact .inr ⟨a, len, cap, rows, by simpa [Value.cells] using e, r1, r2, r3⟩
end
def rowsB {ρ : Type} (ev : ρ → List V) (rows : List ρ) : Option Blk := match rows with | [] => none | r :: l => some (.cells .ro ((r :: l).map ev).flatten)
theorem rowsB_some {ρ : Type} {ev : ρ → List V} {rows : List ρ} {x : Blk} (h : rowsB ev rows = some x) : rows ≠ [] ∧ x = .cells .ro (rows.map ev).flatten := by
  cases rows with
  | nil => cases h
  | cons r l => cases h; exact ⟨by simp, rfl⟩
def slV (q : Nat) (S : Value) (n : Nat) : V := match S with | .slice (some _) _ c => .sl q 0 n (.fix c) | _ => .nils
theorem add_add (b off m j : Nat) : ((⟨b, off, none⟩ : Addr).add m).add j = ⟨b, off + (m + j), none⟩ := by
  unfold Addr.add
  by_cases hm : m = 0
  · subst hm
    by_cases hj : j = 0
    · subst hj; simp
    · simp [hj]
  · by_cases hj : j = 0
    · subst hj; simp [hm]
    · simp [hm, hj]; omega
theorem slice_in {w : World} {ρ : Type} {ev : ρ → List V} {rv : ρ → List Value} {k q : Nat} {S : Value} (hk : ∀ r, (ev r).length = k) (h0 : 0 < k) (hconc : ∀ φ r, (ev r).map (conc φ) = rv r) (hp : plainS S)
    (h : S = .slice none 0 0 ∨ ∃ (a : Addr) (len cap : Nat) (rows : List ρ), S = .slice (some a) len cap ∧ rows.length = len ∧ len ≤ maxLen ∧ ∀ i (hi : i < rows.length) j, j < k → w.cell? ((a.add (i * k)).add j) = (rv rows[i])[j]?) :
    ∃ (rows : List ρ) (b off : Nat), rows.length ≤ maxLen ∧ (∀ φ : Phi, φ.blk q = b → φ.off q = off → conc φ (slV q S rows.length) = S ∧ (rows ≠ [] → ∃ o, w.heap[φ.blk q]? = some o ∧ rowIs φ q .ro (rows.map ev).flatten o)) ∧
      ((slV q S rows.length = .nils ∧ rows = []) ∨ ∃ c, slV q S rows.length = .sl q 0 rows.length (.fix c)) := by
  rcases h with rfl | ⟨a, len, cap, rows, rfl, r1, r2, r3⟩
  · exact ⟨[], 0, 0, by simp, fun φ _ _ => ⟨by simp [slV, conc], fun h => absurd rfl h⟩, .inl ⟨rfl, rfl⟩⟩
  · have hs := hp a len cap rfl
    obtain ⟨b, off, sp⟩ := a
    simp only at hs
    subst hs; subst r1
    refine ⟨rows, b, off, r2, fun φ hb ho => ⟨by simp [slV, conc, Phi.at, hb, ho], fun hne => rows_is hk h0 (hconc φ) (fun i hi j hj => ?_) hne hb ho⟩, .inr ⟨cap, rfl⟩⟩
    have := r3 i hi j hj
    rw [add_add] at this
    exact this
theorem slAt_in {ρ : Type} {ev : ρ → List V} {k q : Nat} {S : Value} {rows : List ρ} {h : Go.Ab.H} (hk : ∀ r, (ev r).length = k) (hl : rows.length ≤ maxLen) (hb : h.get q = rowsB ev rows)
    (hs : (slV q S rows.length = .nils ∧ rows = []) ∨ ∃ c, slV q S rows.length = .sl q 0 rows.length (.fix c)) : SlAt h (slV q S rows.length) k (rows.map ev) := by
  have hf : ∀ r ∈ rows.map ev, r.length = k := by simp [hk]
  refine ⟨hf, by simp only [List.length_map]; unfold maxLen at hl; omega, ?_⟩
  rcases hs with ⟨e, e2⟩ | ⟨c, e⟩
  · exact .inl ⟨e, by rw [e2]; rfl⟩
  · refine .inr ⟨q, 0, .fix c, (rows.map ev).flatten, by rw [e]; simp, ?_, getN_eq.2 ⟨?_, ?_⟩⟩
    · cases rows with
      | nil => exact .inl rfl
      | cons r l => exact .inr (cells_of (by rw [hb]; rfl))
    · rw [List.drop_zero, ← flatten_len hf, List.take_length]
    · rw [flatten_len hf]; omega
def inT : List (Option Blk) → Nat → T Blk
  | [], _ => .nil
  | b :: l, i => (inT l (i + 1)).put b i
theorem inT_get : ∀ (l : List (Option Blk)) (i c : Nat), (inT l i).get c = if i ≤ c then (l[c - i]?).join else none
  | [], i, c => by simp [inT, T.get_nil]
  | b :: l, i, c => by
    rw [inT, T.get_put_eq, inT_get l (i + 1) c]
    by_cases e : c = i
    · subst e; simp
    · rw [if_neg e]
      by_cases h : i ≤ c
      · rw [if_pos (by omega), if_pos h, show c - i = (c - (i + 1)) + 1 by omega, List.getElem?_cons_succ]
      · rw [if_neg (by omega), if_neg h]
def inH (l : List (Option Blk)) : Go.Ab.H := ⟨l.length, inT l 0⟩
theorem inH_get (l : List (Option Blk)) (c : Nat) : (inH l).get c = (l[c]?).join := by
  show (inT l 0).get c = _
  rw [inT_get]; simp
structure InAt (φ : Phi) (w : World) (l : List (Option Blk)) : Prop where
  at_ : ∀ c y, (l[c]?).join = some y → ∃ cs, y = .cells .ro cs ∧ (∀ v ∈ cs, ∃ k n, v = .int k n) ∧ ∃ o, w.heap[φ.blk c]? = some o ∧ rowIs φ c .ro cs o
theorem in_rep {φ : Phi} {w : World} {l : List (Option Blk)} (h : InAt φ w l) :
    Rep Go.Ab.Try.tyG φ (inH l).get (fun b => b < l.length) w ∧ (inH l).next = l.length ∧ (inH l).wf ∧ ∀ b y, (inH l).get b = some y → y.rw = false := by
  have hlt : ∀ b y, (inH l).get b = some y → b < l.length := fun b y hy => by
    rw [inH_get] at hy
    by_cases e : b < l.length
    · exact e
    · rw [List.getElem?_eq_none (by omega)] at hy; cases hy
  refine ⟨⟨fun b y hy => ?_, fun b c y z hy hz hrw => ?_, fun b y hy => ?_⟩, rfl, hlt, fun b y hy => ?_⟩
  · rw [inH_get] at hy
    obtain ⟨cs, rfl, _, o, h1, h2⟩ := h.at_ b y hy
    exact ⟨o, h1, h2⟩
  · rw [inH_get] at hy
    obtain ⟨cs, rfl, _⟩ := h.at_ b y hy
    cases hrw
  · have hl := hlt b y hy
    rw [inH_get] at hy
    obtain ⟨cs, rfl, hi, _⟩ := h.at_ b y hy
    exact ⟨hl, scL_iff.2 fun v hv => by obtain ⟨k, n, rfl⟩ := hi v hv; trivial⟩
  · rw [inH_get] at hy
    obtain ⟨cs, rfl, _⟩ := h.at_ b y hy
    rfl
structure SlIn {ρ : Type} (ev : ρ → List V) (k q : Nat) (w : World) (S : Value) (rows : List ρ) (b off : Nat) : Prop where
  len : rows.length ≤ maxLen
  is : ∀ φ : Phi, φ.blk q = b → φ.off q = off → conc φ (slV q S rows.length) = S ∧ (rows ≠ [] → ∃ o, w.heap[φ.blk q]? = some o ∧ rowIs φ q .ro (rows.map ev).flatten o)
  shape : (slV q S rows.length = .nils ∧ rows = []) ∨ ∃ c, slV q S rows.length = .sl q 0 rows.length (.fix c)
theorem SlIn.sc {ρ : Type} {ev : ρ → List V} {k q : Nat} {w : World} {S : Value} {rows : List ρ} {b off : Nat} (h : SlIn ev k q w S rows b off) {n : Nat} (hq : q < n) : (slV q S rows.length).sc fun b => b < n := by
  rcases h.shape with ⟨e, _⟩ | ⟨c, e⟩ <;> rw [e] <;> simp [V.sc]; exact hq
theorem SlIn.blk {ρ : Type} {ev : ρ → List V} {k q : Nat} {w : World} {S : Value} {rows : List ρ} {b off : Nat} (h : SlIn ev k q w S rows b off) {φ : Phi} (hb : φ.blk q = b) (ho : φ.off q = off) (hints : ∀ r, ∀ v ∈ ev r, ∃ k n, v = .int k n) :
    ∀ y, rowsB ev rows = some y → ∃ cs, y = .cells .ro cs ∧ (∀ v ∈ cs, ∃ k n, v = .int k n) ∧ ∃ o, w.heap[φ.blk q]? = some o ∧ rowIs φ q .ro cs o := fun y hy => by
  obtain ⟨e, rfl⟩ := rowsB_some hy
  refine ⟨_, rfl, fun v hv => ?_, (h.is φ hb ho).2 e⟩
  obtain ⟨r, hr, hvr⟩ := List.mem_flatten.1 hv
  obtain ⟨a, _, rfl⟩ := List.mem_map.1 hr
  exact hints a v hvr
theorem SlIn.sl {ρ : Type} {ev : ρ → List V} {k q : Nat} {w : World} {S : Value} {rows : List ρ} {b off : Nat} (h : SlIn ev k q w S rows b off) (hk : ∀ r, (ev r).length = k) {l : List (Option Blk)} (hl : l[q]? = some (rowsB ev rows)) :
    SlAt (inH l) (slV q S rows.length) k (rows.map ev) := slAt_in hk h.len (by rw [inH_get, hl]; rfl) h.shape
theorem slIn {w : World} {ρ : Type} {ev : ρ → List V} {rv : ρ → List Value} {k q : Nat} {S : Value} (hk : ∀ r, (ev r).length = k) (h0 : 0 < k) (hconc : ∀ φ r, (ev r).map (conc φ) = rv r) (hp : plainS S)
    (h : S = .slice none 0 0 ∨ ∃ (a : Addr) (len cap : Nat) (rows : List ρ), S = .slice (some a) len cap ∧ rows.length = len ∧ len ≤ maxLen ∧ ∀ i (hi : i < rows.length) j, j < k → w.cell? ((a.add (i * k)).add j) = (rv rows[i])[j]?) :
    ∃ (rows : List ρ) (b off : Nat), SlIn ev k q w S rows b off := by
  obtain ⟨rows, b, off, h1, h2, h3⟩ := slice_in (q := q) hk h0 hconc hp h
  exact ⟨rows, b, off, h1, h2, h3⟩
theorem encL_all (r : Go.Ab.Try.Lt) : ∀ v ∈ Go.Ab.Try.encL r, ∃ k n, v = .int k n := by
  intro v hv
  simp [Go.Ab.Try.encL] at hv
  rcases hv with rfl | rfl <;> exact ⟨_, _, rfl⟩
theorem encW_all (r : Go.Ab.Try.Wg) : ∀ v ∈ Go.Ab.Try.encW r, ∃ k n, v = .int k n := by
  intro v hv
  simp [Go.Ab.Try.encW] at hv
  rcases hv with rfl | rfl | rfl | rfl <;> exact ⟨_, _, rfl⟩
theorem encI_all (r : Int) : ∀ v ∈ Go.Ab.Try.encI r, ∃ k n, v = .int k n := by
  intro v hv
  simp [Go.Ab.Try.encI] at hv
  subst hv; exact ⟨_, _, rfl⟩
set_option maxRecDepth 100000 in
theorem mill_sl {H' : Type} {enc : TypeId × Value → H'} {w : World} {base : Nat} {spare : Nat → Bool} {held : Bool} {v : Value} {d : DataW H'} {ps : List MemPlace} {r : Reach} {b0 : Nat} (q : Nat) (hval : Value.okWide Try.prog w r b0 25 v) (hd : DataW.Trod enc Try.prog w base spare held 25 v d ps) :
    ∃ errs SL SW lots bL oL wgs bW oW, v = .agg #[.int .i64 errs, SL, SW] ∧ SlIn Go.Ab.Try.encL 2 q w SL lots bL oL ∧ SlIn Go.Ab.Try.encW 4 (q + 1) w SW wgs bW oW := by
  obtain ⟨errs, SL, SW, rfl, p1, p2, h1, h2⟩ := mill_in hval hd
  obtain ⟨lots, bL, oL, iL⟩ := slIn (q := q) (ev := Go.Ab.Try.encL) (k := 2) (fun _ => rfl) (by omega) (fun φ r => by simp [Go.Ab.Try.encL, rvL, conc]) p1 h1
  obtain ⟨wgs, bW, oW, iW⟩ := slIn (q := q + 1) (ev := Go.Ab.Try.encW) (k := 4) (fun _ => rfl) (by omega) (fun φ r => by simp [Go.Ab.Try.encW, rvW, conc]) p2 h2
  exact ⟨_, _, _, _, _, _, _, _, _, rfl, iL, iW⟩
theorem Same.at {W W' : World} (h : Same W W') {p : MemPlace} (hp : p.block < W.heap.size) : W.sameAt W' p := by
  cases p with
  | cell b o => exact World.cell?_of_block (w := W) (h.2.2.2 b hp)
  | map b => exact h.2.2.2 b hp
theorem stays {H : Type} {enc : TypeId × Value → H} {W W' : World} {t : TypeId} {v : Value} {d : DataW H} {ps : List MemPlace} (hr : Try.prog.readableRec t = true) (ht : t < Try.prog.types.size) (hs : Same W W') (hlt : ∀ x ∈ ps, x.block < W.heap.size)
    (h : DataW.Trod enc Try.prog W 0 (fun _ => true) true t v d ps) : DataW.Trod enc Try.prog W' 0 (fun b => decide (b < W.heap.size)) true t v d ps :=
  WideElems.Trod_stays Try.laidOut hr ht h (fun x hx => Same.at hs (hlt x hx)) (fun x hx => by simpa using hlt x hx)
theorem trod_cons {H : Type} {enc : TypeId × Value → H} {W : World} {base : Nat} {sp : Nat → Bool} {held : Bool} {t : TypeId} {ts : List TypeId} {v : Value} {vs : List Value} {d : DataW H} {ds : List (DataW H)} {p q : List MemPlace} (h : DataW.Trod enc Try.prog W base sp held t v d p)
    (k : DataW.TrodAll enc Try.prog W base sp held ts vs ds q) : DataW.TrodAll enc Try.prog W base sp held (t :: ts) (v :: vs) (d :: ds) (p ++ q) := ⟨p, q, h, k, rfl⟩
end Go.Proofs.Ythoghcpemmfebaa
set_option linter.unusedSimpArgs false
set_option linter.unusedVariables false
namespace Go.Proofs.Ythoghcpemmfebaa
open Go.ChangeShapes Go.WideShapes Go.ChangeAt Go.RowKit
open Go.Ab
theorem Try.pcells51 : Try.prog.cellsOf 51 = 1 := by kernel_rfl
theorem Try.pcells53 : Try.prog.cellsOf 53 = 3 := by kernel_rfl
theorem Try.ctypes53 : Try.prog.cellTypes Try.prog.depth 53 = some [3, 51, 51] := by kernel_rfl
section
variable {H : Type} {enc : TypeId × Value → H} {w : World} {base : Nat} {spare : Nat → Bool} {held : Bool}
def rvI (n : Int) : List Value := [.int .i64 n]
theorem pint_row (n : Nat) (cs : List Value) (x : DataW H × List MemPlace) (h : DataW.trod enc Try.prog w base spare held n 3 cs = some x) : ∃ r, cs = rvI r := by
  obtain ⟨a, h1, _⟩ := DataW.trod_int Try.underlying3 h
  exact ⟨a, h1⟩
set_option maxRecDepth 100000 in
theorem proof_in {v : Value} {d : DataW H} {ps : List MemPlace} {r : Reach} {b0 : Nat} (hval : Value.okWide Try.prog w r b0 53 v) (hd : DataW.Trod enc Try.prog w base spare held 53 v d ps) :
    ∃ lot SA SB, v = .agg #[.int .i64 lot, SA, SB] ∧ plainS SA ∧ plainS SB ∧
      (SA = .slice none 0 0 ∨ ∃ (a : Addr) (len cap : Nat) (rows : List Int), SA = .slice (some a) len cap ∧ rows.length = len ∧ len ≤ maxLen ∧ ∀ i (hi : i < rows.length) j, j < 1 → w.cell? ((a.add (i * 1)).add j) = (rvI rows[i])[j]?) ∧
      (SB = .slice none 0 0 ∨ ∃ (a : Addr) (len cap : Nat) (rows : List Int), SB = .slice (some a) len cap ∧ rows.length = len ∧ len ≤ maxLen ∧ ∀ i (hi : i < rows.length) j, j < 1 → w.cell? ((a.add (i * 1)).add j) = (rvI rows[i])[j]?) := by
  simp only [Value.okWide, Try.underlying53] at hval
  obtain ⟨cs, rfl, hsz, ts, hts, _, hrow⟩ := hval
  rw [Try.ctypes53] at hts
  cases hts
  rw [Try.pcells53] at hsz
  obtain ⟨fuel, hf⟩ := hd
  obtain ⟨xs, k, _, _, hl, hx, hf⟩ := DataW.trod_struct Try.underlying53 hf
  replace hx : xs.length = 3 := hx
  obtain ⟨a, ha⟩ := int_field (t := 3) (i := 0) (j := 0) Try.underlying3 Try.cells3 (hf 0 _ rfl) (by omega)
  have f1 : DataW.trod enc Try.prog w base spare held k 51 (((Value.agg cs).cells.toList.drop 1).take (Try.prog.cellsOf 51)) = xs[1]? := hf 1 _ rfl
  have f2 : DataW.trod enc Try.prog w base spare held k 51 (((Value.agg cs).cells.toList.drop 2).take (Try.prog.cellsOf 51)) = xs[2]? := hf 2 _ rfl
  rw [List.getElem?_eq_getElem (by omega), Try.pcells51] at f1
  rw [List.getElem?_eq_getElem (by omega), Try.pcells51] at f2
  have g1 := slice_rows (rv := rvI) Try.underlying51 Try.cells3 pint_row f1
  have g2 := slice_rows (rv := rvI) Try.underlying51 Try.cells3 pint_row f2
  clear hf
  obtain ⟨l⟩ := cs
  obtain ⟨u, SA, SB, rfl⟩ := list3 hsz
  simp [Value.cells] at ha
  have p1 : plainS SA := fun a n c e => by
    obtain ⟨t, ht, hok⟩ := hrow 1 SA rfl
    simp at ht; subst ht; subst e
    simp only [Cell.okWide, Try.underlying51, Cell.ok, World.has] at hok
    exact hok.2.2.2.1
  have p2 : plainS SB := fun a n c e => by
    obtain ⟨t, ht, hok⟩ := hrow 2 SB rfl
    simp at ht; subst ht; subst e
    simp only [Cell.okWide, Try.underlying51, Cell.ok, World.has] at hok
    exact hok.2.2.2.1
  refine ⟨a, SA, SB, by rw [ha], p1, p2, ?_, ?_⟩
  · rcases g1 with g1 | ⟨a, len, cap, rows, e, r1, r2, r3⟩
    · exact .inl (by simpa [Value.cells] using g1)
    · exact .inr ⟨a, len, cap, rows, by simpa [Value.cells] using e, r1, r2, r3⟩
  · rcases g2 with g2 | ⟨a, len, cap, rows, e, r1, r2, r3⟩
    · exact .inl (by simpa [Value.cells] using g2)
    · exact .inr ⟨a, len, cap, rows, by simpa [Value.cells] using e, r1, r2, r3⟩
end
set_option maxRecDepth 100000 in
theorem proof_sl {H' : Type} {enc : TypeId × Value → H'} {w : World} {base : Nat} {spare : Nat → Bool} {held : Bool} {v : Value} {d : DataW H'} {ps : List MemPlace} {r : Reach} {b0 : Nat} (q : Nat) (hval : Value.okWide Try.prog w r b0 53 v) (hd : DataW.Trod enc Try.prog w base spare held 53 v d ps) :
    ∃ lot SA SB la bA oA lb bB oB, v = .agg #[.int .i64 lot, SA, SB] ∧ SlIn Go.Ab.Try.encI 1 q w SA la bA oA ∧ SlIn Go.Ab.Try.encI 1 (q + 1) w SB lb bB oB := by
  obtain ⟨lot, SA, SB, rfl, p1, p2, h1, h2⟩ := proof_in hval hd
  obtain ⟨la, bA, oA, iA⟩ := slIn (q := q) (ev := Go.Ab.Try.encI) (k := 1) (fun _ => rfl) (by omega) (fun φ r => by simp [Go.Ab.Try.encI, rvI, conc]) p1 h1
  obtain ⟨lb, bB, oB, iB⟩ := slIn (q := q + 1) (ev := Go.Ab.Try.encI) (k := 1) (fun _ => rfl) (by omega) (fun φ r => by simp [Go.Ab.Try.encI, rvI, conc]) p2 h2
  exact ⟨_, _, _, _, _, _, _, _, _, rfl, iA, iB⟩
end Go.Proofs.Ythoghcpemmfebaa
set_option linter.unusedSimpArgs false
set_option linter.unusedVariables false
namespace Go.Proofs.Ythoghcpemmfebaa
open Go.ChangeShapes Go.WideShapes Go.ChangeAt Go.RowKit
open Go.Ab
set_option maxRecDepth 100000 in
theorem silkProofs_walk {H' : Type} {enc : TypeId × Value → H'} {W : World} {base : Nat} {spare : Nat → Bool} {held : Bool} {r : Reach} {b0 : Nat} {v0 : Value} {d0 : DataW H'} {p0 : List MemPlace} (hval0 : Value.okWide Try.prog W r b0 25 v0) (hd0 : DataW.Trod enc Try.prog W base spare held 25 v0 d0 p0) {v1 : Value} {d1 : DataW H'} {p1 : List MemPlace} (hval1 : Value.okWide Try.prog W r b0 53 v1) (hd1 : DataW.Trod enc Try.prog W base spare held 53 v1 d1 p1) :
    Calls Try.prog 4 #[v0, v1] W fun x W' => x = .returned (.bool true) ∧ Same W W' := by
  obtain ⟨errs0, SL0, SW0, lots0, bL0, oL0, wgs0, bW0, oW0, rfl, iL0, iW0⟩ := mill_sl 0 hval0 hd0
  obtain ⟨plot1, SA1, SB1, la1, bA1, oA1, lb1, bB1, oB1, rfl, iA1, iB1⟩ := proof_sl 2 hval1 hd1
  let φ : Phi := ⟨fun b => if b = 0 then bL0 else if b = 1 then bW0 else if b = 2 then bA1 else bB1, fun b => if b = 0 then oL0 else if b = 1 then oW0 else if b = 2 then oA1 else oB1, fun _ => 0⟩
  let l : List (Option Blk) := [rowsB Go.Ab.Try.encL lots0, rowsB Go.Ab.Try.encW wgs0, rowsB Go.Ab.Try.encI la1, rowsB Go.Ab.Try.encI lb1]
  have hin : InAt φ W l := ⟨fun c y hy => by
    have hc : c = 0 ∨ c = 1 ∨ c = 2 ∨ c = 3 := by
      by_cases h : c < 4
      · omega
      · rw [List.getElem?_eq_none (by simp [l]; omega)] at hy; cases hy
    rcases hc with rfl | rfl | rfl | rfl
    · exact iL0.blk (φ := φ) rfl rfl encL_all y hy
    · exact iW0.blk (φ := φ) rfl rfl encW_all y hy
    · exact iA1.blk (φ := φ) rfl rfl encI_all y hy
    · exact iB1.blk (φ := φ) rfl rfl encI_all y hy⟩
  obtain ⟨hR, hn, hwf, hro⟩ := in_rep hin
  have hn3 : (inH l).next = 4 := hn
  have hm0 : Go.Ab.Try.MlIs (inH l) (.agg [.int .i64 errs0, slV 0 SL0 lots0.length, slV 1 SW0 wgs0.length]) ⟨errs0, lots0, wgs0⟩ := ⟨_, _, rfl, iL0.sl (fun _ => rfl) rfl, iW0.sl (fun _ => rfl) rfl⟩
  have hA1 : SlAt (inH l) (slV 2 SA1 la1.length) 1 (la1.map Go.Ab.Try.encI) := iA1.sl (fun _ => rfl) rfl
  have hB1 : SlAt (inH l) (slV 3 SB1 lb1.length) 1 (lb1.map Go.Ab.Try.encI) := iB1.sl (fun _ => rfl) rfl
  obtain ⟨u, h', hs, rfl⟩ := Go.Ab.Try.spec_of (fd := Go.Ab.Try.c4) rfl (Go.Ab.Try.SilkProofs_ev hwf hm0 plot1 hA1 hB1)
  have hc := calls_of_spec hs hR (fun b hb _ => by rw [hn3] at hb; show ¬ b < 4; omega) (show scL _ _ from ⟨⟨trivial, iL0.sc (by show 0 < 4; decide), iW0.sc (by show 1 < 4; decide), trivial⟩, ⟨trivial, iA1.sc (by show 2 < 4; decide), iB1.sc (by show 3 < 4; decide), trivial⟩, trivial⟩) hwf hro
  have ea : ([V.agg [.int .i64 errs0, slV 0 SL0 lots0.length, slV 1 SW0 wgs0.length], V.agg [.int .i64 plot1, slV 2 SA1 la1.length, slV 3 SB1 lb1.length]].map (conc φ)).toArray = #[.agg #[.int .i64 errs0, SL0, SW0], .agg #[.int .i64 plot1, SA1, SB1]] := by
    have e0 := (iL0.is φ rfl rfl).1
    have e1 := (iW0.is φ rfl rfl).1
    have e2 := (iA1.is φ rfl rfl).1
    have e3 := (iB1.is φ rfl rfl).1
    simp [conc, concs, e0, e1, e2, e3, Go.Ab.Try.encW, rvW]
  rw [ea] at hc
  refine hc.mono fun e W' he => ?_
  obtain ⟨φ', rfl, hsame⟩ := he
  exact ⟨by simp [conc], hsame⟩
set_option maxRecDepth 100000 in
theorem SilkProofs_lifted (os : Os) (started : os.Started) (H : Type) (enc : TypeId × Value → H) :
    ReturnsInHanded {} Try.checked os 4 .any (Rows.silkProofsSpec.pre6 enc Try.prog Try.f4 Rows.silkProofsRow.domain false) (Rows.silkProofsSpec.post enc Try.prog Try.f4 false true false false) := by
  refine returnsInHanded_of_change (C := Try.checked) Try.own started (by kernel_rfl) Try.func4
    (ChangeSpec.witness6 (enc := enc) (C := Try.checked) false ⟨#[], #[.agg #[.int .i64 0, .slice none 0 0, .slice none 0 0], .agg #[.int .i64 0, .slice none 0 0, .slice none 0 0]], []⟩ 8 (by kernel_rfl) (by kernel_rfl) (by kernel_rfl) (by kernel_rfl)) ?_
  intro W base args ds gs before hval0 hW hcnd _
  have hval : ∀ (j : Nat) t v, Try.f4.params[j]? = some t → args[j]? = some v → Value.okWide Try.prog W .any base t v := hval0
  have hW' := hW
  obtain ⟨p, q, hA0, hV, rfl, hfz, hnd⟩ := hW
  have hA : DataW.TrodAll enc Try.prog W 0 (fun _ => true) true Try.f4.params.toList args.toList ds p := hA0
  rw [Try.params4] at hA hval
  obtain ⟨v0, vs, d0, ds0, p0, q0, ea, rfl, rfl, h0, hr⟩ := trodAll_cons hA
  obtain ⟨v1, vs, d1, ds0, p1, q0, rfl, rfl, rfl, h1, hr⟩ := trodAll_cons hr
  obtain ⟨rfl, rfl, rfl⟩ := trodAll_nil hr
  have ea' : args = #[v0, v1] := by cases args; simp_all
  subst ea'
  obtain ⟨rfl, rfl⟩ := trodVars_none hV
  have hm0 := hval 0 25 v0 rfl rfl
  have hm1 := hval 1 53 v1 rfl rfl
  clear hA0 hval0
  have hlt : ∀ x ∈ p0 ++ (p1 ++ []), x.block < W.heap.size := fun x hx => by simpa using hW'.lt x (by simpa using hx)
  refine (silkProofs_walk hm0 h0 hm1 h1).mono fun x W' hx => ?_
  obtain ⟨rfl, hsame⟩ := hx
  refine ⟨_, rfl, _, _, _, [], p0 ++ (p1 ++ []), [], hW', ?_, ?_, rfl, hsame.keptBut _, fun h => by cases h⟩
  · exact trodAll_mk1 (shut_bool Try.underlying4 true)
  · exact (trod_cons (stays (by kernel_rfl) (of_decide_eq_true (by kernel_rfl)) hsame (fun x hx => hlt x (by simp [hx])) h0)
      (trod_cons (stays (by kernel_rfl) (of_decide_eq_true (by kernel_rfl)) hsame (fun x hx => hlt x (by simp [hx])) h1)
      trodAll_mk0))
theorem SilkProofs_holds : Rows.SilkProofsSaid :=
  OpenClaim.holds_of_wide 4 Try.f4 rfl rfl rfl rfl rfl rfl rfl ⟨rfl, rfl, rfl, rfl, rfl⟩ rfl rfl rfl rfl rfl (by kernel_rfl) Try.func4 (by kernel_rfl)
    (of_decide_eq_true (by kernel_rfl)) (by unfold Func.isWrapper; first | (rw [if_pos (by decide +kernel)]; kernel_rfl) | (rw [if_neg (by decide +kernel)]; exact ⟨rfl, rfl⟩))
    (fun os started H enc _ => SilkProofs_lifted os started H enc)
#print axioms SilkProofs_holds
end Go.Proofs.Ythoghcpemmfebaa
