/- SilkChecks is true of the given program at every input, and leaves what is passed in as it was. No condition. awake() is true, wherever it is called. -/
import Derived.Test.YthoghcpemmfebaaRows
import Derived.ProofKit
import Derived.Test.YthoghcpemmfebaaAwk
import Derived.Test.YthoghcpemmfebaaG2
import Derived.Test.YthoghcpemmfebaaAbX
import Derived.Test.YthoghcpemmfebaaAc5
namespace Go.Ab.Try
open Go.Proofs
theorem awake_spec (h : H) : SpecOk Try.prog tyG 17 [] h (.bool true) h :=
  closed_spec (awk_ok.is (args := []) (h := ⟨0, .nil⟩) rfl rfl rfl) trivial h
theorem fastA_ok : FastOk Try.prog tyG fastA := by
  refine ⟨fun f g h => ?_⟩
  unfold fastA at h
  split at h
  · rename_i hb
    have := Nat.eq_of_beq_eq_true hb; subst this
    cases h
    refine ⟨callable (fd := c17) rfl, fun args h v h' e => ?_⟩
    dsimp only at e
    split at e
    · cases e; exact awake_spec h
    · cases e
  · cases h
/-- From a contract to the model. -/
theorem spec_of {f : FuncId} {fd : FD} (hf : fnG f = some fd) {args : List V} {h : H} {Q : V → H → Prop} (he : Ev fnG fastA (.fn f [] []) args h Q) : ∃ v h', SpecOk Try.prog tyG f args h v h' ∧ Q v h' :=
  he.spec tyOK depth_ok mixed_ok fnOK fastA_ok (callable hf)
end Go.Ab.Try
set_option linter.unusedSimpArgs false
set_option linter.unusedVariables false
namespace Go.Proofs.Ythoghcpemmfebaa
open Go.ChangeShapes Go.WideShapes Go.ChangeAt Go.RowKit
open Go.Ab
theorem Try.own : ownKnob Try.prog.godebug = none := by kernel_rfl
theorem Try.laidOut : laidOutB Try.prog = true := by kernel_rfl
theorem Try.cells3 : Try.prog.cellsOf 3 = 1 := by kernel_rfl
theorem Try.cells22 : Try.prog.cellsOf 22 = 1 := by kernel_rfl
theorem Try.cells23 : Try.prog.cellsOf 23 = 1 := by kernel_rfl
theorem Try.cells25 : Try.prog.cellsOf 25 = 3 := by kernel_rfl
theorem Try.cells26 : Try.prog.cellsOf 26 = 1 := by kernel_rfl
theorem Try.cells38 : Try.prog.cellsOf 38 = 2 := by kernel_rfl
theorem Try.cells44 : Try.prog.cellsOf 44 = 2 := by kernel_rfl
theorem Try.cells70 : Try.prog.cellsOf 70 = 4 := by kernel_rfl
theorem Try.ctypes25 : Try.prog.cellTypes Try.prog.depth 25 = some [3, 22, 23] := by kernel_rfl
def rvL (l : Go.Ab.Try.Lt) : List Value := [.int .i64 l.frm, .int .i64 l.kind]
def rvW (w : Go.Ab.Try.Wg) : List Value := [.int .i64 w.lot, .int .i64 w.reads, .int .i64 w.lo, .int .i64 w.hi]
section
variable {H : Type} {enc : TypeId × Value → H} {w : World} {base : Nat} {spare : Nat → Bool} {held : Bool}
theorem list2 {α : Type} {l : List α} (h : l.length = 2) : ∃ a b, l = [a, b] := by
  match l, h with
  | [a, b], _ => exact ⟨a, b, rfl⟩
theorem list3 {α : Type} {l : List α} (h : l.length = 3) : ∃ a b c, l = [a, b, c] := by
  match l, h with
  | [a, b, c], _ => exact ⟨a, b, c, rfl⟩
theorem list4 {α : Type} {l : List α} (h : l.length = 4) : ∃ a b c d, l = [a, b, c, d] := by
  match l, h with
  | [a, b, c, d], _ => exact ⟨a, b, c, d, rfl⟩
theorem take1 {l : List Value} {i : Nat} {v : Value} (h : (l.drop i).take 1 = [v]) : l[i]? = some v := by
  have := congrArg (fun x => x[0]?) h
  simp only [List.getElem?_take, List.getElem?_drop] at this
  simpa using this
theorem int_field {k i j t : Nat} {cs : List Value} {xs : List (DataW H × List MemPlace)} (ht : Try.prog.underlying t = some (.int .i64)) (hc : Try.prog.cellsOf t = 1)
    (hf : DataW.trod enc Try.prog w base spare held k t ((cs.drop i).take (Try.prog.cellsOf t)) = xs[j]?) (hj : j < xs.length) : ∃ a, cs[i]? = some (.int .i64 a) := by
  rw [List.getElem?_eq_getElem hj, hc] at hf
  obtain ⟨a, h1, _⟩ := DataW.trod_int ht hf
  exact ⟨a, take1 h1⟩
theorem lot_row (n : Nat) (cs : List Value) (x : DataW H × List MemPlace) (h : DataW.trod enc Try.prog w base spare held n 44 cs = some x) : ∃ r, cs = rvL r := by
  obtain ⟨xs, k, _, _, hl, hx, hf⟩ := DataW.trod_struct Try.underlying44 h
  rw [Try.cells44] at hl
  replace hx : xs.length = 2 := hx
  obtain ⟨a, ha⟩ := int_field (t := 3) (i := 0) (j := 0) Try.underlying3 Try.cells3 (hf 0 _ rfl) (by omega)
  obtain ⟨b, hb⟩ := int_field (t := 26) (i := 1) (j := 1) Try.underlying26 Try.cells26 (hf 1 _ rfl) (by omega)
  clear hf
  obtain ⟨u, v, rfl⟩ := list2 hl
  simp at ha hb
  exact ⟨⟨a, b⟩, by rw [ha, hb]; rfl⟩
theorem wg_row (n : Nat) (cs : List Value) (x : DataW H × List MemPlace) (h : DataW.trod enc Try.prog w base spare held n 70 cs = some x) : ∃ r, cs = rvW r := by
  obtain ⟨xs, k, _, _, hl, hx, hf⟩ := DataW.trod_struct Try.underlying70 h
  rw [Try.cells70] at hl
  replace hx : xs.length = 3 := hx
  obtain ⟨a, ha⟩ := int_field (t := 3) (i := 0) (j := 0) Try.underlying3 Try.cells3 (hf 0 _ rfl) (by omega)
  obtain ⟨b, hb⟩ := int_field (t := 3) (i := 1) (j := 1) Try.underlying3 Try.cells3 (hf 1 _ rfl) (by omega)
  have f2 : DataW.trod enc Try.prog w base spare held k 38 ((cs.drop 2).take (Try.prog.cellsOf 38)) = xs[2]? := hf 2 _ rfl
  rw [List.getElem?_eq_getElem (by omega), Try.cells38] at f2
  obtain ⟨ys, k', _, _, hl', hy, hf'⟩ := DataW.trod_struct Try.underlying38 f2
  replace hy : ys.length = 2 := hy
  obtain ⟨c, hc⟩ := int_field (t := 3) (i := 0) (j := 0) Try.underlying3 Try.cells3 (hf' 0 _ rfl) (by omega)
  obtain ⟨d, hd⟩ := int_field (t := 3) (i := 1) (j := 1) Try.underlying3 Try.cells3 (hf' 1 _ rfl) (by omega)
  clear hf hf' f2
  obtain ⟨u, v, y, z, rfl⟩ := list4 hl
  simp at ha hb hc hd
  exact ⟨⟨a, b, c, d⟩, by rw [ha, hb, hc, hd]; rfl⟩
/-- A slice whose address, if it has one, is a plain one. -/
def plainS (v : Value) : Prop := ∀ a n c, v = .slice (some a) n c → a.spot = none
set_option maxRecDepth 100000 in
/-- A mill that comes in. -/
theorem mill_in {v : Value} {d : DataW H} {ps : List MemPlace} {r : Reach} {b0 : Nat} (hval : Value.okWide Try.prog w r b0 25 v) (hd : DataW.Trod enc Try.prog w base spare held 25 v d ps) :
    ∃ errs SL SW, v = .agg #[.int .i64 errs, SL, SW] ∧ plainS SL ∧ plainS SW ∧
      (SL = .slice none 0 0 ∨ ∃ (a : Addr) (len cap : Nat) (rows : List Go.Ab.Try.Lt), SL = .slice (some a) len cap ∧ rows.length = len ∧ len ≤ maxLen ∧ ∀ i (hi : i < rows.length) j, j < 2 → w.cell? ((a.add (i * 2)).add j) = (rvL rows[i])[j]?) ∧
      (SW = .slice none 0 0 ∨ ∃ (a : Addr) (len cap : Nat) (rows : List Go.Ab.Try.Wg), SW = .slice (some a) len cap ∧ rows.length = len ∧ len ≤ maxLen ∧ ∀ i (hi : i < rows.length) j, j < 4 → w.cell? ((a.add (i * 4)).add j) = (rvW rows[i])[j]?) := by
  simp only [Value.okWide, Try.underlying25] at hval
  obtain ⟨cs, rfl, hsz, ts, hts, _, hrow⟩ := hval
  rw [Try.ctypes25] at hts
  cases hts
  rw [Try.cells25] at hsz
  obtain ⟨fuel, hf⟩ := hd
  obtain ⟨xs, k, _, _, hl, hx, hf⟩ := DataW.trod_struct Try.underlying25 hf
  replace hx : xs.length = 3 := hx
  obtain ⟨a, ha⟩ := int_field (t := 3) (i := 0) (j := 0) Try.underlying3 Try.cells3 (hf 0 _ rfl) (by omega)
  have f1 : DataW.trod enc Try.prog w base spare held k 22 (((Value.agg cs).cells.toList.drop 1).take (Try.prog.cellsOf 22)) = xs[1]? := hf 1 _ rfl
  have f2 : DataW.trod enc Try.prog w base spare held k 23 (((Value.agg cs).cells.toList.drop 2).take (Try.prog.cellsOf 23)) = xs[2]? := hf 2 _ rfl
  rw [List.getElem?_eq_getElem (by omega), Try.cells22] at f1
  rw [List.getElem?_eq_getElem (by omega), Try.cells23] at f2
  have g1 := slice_rows (rv := rvL) Try.underlying22 Try.cells44 lot_row f1
  have g2 := slice_rows (rv := rvW) Try.underlying23 Try.cells70 wg_row f2
  clear hf
  obtain ⟨l⟩ := cs
  obtain ⟨u, SL, SW, rfl⟩ := list3 hsz
  simp [Value.cells] at ha
  have p1 : plainS SL := fun a n c e => by
    obtain ⟨t, ht, hok⟩ := hrow 1 SL rfl
    simp at ht; subst ht; subst e
    simp only [Cell.okWide, Try.underlying22, Cell.ok, World.has] at hok
    exact hok.2.2.2.1
  have p2 : plainS SW := fun a n c e => by
    obtain ⟨t, ht, hok⟩ := hrow 2 SW rfl
    simp at ht; subst ht; subst e
    simp only [Cell.okWide, Try.underlying23, Cell.ok, World.has] at hok
    exact hok.2.2.2.1
  refine ⟨a, SL, SW, by rw [ha], p1, p2, ?_, ?_⟩
  · rcases g1 with g1 | ⟨a, len, cap, rows, e, r1, r2, r3⟩
    · exact .inl (by simpa [Value.cells] using g1)
    · exact .inr ⟨a, len, cap, rows, by simpa [Value.cells] using e, r1, r2, r3⟩
  · rcases g2 with g2 | ⟨a, len, cap, rows, e, r1, r2, r3⟩
    · exact .inl (by simpa [Value.cells] using g2)
    · exact .inr ⟨a, len, cap, rows, by simpa [Value.cells] using e, r1, r2, r3⟩
end
/-- How our machine sees it: the blocks 0 and 1, where there are rows. -/
def rowsB {ρ : Type} (ev : ρ → List V) (rows : List ρ) : Option Blk := match rows with | [] => none | r :: l => some (.cells .ro ((r :: l).map ev).flatten)
def hIn (b0 b1 : Option Blk) : H := ⟨2, (T.nil.put b0 0).put b1 1⟩
theorem hIn_get (b0 b1 : Option Blk) (c : Nat) : (hIn b0 b1).get c = if c = 1 then b1 else if c = 0 then b0 else none := by
  show ((T.nil.put b0 0).put b1 1).get c = _
  rw [T.get_put_eq, T.get_put_eq, T.get_nil]
theorem rowsB_some {ρ : Type} {ev : ρ → List V} {rows : List ρ} {x : Blk} (h : rowsB ev rows = some x) : rows ≠ [] ∧ x = .cells .ro (rows.map ev).flatten := by
  cases rows with
  | nil => cases h
  | cons r l => cases h; exact ⟨by simp, rfl⟩
/-- A slice as our machine sees it. -/
def slV (q : Nat) (S : Value) (n : Nat) : V := match S with | .slice (some _) _ c => .sl q 0 n (.fix c) | _ => .nils
theorem ints_sc {p : Nat → Prop} {l : List V} (h : ∀ v ∈ l, ∃ n, v = .int .i64 n) : scL p l := scL_iff.2 fun v hv => by
  obtain ⟨n, rfl⟩ := h v hv; trivial
theorem add_add (b off m j : Nat) : ((⟨b, off, none⟩ : Addr).add m).add j = ⟨b, off + (m + j), none⟩ := by
  unfold Addr.add
  by_cases hm : m = 0
  · subst hm
    by_cases hj : j = 0
    · subst hj; simp
    · simp [hj]
  · by_cases hj : j = 0
    · subst hj; simp [hm]
    · simp [hm, hj]; omega
theorem slice_in {w : World} {ρ : Type} {ev : ρ → List V} {rv : ρ → List Value} {k q : Nat} {S : Value} (hk : ∀ r, (ev r).length = k) (h0 : 0 < k) (hconc : ∀ φ r, (ev r).map (conc φ) = rv r) (hp : plainS S)
    (h : S = .slice none 0 0 ∨ ∃ (a : Addr) (len cap : Nat) (rows : List ρ), S = .slice (some a) len cap ∧ rows.length = len ∧ len ≤ maxLen ∧ ∀ i (hi : i < rows.length) j, j < k → w.cell? ((a.add (i * k)).add j) = (rv rows[i])[j]?) :
    ∃ (rows : List ρ) (b off : Nat), rows.length ≤ maxLen ∧ (∀ φ : Phi, φ.blk q = b → φ.off q = off → conc φ (slV q S rows.length) = S ∧ (rows ≠ [] → ∃ o, w.heap[φ.blk q]? = some o ∧ rowIs φ q .ro (rows.map ev).flatten o)) ∧
      ((slV q S rows.length = .nils ∧ rows = []) ∨ ∃ c, slV q S rows.length = .sl q 0 rows.length (.fix c)) := by
  rcases h with rfl | ⟨a, len, cap, rows, rfl, r1, r2, r3⟩
  · exact ⟨[], 0, 0, by simp, fun φ _ _ => ⟨by simp [slV, conc], fun h => absurd rfl h⟩, .inl ⟨rfl, rfl⟩⟩
  · have hs := hp a len cap rfl
    obtain ⟨b, off, sp⟩ := a
    simp only at hs
    subst hs; subst r1
    refine ⟨rows, b, off, r2, fun φ hb ho => ⟨by simp [slV, conc, Phi.at, hb, ho], fun hne => rows_is hk h0 (hconc φ) (fun i hi j hj => ?_) hne hb ho⟩, .inr ⟨cap, rfl⟩⟩
    have := r3 i hi j hj
    rw [add_add] at this
    exact this
theorem slAt_in {ρ : Type} {ev : ρ → List V} {k q : Nat} {S : Value} {rows : List ρ} {h : Go.Ab.H} (hk : ∀ r, (ev r).length = k) (hl : rows.length ≤ maxLen) (hb : h.get q = rowsB ev rows)
    (hs : (slV q S rows.length = .nils ∧ rows = []) ∨ ∃ c, slV q S rows.length = .sl q 0 rows.length (.fix c)) : SlAt h (slV q S rows.length) k (rows.map ev) := by
  have hf : ∀ r ∈ rows.map ev, r.length = k := by simp [hk]
  refine ⟨hf, by simp only [List.length_map]; unfold maxLen at hl; omega, ?_⟩
  rcases hs with ⟨e, e2⟩ | ⟨c, e⟩
  · exact .inl ⟨e, by rw [e2]; rfl⟩
  · refine .inr ⟨q, 0, .fix c, (rows.map ev).flatten, by rw [e]; simp, ?_, getN_eq.2 ⟨?_, ?_⟩⟩
    · cases rows with
      | nil => exact .inl rfl
      | cons r l => exact .inr (cells_of (by rw [hb]; rfl))
    · rw [List.drop_zero, ← flatten_len hf, List.take_length]
    · rw [flatten_len hf]; omega
theorem encL_ints {rows : List Go.Ab.Try.Lt} : ∀ v ∈ (rows.map Go.Ab.Try.encL).flatten, ∃ n, v = .int .i64 n := by
  intro v hv
  obtain ⟨r, hr, hvr⟩ := List.mem_flatten.1 hv
  obtain ⟨a, _, rfl⟩ := List.mem_map.1 hr
  simp [Go.Ab.Try.encL] at hvr
  rcases hvr with rfl | rfl <;> exact ⟨_, rfl⟩
theorem encW_ints {rows : List Go.Ab.Try.Wg} : ∀ v ∈ (rows.map Go.Ab.Try.encW).flatten, ∃ n, v = .int .i64 n := by
  intro v hv
  obtain ⟨r, hr, hvr⟩ := List.mem_flatten.1 hv
  obtain ⟨a, _, rfl⟩ := List.mem_map.1 hr
  simp [Go.Ab.Try.encW] at hvr
  rcases hvr with rfl | rfl | rfl | rfl <;> exact ⟨_, rfl⟩
set_option maxRecDepth 100000 in
/-- A mill that comes in, as our machine sees it. -/
theorem mill_rep {H' : Type} {enc : TypeId × Value → H'} {w : World} {base : Nat} {spare : Nat → Bool} {held : Bool} {v : Value} {d : DataW H'} {ps : List MemPlace} {r : Reach} {b0 : Nat} (hval : Value.okWide Try.prog w r b0 25 v) (hd : DataW.Trod enc Try.prog w base spare held 25 v d ps) :
    ∃ (φ : Phi) (h : Go.Ab.H) (x : V) (m : Go.Ab.Try.Ml), conc φ x = v ∧ Rep Go.Ab.Try.tyG φ h.get (fun b => b < 2) w ∧ h.next = 2 ∧ h.wf ∧ (∀ b y, h.get b = some y → y.rw = false) ∧ x.sc (fun b => b < 2) ∧ Go.Ab.Try.MlIs h x m := by
  obtain ⟨errs, SL, SW, rfl, p1, p2, h1, h2⟩ := mill_in hval hd
  obtain ⟨lots, bL, oL, nL, fL, sL⟩ := slice_in (q := 0) (ev := Go.Ab.Try.encL) (k := 2) (fun _ => rfl) (by omega) (fun φ r => by simp [Go.Ab.Try.encL, rvL, conc]) p1 h1
  obtain ⟨wgs, bW, oW, nW, fW, sW⟩ := slice_in (q := 1) (ev := Go.Ab.Try.encW) (k := 4) (fun _ => rfl) (by omega) (fun φ r => by simp [Go.Ab.Try.encW, rvW, conc]) p2 h2
  have hx0 : ∀ y, (hIn (rowsB Go.Ab.Try.encL lots) (rowsB Go.Ab.Try.encW wgs)).get 0 = some y → lots ≠ [] ∧ y = .cells .ro (lots.map Go.Ab.Try.encL).flatten := fun y hy => rowsB_some (by rw [hIn_get] at hy; exact hy)
  have hx1 : ∀ y, (hIn (rowsB Go.Ab.Try.encL lots) (rowsB Go.Ab.Try.encW wgs)).get 1 = some y → wgs ≠ [] ∧ y = .cells .ro (wgs.map Go.Ab.Try.encW).flatten := fun y hy => rowsB_some (by rw [hIn_get] at hy; exact hy)
  have hxb : ∀ b y, (hIn (rowsB Go.Ab.Try.encL lots) (rowsB Go.Ab.Try.encW wgs)).get b = some y → b = 0 ∨ b = 1 := fun b y hy => by
    rw [hIn_get] at hy
    by_cases e1 : b = 1
    · exact .inr e1
    · by_cases e0 : b = 0
      · exact .inl e0
      · rw [if_neg e1, if_neg e0] at hy; cases hy
  obtain ⟨cL, rL⟩ := fL ⟨fun b => if b = 0 then bL else bW, fun b => if b = 0 then oL else oW, fun _ => 0⟩ rfl rfl
  obtain ⟨cW, rW⟩ := fW ⟨fun b => if b = 0 then bL else bW, fun b => if b = 0 then oL else oW, fun _ => 0⟩ rfl rfl
  refine ⟨⟨fun b => if b = 0 then bL else bW, fun b => if b = 0 then oL else oW, fun _ => 0⟩, hIn (rowsB Go.Ab.Try.encL lots) (rowsB Go.Ab.Try.encW wgs), .agg [.int .i64 errs, slV 0 SL lots.length, slV 1 SW wgs.length], ⟨errs, lots, wgs⟩, ?_, ⟨?_, ?_, ?_⟩, rfl, ?_, ?_, ?_, ?_⟩
  · simp [conc, concs, cL, cW]
  · intro b y hy
    rcases hxb b y hy with rfl | rfl
    · obtain ⟨e, rfl⟩ := hx0 y hy; exact rL e
    · obtain ⟨e, rfl⟩ := hx1 y hy; exact rW e
  · intro b c y z hy hz hrw
    rcases hxb b y hy with rfl | rfl
    · obtain ⟨e, rfl⟩ := hx0 y hy; cases hrw
    · obtain ⟨e, rfl⟩ := hx1 y hy; cases hrw
  · intro b y hy
    rcases hxb b y hy with rfl | rfl
    · obtain ⟨e, rfl⟩ := hx0 y hy; exact ⟨by omega, ints_sc encL_ints⟩
    · obtain ⟨e, rfl⟩ := hx1 y hy; exact ⟨by omega, ints_sc encW_ints⟩
  · intro b y hy
    show b < 2
    rcases hxb b y hy with rfl | rfl <;> omega
  · intro b y hy
    rcases hxb b y hy with rfl | rfl
    · obtain ⟨e, rfl⟩ := hx0 y hy; rfl
    · obtain ⟨e, rfl⟩ := hx1 y hy; rfl
  · have s0 : (slV 0 SL lots.length).sc fun b => b < 2 := by rcases sL with ⟨e, _⟩ | ⟨c, e⟩ <;> rw [e] <;> simp [V.sc]
    have s1 : (slV 1 SW wgs.length).sc fun b => b < 2 := by rcases sW with ⟨e, _⟩ | ⟨c, e⟩ <;> rw [e] <;> simp [V.sc]
    exact ⟨trivial, s0, s1, trivial⟩
  · exact ⟨_, _, rfl, slAt_in (fun _ => rfl) nL (hIn_get _ _ 0) sL, slAt_in (fun _ => rfl) nW (hIn_get _ _ 1) sW⟩
set_option maxRecDepth 100000 in
theorem checks_walk {H' : Type} {enc : TypeId × Value → H'} {W : World} {base : Nat} {spare : Nat → Bool} {held : Bool} {v : Value} {d : DataW H'} {ps : List MemPlace} {r : Reach} {b0 : Nat} (hval : Value.okWide Try.prog W r b0 25 v) (hd : DataW.Trod enc Try.prog W base spare held 25 v d ps) (lot wg : Int) :
    Calls Try.prog 11 #[v, .int .i64 lot, .int .i64 wg] W fun x W' => x = .returned (.bool true) ∧ Same W W' := by
  obtain ⟨φ, h, x, m, hx, hR, hn, hwf, hro, hsc, hm⟩ := mill_rep hval hd
  obtain ⟨u, h', hs, rfl⟩ := Go.Ab.Try.spec_of (fd := Go.Ab.Try.c11) rfl (Go.Ab.Try.SilkChecks_ev hwf hm lot wg)
  have hc := calls_of_spec hs hR (fun b hb _ => by rw [hn] at hb; show ¬ b < 2; omega) (show scL _ _ from ⟨hsc, trivial, trivial, trivial⟩) hwf hro
  have ea : ([x, V.int .i64 lot, V.int .i64 wg].map (conc φ)).toArray = #[v, .int .i64 lot, .int .i64 wg] := by simp [hx, conc]
  rw [ea] at hc
  refine hc.mono fun e W' he => ?_
  obtain ⟨φ', rfl, hsame⟩ := he
  exact ⟨by simp [conc], hsame⟩
theorem Same.at {W W' : World} (h : Same W W') {p : MemPlace} (hp : p.block < W.heap.size) : W.sameAt W' p := by
  cases p with
  | cell b o => exact World.cell?_of_block (w := W) (h.2.2.2 b hp)
  | map b => exact h.2.2.2 b hp
set_option maxRecDepth 100000 in
theorem SilkChecks_lifted (os : Os) (started : os.Started) (H : Type) (enc : TypeId × Value → H) :
    ReturnsInHanded {} Try.checked os 11 .any (Rows.silkChecksSpec.pre6 enc Try.prog Try.f11 Rows.silkChecksRow.domain false) (Rows.silkChecksSpec.post enc Try.prog Try.f11 false true false false) := by
  refine returnsInHanded_of_change (C := Try.checked) Try.own started (by kernel_rfl) Try.func11
    (ChangeSpec.witness6 (enc := enc) (C := Try.checked) false ⟨#[], #[.agg #[.int .i64 0, .slice none 0 0, .slice none 0 0], .int .i64 0, .int .i64 0], []⟩ 8 (by kernel_rfl) (by kernel_rfl) (by kernel_rfl) (by kernel_rfl)) ?_
  intro W base args ds gs before hval0 hW hcnd _
  have hval : ∀ (j : Nat) t v, Try.f11.params[j]? = some t → args[j]? = some v → Value.okWide Try.prog W .any base t v := hval0
  have hW' := hW
  obtain ⟨p, q, hA0, hV, rfl, hfz, hnd⟩ := hW
  have hA : DataW.TrodAll enc Try.prog W 0 (fun _ => true) true Try.f11.params.toList args.toList ds p := hA0
  rw [Try.params11] at hA hval
  obtain ⟨v0, vs, d0, ds0, p0, q0, ea, rfl, rfl, h0, hr⟩ := trodAll_cons hA
  obtain ⟨v1, vs, d1, ds0, p1, q0, rfl, rfl, rfl, h1, hr⟩ := trodAll_cons hr
  obtain ⟨v2, vs, d2, ds0, p2, q0, rfl, rfl, rfl, h2, hr⟩ := trodAll_cons hr
  obtain ⟨rfl, rfl, rfl⟩ := trodAll_nil hr
  have ea' : args = #[v0, v1, v2] := by cases args; simp_all
  subst ea'
  obtain ⟨rfl, rfl⟩ := trodVars_none hV
  obtain ⟨a, rfl, rfl, rfl, wa⟩ := open_int Try.underlying3 (hval 1 3 v1 rfl rfl) h1
  obtain ⟨b, rfl, rfl, rfl, wb⟩ := open_int Try.underlying3 (hval 2 3 v2 rfl rfl) h2
  have hm := hval 0 25 v0 rfl rfl
  clear hA0 hval0
  have hlt : ∀ x ∈ p0, x.block < W.heap.size := fun x hx => by simpa using hW'.lt x (by simp [hx])
  simp only [List.append_nil] at hW'
  refine (checks_walk hm h0 a b).mono fun x W' hx => ?_
  obtain ⟨rfl, hsame⟩ := hx
  refine ⟨_, rfl, _, _, _, [], p0 ++ ([] ++ []), [], hW', ?_, ?_, rfl, hsame.keptBut _, fun h => by cases h⟩
  · exact trodAll_mk1 (shut_bool Try.underlying4 true)
  · exact trodAll_mk3 (WideElems.Trod_stays Try.laidOut (by kernel_rfl) (of_decide_eq_true (by kernel_rfl)) h0 (fun x hx => Same.at hsame (hlt x hx)) (fun x hx => by simpa using hlt x hx)) (shut_int Try.underlying3 wa) (shut_int Try.underlying3 wb)
theorem SilkChecks_holds : Rows.SilkChecksSaid :=
  OpenClaim.holds_of_wide 11 Try.f11 rfl rfl rfl rfl rfl rfl rfl ⟨rfl, rfl, rfl, rfl, rfl⟩ rfl rfl rfl rfl rfl (by kernel_rfl) Try.func11 (by kernel_rfl)
    (of_decide_eq_true (by kernel_rfl)) (by unfold Func.isWrapper; first | (rw [if_pos (by decide +kernel)]; kernel_rfl) | (rw [if_neg (by decide +kernel)]; exact ⟨rfl, rfl⟩))
    (fun os started H enc _ => SilkChecks_lifted os started H enc)
#print axioms SilkChecks_holds
end Go.Proofs.Ythoghcpemmfebaa
