/- EyeSets is true of the given program at every input, and leaves what is passed in as it was. No condition. awake() is true, wherever it is called. What comes in, as our machine sees it: tables, rows, integers; what stays. A slice of slices of integers that comes in. -/
import Derived.Test.YtkjbamlcgojkmaaGreatRows
import Derived.ProofKit
import Derived.OpenShut
import Derived.Test.YtkjbamlcgojkmaaGreatAwk
import Derived.Test.YtkjbamlcgojkmaaGreatG2
import Derived.Test.YtkjbamlcgojkmaaGreatAbX
import Derived.Test.YtkjbamlcgojkmaaGreatAc7
import Derived.Test.YtkjbamlcgojkmaaGreatAc5
import Derived.Test.YtkjbamlcgojkmaaGreatG7
import Derived.Test.YtkjbamlcgojkmaaGreatG8
namespace Go.Ab.Tryz
open Go.Proofs
theorem awake_spec (h : H) : SpecOk Tryz.prog tyG 9 [] h (.bool true) h :=
 closed_spec (awk_ok.is (args := []) (h := ⟨0, .nil⟩) rfl rfl rfl) trivial h
theorem fastA_ok : FastOk Tryz.prog tyG fastA := by
 refine ⟨fun f g h => ?_⟩
 unfold fastA at h
 split at h
 ·rename_i hb
  have := Nat.eq_of_beq_eq_true hb; subst this
  cases h
  refine ⟨callable (fd := c9) rfl, fun args h v h' e => ?_⟩
  dsimp only at e
  split at e
  ·cases e; exact awake_spec h
  ·cases e
 ·cases h
theorem spec_of {f : FuncId} {fd : FD} (hf : fnG f = some fd) {args : List V} {h : H} {Q : V → H → Prop} (he : Ev fnG fastA (.fn f [] []) args h Q) : ∃ v h', SpecOk Tryz.prog tyG f args h v h' ∧ Q v h' :=
 he.spec tyOK depth_ok mixed_ok fnOK fastA_ok (callable hf)
end Go.Ab.Tryz
set_option linter.unusedSimpArgs false
set_option linter.unusedVariables false
namespace Go.Proofs.YtkjbamlcgojkmaaGreat
open Go.ChangeShapes Go.WideShapes Go.ChangeAt Go.RowKit
open Go.Ab
theorem Tryz.own : ownKnob Tryz.prog.godebug = none := by kernel_rfl
theorem Tryz.laidOut : laidOutB Tryz.prog = true := by kernel_rfl
theorem Tryz.cells3 : Tryz.prog.cellsOf 3 = 1 := by kernel_rfl
theorem Tryz.cells22 : Tryz.prog.cellsOf 22 = 1 := by kernel_rfl
theorem Tryz.cells23 : Tryz.prog.cellsOf 23 = 1 := by kernel_rfl
theorem Tryz.cells24 : Tryz.prog.cellsOf 24 = 1 := by kernel_rfl
theorem Tryz.cells26 : Tryz.prog.cellsOf 26 = 3 := by kernel_rfl
theorem Tryz.cells73 : Tryz.prog.cellsOf 73 = 4 := by kernel_rfl
theorem Tryz.cells74 : Tryz.prog.cellsOf 74 = 3 := by kernel_rfl
theorem Tryz.cells70 : Tryz.prog.cellsOf 70 = 3 := by kernel_rfl
theorem Tryz.ctypes26 : Tryz.prog.cellTypes Tryz.prog.depth 26 = some [22, 23, 24] := by kernel_rfl
def rvD (s : Go.Ab.Tryz.Sd) : List Value := [.int .i64 s.x, .int .i64 s.y, .int .i64 s.z]
def rvE (e : Go.Ab.Tryz.Ey) : List Value := [.int .i64 e.s.x, .int .i64 e.s.y, .int .i64 e.s.z, .int .i64 e.frm]
section
variable {H : Type} {enc : TypeId × Value → H} {w : World} {base : Nat} {spare : Nat → Bool} {held : Bool}
theorem list3 {α : Type} {l : List α} (h : l.length = 3) : ∃ a b c, l = [a, b, c] := by
 match l, h with
 | [a, b, c], _ => exact ⟨a, b, c, rfl⟩
theorem list4 {α : Type} {l : List α} (h : l.length = 4) : ∃ a b c d, l = [a, b, c, d] := by
 match l, h with
 | [a, b, c, d], _ => exact ⟨a, b, c, d, rfl⟩
theorem take1 {l : List Value} {i : Nat} {v : Value} (h : (l.drop i).take 1 = [v]) : l[i]? = some v := by
 have := congrArg (fun x => x[0]?) h
 simp only [List.getElem?_take, List.getElem?_drop] at this
 simpa using this
theorem int_field {k i j t : Nat} {cs : List Value} {xs : List (DataW H × List MemPlace)} (ht : Tryz.prog.underlying t = some (.int .i64)) (hc : Tryz.prog.cellsOf t = 1)
  (hf : DataW.trod enc Tryz.prog w base spare held k t ((cs.drop i).take (Tryz.prog.cellsOf t)) = xs[j]?) (hj : j < xs.length) : ∃ a, cs[i]? = some (.int .i64 a) := by
 rw [List.getElem?_eq_getElem hj, hc] at hf
 obtain ⟨a, h1, _⟩ := DataW.trod_int ht hf
 exact ⟨a, take1 h1⟩
theorem arr_row {t : TypeId} (ht : Tryz.prog.underlying t = some (.array 3 3)) (hc : Tryz.prog.cellsOf t = 3) (n : Nat) (cs : List Value) (x : DataW H × List MemPlace) (h : DataW.trod enc Tryz.prog w base spare held n t cs = some x) : ∃ r, cs = rvD r := by
 obtain ⟨xs, k, _, _, hl, hx, hf⟩ := DataW.trod_array ht h
 rw [hc] at hl
 have get : ∀ i, i < 3 → ∃ a, cs[i]? = some (.int .i64 a) := fun i hi => by
  have f := hf i hi
  rw [List.getElem?_eq_getElem (by omega), Tryz.cells3, Nat.mul_one] at f
  obtain ⟨a, h1, _⟩ := DataW.trod_int Tryz.underlying3 f
  exact ⟨a, take1 h1⟩
 obtain ⟨a, ha⟩ := get 0 (by omega)
 obtain ⟨b, hb⟩ := get 1 (by omega)
 obtain ⟨c, hc⟩ := get 2 (by omega)
 clear hf get
 obtain ⟨u, v, z, rfl⟩ := list3 hl
 simp at ha hb hc
 exact ⟨⟨a, b, c⟩, by rw [ha, hb, hc]; rfl⟩
theorem eye_row (n : Nat) (cs : List Value) (x : DataW H × List MemPlace) (h : DataW.trod enc Tryz.prog w base spare held n 73 cs = some x) : ∃ r, cs = rvE r := by
 obtain ⟨xs, k, _, _, hl, hx, hf⟩ := DataW.trod_struct Tryz.underlying73 h
 rw [Tryz.cells73] at hl
 replace hx : xs.length = 2 := hx
 have f0 : DataW.trod enc Tryz.prog w base spare held k 70 ((cs.drop 0).take (Tryz.prog.cellsOf 70)) = xs[0]? := hf 0 _ rfl
 rw [List.getElem?_eq_getElem (by omega), Tryz.cells70] at f0
 obtain ⟨s, hs⟩ := arr_row Tryz.underlying70 Tryz.cells70 _ _ _ f0
 obtain ⟨d, hd⟩ := int_field (t := 3) (i := 3) (j := 1) Tryz.underlying3 Tryz.cells3 (hf 1 _ rfl) (by omega)
 clear hf f0
 obtain ⟨u, v, y, z, rfl⟩ := list4 hl
 simp at hd
 simp [rvD] at hs
 obtain ⟨h1, h2, h3⟩ := hs
 exact ⟨⟨s, d⟩, by rw [h1, h2, h3, hd]; rfl⟩
def plainS (v : Value) : Prop := ∀ a n c, v = .slice (some a) n c → a.spot = none
set_option maxRecDepth 100000 in
theorem tb_in {v : Value} {d : DataW H} {ps : List MemPlace} {r : Reach} {b0 : Nat} (hval : Value.okWide Tryz.prog w r b0 26 v) (hd : DataW.Trod enc Tryz.prog w base spare held 26 v d ps) :
  ∃ SE SL SP, v = .agg #[SE, SL, SP] ∧ plainS SE ∧ plainS SL ∧ plainS SP ∧
   (SE = .slice none 0 0 ∨ ∃ (a : Addr) (len cap : Nat) (rows : List Go.Ab.Tryz.Ey), SE = .slice (some a) len cap ∧ rows.length = len ∧ len ≤ maxLen ∧ ∀ i (hi : i < rows.length) j, j < 4 → w.cell? ((a.add (i * 4)).add j) = (rvE rows[i])[j]?) ∧
   (SL = .slice none 0 0 ∨ ∃ (a : Addr) (len cap : Nat) (rows : List Go.Ab.Tryz.Sd), SL = .slice (some a) len cap ∧ rows.length = len ∧ len ≤ maxLen ∧ ∀ i (hi : i < rows.length) j, j < 3 → w.cell? ((a.add (i * 3)).add j) = (rvD rows[i])[j]?) ∧
   (SP = .slice none 0 0 ∨ ∃ (a : Addr) (len cap : Nat) (rows : List Go.Ab.Tryz.Sd), SP = .slice (some a) len cap ∧ rows.length = len ∧ len ≤ maxLen ∧ ∀ i (hi : i < rows.length) j, j < 3 → w.cell? ((a.add (i * 3)).add j) = (rvD rows[i])[j]?) := by
 simp only [Value.okWide, Tryz.underlying26] at hval
 obtain ⟨cs, rfl, hsz, ts, hts, _, hrow⟩ := hval
 rw [Tryz.ctypes26] at hts
 cases hts
 rw [Tryz.cells26] at hsz
 obtain ⟨fuel, hf⟩ := hd
 obtain ⟨xs, k, _, _, hl, hx, hf⟩ := DataW.trod_struct Tryz.underlying26 hf
 replace hx : xs.length = 3 := hx
 have f0 : DataW.trod enc Tryz.prog w base spare held k 22 (((Value.agg cs).cells.toList.drop 0).take (Tryz.prog.cellsOf 22)) = xs[0]? := hf 0 _ rfl
 have f1 : DataW.trod enc Tryz.prog w base spare held k 23 (((Value.agg cs).cells.toList.drop 1).take (Tryz.prog.cellsOf 23)) = xs[1]? := hf 1 _ rfl
 have f2 : DataW.trod enc Tryz.prog w base spare held k 24 (((Value.agg cs).cells.toList.drop 2).take (Tryz.prog.cellsOf 24)) = xs[2]? := hf 2 _ rfl
 rw [List.getElem?_eq_getElem (by omega), Tryz.cells22] at f0
 rw [List.getElem?_eq_getElem (by omega), Tryz.cells23] at f1
 rw [List.getElem?_eq_getElem (by omega), Tryz.cells24] at f2
 have g0 := slice_rows (rv := rvE) Tryz.underlying22 Tryz.cells73 eye_row f0
 have g1 := slice_rows (rv := rvD) Tryz.underlying23 Tryz.cells74 (arr_row Tryz.underlying74 Tryz.cells74) f1
 have g2 := slice_rows (rv := rvD) Tryz.underlying24 Tryz.cells70 (arr_row Tryz.underlying70 Tryz.cells70) f2
 clear hf
 obtain ⟨l⟩ := cs
 obtain ⟨SE, SL, SP, rfl⟩ := list3 hsz
 have pl : ∀ (i : Nat) (S : Value) (t e : TypeId), (([22, 23, 24] : List TypeId)[i % ([22, 23, 24] : List TypeId).length]? = some t) → ([SE, SL, SP] : List Value)[i]? = some S → Tryz.prog.underlying t = some (.slice e) → plainS S := fun i S t e ht hS hu a n c e' => by
  obtain ⟨t', ht', hok⟩ := hrow i S (by simpa using hS)
  have e2 : some t' = some t := ht'.symm.trans ht
  cases e2
  subst e'
  simp only [Cell.okWide, hu, Cell.ok, World.has] at hok
  exact hok.2.2.2.1
 refine ⟨SE, SL, SP, rfl, pl 0 SE _ _ rfl rfl Tryz.underlying22, pl 1 SL _ _ rfl rfl Tryz.underlying23, pl 2 SP _ _ rfl rfl Tryz.underlying24, ?_, ?_, ?_⟩
 ·rcases g0 with g1 | ⟨a, len, cap, rows, e, r1, r2, r3⟩
  ·exact .inl (by simpa [Value.cells] using g1)
  ·exact .inr ⟨a, len, cap, rows, by simpa [Value.cells] using e, r1, r2, r3⟩
 ·rcases g1 with g1 | ⟨a, len, cap, rows, e, r1, r2, r3⟩
  ·exact .inl (by simpa [Value.cells] using g1)
  ·exact .inr ⟨a, len, cap, rows, by simpa [Value.cells] using e, r1, r2, r3⟩
 ·rcases g2 with g1 | ⟨a, len, cap, rows, e, r1, r2, r3⟩
  ·exact .inl (by simpa [Value.cells] using g1)
  ·exact .inr ⟨a, len, cap, rows, by simpa [Value.cells] using e, r1, r2, r3⟩
end
def rowsB {ρ : Type} (ev : ρ → List V) (rows : List ρ) : Option Blk := match rows with | [] => none | r :: l => some (.cells .ro ((r :: l).map ev).flatten)
theorem rowsB_some {ρ : Type} {ev : ρ → List V} {rows : List ρ} {x : Blk} (h : rowsB ev rows = some x) : rows ≠ [] ∧ x = .cells .ro (rows.map ev).flatten := by
 cases rows with
 | nil => cases h
 | cons r l => cases h; exact ⟨by simp, rfl⟩
def slV (q : Nat) (S : Value) (n : Nat) : V := match S with | .slice (some _) _ c => .sl q 0 n (.fix c) | _ => .nils
theorem add_add (b off m j : Nat) : ((⟨b, off, none⟩ : Addr).add m).add j = ⟨b, off + (m + j), none⟩ := by
 unfold Addr.add
 by_cases hm : m = 0
 ·subst hm
  by_cases hj : j = 0
  ·subst hj; simp
  ·simp [hj]
 ·by_cases hj : j = 0
  ·subst hj; simp [hm]
  ·simp [hm, hj]; omega
theorem slice_in {w : World} {ρ : Type} {ev : ρ → List V} {rv : ρ → List Value} {k q : Nat} {S : Value} (hk : ∀ r, (ev r).length = k) (h0 : 0 < k) (hconc : ∀ φ r, (ev r).map (conc φ) = rv r) (hp : plainS S)
  (h : S = .slice none 0 0 ∨ ∃ (a : Addr) (len cap : Nat) (rows : List ρ), S = .slice (some a) len cap ∧ rows.length = len ∧ len ≤ maxLen ∧ ∀ i (hi : i < rows.length) j, j < k → w.cell? ((a.add (i * k)).add j) = (rv rows[i])[j]?) :
  ∃ (rows : List ρ) (b off : Nat), rows.length ≤ maxLen ∧ (∀ φ : Phi, φ.blk q = b → φ.off q = off → conc φ (slV q S rows.length) = S ∧ (rows ≠ [] → ∃ o, w.heap[φ.blk q]? = some o ∧ rowIs φ q .ro (rows.map ev).flatten o)) ∧
   ((slV q S rows.length = .nils ∧ rows = []) ∨ ∃ c, slV q S rows.length = .sl q 0 rows.length (.fix c)) := by
 rcases h with rfl | ⟨a, len, cap, rows, rfl, r1, r2, r3⟩
 ·exact ⟨[], 0, 0, by simp, fun φ _ _ => ⟨by simp [slV, conc], fun h => absurd rfl h⟩, .inl ⟨rfl, rfl⟩⟩
 ·have hs := hp a len cap rfl
  obtain ⟨b, off, sp⟩ := a
  simp only at hs
  subst hs; subst r1
  refine ⟨rows, b, off, r2, fun φ hb ho => ⟨by simp [slV, conc, Phi.at, hb, ho], fun hne => rows_is hk h0 (hconc φ) (fun i hi j hj => ?_) hne hb ho⟩, .inr ⟨cap, rfl⟩⟩
  have := r3 i hi j hj
  rw [add_add] at this
  exact this
theorem slAt_in {ρ : Type} {ev : ρ → List V} {k q : Nat} {S : Value} {rows : List ρ} {h : Go.Ab.H} (hk : ∀ r, (ev r).length = k) (hl : rows.length ≤ maxLen) (hb : h.get q = rowsB ev rows)
  (hs : (slV q S rows.length = .nils ∧ rows = []) ∨ ∃ c, slV q S rows.length = .sl q 0 rows.length (.fix c)) : SlAt h (slV q S rows.length) k (rows.map ev) := by
 have hf : ∀ r ∈ rows.map ev, r.length = k := by simp [hk]
 refine ⟨hf, by simp only [List.length_map]; unfold maxLen at hl; omega, ?_⟩
 rcases hs with ⟨e, e2⟩ | ⟨c, e⟩
 ·exact .inl ⟨e, by rw [e2]; rfl⟩
 ·refine .inr ⟨q, 0, .fix c, (rows.map ev).flatten, by rw [e]; simp, ?_, getN_eq.2 ⟨?_, ?_⟩⟩
  ·cases rows with
   | nil => exact .inl rfl
   | cons r l => exact .inr (cells_of (by rw [hb]; rfl))
  ·rw [List.drop_zero, ← flatten_len hf, List.take_length]
  ·rw [flatten_len hf]; omega
def inT : List (Option Blk) → Nat → T Blk
 | [], _ => .nil
 | b :: l, i => (inT l (i + 1)).put b i
theorem inT_get : ∀ (l : List (Option Blk)) (i c : Nat), (inT l i).get c = if i ≤ c then (l[c - i]?).join else none
 | [], i, c => by simp [inT, T.get_nil]
 | b :: l, i, c => by
  rw [inT, T.get_put_eq, inT_get l (i + 1) c]
  by_cases e : c = i
  ·subst e; simp
  ·rw [if_neg e]
   by_cases h : i ≤ c
   ·rw [if_pos (by omega), if_pos h, show c - i = (c - (i + 1)) + 1 by omega, List.getElem?_cons_succ]
   ·rw [if_neg (by omega), if_neg h]
def inH (l : List (Option Blk)) : Go.Ab.H := ⟨l.length, inT l 0⟩
theorem inH_get (l : List (Option Blk)) (c : Nat) : (inH l).get c = (l[c]?).join := by
 show (inT l 0).get c = _
 rw [inT_get]; simp
structure SlIn {ρ : Type} (ev : ρ → List V) (k q : Nat) (w : World) (S : Value) (rows : List ρ) (b off : Nat) : Prop where
 len : rows.length ≤ maxLen
 is : ∀ φ : Phi, φ.blk q = b → φ.off q = off → conc φ (slV q S rows.length) = S ∧ (rows ≠ [] → ∃ o, w.heap[φ.blk q]? = some o ∧ rowIs φ q .ro (rows.map ev).flatten o)
 shape : (slV q S rows.length = .nils ∧ rows = []) ∨ ∃ c, slV q S rows.length = .sl q 0 rows.length (.fix c)
theorem SlIn.sc {ρ : Type} {ev : ρ → List V} {k q : Nat} {w : World} {S : Value} {rows : List ρ} {b off : Nat} (h : SlIn ev k q w S rows b off) {n : Nat} (hq : q < n) : (slV q S rows.length).sc fun b => b < n := by
 rcases h.shape with ⟨e, _⟩ | ⟨c, e⟩ <;> rw [e] <;> simp [V.sc]; exact hq
theorem SlIn.blk {ρ : Type} {ev : ρ → List V} {k q : Nat} {w : World} {S : Value} {rows : List ρ} {b off : Nat} (h : SlIn ev k q w S rows b off) {φ : Phi} (hb : φ.blk q = b) (ho : φ.off q = off) (hints : ∀ r, ∀ v ∈ ev r, ∃ k n, v = .int k n) :
  ∀ y, rowsB ev rows = some y → ∃ cs, y = .cells .ro cs ∧ (∀ v ∈ cs, ∃ k n, v = .int k n) ∧ ∃ o, w.heap[φ.blk q]? = some o ∧ rowIs φ q .ro cs o := fun y hy => by
 obtain ⟨e, rfl⟩ := rowsB_some hy
 refine ⟨_, rfl, fun v hv => ?_, (h.is φ hb ho).2 e⟩
 obtain ⟨r, hr, hvr⟩ := List.mem_flatten.1 hv
 obtain ⟨a, _, rfl⟩ := List.mem_map.1 hr
 exact hints a v hvr
theorem SlIn.sl {ρ : Type} {ev : ρ → List V} {k q : Nat} {w : World} {S : Value} {rows : List ρ} {b off : Nat} (h : SlIn ev k q w S rows b off) (hk : ∀ r, (ev r).length = k) {l : List (Option Blk)} (hl : l[q]? = some (rowsB ev rows)) :
  SlAt (inH l) (slV q S rows.length) k (rows.map ev) := slAt_in hk h.len (by rw [inH_get, hl]; rfl) h.shape
theorem slIn {w : World} {ρ : Type} {ev : ρ → List V} {rv : ρ → List Value} {k q : Nat} {S : Value} (hk : ∀ r, (ev r).length = k) (h0 : 0 < k) (hconc : ∀ φ r, (ev r).map (conc φ) = rv r) (hp : plainS S)
  (h : S = .slice none 0 0 ∨ ∃ (a : Addr) (len cap : Nat) (rows : List ρ), S = .slice (some a) len cap ∧ rows.length = len ∧ len ≤ maxLen ∧ ∀ i (hi : i < rows.length) j, j < k → w.cell? ((a.add (i * k)).add j) = (rv rows[i])[j]?) :
  ∃ (rows : List ρ) (b off : Nat), SlIn ev k q w S rows b off := by
 obtain ⟨rows, b, off, h1, h2, h3⟩ := slice_in (q := q) hk h0 hconc hp h
 exact ⟨rows, b, off, h1, h2, h3⟩
theorem int_row {H : Type} {enc : TypeId × Value → H} {w : World} {base : Nat} {spare : Nat → Bool} {held : Bool} {t : TypeId} (ht : Tryz.prog.underlying t = some (.int .i64)) (n : Nat) (cs : List Value) (x : DataW H × List MemPlace) (h : DataW.trod enc Tryz.prog w base spare held n t cs = some x) : ∃ r : Int, cs = [.int .i64 r] := by
 obtain ⟨a, h1, _⟩ := DataW.trod_int ht h
 exact ⟨a, h1⟩
theorem encI_all (r : Int) : ∀ v ∈ Go.Ab.Tryz.encI r, ∃ k n, v = .int k n := by
 intro v hv
 simp [Go.Ab.Tryz.encI] at hv
 subst hv; exact ⟨_, _, rfl⟩
theorem encD_all (r : Go.Ab.Tryz.Sd) : ∀ v ∈ Go.Ab.Tryz.encD r, ∃ k n, v = .int k n := by
 intro v hv
 simp [Go.Ab.Tryz.encD] at hv
 rcases hv with rfl | rfl | rfl <;> exact ⟨_, _, rfl⟩
theorem encE_all (r : Go.Ab.Tryz.Ey) : ∀ v ∈ Go.Ab.Tryz.encE r, ∃ k n, v = .int k n := by
 intro v hv
 simp [Go.Ab.Tryz.encE] at hv
 rcases hv with rfl | rfl | rfl | rfl <;> exact ⟨_, _, rfl⟩
set_option maxRecDepth 100000 in
theorem tb_sl {H' : Type} {enc : TypeId × Value → H'} {w : World} {base : Nat} {spare : Nat → Bool} {held : Bool} {v : Value} {d : DataW H'} {ps : List MemPlace} {r : Reach} {b0 : Nat} (q : Nat) (hval : Value.okWide Tryz.prog w r b0 26 v) (hd : DataW.Trod enc Tryz.prog w base spare held 26 v d ps) :
  ∃ SE SL SP es bE oE ls bL oL ps bP oP, v = .agg #[SE, SL, SP] ∧ SlIn Go.Ab.Tryz.encE 4 q w SE es bE oE ∧ SlIn Go.Ab.Tryz.encD 3 (q + 1) w SL ls bL oL ∧ SlIn Go.Ab.Tryz.encD 3 (q + 2) w SP ps bP oP := by
 obtain ⟨SE, SL, SP, rfl, p0, p1, p2, h0, h1, h2⟩ := tb_in hval hd
 obtain ⟨es, bE, oE, iE⟩ := slIn (q := q) (ev := Go.Ab.Tryz.encE) (k := 4) (fun _ => rfl) (by omega) (fun φ r => by simp [Go.Ab.Tryz.encE, rvE, conc]) p0 h0
 obtain ⟨ls, bL, oL, iL⟩ := slIn (q := q + 1) (ev := Go.Ab.Tryz.encD) (k := 3) (fun _ => rfl) (by omega) (fun φ r => by simp [Go.Ab.Tryz.encD, rvD, conc]) p1 h1
 obtain ⟨ps, bP, oP, iP⟩ := slIn (q := q + 2) (ev := Go.Ab.Tryz.encD) (k := 3) (fun _ => rfl) (by omega) (fun φ r => by simp [Go.Ab.Tryz.encD, rvD, conc]) p2 h2
 exact ⟨_, _, _, _, _, _, _, _, _, _, _, _, rfl, iE, iL, iP⟩
theorem Same.at {W W' : World} (h : Same W W') {p : MemPlace} (hp : p.block < W.heap.size) : W.sameAt W' p := by
 cases p with
 | cell b o => exact World.cell?_of_block (w := W) (h.2.2.2 b hp)
 | map b => exact h.2.2.2 b hp
theorem stays {H : Type} {enc : TypeId × Value → H} {W W' : World} {t : TypeId} {v : Value} {d : DataW H} {ps : List MemPlace} (hr : Tryz.prog.readableRec t = true) (ht : t < Tryz.prog.types.size) (hs : Same W W') (hlt : ∀ x ∈ ps, x.block < W.heap.size)
  (h : DataW.Trod enc Tryz.prog W 0 (fun _ => true) true t v d ps) : DataW.Trod enc Tryz.prog W' 0 (fun b => decide (b < W.heap.size)) true t v d ps :=
 WideElems.Trod_stays Tryz.laidOut hr ht h (fun x hx => Same.at hs (hlt x hx)) (fun x hx => by simpa using hlt x hx)
theorem trod_cons {H : Type} {enc : TypeId × Value → H} {W : World} {base : Nat} {sp : Nat → Bool} {held : Bool} {t : TypeId} {ts : List TypeId} {v : Value} {vs : List Value} {d : DataW H} {ds : List (DataW H)} {p q : List MemPlace} (h : DataW.Trod enc Tryz.prog W base sp held t v d p)
  (k : DataW.TrodAll enc Tryz.prog W base sp held ts vs ds q) : DataW.TrodAll enc Tryz.prog W base sp held (t :: ts) (v :: vs) (d :: ds) (p ++ q) := ⟨p, q, h, k, rfl⟩
end Go.Proofs.YtkjbamlcgojkmaaGreat
set_option linter.unusedSimpArgs false
set_option linter.unusedVariables false
namespace Go.Proofs.YtkjbamlcgojkmaaGreat
open Go.ChangeShapes Go.WideShapes Go.ChangeAt Go.RowKit
open Go.Ab
open Go.Ab.Tryz (encI RowI RdI)
def InS (w : World) (S : Value) (l : List Int) : Prop :=
 (S = .slice none 0 0 ∧ l = []) ∨ (∃ a, S = .slice (some a) 0 0 ∧ l = []) ∨
 (∃ b off len cap : Nat, S = .slice (some ⟨b, off, none⟩) len cap ∧ ¬ (len = 0 ∧ cap = 0) ∧ l.length = len ∧ len ≤ maxLen ∧ ∀ i (hi : i < l.length), w.cell? ⟨b, off + i, none⟩ = some (.int .i64 l[i]))
theorem inner_row {H : Type} {enc : TypeId × Value → H} {w : World} {base : Nat} {held : Bool} {te ti : TypeId} (ht : Tryz.prog.underlying te = some (.slice ti)) (hti : Tryz.prog.underlying ti = some (.int .i64)) (hc : Tryz.prog.cellsOf ti = 1)
  (n : Nat) (cs : List Value) (x : DataW H × List MemPlace) (h : DataW.trod enc Tryz.prog w base (fun _ => true) held n te cs = some x) : ∃ r : {p : Value × List Int // InS w p.1 p.2}, cs = [r.1.1] := by
 have hs := slice_rows (rv := fun n : Int => [Value.int .i64 n]) ht hc (int_row hti) h
 rcases hs with hs | ⟨a, len, cap, rows, e, r1, r2, r3⟩
 ·exact ⟨⟨(.slice none 0 0, []), .inl ⟨rfl, rfl⟩⟩, hs⟩
 ·by_cases z : len = 0 ∧ cap = 0
  ·obtain ⟨rfl, rfl⟩ := z
   exact ⟨⟨(.slice (some a) 0 0, []), .inr (.inl ⟨a, rfl, rfl⟩)⟩, e⟩
  ·have hsp : a.spot = none := by
    by_cases hl : len = 0
    ·rcases DataW.trod_slice ht h with ⟨h1, _⟩ | ⟨a', len', cap', elems, rest, m, _, h1, _, _, h2, h3, h4, h5, h6, _⟩
     ·rw [h1] at e; cases e
     ·rw [h1] at e
      cases e
      obtain ⟨h7, h8⟩ := h6 rfl
      have h9 := h8 0 (by omega)
      rw [List.getElem?_eq_getElem (by omega), Option.bind_eq_some_iff] at h9
      obtain ⟨row, h10, _⟩ := h9
      obtain ⟨_, h11, h12⟩ := World.cells?_some h10
      rw [hc] at h11 h12
      have h13 := h12 0 (by omega)
      rw [List.getElem?_eq_getElem (by omega)] at h13
      have := World.cell?_spot h13
      simpa [Addr.add, hl] using this
    ·have h13 := r3 0 (by omega) 0 (by omega)
     have := World.cell?_spot (v := .int .i64 (rows[0]'(by omega))) (by rw [h13]; rfl)
     simpa [Addr.add] using this
   obtain ⟨b, off, sp⟩ := a
   simp only at hsp
   subst hsp
   refine ⟨⟨(.slice (some ⟨b, off, none⟩) len cap, rows), .inr (.inr ⟨b, off, len, cap, rfl, z, r1, r2, fun i hi => ?_⟩)⟩, e⟩
   have := r3 i hi 0 (by omega)
   rw [add_add] at this
   simpa using this
def rvV (q : Nat) (S : Value) : V := match S with
 | .slice (some a) n c => if n = 0 ∧ c = 0 then .sl0 a else .sl q 0 n (.fix c)
 | _ => .nils
def rvB (S : Value) : Nat := match S with | .slice (some a) _ _ => a.block | _ => 0
def rvO (S : Value) : Nat := match S with | .slice (some a) _ _ => a.off | _ => 0
theorem InS.conc {w : World} {S : Value} {l : List Int} (h : InS w S l) {φ : Phi} {q : Nat} (hb : φ.blk q = rvB S) (ho : φ.off q = rvO S) : conc φ (rvV q S) = S := by
 rcases h with ⟨rfl, _⟩ | ⟨a, rfl, _⟩ | ⟨b, off, len, cap, rfl, z, _⟩
 ·rfl
 ·simp [rvV, Go.Ab.conc]
 ·simp only [rvB, rvO] at hb ho
  simp only [rvV, if_neg z, Go.Ab.conc, Phi.at, hb, ho, Nat.add_zero]
theorem InS.blk {w : World} {S : Value} {l : List Int} (h : InS w S l) {φ : Phi} {q : Nat} (hb : φ.blk q = rvB S) (ho : φ.off q = rvO S) (hne : l ≠ []) : ∃ o, w.heap[φ.blk q]? = some o ∧ rowIs φ q .ro (l.map encI).flatten o := by
 rcases h with ⟨_, e⟩ | ⟨a, _, e⟩ | ⟨b, off, len, cap, rfl, z, e1, e2, e3⟩
 ·exact absurd e hne
 ·exact absurd e hne
 ·refine rows_is (ev := encI) (rv := fun n => [Value.int .i64 n]) (k := 1) (b := b) (off := off) (fun _ => rfl) (by omega) (fun r => by simp [encI, Go.Ab.conc]) (fun i hi j hj => ?_) hne hb ho
  have : j = 0 := by omega
  subst this
  rw [Nat.mul_one, Nat.add_zero, e3 i hi]; rfl
theorem InS.rowI {w : World} {S : Value} {l : List Int} (h : InS w S l) {hh : Go.Ab.H} {q : Nat} (hb : hh.get q = rowsB encI l) : RowI hh (rvV q S) l := by
 rcases h with ⟨rfl, rfl⟩ | ⟨a, rfl, rfl⟩ | ⟨b, off, len, cap, rfl, z, e1, e2, e3⟩
 ·exact .inl ⟨by simp, by simp, .inl ⟨rfl, rfl⟩⟩
 ·exact .inr ⟨rfl, a, by simp [rvV]⟩
 ·refine .inl ?_
  have hf : ∀ r ∈ l.map encI, r.length = 1 := by simp [encI]
  refine ⟨hf, by simp only [List.length_map]; unfold maxLen at e2; omega, .inr ⟨q, 0, .fix cap, (l.map encI).flatten, by simp only [rvV, if_neg z, e1, List.length_map], ?_, getN_eq.2 ⟨?_, ?_⟩⟩⟩
  ·cases l with
   | nil => exact .inl rfl
   | cons r l => exact .inr (cells_of (by rw [hb]; rfl))
  ·rw [List.drop_zero, ← flatten_len hf, List.take_length]
  ·rw [flatten_len hf]; omega
theorem rvV_sc {S : Value} {q n : Nat} (h : q < n) : (rvV q S).sc fun b => b < n := by
 unfold rvV
 split
 ·split
  ·simp [V.sc]
  ·simpa [V.sc] using h
 ·simp [V.sc]
structure InAt2 (φ : Phi) (w : World) (l : List (Option Blk)) : Prop where
 at_ : ∀ c y, (l[c]?).join = some y → ∃ cs, y = .cells .ro cs ∧ scL (fun b => b < l.length) cs ∧ ∃ o, w.heap[φ.blk c]? = some o ∧ rowIs φ c .ro cs o
theorem in_rep2 {φ : Phi} {w : World} {l : List (Option Blk)} (h : InAt2 φ w l) :
  Rep Go.Ab.Tryz.tyG φ (inH l).get (fun b => b < l.length) w ∧ (inH l).next = l.length ∧ (inH l).wf ∧ ∀ b y, (inH l).get b = some y → y.rw = false := by
 have hlt : ∀ b y, (inH l).get b = some y → b < l.length := fun b y hy => by
  rw [inH_get] at hy
  by_cases e : b < l.length
  ·exact e
  ·rw [List.getElem?_eq_none (by omega)] at hy; cases hy
 refine ⟨⟨fun b y hy => ?_, fun b c y z hy hz hrw => ?_, fun b y hy => ?_⟩, rfl, hlt, fun b y hy => ?_⟩
 ·rw [inH_get] at hy
  obtain ⟨cs, rfl, _, o, h1, h2⟩ := h.at_ b y hy
  exact ⟨o, h1, h2⟩
 ·rw [inH_get] at hy
  obtain ⟨cs, rfl, _⟩ := h.at_ b y hy
  cases hrw
 ·have hl := hlt b y hy
  rw [inH_get] at hy
  obtain ⟨cs, rfl, hi, _⟩ := h.at_ b y hy
  exact ⟨hl, hi⟩
 ·rw [inH_get] at hy
  obtain ⟨cs, rfl, _⟩ := h.at_ b y hy
  rfl
theorem ints_scL {p : Nat → Prop} {cs : List V} (h : ∀ v ∈ cs, ∃ k n, v = .int k n) : scL p cs := scL_iff.2 fun v hv => by obtain ⟨k, n, rfl⟩ := h v hv; trivial
set_option maxRecDepth 100000 in
theorem rows_in {H : Type} {enc : TypeId × Value → H} {w : World} {base : Nat} {held : Bool} {t te ti : TypeId} {v : Value} {d : DataW H} {ps : List MemPlace} {r : Reach} {b0 : Nat}
  (ht : Tryz.prog.underlying t = some (.slice te)) (hte : Tryz.prog.underlying te = some (.slice ti)) (hti : Tryz.prog.underlying ti = some (.int .i64)) (hc : Tryz.prog.cellsOf ti = 1) (hce : Tryz.prog.cellsOf te = 1)
  (hval : Value.okWide Tryz.prog w r b0 t v) (hd : DataW.Trod enc Tryz.prog w base (fun _ => true) held t v d ps) :
  ∃ (rows : List {p : Value × List Int // InS w p.1 p.2}) (b off : Nat), rows.length ≤ maxLen ∧ ((v = .slice none 0 0 ∧ rows = []) ∨ ∃ cap, v = .slice (some ⟨b, off, none⟩) rows.length cap) ∧ ∀ i (hi : i < rows.length), w.cell? ⟨b, off + i, none⟩ = some rows[i].1.1 := by
 simp only [Value.okWide, ht] at hval
 have hp : plainS v := fun a n c e => by
  subst e
  simp only [Cell.okWide, ht, Cell.ok, World.has] at hval
  exact hval.2.2.2.1
 obtain ⟨fuel, hf⟩ := hd
 have hg := slice_rows (rv := fun r : {p : Value × List Int // InS w p.1 p.2} => [r.1.1]) ht hce (inner_row hte hti hc) hf
 have hone : ∀ x, v.cells.toList = [x] → (∃ a n c, x = .slice a n c) → v = x := fun x hx hsl => by
  cases v <;> simp [Value.cells] at hx <;> first | exact hx | skip
  all_goals
   exfalso
   simp only [Cell.okWide, ht, Cell.ok] at hval
 rcases hg with hg | ⟨a, len, cap, rows, e, r1, r2, r3⟩
 ·exact ⟨[], 0, 0, by simp, .inl ⟨hone _ hg ⟨_, _, _, rfl⟩, rfl⟩, fun i hi => by simp at hi⟩
 ·have e1 := hone _ e ⟨_, _, _, rfl⟩
  have hs := hp a len cap e1
  obtain ⟨b, off, sp⟩ := a
  simp only at hs
  subst hs; subst r1
  refine ⟨rows, b, off, r2, .inr ⟨cap, e1⟩, fun i hi => ?_⟩
  have := r3 i hi 0 (by omega)
  rw [add_add] at this
  simpa using this
end Go.Proofs.YtkjbamlcgojkmaaGreat
set_option linter.unusedSimpArgs false
set_option linter.unusedVariables false
namespace Go.Proofs.YtkjbamlcgojkmaaGreat
open Go.ChangeShapes Go.WideShapes Go.ChangeAt Go.RowKit
open Go.Ab
open Go.Ab.Tryz (RowI RdI)
theorem Tryz.cells40 : Tryz.prog.cellsOf 40 = 1 := by kernel_rfl
set_option maxRecDepth 100000 in
set_option maxHeartbeats 2000000 in
theorem eyeSets_walk {H' : Type} {enc : TypeId × Value → H'} {W : World} {base : Nat} {held : Bool} {r : Reach} {b0 : Nat} {v0 : Value} {d0 : DataW H'} {p0 : List MemPlace} (hval0 : Value.okWide Tryz.prog W r b0 26 v0) (hd0 : DataW.Trod enc Tryz.prog W base (fun _ => true) held 26 v0 d0 p0) (a1 : Int) {v2 : Value} {d2 : DataW H'} {p2 : List MemPlace} (hval2 : Value.okWide Tryz.prog W r b0 27 v2) (hd2 : DataW.Trod enc Tryz.prog W base (fun _ => true) held 27 v2 d2 p2) :
  Calls Tryz.prog 3 #[v0, .int .i64 a1, v2] W fun x W' => x = .returned (.bool true) ∧ Same W W' := by
 obtain ⟨SE0, SL0, SP0, es0, bE0, oE0, ls0, bL0, oL0, ps0, bP0, oP0, rfl, iE0, iL0, iP0⟩ := tb_sl 0 hval0 hd0
 obtain ⟨rows, b2, o2, hlen, hv2, hcell⟩ := rows_in Tryz.underlying27 Tryz.underlying40 Tryz.underlying3 Tryz.cells3 Tryz.cells40 hval2 hd2
 let φ : Phi := ⟨fun b => if b = 0 then bE0 else if b = 1 then bL0 else if b = 2 then bP0 else if b = 3 then b2 else match rows[b - 4]? with | some r => rvB r.1.1 | none => 0,
  fun b => if b = 0 then oE0 else if b = 1 then oL0 else if b = 2 then oP0 else if b = 3 then o2 else match rows[b - 4]? with | some r => rvO r.1.1 | none => 0, fun _ => 0⟩
 let xs : List V := (List.finRange rows.length).map fun i => rvV (4 + i.1) rows[i.1].1.1
 let lo : Option Blk := if rows.isEmpty = true then none else some (.cells .ro xs)
 let l : List (Option Blk) := [rowsB Go.Ab.Tryz.encE es0, rowsB Go.Ab.Tryz.encD ls0, rowsB Go.Ab.Tryz.encD ps0, lo] ++ rows.map fun r => rowsB Go.Ab.Tryz.encI r.1.2
 have hll : l.length = 4 + rows.length := by simp [l]; omega
 have hxl : xs.length = rows.length := by simp [xs]
 have hxi : ∀ i (hi : i < rows.length), xs[i]? = some (rvV (4 + i) rows[i].1.1) := fun i hi => by
  simp only [xs]
  rw [List.getElem?_map, List.getElem?_eq_getElem (by simpa using hi), List.getElem_finRange]
  rfl
 have hφb : ∀ i (hi : i < rows.length), φ.blk (4 + i) = rvB rows[i].1.1 := fun i hi => by
  show (if 4 + i = 0 then bE0 else if 4 + i = 1 then bL0 else if 4 + i = 2 then bP0 else if 4 + i = 3 then b2 else match rows[4 + i - 4]? with | some r => rvB r.1.1 | none => 0) = _
  rw [if_neg (by omega), if_neg (by omega), if_neg (by omega), if_neg (by omega), show 4 + i - 4 = i by omega, List.getElem?_eq_getElem hi]
 have hφo : ∀ i (hi : i < rows.length), φ.off (4 + i) = rvO rows[i].1.1 := fun i hi => by
  show (if 4 + i = 0 then oE0 else if 4 + i = 1 then oL0 else if 4 + i = 2 then oP0 else if 4 + i = 3 then o2 else match rows[4 + i - 4]? with | some r => rvO r.1.1 | none => 0) = _
  rw [if_neg (by omega), if_neg (by omega), if_neg (by omega), if_neg (by omega), show 4 + i - 4 = i by omega, List.getElem?_eq_getElem hi]
 have hli : ∀ i (hi : i < rows.length), l[4 + i]? = some (rowsB Go.Ab.Tryz.encI rows[i].1.2) := fun i hi => by
  simp only [l]
  rw [List.getElem?_append_right (by simp)]
  simp [List.getElem?_eq_getElem hi]
 have hlo : lo = if rows = [] then none else some (.cells .ro xs) := by
  show (if rows.isEmpty = true then none else some (Blk.cells .ro xs)) = _
  simp only [List.isEmpty_iff]
 have l3 : l[3]? = some lo := rfl
 have ints := fun (cs : List V) (h : ∀ v ∈ cs, ∃ k n, v = .int k n) => ints_scL (p := fun b => b < l.length) h
 have hin : InAt2 φ W l := ⟨fun c y hy => by
  by_cases h4 : c < 4
  ·have hc : c = 0 ∨ c = 1 ∨ c = 2 ∨ c = 3 := by omega
   rcases hc with rfl | rfl | rfl | rfl
   ·obtain ⟨cs, e1, e2, e3⟩ := iE0.blk (φ := φ) rfl rfl encE_all y hy
    exact ⟨cs, e1, ints cs e2, e3⟩
   ·obtain ⟨cs, e1, e2, e3⟩ := iL0.blk (φ := φ) rfl rfl encD_all y hy
    exact ⟨cs, e1, ints cs e2, e3⟩
   ·obtain ⟨cs, e1, e2, e3⟩ := iP0.blk (φ := φ) rfl rfl encD_all y hy
    exact ⟨cs, e1, ints cs e2, e3⟩
   ·rw [l3, hlo] at hy
    by_cases hne : rows = []
    ·rw [if_pos hne] at hy; cases hy
    ·rw [if_neg hne] at hy
     cases hy
     refine ⟨xs, rfl, scL_iff.2 fun v hv => ?_, ?_⟩
     ·obtain ⟨i, _, rfl⟩ := List.mem_map.1 hv
      exact rvV_sc (by rw [hll]; have := i.2; omega)
     ·have hfl : xs = ((List.finRange rows.length).map fun i => [rvV (4 + i.1) rows[i.1].1.1]).flatten := by
       simp only [xs]
       generalize List.finRange rows.length = q
       induction q with
       | nil => rfl
       | cons a q ih => simp only [List.map_cons, List.flatten_cons, ih, List.singleton_append]
      rw [hfl]
      refine rows_is (ev := fun i : Fin rows.length => [rvV (4 + i.1) rows[i.1].1.1]) (rv := fun i => [rows[i.1].1.1]) (k := 1) (b := b2) (off := o2) (fun _ => rfl) (by omega) (fun i => by simp only [List.map_cons, List.map_nil]; rw [rows[i.1].2.conc (hφb i.1 i.2) (hφo i.1 i.2)]) (fun i hi j hj => ?_) (by
       intro h
       have := congrArg List.length h
       rw [List.length_finRange] at this
       exact hne (List.length_eq_zero_iff.1 this)) rfl rfl
      have : j = 0 := by omega
      subst this
      have hi' : i < rows.length := by simpa using hi
      rw [Nat.mul_one, Nat.add_zero, hcell i hi', List.getElem_finRange]
      rfl
  ·obtain ⟨i, rfl⟩ : ∃ i, c = 4 + i := ⟨c - 4, by omega⟩
   by_cases hi : i < rows.length
   ·rw [hli i hi] at hy
    obtain ⟨e, rfl⟩ := rowsB_some hy
    refine ⟨_, rfl, ints _ fun v hv => ?_, rows[i].2.blk (hφb i hi) (hφo i hi) e⟩
    obtain ⟨r, hr, hvr⟩ := List.mem_flatten.1 hv
    obtain ⟨a, _, rfl⟩ := List.mem_map.1 hr
    exact encI_all a v hvr
   ·rw [List.getElem?_eq_none (by omega)] at hy; cases hy⟩
 obtain ⟨hR, hn, hwf, hro⟩ := in_rep2 hin
 have hn3 : (inH l).next = l.length := hn
 have hm0 : Go.Ab.Tryz.TbIs (inH l) (.agg [slV 0 SE0 es0.length, slV 1 SL0 ls0.length, slV 2 SP0 ps0.length]) ⟨es0, ls0, ps0⟩ := ⟨_, _, _, rfl, iE0.sl (fun _ => rfl) rfl, iL0.sl (fun _ => rfl) rfl, iP0.sl (fun _ => rfl) rfl⟩
 have hk2 : RdI (inH l) (slV 3 v2 rows.length) (rows.map fun r => r.1.2) := by
  refine ⟨xs, ?_, by rw [hxl, List.length_map], fun i hi hj => ?_⟩
  ·have hf : ∀ r ∈ xs.map fun v => [v], r.length = 1 := by simp
   have hfx : (xs.map fun v => [v]).flatten = xs := by
    generalize xs = q
    induction q with
    | nil => rfl
    | cons a q ih => simp only [List.map_cons, List.flatten_cons, ih, List.singleton_append]
   refine ⟨hf, by rw [List.length_map, hxl]; unfold maxLen at hlen; omega, ?_⟩
   rcases hv2 with ⟨e, e2⟩ | ⟨cap, e⟩
   ·refine .inl ⟨by rw [e]; rfl, ?_⟩
    have : xs = [] := List.length_eq_zero_iff.1 (by rw [hxl, e2]; rfl)
    rw [this]; rfl
   ·refine .inr ⟨3, 0, .fix cap, xs, by rw [e, List.length_map, hxl]; rfl, ?_, getN_eq.2 ⟨?_, ?_⟩⟩
    ·by_cases hne : rows = []
     ·refine .inl ?_
      have : xs = [] := List.length_eq_zero_iff.1 (by rw [hxl, hne]; rfl)
      rw [this]; rfl
     ·exact .inr (cells_of (by rw [inH_get, l3, hlo, if_neg hne]; rfl))
    ·rw [hfx, List.drop_zero, List.length_map, Nat.mul_one, List.take_length]
    ·rw [List.length_map]; omega
  ·have hi' : i < rows.length := by rw [hxl] at hi; exact hi
   have e1 : xs[i] = rvV (4 + i) rows[i].1.1 := by
    have := hxi i hi'
    rw [List.getElem?_eq_getElem hi] at this
    exact Option.some.inj this
   rw [e1, List.getElem_map]
   exact rows[i].2.rowI (by rw [inH_get, hli i hi']; rfl)
 obtain ⟨u, h', hs, rfl⟩ := Go.Ab.Tryz.spec_of (fd := Go.Ab.Tryz.c3) rfl (Go.Ab.Tryz.EyeSets_ev hwf hm0 hk2 a1)
 have hl4 : 4 ≤ l.length := by omega
 have sc2 : (slV 3 v2 rows.length).sc fun b => b < l.length := by
  rcases hv2 with ⟨e, _⟩ | ⟨cap, e⟩ <;> rw [e] <;> simp [slV, V.sc]; omega
 have hc := calls_of_spec hs hR (fun b hb _ => by rw [hn3] at hb; show ¬ b < l.length; omega) (show scL _ _ from ⟨⟨iE0.sc (by show 0 < l.length; omega), iL0.sc (by show 1 < l.length; omega), iP0.sc (by show 2 < l.length; omega), trivial⟩, trivial, sc2, trivial⟩) hwf hro
 have ea : ([V.agg [slV 0 SE0 es0.length, slV 1 SL0 ls0.length, slV 2 SP0 ps0.length], V.int .i64 a1, slV 3 v2 rows.length].map (conc φ)).toArray = #[.agg #[SE0, SL0, SP0], .int .i64 a1, v2] := by
  have e0 := (iE0.is φ rfl rfl).1
  have e1 := (iL0.is φ rfl rfl).1
  have e2 := (iP0.is φ rfl rfl).1
  have e3 : conc φ (slV 3 v2 rows.length) = v2 := by
   rcases hv2 with ⟨e, _⟩ | ⟨cap, e⟩ <;> rw [e]
   ·rfl
   ·simp only [slV, conc, Phi.at, Nat.add_zero]; rfl
  simp [conc, concs, e0, e1, e2, e3, Go.Ab.Tryz.encD, rvD]
 rw [ea] at hc
 refine hc.mono fun e W' he => ?_
 obtain ⟨φ', rfl, hsame⟩ := he
 exact ⟨by simp [conc], hsame⟩
set_option maxRecDepth 100000 in
theorem EyeSets_lifted (os : Os) (started : os.Started) (H : Type) (enc : TypeId × Value → H) :
  ReturnsInHanded {} Tryz.checked os 3 .any (Rows.eyeSetsSpec.pre6 enc Tryz.prog Tryz.f3 Rows.eyeSetsRow.domain false) (Rows.eyeSetsSpec.post enc Tryz.prog Tryz.f3 false true false false) := by
 refine returnsInHanded_of_change (C := Tryz.checked) Tryz.own started (by kernel_rfl) Tryz.func3
  (ChangeSpec.witness6 (enc := enc) (C := Tryz.checked) false ⟨#[], #[.agg #[.slice none 0 0, .slice none 0 0, .slice none 0 0], .int .i64 0, .slice none 0 0], []⟩ 8 (by kernel_rfl) (by kernel_rfl) (by kernel_rfl) (by kernel_rfl)) ?_
 intro W base args ds gs before hval0 hW hcnd _
 have hval : ∀ (j : Nat) t v, Tryz.f3.params[j]? = some t → args[j]? = some v → Value.okWide Tryz.prog W .any base t v := hval0
 have hW' := hW
 obtain ⟨p, q, hA0, hV, rfl, hfz, hnd⟩ := hW
 have hA : DataW.TrodAll enc Tryz.prog W 0 (fun _ => true) true Tryz.f3.params.toList args.toList ds p := hA0
 rw [Tryz.params3] at hA hval
 obtain ⟨v0, vs, d0, ds0, p0, q0, ea, rfl, rfl, h0, hr⟩ := trodAll_cons hA
 obtain ⟨v1, vs, d1, ds0, p1, q0, rfl, rfl, rfl, h1, hr⟩ := trodAll_cons hr
 obtain ⟨v2, vs, d2, ds0, p2, q0, rfl, rfl, rfl, h2, hr⟩ := trodAll_cons hr
 obtain ⟨rfl, rfl, rfl⟩ := trodAll_nil hr
 have ea' : args = #[v0, v1, v2] := by cases args; simp_all
 subst ea'
 obtain ⟨rfl, rfl⟩ := trodVars_none hV
 have hm0 := hval 0 26 v0 rfl rfl
 obtain ⟨a1, rfl, rfl, rfl, wa1⟩ := open_int Tryz.underlying3 (hval 1 3 v1 rfl rfl) h1
 have hm2 := hval 2 27 v2 rfl rfl
 clear hA0 hval0
 have hlt : ∀ x ∈ p0 ++ ([] ++ (p2 ++ [])), x.block < W.heap.size := fun x hx => by simpa using hW'.lt x (by simpa using hx)
 refine (eyeSets_walk hm0 h0 a1 hm2 h2).mono fun x W' hx => ?_
 obtain ⟨rfl, hsame⟩ := hx
 refine ⟨_, rfl, _, _, _, [], p0 ++ ([] ++ (p2 ++ [])), [], hW', ?_, ?_, rfl, hsame.keptBut _, fun h => by cases h⟩
 ·exact trodAll_mk1 (shut_bool Tryz.underlying4 true)
 ·exact (trod_cons (stays (by kernel_rfl) (of_decide_eq_true (by kernel_rfl)) hsame (fun x hx => hlt x (by simp [hx])) h0)
   (trod_cons (shut_int Tryz.underlying3 wa1)
   (trod_cons (stays (by kernel_rfl) (of_decide_eq_true (by kernel_rfl)) hsame (fun x hx => hlt x (by simp [hx])) h2)
   trodAll_mk0)))
theorem EyeSets_holds : Rows.EyeSetsSaid :=
 OpenClaim.holds_of_wide 3 Tryz.f3 rfl rfl rfl rfl rfl rfl rfl ⟨rfl, rfl, rfl, rfl, rfl⟩ rfl rfl rfl rfl rfl (by kernel_rfl) Tryz.func3 (by kernel_rfl)
  (of_decide_eq_true (by kernel_rfl)) (by unfold Func.isWrapper; first | (rw [if_pos (by decide +kernel)]; kernel_rfl) | (rw [if_neg (by decide +kernel)]; exact ⟨rfl, rfl⟩))
  (fun os started H enc _ => EyeSets_lifted os started H enc)
#print axioms EyeSets_holds
end Go.Proofs.YtkjbamlcgojkmaaGreat
