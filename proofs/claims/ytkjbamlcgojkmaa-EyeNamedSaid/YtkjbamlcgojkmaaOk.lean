/- The types and the code that our machine has are the program's (printed by a program of ours). -/
import Derived.Test.YtkjbamlcgojkmaaProg
import Derived.Test.YtkjbamlcgojkmaaDat
import Derived.Test.YtkjbamlcgojkmaaAbS
import Derived.KernelRfl
set_option linter.unusedSimpArgs false
set_option linter.unusedVariables false
namespace Go.Ab.Try
open Go.Proofs

theorem ty3_is : ∃ i u, TyIs Try.prog 3 ty3 i u :=
  ⟨Try.prog.types.getD 3 default, _, {
    info := by kernel_rfl
    under := Try.underlying3
    is := by simp [ty3, UD.is]
    size := by kernel_rfl
    bytes := by kernel_rfl
    zero := by kernel_rfl
    sc := by simp [ty3, scL, V.sc]
    len := by kernel_rfl
    one := fun _ => ⟨_, rfl, rfl⟩
    stood := by kernel_rfl }⟩

theorem ty4_is : ∃ i u, TyIs Try.prog 4 ty4 i u :=
  ⟨Try.prog.types.getD 4 default, _, {
    info := by kernel_rfl
    under := Try.underlying4
    is := by simp [ty4, UD.is]
    size := by kernel_rfl
    bytes := by kernel_rfl
    zero := by kernel_rfl
    sc := by simp [ty4, scL, V.sc]
    len := by kernel_rfl
    one := fun _ => ⟨_, rfl, rfl⟩
    stood := by kernel_rfl }⟩

theorem ty5_is : ∃ i u, TyIs Try.prog 5 ty5 i u :=
  ⟨Try.prog.types.getD 5 default, _, {
    info := by kernel_rfl
    under := Try.underlying5
    is := by simp [ty5, UD.is]
    size := by kernel_rfl
    bytes := by kernel_rfl
    zero := by kernel_rfl
    sc := by simp [ty5, scL, V.sc]
    len := by kernel_rfl
    one := fun _ => ⟨_, rfl, rfl⟩
    stood := by kernel_rfl }⟩

theorem ty22_is : ∃ i u, TyIs Try.prog 22 ty22 i u :=
  ⟨Try.prog.types.getD 22 default, _, {
    info := by kernel_rfl
    under := Try.underlying22
    is := by simp [ty22, UD.is]
    size := by kernel_rfl
    bytes := by kernel_rfl
    zero := by kernel_rfl
    sc := by simp [ty22, scL, V.sc]
    len := by kernel_rfl
    one := fun _ => ⟨_, rfl, rfl⟩
    stood := by kernel_rfl }⟩

theorem ty23_is : ∃ i u, TyIs Try.prog 23 ty23 i u :=
  ⟨Try.prog.types.getD 23 default, _, {
    info := by kernel_rfl
    under := Try.underlying23
    is := by simp [ty23, UD.is]
    size := by kernel_rfl
    bytes := by kernel_rfl
    zero := by kernel_rfl
    sc := by simp [ty23, scL, V.sc]
    len := by kernel_rfl
    one := fun _ => ⟨_, rfl, rfl⟩
    stood := by kernel_rfl }⟩

theorem ty24_is : ∃ i u, TyIs Try.prog 24 ty24 i u :=
  ⟨Try.prog.types.getD 24 default, _, {
    info := by kernel_rfl
    under := Try.underlying24
    is := by simp [ty24, UD.is]
    size := by kernel_rfl
    bytes := by kernel_rfl
    zero := by kernel_rfl
    sc := by simp [ty24, scL, V.sc]
    len := by kernel_rfl
    one := fun _ => ⟨_, rfl, rfl⟩
    stood := by kernel_rfl }⟩

theorem ty26_is : ∃ i u, TyIs Try.prog 26 ty26 i u :=
  ⟨Try.prog.types.getD 26 default, _, {
    info := by kernel_rfl
    under := Try.underlying26
    is := by simp [ty26, UD.is]
    size := by kernel_rfl
    bytes := by kernel_rfl
    zero := by kernel_rfl
    sc := by simp [ty26, scL, V.sc]
    len := by kernel_rfl
    one := by intro h; cases h
    stood := by kernel_rfl }⟩

theorem ty35_is : ∃ i u, TyIs Try.prog 35 ty35 i u :=
  ⟨Try.prog.types.getD 35 default, _, {
    info := by kernel_rfl
    under := Try.underlying35
    is := by simp [ty35, UD.is]
    size := by kernel_rfl
    bytes := by kernel_rfl
    zero := by kernel_rfl
    sc := by simp [ty35, scL, V.sc]
    len := by kernel_rfl
    one := fun _ => ⟨_, rfl, rfl⟩
    stood := by kernel_rfl }⟩

theorem ty37_is : ∃ i u, TyIs Try.prog 37 ty37 i u :=
  ⟨Try.prog.types.getD 37 default, _, {
    info := by kernel_rfl
    under := Try.underlying37
    is := by simp [ty37, UD.is]
    size := by kernel_rfl
    bytes := by kernel_rfl
    zero := by kernel_rfl
    sc := by simp [ty37, scL, V.sc]
    len := by kernel_rfl
    one := fun _ => ⟨_, rfl, rfl⟩
    stood := by kernel_rfl }⟩

theorem ty38_is : ∃ i u, TyIs Try.prog 38 ty38 i u :=
  ⟨Try.prog.types.getD 38 default, _, {
    info := by kernel_rfl
    under := Try.underlying38
    is := by simp [ty38, UD.is]
    size := by kernel_rfl
    bytes := by kernel_rfl
    zero := by kernel_rfl
    sc := by simp [ty38, scL, V.sc]
    len := by kernel_rfl
    one := fun _ => ⟨_, rfl, rfl⟩
    stood := by kernel_rfl }⟩

theorem ty51_is : ∃ i u, TyIs Try.prog 51 ty51 i u :=
  ⟨Try.prog.types.getD 51 default, _, {
    info := by kernel_rfl
    under := Try.underlying51
    is := by simp [ty51, UD.is]
    size := by kernel_rfl
    bytes := by kernel_rfl
    zero := by kernel_rfl
    sc := by simp [ty51, scL, V.sc]
    len := by kernel_rfl
    one := fun _ => ⟨_, rfl, rfl⟩
    stood := by kernel_rfl }⟩

theorem ty56_is : ∃ i u, TyIs Try.prog 56 ty56 i u :=
  ⟨Try.prog.types.getD 56 default, _, {
    info := by kernel_rfl
    under := Try.underlying56
    is := by simp [ty56, UD.is]
    size := by kernel_rfl
    bytes := by kernel_rfl
    zero := by kernel_rfl
    sc := by simp [ty56, scL, V.sc]
    len := by kernel_rfl
    one := by intro h; cases h
    stood := by kernel_rfl }⟩

theorem ty58_is : ∃ i u, TyIs Try.prog 58 ty58 i u :=
  ⟨Try.prog.types.getD 58 default, _, {
    info := by kernel_rfl
    under := Try.underlying58
    is := by simp [ty58, UD.is]
    size := by kernel_rfl
    bytes := by kernel_rfl
    zero := by kernel_rfl
    sc := by simp [ty58, scL, V.sc]
    len := by kernel_rfl
    one := fun _ => ⟨_, rfl, rfl⟩
    stood := by kernel_rfl }⟩

theorem ty61_is : ∃ i u, TyIs Try.prog 61 ty61 i u :=
  ⟨Try.prog.types.getD 61 default, _, {
    info := by kernel_rfl
    under := Try.underlying61
    is := by simp [ty61, UD.is]
    size := by kernel_rfl
    bytes := by kernel_rfl
    zero := by kernel_rfl
    sc := by simp [ty61, scL, V.sc]
    len := by kernel_rfl
    one := fun _ => ⟨_, rfl, rfl⟩
    stood := by kernel_rfl }⟩

theorem ty66_is : ∃ i u, TyIs Try.prog 66 ty66 i u :=
  ⟨Try.prog.types.getD 66 default, _, {
    info := by kernel_rfl
    under := Try.underlying66
    is := by simp [ty66, UD.is]
    size := by kernel_rfl
    bytes := by kernel_rfl
    zero := by kernel_rfl
    sc := by simp [ty66, scL, V.sc]
    len := by kernel_rfl
    one := by intro h; cases h
    stood := by kernel_rfl }⟩

theorem ty72_is : ∃ i u, TyIs Try.prog 72 ty72 i u :=
  ⟨Try.prog.types.getD 72 default, _, {
    info := by kernel_rfl
    under := Try.underlying72
    is := by simp [ty72, UD.is]
    size := by kernel_rfl
    bytes := by kernel_rfl
    zero := by kernel_rfl
    sc := by simp [ty72, scL, V.sc]
    len := by kernel_rfl
    one := by intro h; cases h
    stood := by kernel_rfl }⟩

theorem ty75_is : ∃ i u, TyIs Try.prog 75 ty75 i u :=
  ⟨Try.prog.types.getD 75 default, _, {
    info := by kernel_rfl
    under := Try.underlying75
    is := by simp [ty75, UD.is]
    size := by kernel_rfl
    bytes := by kernel_rfl
    zero := by kernel_rfl
    sc := by simp [ty75, scL, V.sc]
    len := by kernel_rfl
    one := by intro h; cases h
    stood := by kernel_rfl }⟩

theorem ty93_is : ∃ i u, TyIs Try.prog 93 ty93 i u :=
  ⟨Try.prog.types.getD 93 default, _, {
    info := by kernel_rfl
    under := Try.underlying93
    is := by simp [ty93, UD.is]
    size := by kernel_rfl
    bytes := by kernel_rfl
    zero := by kernel_rfl
    sc := by simp [ty93, scL, V.sc]
    len := by kernel_rfl
    one := by intro h; cases h
    stood := by kernel_rfl }⟩

theorem ty97_is : ∃ i u, TyIs Try.prog 97 ty97 i u :=
  ⟨Try.prog.types.getD 97 default, _, {
    info := by kernel_rfl
    under := Try.underlying97
    is := by simp [ty97, UD.is]
    size := by kernel_rfl
    bytes := by kernel_rfl
    zero := by kernel_rfl
    sc := by simp [ty97, scL, V.sc]
    len := by kernel_rfl
    one := fun _ => ⟨_, rfl, rfl⟩
    stood := by kernel_rfl }⟩

theorem ty98_is : ∃ i u, TyIs Try.prog 98 ty98 i u :=
  ⟨Try.prog.types.getD 98 default, _, {
    info := by kernel_rfl
    under := Try.underlying98
    is := by simp [ty98, UD.is]
    size := by kernel_rfl
    bytes := by kernel_rfl
    zero := by kernel_rfl
    sc := by simp [ty98, scL, V.sc]
    len := by kernel_rfl
    one := fun _ => ⟨_, rfl, rfl⟩
    stood := by kernel_rfl }⟩

theorem ty130_is : ∃ i u, TyIs Try.prog 130 ty130 i u :=
  ⟨Try.prog.types.getD 130 default, _, {
    info := by kernel_rfl
    under := Try.underlying130
    is := by simp [ty130, UD.is]
    size := by kernel_rfl
    bytes := by kernel_rfl
    zero := by kernel_rfl
    sc := by simp [ty130, scL, V.sc]
    len := by kernel_rfl
    one := fun _ => ⟨_, rfl, rfl⟩
    stood := by kernel_rfl }⟩

theorem ty133_is : ∃ i u, TyIs Try.prog 133 ty133 i u :=
  ⟨Try.prog.types.getD 133 default, _, {
    info := by kernel_rfl
    under := Try.underlying133
    is := by simp [ty133, UD.is]
    size := by kernel_rfl
    bytes := by kernel_rfl
    zero := by kernel_rfl
    sc := by simp [ty133, scL, V.sc]
    len := by kernel_rfl
    one := fun _ => ⟨_, rfl, rfl⟩
    stood := by kernel_rfl }⟩

theorem ty136_is : ∃ i u, TyIs Try.prog 136 ty136 i u :=
  ⟨Try.prog.types.getD 136 default, _, {
    info := by kernel_rfl
    under := Try.underlying136
    is := by simp [ty136, UD.is]
    size := by kernel_rfl
    bytes := by kernel_rfl
    zero := by kernel_rfl
    sc := by simp [ty136, scL, V.sc]
    len := by kernel_rfl
    one := fun _ => ⟨_, rfl, rfl⟩
    stood := by kernel_rfl }⟩

theorem ty138_is : ∃ i u, TyIs Try.prog 138 ty138 i u :=
  ⟨Try.prog.types.getD 138 default, _, {
    info := by kernel_rfl
    under := Try.underlying138
    is := by simp [ty138, UD.is]
    size := by kernel_rfl
    bytes := by kernel_rfl
    zero := by kernel_rfl
    sc := by simp [ty138, scL, V.sc]
    len := by kernel_rfl
    one := fun _ => ⟨_, rfl, rfl⟩
    stood := by kernel_rfl }⟩

theorem ty140_is : ∃ i u, TyIs Try.prog 140 ty140 i u :=
  ⟨Try.prog.types.getD 140 default, _, {
    info := by kernel_rfl
    under := Try.underlying140
    is := by simp [ty140, UD.is]
    size := by kernel_rfl
    bytes := by kernel_rfl
    zero := by kernel_rfl
    sc := by simp [ty140, scL, V.sc]
    len := by kernel_rfl
    one := by intro h; cases h
    stood := by kernel_rfl }⟩

theorem ty142_is : ∃ i u, TyIs Try.prog 142 ty142 i u :=
  ⟨Try.prog.types.getD 142 default, _, {
    info := by kernel_rfl
    under := Try.underlying142
    is := by simp [ty142, UD.is]
    size := by kernel_rfl
    bytes := by kernel_rfl
    zero := by kernel_rfl
    sc := by simp [ty142, scL, V.sc]
    len := by kernel_rfl
    one := fun _ => ⟨_, rfl, rfl⟩
    stood := by kernel_rfl }⟩

theorem ty155_is : ∃ i u, TyIs Try.prog 155 ty155 i u :=
  ⟨Try.prog.types.getD 155 default, _, {
    info := by kernel_rfl
    under := Try.underlying155
    is := by simp [ty155, UD.is]
    size := by kernel_rfl
    bytes := by kernel_rfl
    zero := by kernel_rfl
    sc := by simp [ty155, scL, V.sc]
    len := by kernel_rfl
    one := by intro h; cases h
    stood := by kernel_rfl }⟩

theorem ty160_is : ∃ i u, TyIs Try.prog 160 ty160 i u :=
  ⟨Try.prog.types.getD 160 default, _, {
    info := by kernel_rfl
    under := Try.underlying160
    is := by simp [ty160, UD.is]
    size := by kernel_rfl
    bytes := by kernel_rfl
    zero := by kernel_rfl
    sc := by simp [ty160, scL, V.sc]
    len := by kernel_rfl
    one := fun _ => ⟨_, rfl, rfl⟩
    stood := by kernel_rfl }⟩

theorem ty162_is : ∃ i u, TyIs Try.prog 162 ty162 i u :=
  ⟨Try.prog.types.getD 162 default, _, {
    info := by kernel_rfl
    under := Try.underlying162
    is := by simp [ty162, UD.is]
    size := by kernel_rfl
    bytes := by kernel_rfl
    zero := by kernel_rfl
    sc := by simp [ty162, scL, V.sc]
    len := by kernel_rfl
    one := fun _ => ⟨_, rfl, rfl⟩
    stood := by kernel_rfl }⟩

theorem ty168_is : ∃ i u, TyIs Try.prog 168 ty168 i u :=
  ⟨Try.prog.types.getD 168 default, _, {
    info := by kernel_rfl
    under := Try.underlying168
    is := by simp [ty168, UD.is]
    size := by kernel_rfl
    bytes := by kernel_rfl
    zero := by kernel_rfl
    sc := by simp [ty168, scL, V.sc]
    len := by kernel_rfl
    one := by intro h; cases h
    stood := by kernel_rfl }⟩

noncomputable def tyG (t : Nat) : Option TD := tyT.get t
noncomputable def fnG (f : Nat) : Option FD := fnT.get f
theorem tyOK : TyOK Try.prog tyG := by
  intro t d h
  have key : tyT.all fun t d => ∃ i u, TyIs Try.prog t d i u := ⟨fun a h => (by cases h), ⟨fun a h => (by cases h), ⟨fun a h => (by cases h; exact ty3_is), ⟨fun a h => (by cases h), trivial, ⟨fun a h => (by cases h; exact ty23_is), trivial, trivial⟩⟩, ⟨fun a h => (by cases h), ⟨fun a h => (by cases h), ⟨fun a h => (by cases h; exact ty35_is), trivial, trivial⟩, ⟨fun a h => (by cases h; exact ty51_is), trivial, trivial⟩⟩, ⟨fun a h => (by cases h), ⟨fun a h => (by cases h), ⟨fun a h => (by cases h; exact ty75_is), trivial, trivial⟩, trivial⟩, ⟨fun a h => (by cases h), ⟨fun a h => (by cases h), ⟨fun a h => (by cases h; exact ty155_is), trivial, trivial⟩, trivial⟩, trivial⟩⟩⟩⟩, ⟨fun a h => (by cases h; exact ty5_is), ⟨fun a h => (by cases h), ⟨fun a h => (by cases h), ⟨fun a h => (by cases h), trivial, ⟨fun a h => (by cases h; exact ty97_is), trivial, trivial⟩⟩, trivial⟩, trivial⟩, ⟨fun a h => (by cases h), ⟨fun a h => (by cases h), ⟨fun a h => (by cases h; exact ty37_is), ⟨fun a h => (by cases h), ⟨fun a h => (by cases h; exact ty133_is), trivial, trivial⟩, trivial⟩, trivial⟩, trivial⟩, ⟨fun a h => (by cases h), trivial, ⟨fun a h => (by cases h; exact ty61_is), ⟨fun a h => (by cases h; exact ty93_is), trivial, trivial⟩, trivial⟩⟩⟩⟩⟩, ⟨fun a h => (by cases h), ⟨fun a h => (by cases h; exact ty4_is), ⟨fun a h => (by cases h), ⟨fun a h => (by cases h), ⟨fun a h => (by cases h), trivial, ⟨fun a h => (by cases h), ⟨fun a h => (by cases h; exact ty160_is), trivial, trivial⟩, trivial⟩⟩, trivial⟩, ⟨fun a h => (by cases h; exact ty24_is), ⟨fun a h => (by cases h), ⟨fun a h => (by cases h; exact ty72_is), ⟨fun a h => (by cases h; exact ty136_is), trivial, trivial⟩, trivial⟩, ⟨fun a h => (by cases h), ⟨fun a h => (by cases h; exact ty168_is), trivial, trivial⟩, trivial⟩⟩, ⟨fun a h => (by cases h; exact ty56_is), trivial, trivial⟩⟩⟩, ⟨fun a h => (by cases h), trivial, ⟨fun a h => (by cases h), ⟨fun a h => (by cases h), ⟨fun a h => (by cases h), ⟨fun a h => (by cases h; exact ty140_is), trivial, trivial⟩, trivial⟩, trivial⟩, trivial⟩⟩⟩, ⟨fun a h => (by cases h), ⟨fun a h => (by cases h), ⟨fun a h => (by cases h), ⟨fun a h => (by cases h), ⟨fun a h => (by cases h; exact ty66_is), ⟨fun a h => (by cases h; exact ty130_is), trivial, trivial⟩, trivial⟩, ⟨fun a h => (by cases h; exact ty98_is), ⟨fun a h => (by cases h; exact ty162_is), trivial, trivial⟩, trivial⟩⟩, trivial⟩, ⟨fun a h => (by cases h; exact ty26_is), ⟨fun a h => (by cases h), ⟨fun a h => (by cases h), ⟨fun a h => (by cases h; exact ty138_is), trivial, trivial⟩, trivial⟩, trivial⟩, ⟨fun a h => (by cases h; exact ty58_is), trivial, trivial⟩⟩⟩, ⟨fun a h => (by cases h), ⟨fun a h => (by cases h; exact ty22_is), ⟨fun a h => (by cases h; exact ty38_is), trivial, trivial⟩, trivial⟩, ⟨fun a h => (by cases h), ⟨fun a h => (by cases h), ⟨fun a h => (by cases h), ⟨fun a h => (by cases h; exact ty142_is), trivial, trivial⟩, trivial⟩, trivial⟩, trivial⟩⟩⟩⟩⟩
  exact T.all_get key h

theorem c6_is : ∃ fn, Try.prog.funcs[6]? = some fn ∧ (fn.name == "runtime.NumGoroutine") = false ∧ compF tyG fn = some c6 ∧ c6.body.lt c6.ntmps = true :=
  ⟨Try.f6, Try.func6, by kernel_rfl, by kernel_rfl, by kernel_rfl⟩

theorem c13_is : ∃ fn, Try.prog.funcs[13]? = some fn ∧ (fn.name == "runtime.NumGoroutine") = false ∧ compF tyG fn = some c13 ∧ c13.body.lt c13.ntmps = true :=
  ⟨Try.f13, Try.func13, by kernel_rfl, by kernel_rfl, by kernel_rfl⟩

theorem c14_is : ∃ fn, Try.prog.funcs[14]? = some fn ∧ (fn.name == "runtime.NumGoroutine") = false ∧ compF tyG fn = some c14 ∧ c14.body.lt c14.ntmps = true :=
  ⟨Try.f14, Try.func14, by kernel_rfl, by kernel_rfl, by kernel_rfl⟩

theorem c20_is : ∃ fn, Try.prog.funcs[20]? = some fn ∧ (fn.name == "runtime.NumGoroutine") = false ∧ compF tyG fn = some c20 ∧ c20.body.lt c20.ntmps = true :=
  ⟨Try.f20, Try.func20, by kernel_rfl, by kernel_rfl, by kernel_rfl⟩

theorem c21_is : ∃ fn, Try.prog.funcs[21]? = some fn ∧ (fn.name == "runtime.NumGoroutine") = false ∧ compF tyG fn = some c21 ∧ c21.body.lt c21.ntmps = true :=
  ⟨Try.f21, Try.func21, by kernel_rfl, by kernel_rfl, by kernel_rfl⟩

theorem c22_is : ∃ fn, Try.prog.funcs[22]? = some fn ∧ (fn.name == "runtime.NumGoroutine") = false ∧ compF tyG fn = some c22 ∧ c22.body.lt c22.ntmps = true :=
  ⟨Try.f22, Try.func22, by kernel_rfl, by kernel_rfl, by kernel_rfl⟩

theorem c23_is : ∃ fn, Try.prog.funcs[23]? = some fn ∧ (fn.name == "runtime.NumGoroutine") = false ∧ compF tyG fn = some c23 ∧ c23.body.lt c23.ntmps = true :=
  ⟨Try.f23, Try.func23, by kernel_rfl, by kernel_rfl, by kernel_rfl⟩

theorem c25_is : ∃ fn, Try.prog.funcs[25]? = some fn ∧ (fn.name == "runtime.NumGoroutine") = false ∧ compF tyG fn = some c25 ∧ c25.body.lt c25.ntmps = true :=
  ⟨Try.f25, Try.func25, by kernel_rfl, by kernel_rfl, by kernel_rfl⟩

theorem c26_is : ∃ fn, Try.prog.funcs[26]? = some fn ∧ (fn.name == "runtime.NumGoroutine") = false ∧ compF tyG fn = some c26 ∧ c26.body.lt c26.ntmps = true :=
  ⟨Try.f26, Try.func26, by kernel_rfl, by kernel_rfl, by kernel_rfl⟩

theorem c27_is : ∃ fn, Try.prog.funcs[27]? = some fn ∧ (fn.name == "runtime.NumGoroutine") = false ∧ compF tyG fn = some c27 ∧ c27.body.lt c27.ntmps = true :=
  ⟨Try.f27, Try.func27, by kernel_rfl, by kernel_rfl, by kernel_rfl⟩

theorem c28_is : ∃ fn, Try.prog.funcs[28]? = some fn ∧ (fn.name == "runtime.NumGoroutine") = false ∧ compF tyG fn = some c28 ∧ c28.body.lt c28.ntmps = true :=
  ⟨Try.f28, Try.func28, by kernel_rfl, by kernel_rfl, by kernel_rfl⟩

theorem c29_is : ∃ fn, Try.prog.funcs[29]? = some fn ∧ (fn.name == "runtime.NumGoroutine") = false ∧ compF tyG fn = some c29 ∧ c29.body.lt c29.ntmps = true :=
  ⟨Try.f29, Try.func29, by kernel_rfl, by kernel_rfl, by kernel_rfl⟩

theorem c30_is : ∃ fn, Try.prog.funcs[30]? = some fn ∧ (fn.name == "runtime.NumGoroutine") = false ∧ compF tyG fn = some c30 ∧ c30.body.lt c30.ntmps = true :=
  ⟨Try.f30, Try.func30, by kernel_rfl, by kernel_rfl, by kernel_rfl⟩

theorem c31_is : ∃ fn, Try.prog.funcs[31]? = some fn ∧ (fn.name == "runtime.NumGoroutine") = false ∧ compF tyG fn = some c31 ∧ c31.body.lt c31.ntmps = true :=
  ⟨Try.f31, Try.func31, by kernel_rfl, by kernel_rfl, by kernel_rfl⟩

theorem c35_is : ∃ fn, Try.prog.funcs[35]? = some fn ∧ (fn.name == "runtime.NumGoroutine") = false ∧ compF tyG fn = some c35 ∧ c35.body.lt c35.ntmps = true :=
  ⟨Try.f35, Try.func35, by kernel_rfl, by kernel_rfl, by kernel_rfl⟩

theorem c37_is : ∃ fn, Try.prog.funcs[37]? = some fn ∧ (fn.name == "runtime.NumGoroutine") = false ∧ compF tyG fn = some c37 ∧ c37.body.lt c37.ntmps = true :=
  ⟨Try.f37, Try.func37, by kernel_rfl, by kernel_rfl, by kernel_rfl⟩

theorem c44_is : ∃ fn, Try.prog.funcs[44]? = some fn ∧ (fn.name == "runtime.NumGoroutine") = false ∧ compF tyG fn = some c44 ∧ c44.body.lt c44.ntmps = true :=
  ⟨Try.f44, Try.func44, by kernel_rfl, by kernel_rfl, by kernel_rfl⟩

theorem c45_is : ∃ fn, Try.prog.funcs[45]? = some fn ∧ (fn.name == "runtime.NumGoroutine") = false ∧ compF tyG fn = some c45 ∧ c45.body.lt c45.ntmps = true :=
  ⟨Try.f45, Try.func45, by kernel_rfl, by kernel_rfl, by kernel_rfl⟩

theorem c46_is : ∃ fn, Try.prog.funcs[46]? = some fn ∧ (fn.name == "runtime.NumGoroutine") = false ∧ compF tyG fn = some c46 ∧ c46.body.lt c46.ntmps = true :=
  ⟨Try.f46, Try.func46, by kernel_rfl, by kernel_rfl, by kernel_rfl⟩

theorem c47_is : ∃ fn, Try.prog.funcs[47]? = some fn ∧ (fn.name == "runtime.NumGoroutine") = false ∧ compF tyG fn = some c47 ∧ c47.body.lt c47.ntmps = true :=
  ⟨Try.f47, Try.func47, by kernel_rfl, by kernel_rfl, by kernel_rfl⟩

theorem c48_is : ∃ fn, Try.prog.funcs[48]? = some fn ∧ (fn.name == "runtime.NumGoroutine") = false ∧ compF tyG fn = some c48 ∧ c48.body.lt c48.ntmps = true :=
  ⟨Try.f48, Try.func48, by kernel_rfl, by kernel_rfl, by kernel_rfl⟩

theorem c49_is : ∃ fn, Try.prog.funcs[49]? = some fn ∧ (fn.name == "runtime.NumGoroutine") = false ∧ compF tyG fn = some c49 ∧ c49.body.lt c49.ntmps = true :=
  ⟨Try.f49, Try.func49, by kernel_rfl, by kernel_rfl, by kernel_rfl⟩

theorem c50_is : ∃ fn, Try.prog.funcs[50]? = some fn ∧ (fn.name == "runtime.NumGoroutine") = false ∧ compF tyG fn = some c50 ∧ c50.body.lt c50.ntmps = true :=
  ⟨Try.f50, Try.func50, by kernel_rfl, by kernel_rfl, by kernel_rfl⟩

theorem c52_is : ∃ fn, Try.prog.funcs[52]? = some fn ∧ (fn.name == "runtime.NumGoroutine") = false ∧ compF tyG fn = some c52 ∧ c52.body.lt c52.ntmps = true :=
  ⟨Try.f52, Try.func52, by kernel_rfl, by kernel_rfl, by kernel_rfl⟩

theorem c55_is : ∃ fn, Try.prog.funcs[55]? = some fn ∧ (fn.name == "runtime.NumGoroutine") = false ∧ compF tyG fn = some c55 ∧ c55.body.lt c55.ntmps = true :=
  ⟨Try.f55, Try.func55, by kernel_rfl, by kernel_rfl, by kernel_rfl⟩

theorem c57_is : ∃ fn, Try.prog.funcs[57]? = some fn ∧ (fn.name == "runtime.NumGoroutine") = false ∧ compF tyG fn = some c57 ∧ c57.body.lt c57.ntmps = true :=
  ⟨Try.f57, Try.func57, by kernel_rfl, by kernel_rfl, by kernel_rfl⟩

theorem c73_is : ∃ fn, Try.prog.funcs[73]? = some fn ∧ (fn.name == "runtime.NumGoroutine") = false ∧ compF tyG fn = some c73 ∧ c73.body.lt c73.ntmps = true :=
  ⟨Try.f73, Try.func73, by kernel_rfl, by kernel_rfl, by kernel_rfl⟩

theorem c75_is : ∃ fn, Try.prog.funcs[75]? = some fn ∧ (fn.name == "runtime.NumGoroutine") = false ∧ compF tyG fn = some c75 ∧ c75.body.lt c75.ntmps = true :=
  ⟨Try.f75, Try.func75, by kernel_rfl, by kernel_rfl, by kernel_rfl⟩

theorem c76_is : ∃ fn, Try.prog.funcs[76]? = some fn ∧ (fn.name == "runtime.NumGoroutine") = false ∧ compF tyG fn = some c76 ∧ c76.body.lt c76.ntmps = true :=
  ⟨Try.f76, Try.func76, by kernel_rfl, by kernel_rfl, by kernel_rfl⟩

theorem c77_is : ∃ fn, Try.prog.funcs[77]? = some fn ∧ (fn.name == "runtime.NumGoroutine") = false ∧ compF tyG fn = some c77 ∧ c77.body.lt c77.ntmps = true :=
  ⟨Try.f77, Try.func77, by kernel_rfl, by kernel_rfl, by kernel_rfl⟩

theorem c78_is : ∃ fn, Try.prog.funcs[78]? = some fn ∧ (fn.name == "runtime.NumGoroutine") = false ∧ compF tyG fn = some c78 ∧ c78.body.lt c78.ntmps = true :=
  ⟨Try.f78, Try.func78, by kernel_rfl, by kernel_rfl, by kernel_rfl⟩

theorem c79_is : ∃ fn, Try.prog.funcs[79]? = some fn ∧ (fn.name == "runtime.NumGoroutine") = false ∧ compF tyG fn = some c79 ∧ c79.body.lt c79.ntmps = true :=
  ⟨Try.f79, Try.func79, by kernel_rfl, by kernel_rfl, by kernel_rfl⟩

theorem c85_is : ∃ fn, Try.prog.funcs[85]? = some fn ∧ (fn.name == "runtime.NumGoroutine") = false ∧ compF tyG fn = some c85 ∧ c85.body.lt c85.ntmps = true :=
  ⟨Try.f85, Try.func85, by kernel_rfl, by kernel_rfl, by kernel_rfl⟩

theorem c86_is : ∃ fn, Try.prog.funcs[86]? = some fn ∧ (fn.name == "runtime.NumGoroutine") = false ∧ compF tyG fn = some c86 ∧ c86.body.lt c86.ntmps = true :=
  ⟨Try.f86, Try.func86, by kernel_rfl, by kernel_rfl, by kernel_rfl⟩

theorem c87_is : ∃ fn, Try.prog.funcs[87]? = some fn ∧ (fn.name == "runtime.NumGoroutine") = false ∧ compF tyG fn = some c87 ∧ c87.body.lt c87.ntmps = true :=
  ⟨Try.f87, Try.func87, by kernel_rfl, by kernel_rfl, by kernel_rfl⟩

theorem c88_is : ∃ fn, Try.prog.funcs[88]? = some fn ∧ (fn.name == "runtime.NumGoroutine") = false ∧ compF tyG fn = some c88 ∧ c88.body.lt c88.ntmps = true :=
  ⟨Try.f88, Try.func88, by kernel_rfl, by kernel_rfl, by kernel_rfl⟩

theorem c89_is : ∃ fn, Try.prog.funcs[89]? = some fn ∧ (fn.name == "runtime.NumGoroutine") = false ∧ compF tyG fn = some c89 ∧ c89.body.lt c89.ntmps = true :=
  ⟨Try.f89, Try.func89, by kernel_rfl, by kernel_rfl, by kernel_rfl⟩

theorem c90_is : ∃ fn, Try.prog.funcs[90]? = some fn ∧ (fn.name == "runtime.NumGoroutine") = false ∧ compF tyG fn = some c90 ∧ c90.body.lt c90.ntmps = true :=
  ⟨Try.f90, Try.func90, by kernel_rfl, by kernel_rfl, by kernel_rfl⟩

theorem c91_is : ∃ fn, Try.prog.funcs[91]? = some fn ∧ (fn.name == "runtime.NumGoroutine") = false ∧ compF tyG fn = some c91 ∧ c91.body.lt c91.ntmps = true :=
  ⟨Try.f91, Try.func91, by kernel_rfl, by kernel_rfl, by kernel_rfl⟩

theorem c92_is : ∃ fn, Try.prog.funcs[92]? = some fn ∧ (fn.name == "runtime.NumGoroutine") = false ∧ compF tyG fn = some c92 ∧ c92.body.lt c92.ntmps = true :=
  ⟨Try.f92, Try.func92, by kernel_rfl, by kernel_rfl, by kernel_rfl⟩

theorem c93_is : ∃ fn, Try.prog.funcs[93]? = some fn ∧ (fn.name == "runtime.NumGoroutine") = false ∧ compF tyG fn = some c93 ∧ c93.body.lt c93.ntmps = true :=
  ⟨Try.f93, Try.func93, by kernel_rfl, by kernel_rfl, by kernel_rfl⟩

theorem c96_is : ∃ fn, Try.prog.funcs[96]? = some fn ∧ (fn.name == "runtime.NumGoroutine") = false ∧ compF tyG fn = some c96 ∧ c96.body.lt c96.ntmps = true :=
  ⟨Try.f96, Try.func96, by kernel_rfl, by kernel_rfl, by kernel_rfl⟩

theorem c97_is : ∃ fn, Try.prog.funcs[97]? = some fn ∧ (fn.name == "runtime.NumGoroutine") = false ∧ compF tyG fn = some c97 ∧ c97.body.lt c97.ntmps = true :=
  ⟨Try.f97, Try.func97, by kernel_rfl, by kernel_rfl, by kernel_rfl⟩

theorem c98_is : ∃ fn, Try.prog.funcs[98]? = some fn ∧ (fn.name == "runtime.NumGoroutine") = false ∧ compF tyG fn = some c98 ∧ c98.body.lt c98.ntmps = true :=
  ⟨Try.f98, Try.func98, by kernel_rfl, by kernel_rfl, by kernel_rfl⟩

theorem c99_is : ∃ fn, Try.prog.funcs[99]? = some fn ∧ (fn.name == "runtime.NumGoroutine") = false ∧ compF tyG fn = some c99 ∧ c99.body.lt c99.ntmps = true :=
  ⟨Try.f99, Try.func99, by kernel_rfl, by kernel_rfl, by kernel_rfl⟩

theorem c100_is : ∃ fn, Try.prog.funcs[100]? = some fn ∧ (fn.name == "runtime.NumGoroutine") = false ∧ compF tyG fn = some c100 ∧ c100.body.lt c100.ntmps = true :=
  ⟨Try.f100, Try.func100, by kernel_rfl, by kernel_rfl, by kernel_rfl⟩

theorem c102_is : ∃ fn, Try.prog.funcs[102]? = some fn ∧ (fn.name == "runtime.NumGoroutine") = false ∧ compF tyG fn = some c102 ∧ c102.body.lt c102.ntmps = true :=
  ⟨Try.f102, Try.func102, by kernel_rfl, by kernel_rfl, by kernel_rfl⟩

theorem c103_is : ∃ fn, Try.prog.funcs[103]? = some fn ∧ (fn.name == "runtime.NumGoroutine") = false ∧ compF tyG fn = some c103 ∧ c103.body.lt c103.ntmps = true :=
  ⟨Try.f103, Try.func103, by kernel_rfl, by kernel_rfl, by kernel_rfl⟩

theorem c104_is : ∃ fn, Try.prog.funcs[104]? = some fn ∧ (fn.name == "runtime.NumGoroutine") = false ∧ compF tyG fn = some c104 ∧ c104.body.lt c104.ntmps = true :=
  ⟨Try.f104, Try.func104, by kernel_rfl, by kernel_rfl, by kernel_rfl⟩

theorem c105_is : ∃ fn, Try.prog.funcs[105]? = some fn ∧ (fn.name == "runtime.NumGoroutine") = false ∧ compF tyG fn = some c105 ∧ c105.body.lt c105.ntmps = true :=
  ⟨Try.f105, Try.func105, by kernel_rfl, by kernel_rfl, by kernel_rfl⟩

theorem c106_is : ∃ fn, Try.prog.funcs[106]? = some fn ∧ (fn.name == "runtime.NumGoroutine") = false ∧ compF tyG fn = some c106 ∧ c106.body.lt c106.ntmps = true :=
  ⟨Try.f106, Try.func106, by kernel_rfl, by kernel_rfl, by kernel_rfl⟩

theorem c107_is : ∃ fn, Try.prog.funcs[107]? = some fn ∧ (fn.name == "runtime.NumGoroutine") = false ∧ compF tyG fn = some c107 ∧ c107.body.lt c107.ntmps = true :=
  ⟨Try.f107, Try.func107, by kernel_rfl, by kernel_rfl, by kernel_rfl⟩

theorem c108_is : ∃ fn, Try.prog.funcs[108]? = some fn ∧ (fn.name == "runtime.NumGoroutine") = false ∧ compF tyG fn = some c108 ∧ c108.body.lt c108.ntmps = true :=
  ⟨Try.f108, Try.func108, by kernel_rfl, by kernel_rfl, by kernel_rfl⟩

theorem c109_is : ∃ fn, Try.prog.funcs[109]? = some fn ∧ (fn.name == "runtime.NumGoroutine") = false ∧ compF tyG fn = some c109 ∧ c109.body.lt c109.ntmps = true :=
  ⟨Try.f109, Try.func109, by kernel_rfl, by kernel_rfl, by kernel_rfl⟩

theorem c110_is : ∃ fn, Try.prog.funcs[110]? = some fn ∧ (fn.name == "runtime.NumGoroutine") = false ∧ compF tyG fn = some c110 ∧ c110.body.lt c110.ntmps = true :=
  ⟨Try.f110, Try.func110, by kernel_rfl, by kernel_rfl, by kernel_rfl⟩

theorem c112_is : ∃ fn, Try.prog.funcs[112]? = some fn ∧ (fn.name == "runtime.NumGoroutine") = false ∧ compF tyG fn = some c112 ∧ c112.body.lt c112.ntmps = true :=
  ⟨Try.f112, Try.func112, by kernel_rfl, by kernel_rfl, by kernel_rfl⟩

theorem c113_is : ∃ fn, Try.prog.funcs[113]? = some fn ∧ (fn.name == "runtime.NumGoroutine") = false ∧ compF tyG fn = some c113 ∧ c113.body.lt c113.ntmps = true :=
  ⟨Try.f113, Try.func113, by kernel_rfl, by kernel_rfl, by kernel_rfl⟩

theorem c114_is : ∃ fn, Try.prog.funcs[114]? = some fn ∧ (fn.name == "runtime.NumGoroutine") = false ∧ compF tyG fn = some c114 ∧ c114.body.lt c114.ntmps = true :=
  ⟨Try.f114, Try.func114, by kernel_rfl, by kernel_rfl, by kernel_rfl⟩

theorem c115_is : ∃ fn, Try.prog.funcs[115]? = some fn ∧ (fn.name == "runtime.NumGoroutine") = false ∧ compF tyG fn = some c115 ∧ c115.body.lt c115.ntmps = true :=
  ⟨Try.f115, Try.func115, by kernel_rfl, by kernel_rfl, by kernel_rfl⟩

theorem c116_is : ∃ fn, Try.prog.funcs[116]? = some fn ∧ (fn.name == "runtime.NumGoroutine") = false ∧ compF tyG fn = some c116 ∧ c116.body.lt c116.ntmps = true :=
  ⟨Try.f116, Try.func116, by kernel_rfl, by kernel_rfl, by kernel_rfl⟩

theorem c117_is : ∃ fn, Try.prog.funcs[117]? = some fn ∧ (fn.name == "runtime.NumGoroutine") = false ∧ compF tyG fn = some c117 ∧ c117.body.lt c117.ntmps = true :=
  ⟨Try.f117, Try.func117, by kernel_rfl, by kernel_rfl, by kernel_rfl⟩

theorem c118_is : ∃ fn, Try.prog.funcs[118]? = some fn ∧ (fn.name == "runtime.NumGoroutine") = false ∧ compF tyG fn = some c118 ∧ c118.body.lt c118.ntmps = true :=
  ⟨Try.f118, Try.func118, by kernel_rfl, by kernel_rfl, by kernel_rfl⟩

theorem c126_is : ∃ fn, Try.prog.funcs[126]? = some fn ∧ (fn.name == "runtime.NumGoroutine") = false ∧ compF tyG fn = some c126 ∧ c126.body.lt c126.ntmps = true :=
  ⟨Try.f126, Try.func126, by kernel_rfl, by kernel_rfl, by kernel_rfl⟩

theorem c131_is : ∃ fn, Try.prog.funcs[131]? = some fn ∧ (fn.name == "runtime.NumGoroutine") = false ∧ compF tyG fn = some c131 ∧ c131.body.lt c131.ntmps = true :=
  ⟨Try.f131, Try.func131, by kernel_rfl, by kernel_rfl, by kernel_rfl⟩

theorem c133_is : ∃ fn, Try.prog.funcs[133]? = some fn ∧ (fn.name == "runtime.NumGoroutine") = false ∧ compF tyG fn = some c133 ∧ c133.body.lt c133.ntmps = true :=
  ⟨Try.f133, Try.func133, by kernel_rfl, by kernel_rfl, by kernel_rfl⟩

theorem c134_is : ∃ fn, Try.prog.funcs[134]? = some fn ∧ (fn.name == "runtime.NumGoroutine") = false ∧ compF tyG fn = some c134 ∧ c134.body.lt c134.ntmps = true :=
  ⟨Try.f134, Try.func134, by kernel_rfl, by kernel_rfl, by kernel_rfl⟩

theorem c135_is : ∃ fn, Try.prog.funcs[135]? = some fn ∧ (fn.name == "runtime.NumGoroutine") = false ∧ compF tyG fn = some c135 ∧ c135.body.lt c135.ntmps = true :=
  ⟨Try.f135, Try.func135, by kernel_rfl, by kernel_rfl, by kernel_rfl⟩

theorem c136_is : ∃ fn, Try.prog.funcs[136]? = some fn ∧ (fn.name == "runtime.NumGoroutine") = false ∧ compF tyG fn = some c136 ∧ c136.body.lt c136.ntmps = true :=
  ⟨Try.f136, Try.func136, by kernel_rfl, by kernel_rfl, by kernel_rfl⟩

theorem c137_is : ∃ fn, Try.prog.funcs[137]? = some fn ∧ (fn.name == "runtime.NumGoroutine") = false ∧ compF tyG fn = some c137 ∧ c137.body.lt c137.ntmps = true :=
  ⟨Try.f137, Try.func137, by kernel_rfl, by kernel_rfl, by kernel_rfl⟩

theorem c138_is : ∃ fn, Try.prog.funcs[138]? = some fn ∧ (fn.name == "runtime.NumGoroutine") = false ∧ compF tyG fn = some c138 ∧ c138.body.lt c138.ntmps = true :=
  ⟨Try.f138, Try.func138, by kernel_rfl, by kernel_rfl, by kernel_rfl⟩

theorem c139_is : ∃ fn, Try.prog.funcs[139]? = some fn ∧ (fn.name == "runtime.NumGoroutine") = false ∧ compF tyG fn = some c139 ∧ c139.body.lt c139.ntmps = true :=
  ⟨Try.f139, Try.func139, by kernel_rfl, by kernel_rfl, by kernel_rfl⟩

theorem c140_is : ∃ fn, Try.prog.funcs[140]? = some fn ∧ (fn.name == "runtime.NumGoroutine") = false ∧ compF tyG fn = some c140 ∧ c140.body.lt c140.ntmps = true :=
  ⟨Try.f140, Try.func140, by kernel_rfl, by kernel_rfl, by kernel_rfl⟩

theorem c141_is : ∃ fn, Try.prog.funcs[141]? = some fn ∧ (fn.name == "runtime.NumGoroutine") = false ∧ compF tyG fn = some c141 ∧ c141.body.lt c141.ntmps = true :=
  ⟨Try.f141, Try.func141, by kernel_rfl, by kernel_rfl, by kernel_rfl⟩

theorem c142_is : ∃ fn, Try.prog.funcs[142]? = some fn ∧ (fn.name == "runtime.NumGoroutine") = false ∧ compF tyG fn = some c142 ∧ c142.body.lt c142.ntmps = true :=
  ⟨Try.f142, Try.func142, by kernel_rfl, by kernel_rfl, by kernel_rfl⟩

theorem c143_is : ∃ fn, Try.prog.funcs[143]? = some fn ∧ (fn.name == "runtime.NumGoroutine") = false ∧ compF tyG fn = some c143 ∧ c143.body.lt c143.ntmps = true :=
  ⟨Try.f143, Try.func143, by kernel_rfl, by kernel_rfl, by kernel_rfl⟩

theorem c144_is : ∃ fn, Try.prog.funcs[144]? = some fn ∧ (fn.name == "runtime.NumGoroutine") = false ∧ compF tyG fn = some c144 ∧ c144.body.lt c144.ntmps = true :=
  ⟨Try.f144, Try.func144, by kernel_rfl, by kernel_rfl, by kernel_rfl⟩

theorem c145_is : ∃ fn, Try.prog.funcs[145]? = some fn ∧ (fn.name == "runtime.NumGoroutine") = false ∧ compF tyG fn = some c145 ∧ c145.body.lt c145.ntmps = true :=
  ⟨Try.f145, Try.func145, by kernel_rfl, by kernel_rfl, by kernel_rfl⟩

theorem c146_is : ∃ fn, Try.prog.funcs[146]? = some fn ∧ (fn.name == "runtime.NumGoroutine") = false ∧ compF tyG fn = some c146 ∧ c146.body.lt c146.ntmps = true :=
  ⟨Try.f146, Try.func146, by kernel_rfl, by kernel_rfl, by kernel_rfl⟩

theorem c147_is : ∃ fn, Try.prog.funcs[147]? = some fn ∧ (fn.name == "runtime.NumGoroutine") = false ∧ compF tyG fn = some c147 ∧ c147.body.lt c147.ntmps = true :=
  ⟨Try.f147, Try.func147, by kernel_rfl, by kernel_rfl, by kernel_rfl⟩

theorem c148_is : ∃ fn, Try.prog.funcs[148]? = some fn ∧ (fn.name == "runtime.NumGoroutine") = false ∧ compF tyG fn = some c148 ∧ c148.body.lt c148.ntmps = true :=
  ⟨Try.f148, Try.func148, by kernel_rfl, by kernel_rfl, by kernel_rfl⟩

theorem c149_is : ∃ fn, Try.prog.funcs[149]? = some fn ∧ (fn.name == "runtime.NumGoroutine") = false ∧ compF tyG fn = some c149 ∧ c149.body.lt c149.ntmps = true :=
  ⟨Try.f149, Try.func149, by kernel_rfl, by kernel_rfl, by kernel_rfl⟩

theorem c150_is : ∃ fn, Try.prog.funcs[150]? = some fn ∧ (fn.name == "runtime.NumGoroutine") = false ∧ compF tyG fn = some c150 ∧ c150.body.lt c150.ntmps = true :=
  ⟨Try.f150, Try.func150, by kernel_rfl, by kernel_rfl, by kernel_rfl⟩

theorem c154_is : ∃ fn, Try.prog.funcs[154]? = some fn ∧ (fn.name == "runtime.NumGoroutine") = false ∧ compF tyG fn = some c154 ∧ c154.body.lt c154.ntmps = true :=
  ⟨Try.f154, Try.func154, by kernel_rfl, by kernel_rfl, by kernel_rfl⟩

theorem c155_is : ∃ fn, Try.prog.funcs[155]? = some fn ∧ (fn.name == "runtime.NumGoroutine") = false ∧ compF tyG fn = some c155 ∧ c155.body.lt c155.ntmps = true :=
  ⟨Try.f155, Try.func155, by kernel_rfl, by kernel_rfl, by kernel_rfl⟩

theorem c156_is : ∃ fn, Try.prog.funcs[156]? = some fn ∧ (fn.name == "runtime.NumGoroutine") = false ∧ compF tyG fn = some c156 ∧ c156.body.lt c156.ntmps = true :=
  ⟨Try.f156, Try.func156, by kernel_rfl, by kernel_rfl, by kernel_rfl⟩

theorem c157_is : ∃ fn, Try.prog.funcs[157]? = some fn ∧ (fn.name == "runtime.NumGoroutine") = false ∧ compF tyG fn = some c157 ∧ c157.body.lt c157.ntmps = true :=
  ⟨Try.f157, Try.func157, by kernel_rfl, by kernel_rfl, by kernel_rfl⟩

theorem fnOK : FnOk Try.prog tyG fnG := by
  refine ⟨fun f fd h => ?_⟩
  have key : fnT.all fun f fd => ∃ fn, Try.prog.funcs[f]? = some fn ∧ (fn.name == "runtime.NumGoroutine") = false ∧ compF tyG fn = some fd ∧ fd.body.lt fd.ntmps = true :=
    ⟨fun a h => (by cases h), ⟨fun a h => (by cases h), ⟨fun a h => (by cases h), ⟨fun a h => (by cases h), ⟨fun a h => (by cases h), ⟨fun a h => (by cases h; exact c31_is), trivial, trivial⟩, ⟨fun a h => (by cases h; exact c47_is), ⟨fun a h => (by cases h; exact c79_is), ⟨fun a h => (by cases h; exact c143_is), trivial, trivial⟩, trivial⟩, trivial⟩⟩, ⟨fun a h => (by cases h; exact c23_is), ⟨fun a h => (by cases h), ⟨fun a h => (by cases h), ⟨fun a h => (by cases h; exact c135_is), trivial, trivial⟩, trivial⟩, ⟨fun a h => (by cases h; exact c103_is), trivial, trivial⟩⟩, ⟨fun a h => (by cases h; exact c55_is), ⟨fun a h => (by cases h; exact c87_is), trivial, trivial⟩, trivial⟩⟩⟩, ⟨fun a h => (by cases h), ⟨fun a h => (by cases h), ⟨fun a h => (by cases h; exact c35_is), ⟨fun a h => (by cases h), ⟨fun a h => (by cases h; exact c131_is), trivial, trivial⟩, trivial⟩, ⟨fun a h => (by cases h; exact c99_is), trivial, trivial⟩⟩, ⟨fun a h => (by cases h), ⟨fun a h => (by cases h), ⟨fun a h => (by cases h; exact c147_is), trivial, trivial⟩, trivial⟩, ⟨fun a h => (by cases h; exact c115_is), trivial, trivial⟩⟩⟩, ⟨fun a h => (by cases h; exact c27_is), ⟨fun a h => (by cases h), ⟨fun a h => (by cases h; exact c75_is), ⟨fun a h => (by cases h; exact c139_is), trivial, trivial⟩, trivial⟩, ⟨fun a h => (by cases h; exact c107_is), trivial, trivial⟩⟩, ⟨fun a h => (by cases h), ⟨fun a h => (by cases h; exact c91_is), ⟨fun a h => (by cases h; exact c155_is), trivial, trivial⟩, trivial⟩, trivial⟩⟩⟩⟩, ⟨fun a h => (by cases h), ⟨fun a h => (by cases h), ⟨fun a h => (by cases h), ⟨fun a h => (by cases h), trivial, ⟨fun a h => (by cases h; exact c97_is), trivial, trivial⟩⟩, ⟨fun a h => (by cases h; exact c49_is), ⟨fun a h => (by cases h), ⟨fun a h => (by cases h; exact c145_is), trivial, trivial⟩, trivial⟩, ⟨fun a h => (by cases h; exact c113_is), trivial, trivial⟩⟩⟩, ⟨fun a h => (by cases h; exact c25_is), ⟨fun a h => (by cases h), ⟨fun a h => (by cases h; exact c73_is), ⟨fun a h => (by cases h; exact c137_is), trivial, trivial⟩, trivial⟩, ⟨fun a h => (by cases h; exact c105_is), trivial, trivial⟩⟩, ⟨fun a h => (by cases h; exact c57_is), ⟨fun a h => (by cases h; exact c89_is), trivial, trivial⟩, trivial⟩⟩⟩, ⟨fun a h => (by cases h; exact c13_is), ⟨fun a h => (by cases h; exact c21_is), ⟨fun a h => (by cases h; exact c37_is), ⟨fun a h => (by cases h), ⟨fun a h => (by cases h; exact c133_is), trivial, trivial⟩, trivial⟩, trivial⟩, ⟨fun a h => (by cases h), ⟨fun a h => (by cases h; exact c85_is), ⟨fun a h => (by cases h; exact c149_is), trivial, trivial⟩, trivial⟩, ⟨fun a h => (by cases h; exact c117_is), trivial, trivial⟩⟩⟩, ⟨fun a h => (by cases h; exact c29_is), ⟨fun a h => (by cases h; exact c45_is), ⟨fun a h => (by cases h; exact c77_is), ⟨fun a h => (by cases h; exact c141_is), trivial, trivial⟩, trivial⟩, ⟨fun a h => (by cases h; exact c109_is), trivial, trivial⟩⟩, ⟨fun a h => (by cases h), ⟨fun a h => (by cases h; exact c93_is), ⟨fun a h => (by cases h; exact c157_is), trivial, trivial⟩, trivial⟩, trivial⟩⟩⟩⟩⟩, ⟨fun a h => (by cases h), ⟨fun a h => (by cases h), ⟨fun a h => (by cases h), ⟨fun a h => (by cases h), ⟨fun a h => (by cases h), trivial, ⟨fun a h => (by cases h; exact c96_is), trivial, trivial⟩⟩, ⟨fun a h => (by cases h; exact c48_is), ⟨fun a h => (by cases h), ⟨fun a h => (by cases h; exact c144_is), trivial, trivial⟩, trivial⟩, ⟨fun a h => (by cases h; exact c112_is), trivial, trivial⟩⟩⟩, ⟨fun a h => (by cases h), ⟨fun a h => (by cases h), ⟨fun a h => (by cases h), ⟨fun a h => (by cases h; exact c136_is), trivial, trivial⟩, trivial⟩, ⟨fun a h => (by cases h; exact c104_is), trivial, trivial⟩⟩, ⟨fun a h => (by cases h), ⟨fun a h => (by cases h; exact c88_is), trivial, trivial⟩, trivial⟩⟩⟩, ⟨fun a h => (by cases h), ⟨fun a h => (by cases h; exact c20_is), ⟨fun a h => (by cases h), trivial, ⟨fun a h => (by cases h; exact c100_is), trivial, trivial⟩⟩, ⟨fun a h => (by cases h; exact c52_is), ⟨fun a h => (by cases h), ⟨fun a h => (by cases h; exact c148_is), trivial, trivial⟩, trivial⟩, ⟨fun a h => (by cases h; exact c116_is), trivial, trivial⟩⟩⟩, ⟨fun a h => (by cases h; exact c28_is), ⟨fun a h => (by cases h; exact c44_is), ⟨fun a h => (by cases h; exact c76_is), ⟨fun a h => (by cases h; exact c140_is), trivial, trivial⟩, trivial⟩, ⟨fun a h => (by cases h; exact c108_is), trivial, trivial⟩⟩, ⟨fun a h => (by cases h), ⟨fun a h => (by cases h; exact c92_is), ⟨fun a h => (by cases h; exact c156_is), trivial, trivial⟩, trivial⟩, trivial⟩⟩⟩⟩, ⟨fun a h => (by cases h; exact c6_is), ⟨fun a h => (by cases h), ⟨fun a h => (by cases h), ⟨fun a h => (by cases h), trivial, ⟨fun a h => (by cases h; exact c98_is), trivial, trivial⟩⟩, ⟨fun a h => (by cases h; exact c50_is), ⟨fun a h => (by cases h), ⟨fun a h => (by cases h; exact c146_is), trivial, trivial⟩, trivial⟩, ⟨fun a h => (by cases h; exact c114_is), trivial, trivial⟩⟩⟩, ⟨fun a h => (by cases h; exact c26_is), ⟨fun a h => (by cases h), ⟨fun a h => (by cases h), ⟨fun a h => (by cases h; exact c138_is), trivial, trivial⟩, trivial⟩, ⟨fun a h => (by cases h; exact c106_is), trivial, trivial⟩⟩, ⟨fun a h => (by cases h), ⟨fun a h => (by cases h; exact c90_is), ⟨fun a h => (by cases h; exact c154_is), trivial, trivial⟩, trivial⟩, trivial⟩⟩⟩, ⟨fun a h => (by cases h; exact c14_is), ⟨fun a h => (by cases h; exact c22_is), ⟨fun a h => (by cases h), ⟨fun a h => (by cases h), ⟨fun a h => (by cases h; exact c134_is), trivial, trivial⟩, trivial⟩, ⟨fun a h => (by cases h; exact c102_is), trivial, trivial⟩⟩, ⟨fun a h => (by cases h), ⟨fun a h => (by cases h; exact c86_is), ⟨fun a h => (by cases h; exact c150_is), trivial, trivial⟩, trivial⟩, ⟨fun a h => (by cases h; exact c118_is), trivial, trivial⟩⟩⟩, ⟨fun a h => (by cases h; exact c30_is), ⟨fun a h => (by cases h; exact c46_is), ⟨fun a h => (by cases h; exact c78_is), ⟨fun a h => (by cases h; exact c142_is), trivial, trivial⟩, trivial⟩, ⟨fun a h => (by cases h; exact c110_is), trivial, trivial⟩⟩, ⟨fun a h => (by cases h), trivial, ⟨fun a h => (by cases h; exact c126_is), trivial, trivial⟩⟩⟩⟩⟩⟩⟩
  exact T.all_get key h
theorem depth_ok : 8 ≤ Try.prog.depth := Nat.le_of_ble_eq_true (by kernel_rfl)
theorem mixed_ok : Try.prog.follows .mixedOrders = true := by kernel_rfl

end Go.Ab.Try
