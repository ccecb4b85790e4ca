/- The types and the code that our machine has are the program's (printed by a program of ours). -/
import Derived.Test.YthoghcpemmfebaaProg
import Derived.Test.YthoghcpemmfebaaDat
import Derived.Test.YthoghcpemmfebaaAbS
import Derived.KernelRfl
set_option linter.unusedSimpArgs false
set_option linter.unusedVariables false
namespace Go.Ab.Try
open Go.Proofs

theorem ty3_is : ∃ i u, TyIs Try.prog 3 ty3 i u :=
  ⟨Try.prog.types.getD 3 default, _, {
    info := by kernel_rfl
    under := Try.underlying3
    is := by simp [ty3, UD.is]
    size := by kernel_rfl
    bytes := by kernel_rfl
    zero := by kernel_rfl
    sc := by simp [ty3, scL, V.sc]
    len := by kernel_rfl
    one := fun _ => ⟨_, rfl, rfl⟩
    stood := by kernel_rfl }⟩

theorem ty4_is : ∃ i u, TyIs Try.prog 4 ty4 i u :=
  ⟨Try.prog.types.getD 4 default, _, {
    info := by kernel_rfl
    under := Try.underlying4
    is := by simp [ty4, UD.is]
    size := by kernel_rfl
    bytes := by kernel_rfl
    zero := by kernel_rfl
    sc := by simp [ty4, scL, V.sc]
    len := by kernel_rfl
    one := fun _ => ⟨_, rfl, rfl⟩
    stood := by kernel_rfl }⟩

theorem ty5_is : ∃ i u, TyIs Try.prog 5 ty5 i u :=
  ⟨Try.prog.types.getD 5 default, _, {
    info := by kernel_rfl
    under := Try.underlying5
    is := by simp [ty5, UD.is]
    size := by kernel_rfl
    bytes := by kernel_rfl
    zero := by kernel_rfl
    sc := by simp [ty5, scL, V.sc]
    len := by kernel_rfl
    one := fun _ => ⟨_, rfl, rfl⟩
    stood := by kernel_rfl }⟩

theorem ty22_is : ∃ i u, TyIs Try.prog 22 ty22 i u :=
  ⟨Try.prog.types.getD 22 default, _, {
    info := by kernel_rfl
    under := Try.underlying22
    is := by simp [ty22, UD.is]
    size := by kernel_rfl
    bytes := by kernel_rfl
    zero := by kernel_rfl
    sc := by simp [ty22, scL, V.sc]
    len := by kernel_rfl
    one := fun _ => ⟨_, rfl, rfl⟩
    stood := by kernel_rfl }⟩

theorem ty23_is : ∃ i u, TyIs Try.prog 23 ty23 i u :=
  ⟨Try.prog.types.getD 23 default, _, {
    info := by kernel_rfl
    under := Try.underlying23
    is := by simp [ty23, UD.is]
    size := by kernel_rfl
    bytes := by kernel_rfl
    zero := by kernel_rfl
    sc := by simp [ty23, scL, V.sc]
    len := by kernel_rfl
    one := fun _ => ⟨_, rfl, rfl⟩
    stood := by kernel_rfl }⟩

theorem ty25_is : ∃ i u, TyIs Try.prog 25 ty25 i u :=
  ⟨Try.prog.types.getD 25 default, _, {
    info := by kernel_rfl
    under := Try.underlying25
    is := by simp [ty25, UD.is]
    size := by kernel_rfl
    bytes := by kernel_rfl
    zero := by kernel_rfl
    sc := by simp [ty25, scL, V.sc]
    len := by kernel_rfl
    one := by intro h; cases h
    stood := by kernel_rfl }⟩

theorem ty26_is : ∃ i u, TyIs Try.prog 26 ty26 i u :=
  ⟨Try.prog.types.getD 26 default, _, {
    info := by kernel_rfl
    under := Try.underlying26
    is := by simp [ty26, UD.is]
    size := by kernel_rfl
    bytes := by kernel_rfl
    zero := by kernel_rfl
    sc := by simp [ty26, scL, V.sc]
    len := by kernel_rfl
    one := fun _ => ⟨_, rfl, rfl⟩
    stood := by kernel_rfl }⟩

theorem ty35_is : ∃ i u, TyIs Try.prog 35 ty35 i u :=
  ⟨Try.prog.types.getD 35 default, _, {
    info := by kernel_rfl
    under := Try.underlying35
    is := by simp [ty35, UD.is]
    size := by kernel_rfl
    bytes := by kernel_rfl
    zero := by kernel_rfl
    sc := by simp [ty35, scL, V.sc]
    len := by kernel_rfl
    one := fun _ => ⟨_, rfl, rfl⟩
    stood := by kernel_rfl }⟩

theorem ty38_is : ∃ i u, TyIs Try.prog 38 ty38 i u :=
  ⟨Try.prog.types.getD 38 default, _, {
    info := by kernel_rfl
    under := Try.underlying38
    is := by simp [ty38, UD.is]
    size := by kernel_rfl
    bytes := by kernel_rfl
    zero := by kernel_rfl
    sc := by simp [ty38, scL, V.sc]
    len := by kernel_rfl
    one := by intro h; cases h
    stood := by kernel_rfl }⟩

theorem ty44_is : ∃ i u, TyIs Try.prog 44 ty44 i u :=
  ⟨Try.prog.types.getD 44 default, _, {
    info := by kernel_rfl
    under := Try.underlying44
    is := by simp [ty44, UD.is]
    size := by kernel_rfl
    bytes := by kernel_rfl
    zero := by kernel_rfl
    sc := by simp [ty44, scL, V.sc]
    len := by kernel_rfl
    one := by intro h; cases h
    stood := by kernel_rfl }⟩

theorem ty51_is : ∃ i u, TyIs Try.prog 51 ty51 i u :=
  ⟨Try.prog.types.getD 51 default, _, {
    info := by kernel_rfl
    under := Try.underlying51
    is := by simp [ty51, UD.is]
    size := by kernel_rfl
    bytes := by kernel_rfl
    zero := by kernel_rfl
    sc := by simp [ty51, scL, V.sc]
    len := by kernel_rfl
    one := fun _ => ⟨_, rfl, rfl⟩
    stood := by kernel_rfl }⟩

theorem ty53_is : ∃ i u, TyIs Try.prog 53 ty53 i u :=
  ⟨Try.prog.types.getD 53 default, _, {
    info := by kernel_rfl
    under := Try.underlying53
    is := by simp [ty53, UD.is]
    size := by kernel_rfl
    bytes := by kernel_rfl
    zero := by kernel_rfl
    sc := by simp [ty53, scL, V.sc]
    len := by kernel_rfl
    one := by intro h; cases h
    stood := by kernel_rfl }⟩

theorem ty62_is : ∃ i u, TyIs Try.prog 62 ty62 i u :=
  ⟨Try.prog.types.getD 62 default, _, {
    info := by kernel_rfl
    under := Try.underlying62
    is := by simp [ty62, UD.is]
    size := by kernel_rfl
    bytes := by kernel_rfl
    zero := by kernel_rfl
    sc := by simp [ty62, scL, V.sc]
    len := by kernel_rfl
    one := fun _ => ⟨_, rfl, rfl⟩
    stood := by kernel_rfl }⟩

theorem ty70_is : ∃ i u, TyIs Try.prog 70 ty70 i u :=
  ⟨Try.prog.types.getD 70 default, _, {
    info := by kernel_rfl
    under := Try.underlying70
    is := by simp [ty70, UD.is]
    size := by kernel_rfl
    bytes := by kernel_rfl
    zero := by kernel_rfl
    sc := by simp [ty70, scL, V.sc]
    len := by kernel_rfl
    one := by intro h; cases h
    stood := by kernel_rfl }⟩

theorem ty71_is : ∃ i u, TyIs Try.prog 71 ty71 i u :=
  ⟨Try.prog.types.getD 71 default, _, {
    info := by kernel_rfl
    under := Try.underlying71
    is := by simp [ty71, UD.is]
    size := by kernel_rfl
    bytes := by kernel_rfl
    zero := by kernel_rfl
    sc := by simp [ty71, scL, V.sc]
    len := by kernel_rfl
    one := fun _ => ⟨_, rfl, rfl⟩
    stood := by kernel_rfl }⟩

theorem ty109_is : ∃ i u, TyIs Try.prog 109 ty109 i u :=
  ⟨Try.prog.types.getD 109 default, _, {
    info := by kernel_rfl
    under := Try.underlying109
    is := by simp [ty109, UD.is]
    size := by kernel_rfl
    bytes := by kernel_rfl
    zero := by kernel_rfl
    sc := by simp [ty109, scL, V.sc]
    len := by kernel_rfl
    one := fun _ => ⟨_, rfl, rfl⟩
    stood := by kernel_rfl }⟩

theorem ty110_is : ∃ i u, TyIs Try.prog 110 ty110 i u :=
  ⟨Try.prog.types.getD 110 default, _, {
    info := by kernel_rfl
    under := Try.underlying110
    is := by simp [ty110, UD.is]
    size := by kernel_rfl
    bytes := by kernel_rfl
    zero := by kernel_rfl
    sc := by simp [ty110, scL, V.sc]
    len := by kernel_rfl
    one := fun _ => ⟨_, rfl, rfl⟩
    stood := by kernel_rfl }⟩

theorem ty111_is : ∃ i u, TyIs Try.prog 111 ty111 i u :=
  ⟨Try.prog.types.getD 111 default, _, {
    info := by kernel_rfl
    under := Try.underlying111
    is := by simp [ty111, UD.is]
    size := by kernel_rfl
    bytes := by kernel_rfl
    zero := by kernel_rfl
    sc := by simp [ty111, scL, V.sc]
    len := by kernel_rfl
    one := fun _ => ⟨_, rfl, rfl⟩
    stood := by kernel_rfl }⟩

theorem ty132_is : ∃ i u, TyIs Try.prog 132 ty132 i u :=
  ⟨Try.prog.types.getD 132 default, _, {
    info := by kernel_rfl
    under := Try.underlying132
    is := by simp [ty132, UD.is]
    size := by kernel_rfl
    bytes := by kernel_rfl
    zero := by kernel_rfl
    sc := by simp [ty132, scL, V.sc]
    len := by kernel_rfl
    one := fun _ => ⟨_, rfl, rfl⟩
    stood := by kernel_rfl }⟩

theorem ty134_is : ∃ i u, TyIs Try.prog 134 ty134 i u :=
  ⟨Try.prog.types.getD 134 default, _, {
    info := by kernel_rfl
    under := Try.underlying134
    is := by simp [ty134, UD.is]
    size := by kernel_rfl
    bytes := by kernel_rfl
    zero := by kernel_rfl
    sc := by simp [ty134, scL, V.sc]
    len := by kernel_rfl
    one := by intro h; cases h
    stood := by kernel_rfl }⟩

theorem ty137_is : ∃ i u, TyIs Try.prog 137 ty137 i u :=
  ⟨Try.prog.types.getD 137 default, _, {
    info := by kernel_rfl
    under := Try.underlying137
    is := by simp [ty137, UD.is]
    size := by kernel_rfl
    bytes := by kernel_rfl
    zero := by kernel_rfl
    sc := by simp [ty137, scL, V.sc]
    len := by kernel_rfl
    one := fun _ => ⟨_, rfl, rfl⟩
    stood := by kernel_rfl }⟩

theorem ty139_is : ∃ i u, TyIs Try.prog 139 ty139 i u :=
  ⟨Try.prog.types.getD 139 default, _, {
    info := by kernel_rfl
    under := Try.underlying139
    is := by simp [ty139, UD.is]
    size := by kernel_rfl
    bytes := by kernel_rfl
    zero := by kernel_rfl
    sc := by simp [ty139, scL, V.sc]
    len := by kernel_rfl
    one := by intro h; cases h
    stood := by kernel_rfl }⟩

theorem ty147_is : ∃ i u, TyIs Try.prog 147 ty147 i u :=
  ⟨Try.prog.types.getD 147 default, _, {
    info := by kernel_rfl
    under := Try.underlying147
    is := by simp [ty147, UD.is]
    size := by kernel_rfl
    bytes := by kernel_rfl
    zero := by kernel_rfl
    sc := by simp [ty147, scL, V.sc]
    len := by kernel_rfl
    one := by intro h; cases h
    stood := by kernel_rfl }⟩

theorem ty151_is : ∃ i u, TyIs Try.prog 151 ty151 i u :=
  ⟨Try.prog.types.getD 151 default, _, {
    info := by kernel_rfl
    under := Try.underlying151
    is := by simp [ty151, UD.is]
    size := by kernel_rfl
    bytes := by kernel_rfl
    zero := by kernel_rfl
    sc := by simp [ty151, scL, V.sc]
    len := by kernel_rfl
    one := fun _ => ⟨_, rfl, rfl⟩
    stood := by kernel_rfl }⟩

theorem ty153_is : ∃ i u, TyIs Try.prog 153 ty153 i u :=
  ⟨Try.prog.types.getD 153 default, _, {
    info := by kernel_rfl
    under := Try.underlying153
    is := by simp [ty153, UD.is]
    size := by kernel_rfl
    bytes := by kernel_rfl
    zero := by kernel_rfl
    sc := by simp [ty153, scL, V.sc]
    len := by kernel_rfl
    one := by intro h; cases h
    stood := by kernel_rfl }⟩

theorem ty157_is : ∃ i u, TyIs Try.prog 157 ty157 i u :=
  ⟨Try.prog.types.getD 157 default, _, {
    info := by kernel_rfl
    under := Try.underlying157
    is := by simp [ty157, UD.is]
    size := by kernel_rfl
    bytes := by kernel_rfl
    zero := by kernel_rfl
    sc := by simp [ty157, scL, V.sc]
    len := by kernel_rfl
    one := fun _ => ⟨_, rfl, rfl⟩
    stood := by kernel_rfl }⟩

theorem ty166_is : ∃ i u, TyIs Try.prog 166 ty166 i u :=
  ⟨Try.prog.types.getD 166 default, _, {
    info := by kernel_rfl
    under := Try.underlying166
    is := by simp [ty166, UD.is]
    size := by kernel_rfl
    bytes := by kernel_rfl
    zero := by kernel_rfl
    sc := by simp [ty166, scL, V.sc]
    len := by kernel_rfl
    one := fun _ => ⟨_, rfl, rfl⟩
    stood := by kernel_rfl }⟩

theorem ty173_is : ∃ i u, TyIs Try.prog 173 ty173 i u :=
  ⟨Try.prog.types.getD 173 default, _, {
    info := by kernel_rfl
    under := Try.underlying173
    is := by simp [ty173, UD.is]
    size := by kernel_rfl
    bytes := by kernel_rfl
    zero := by kernel_rfl
    sc := by simp [ty173, scL, V.sc]
    len := by kernel_rfl
    one := by intro h; cases h
    stood := by kernel_rfl }⟩

theorem ty178_is : ∃ i u, TyIs Try.prog 178 ty178 i u :=
  ⟨Try.prog.types.getD 178 default, _, {
    info := by kernel_rfl
    under := Try.underlying178
    is := by simp [ty178, UD.is]
    size := by kernel_rfl
    bytes := by kernel_rfl
    zero := by kernel_rfl
    sc := by simp [ty178, scL, V.sc]
    len := by kernel_rfl
    one := fun _ => ⟨_, rfl, rfl⟩
    stood := by kernel_rfl }⟩

theorem ty181_is : ∃ i u, TyIs Try.prog 181 ty181 i u :=
  ⟨Try.prog.types.getD 181 default, _, {
    info := by kernel_rfl
    under := Try.underlying181
    is := by simp [ty181, UD.is]
    size := by kernel_rfl
    bytes := by kernel_rfl
    zero := by kernel_rfl
    sc := by simp [ty181, scL, V.sc]
    len := by kernel_rfl
    one := fun _ => ⟨_, rfl, rfl⟩
    stood := by kernel_rfl }⟩

noncomputable def tyG (t : Nat) : Option TD := tyT.get t
noncomputable def fnG (f : Nat) : Option FD := fnT.get f
theorem tyOK : TyOK Try.prog tyG := by
  intro t d h
  have key : tyT.all fun t d => ∃ i u, TyIs Try.prog t d i u := ⟨fun a h => (by cases h), ⟨fun a h => (by cases h), ⟨fun a h => (by cases h; exact ty3_is), ⟨fun a h => (by cases h), ⟨fun a h => (by cases h), trivial, ⟨fun a h => (by cases h), trivial, ⟨fun a h => (by cases h; exact ty111_is), trivial, trivial⟩⟩⟩, ⟨fun a h => (by cases h; exact ty23_is), ⟨fun a h => (by cases h), ⟨fun a h => (by cases h; exact ty71_is), trivial, trivial⟩, trivial⟩, ⟨fun a h => (by cases h), ⟨fun a h => (by cases h), ⟨fun a h => (by cases h; exact ty151_is), trivial, trivial⟩, trivial⟩, trivial⟩⟩⟩, ⟨fun a h => (by cases h), ⟨fun a h => (by cases h), ⟨fun a h => (by cases h; exact ty35_is), trivial, trivial⟩, ⟨fun a h => (by cases h; exact ty51_is), ⟨fun a h => (by cases h), ⟨fun a h => (by cases h; exact ty147_is), trivial, trivial⟩, trivial⟩, trivial⟩⟩, ⟨fun a h => (by cases h), ⟨fun a h => (by cases h), ⟨fun a h => (by cases h), ⟨fun a h => (by cases h; exact ty139_is), trivial, trivial⟩, trivial⟩, trivial⟩, trivial⟩⟩⟩, ⟨fun a h => (by cases h; exact ty5_is), ⟨fun a h => (by cases h), trivial, ⟨fun a h => (by cases h; exact ty25_is), ⟨fun a h => (by cases h), ⟨fun a h => (by cases h), ⟨fun a h => (by cases h; exact ty137_is), trivial, trivial⟩, trivial⟩, trivial⟩, ⟨fun a h => (by cases h), ⟨fun a h => (by cases h), ⟨fun a h => (by cases h; exact ty153_is), trivial, trivial⟩, trivial⟩, trivial⟩⟩⟩, ⟨fun a h => (by cases h), ⟨fun a h => (by cases h), trivial, ⟨fun a h => (by cases h; exact ty53_is), trivial, ⟨fun a h => (by cases h), ⟨fun a h => (by cases h; exact ty181_is), trivial, trivial⟩, trivial⟩⟩⟩, ⟨fun a h => (by cases h), ⟨fun a h => (by cases h), trivial, ⟨fun a h => (by cases h; exact ty109_is), ⟨fun a h => (by cases h; exact ty173_is), trivial, trivial⟩, trivial⟩⟩, ⟨fun a h => (by cases h), ⟨fun a h => (by cases h), ⟨fun a h => (by cases h; exact ty157_is), trivial, trivial⟩, trivial⟩, trivial⟩⟩⟩⟩⟩, ⟨fun a h => (by cases h), ⟨fun a h => (by cases h; exact ty4_is), trivial, ⟨fun a h => (by cases h), ⟨fun a h => (by cases h), ⟨fun a h => (by cases h), ⟨fun a h => (by cases h), ⟨fun a h => (by cases h; exact ty132_is), trivial, trivial⟩, trivial⟩, trivial⟩, trivial⟩, ⟨fun a h => (by cases h), ⟨fun a h => (by cases h; exact ty44_is), trivial, trivial⟩, trivial⟩⟩⟩, ⟨fun a h => (by cases h), ⟨fun a h => (by cases h), ⟨fun a h => (by cases h), trivial, ⟨fun a h => (by cases h), trivial, ⟨fun a h => (by cases h), ⟨fun a h => (by cases h; exact ty178_is), trivial, trivial⟩, trivial⟩⟩⟩, ⟨fun a h => (by cases h; exact ty26_is), trivial, trivial⟩⟩, ⟨fun a h => (by cases h), ⟨fun a h => (by cases h; exact ty22_is), ⟨fun a h => (by cases h; exact ty38_is), ⟨fun a h => (by cases h; exact ty70_is), ⟨fun a h => (by cases h; exact ty134_is), trivial, trivial⟩, trivial⟩, ⟨fun a h => (by cases h), ⟨fun a h => (by cases h; exact ty166_is), trivial, trivial⟩, trivial⟩⟩, trivial⟩, ⟨fun a h => (by cases h), ⟨fun a h => (by cases h), trivial, ⟨fun a h => (by cases h; exact ty110_is), trivial, trivial⟩⟩, ⟨fun a h => (by cases h; exact ty62_is), trivial, trivial⟩⟩⟩⟩⟩⟩
  exact T.all_get key h

theorem c12_is : ∃ fn, Try.prog.funcs[12]? = some fn ∧ (fn.name == "runtime.NumGoroutine") = false ∧ compF tyG fn = some c12 ∧ c12.body.lt c12.ntmps = true :=
  ⟨Try.f12, Try.func12, by kernel_rfl, by kernel_rfl, by kernel_rfl⟩

theorem c17_is : ∃ fn, Try.prog.funcs[17]? = some fn ∧ (fn.name == "runtime.NumGoroutine") = false ∧ compF tyG fn = some c17 ∧ c17.body.lt c17.ntmps = true :=
  ⟨Try.f17, Try.func17, by kernel_rfl, by kernel_rfl, by kernel_rfl⟩

theorem c25_is : ∃ fn, Try.prog.funcs[25]? = some fn ∧ (fn.name == "runtime.NumGoroutine") = false ∧ compF tyG fn = some c25 ∧ c25.body.lt c25.ntmps = true :=
  ⟨Try.f25, Try.func25, by kernel_rfl, by kernel_rfl, by kernel_rfl⟩

theorem c29_is : ∃ fn, Try.prog.funcs[29]? = some fn ∧ (fn.name == "runtime.NumGoroutine") = false ∧ compF tyG fn = some c29 ∧ c29.body.lt c29.ntmps = true :=
  ⟨Try.f29, Try.func29, by kernel_rfl, by kernel_rfl, by kernel_rfl⟩

theorem c30_is : ∃ fn, Try.prog.funcs[30]? = some fn ∧ (fn.name == "runtime.NumGoroutine") = false ∧ compF tyG fn = some c30 ∧ c30.body.lt c30.ntmps = true :=
  ⟨Try.f30, Try.func30, by kernel_rfl, by kernel_rfl, by kernel_rfl⟩

theorem c31_is : ∃ fn, Try.prog.funcs[31]? = some fn ∧ (fn.name == "runtime.NumGoroutine") = false ∧ compF tyG fn = some c31 ∧ c31.body.lt c31.ntmps = true :=
  ⟨Try.f31, Try.func31, by kernel_rfl, by kernel_rfl, by kernel_rfl⟩

theorem c32_is : ∃ fn, Try.prog.funcs[32]? = some fn ∧ (fn.name == "runtime.NumGoroutine") = false ∧ compF tyG fn = some c32 ∧ c32.body.lt c32.ntmps = true :=
  ⟨Try.f32, Try.func32, by kernel_rfl, by kernel_rfl, by kernel_rfl⟩

theorem c33_is : ∃ fn, Try.prog.funcs[33]? = some fn ∧ (fn.name == "runtime.NumGoroutine") = false ∧ compF tyG fn = some c33 ∧ c33.body.lt c33.ntmps = true :=
  ⟨Try.f33, Try.func33, by kernel_rfl, by kernel_rfl, by kernel_rfl⟩

theorem c34_is : ∃ fn, Try.prog.funcs[34]? = some fn ∧ (fn.name == "runtime.NumGoroutine") = false ∧ compF tyG fn = some c34 ∧ c34.body.lt c34.ntmps = true :=
  ⟨Try.f34, Try.func34, by kernel_rfl, by kernel_rfl, by kernel_rfl⟩

theorem c36_is : ∃ fn, Try.prog.funcs[36]? = some fn ∧ (fn.name == "runtime.NumGoroutine") = false ∧ compF tyG fn = some c36 ∧ c36.body.lt c36.ntmps = true :=
  ⟨Try.f36, Try.func36, by kernel_rfl, by kernel_rfl, by kernel_rfl⟩

theorem c38_is : ∃ fn, Try.prog.funcs[38]? = some fn ∧ (fn.name == "runtime.NumGoroutine") = false ∧ compF tyG fn = some c38 ∧ c38.body.lt c38.ntmps = true :=
  ⟨Try.f38, Try.func38, by kernel_rfl, by kernel_rfl, by kernel_rfl⟩

theorem c40_is : ∃ fn, Try.prog.funcs[40]? = some fn ∧ (fn.name == "runtime.NumGoroutine") = false ∧ compF tyG fn = some c40 ∧ c40.body.lt c40.ntmps = true :=
  ⟨Try.f40, Try.func40, by kernel_rfl, by kernel_rfl, by kernel_rfl⟩

theorem c42_is : ∃ fn, Try.prog.funcs[42]? = some fn ∧ (fn.name == "runtime.NumGoroutine") = false ∧ compF tyG fn = some c42 ∧ c42.body.lt c42.ntmps = true :=
  ⟨Try.f42, Try.func42, by kernel_rfl, by kernel_rfl, by kernel_rfl⟩

theorem c46_is : ∃ fn, Try.prog.funcs[46]? = some fn ∧ (fn.name == "runtime.NumGoroutine") = false ∧ compF tyG fn = some c46 ∧ c46.body.lt c46.ntmps = true :=
  ⟨Try.f46, Try.func46, by kernel_rfl, by kernel_rfl, by kernel_rfl⟩

theorem c47_is : ∃ fn, Try.prog.funcs[47]? = some fn ∧ (fn.name == "runtime.NumGoroutine") = false ∧ compF tyG fn = some c47 ∧ c47.body.lt c47.ntmps = true :=
  ⟨Try.f47, Try.func47, by kernel_rfl, by kernel_rfl, by kernel_rfl⟩

theorem c48_is : ∃ fn, Try.prog.funcs[48]? = some fn ∧ (fn.name == "runtime.NumGoroutine") = false ∧ compF tyG fn = some c48 ∧ c48.body.lt c48.ntmps = true :=
  ⟨Try.f48, Try.func48, by kernel_rfl, by kernel_rfl, by kernel_rfl⟩

theorem c49_is : ∃ fn, Try.prog.funcs[49]? = some fn ∧ (fn.name == "runtime.NumGoroutine") = false ∧ compF tyG fn = some c49 ∧ c49.body.lt c49.ntmps = true :=
  ⟨Try.f49, Try.func49, by kernel_rfl, by kernel_rfl, by kernel_rfl⟩

theorem c51_is : ∃ fn, Try.prog.funcs[51]? = some fn ∧ (fn.name == "runtime.NumGoroutine") = false ∧ compF tyG fn = some c51 ∧ c51.body.lt c51.ntmps = true :=
  ⟨Try.f51, Try.func51, by kernel_rfl, by kernel_rfl, by kernel_rfl⟩

theorem c52_is : ∃ fn, Try.prog.funcs[52]? = some fn ∧ (fn.name == "runtime.NumGoroutine") = false ∧ compF tyG fn = some c52 ∧ c52.body.lt c52.ntmps = true :=
  ⟨Try.f52, Try.func52, by kernel_rfl, by kernel_rfl, by kernel_rfl⟩

theorem c54_is : ∃ fn, Try.prog.funcs[54]? = some fn ∧ (fn.name == "runtime.NumGoroutine") = false ∧ compF tyG fn = some c54 ∧ c54.body.lt c54.ntmps = true :=
  ⟨Try.f54, Try.func54, by kernel_rfl, by kernel_rfl, by kernel_rfl⟩

theorem c59_is : ∃ fn, Try.prog.funcs[59]? = some fn ∧ (fn.name == "runtime.NumGoroutine") = false ∧ compF tyG fn = some c59 ∧ c59.body.lt c59.ntmps = true :=
  ⟨Try.f59, Try.func59, by kernel_rfl, by kernel_rfl, by kernel_rfl⟩

theorem c60_is : ∃ fn, Try.prog.funcs[60]? = some fn ∧ (fn.name == "runtime.NumGoroutine") = false ∧ compF tyG fn = some c60 ∧ c60.body.lt c60.ntmps = true :=
  ⟨Try.f60, Try.func60, by kernel_rfl, by kernel_rfl, by kernel_rfl⟩

theorem c61_is : ∃ fn, Try.prog.funcs[61]? = some fn ∧ (fn.name == "runtime.NumGoroutine") = false ∧ compF tyG fn = some c61 ∧ c61.body.lt c61.ntmps = true :=
  ⟨Try.f61, Try.func61, by kernel_rfl, by kernel_rfl, by kernel_rfl⟩

theorem c62_is : ∃ fn, Try.prog.funcs[62]? = some fn ∧ (fn.name == "runtime.NumGoroutine") = false ∧ compF tyG fn = some c62 ∧ c62.body.lt c62.ntmps = true :=
  ⟨Try.f62, Try.func62, by kernel_rfl, by kernel_rfl, by kernel_rfl⟩

theorem c63_is : ∃ fn, Try.prog.funcs[63]? = some fn ∧ (fn.name == "runtime.NumGoroutine") = false ∧ compF tyG fn = some c63 ∧ c63.body.lt c63.ntmps = true :=
  ⟨Try.f63, Try.func63, by kernel_rfl, by kernel_rfl, by kernel_rfl⟩

theorem c64_is : ∃ fn, Try.prog.funcs[64]? = some fn ∧ (fn.name == "runtime.NumGoroutine") = false ∧ compF tyG fn = some c64 ∧ c64.body.lt c64.ntmps = true :=
  ⟨Try.f64, Try.func64, by kernel_rfl, by kernel_rfl, by kernel_rfl⟩

theorem c65_is : ∃ fn, Try.prog.funcs[65]? = some fn ∧ (fn.name == "runtime.NumGoroutine") = false ∧ compF tyG fn = some c65 ∧ c65.body.lt c65.ntmps = true :=
  ⟨Try.f65, Try.func65, by kernel_rfl, by kernel_rfl, by kernel_rfl⟩

theorem c72_is : ∃ fn, Try.prog.funcs[72]? = some fn ∧ (fn.name == "runtime.NumGoroutine") = false ∧ compF tyG fn = some c72 ∧ c72.body.lt c72.ntmps = true :=
  ⟨Try.f72, Try.func72, by kernel_rfl, by kernel_rfl, by kernel_rfl⟩

theorem c78_is : ∃ fn, Try.prog.funcs[78]? = some fn ∧ (fn.name == "runtime.NumGoroutine") = false ∧ compF tyG fn = some c78 ∧ c78.body.lt c78.ntmps = true :=
  ⟨Try.f78, Try.func78, by kernel_rfl, by kernel_rfl, by kernel_rfl⟩

theorem c79_is : ∃ fn, Try.prog.funcs[79]? = some fn ∧ (fn.name == "runtime.NumGoroutine") = false ∧ compF tyG fn = some c79 ∧ c79.body.lt c79.ntmps = true :=
  ⟨Try.f79, Try.func79, by kernel_rfl, by kernel_rfl, by kernel_rfl⟩

theorem c80_is : ∃ fn, Try.prog.funcs[80]? = some fn ∧ (fn.name == "runtime.NumGoroutine") = false ∧ compF tyG fn = some c80 ∧ c80.body.lt c80.ntmps = true :=
  ⟨Try.f80, Try.func80, by kernel_rfl, by kernel_rfl, by kernel_rfl⟩

theorem c81_is : ∃ fn, Try.prog.funcs[81]? = some fn ∧ (fn.name == "runtime.NumGoroutine") = false ∧ compF tyG fn = some c81 ∧ c81.body.lt c81.ntmps = true :=
  ⟨Try.f81, Try.func81, by kernel_rfl, by kernel_rfl, by kernel_rfl⟩

theorem c82_is : ∃ fn, Try.prog.funcs[82]? = some fn ∧ (fn.name == "runtime.NumGoroutine") = false ∧ compF tyG fn = some c82 ∧ c82.body.lt c82.ntmps = true :=
  ⟨Try.f82, Try.func82, by kernel_rfl, by kernel_rfl, by kernel_rfl⟩

theorem c87_is : ∃ fn, Try.prog.funcs[87]? = some fn ∧ (fn.name == "runtime.NumGoroutine") = false ∧ compF tyG fn = some c87 ∧ c87.body.lt c87.ntmps = true :=
  ⟨Try.f87, Try.func87, by kernel_rfl, by kernel_rfl, by kernel_rfl⟩

theorem c88_is : ∃ fn, Try.prog.funcs[88]? = some fn ∧ (fn.name == "runtime.NumGoroutine") = false ∧ compF tyG fn = some c88 ∧ c88.body.lt c88.ntmps = true :=
  ⟨Try.f88, Try.func88, by kernel_rfl, by kernel_rfl, by kernel_rfl⟩

theorem c89_is : ∃ fn, Try.prog.funcs[89]? = some fn ∧ (fn.name == "runtime.NumGoroutine") = false ∧ compF tyG fn = some c89 ∧ c89.body.lt c89.ntmps = true :=
  ⟨Try.f89, Try.func89, by kernel_rfl, by kernel_rfl, by kernel_rfl⟩

theorem c90_is : ∃ fn, Try.prog.funcs[90]? = some fn ∧ (fn.name == "runtime.NumGoroutine") = false ∧ compF tyG fn = some c90 ∧ c90.body.lt c90.ntmps = true :=
  ⟨Try.f90, Try.func90, by kernel_rfl, by kernel_rfl, by kernel_rfl⟩

theorem c91_is : ∃ fn, Try.prog.funcs[91]? = some fn ∧ (fn.name == "runtime.NumGoroutine") = false ∧ compF tyG fn = some c91 ∧ c91.body.lt c91.ntmps = true :=
  ⟨Try.f91, Try.func91, by kernel_rfl, by kernel_rfl, by kernel_rfl⟩

theorem c92_is : ∃ fn, Try.prog.funcs[92]? = some fn ∧ (fn.name == "runtime.NumGoroutine") = false ∧ compF tyG fn = some c92 ∧ c92.body.lt c92.ntmps = true :=
  ⟨Try.f92, Try.func92, by kernel_rfl, by kernel_rfl, by kernel_rfl⟩

theorem c93_is : ∃ fn, Try.prog.funcs[93]? = some fn ∧ (fn.name == "runtime.NumGoroutine") = false ∧ compF tyG fn = some c93 ∧ c93.body.lt c93.ntmps = true :=
  ⟨Try.f93, Try.func93, by kernel_rfl, by kernel_rfl, by kernel_rfl⟩

theorem c94_is : ∃ fn, Try.prog.funcs[94]? = some fn ∧ (fn.name == "runtime.NumGoroutine") = false ∧ compF tyG fn = some c94 ∧ c94.body.lt c94.ntmps = true :=
  ⟨Try.f94, Try.func94, by kernel_rfl, by kernel_rfl, by kernel_rfl⟩

theorem c95_is : ∃ fn, Try.prog.funcs[95]? = some fn ∧ (fn.name == "runtime.NumGoroutine") = false ∧ compF tyG fn = some c95 ∧ c95.body.lt c95.ntmps = true :=
  ⟨Try.f95, Try.func95, by kernel_rfl, by kernel_rfl, by kernel_rfl⟩

theorem c96_is : ∃ fn, Try.prog.funcs[96]? = some fn ∧ (fn.name == "runtime.NumGoroutine") = false ∧ compF tyG fn = some c96 ∧ c96.body.lt c96.ntmps = true :=
  ⟨Try.f96, Try.func96, by kernel_rfl, by kernel_rfl, by kernel_rfl⟩

theorem c97_is : ∃ fn, Try.prog.funcs[97]? = some fn ∧ (fn.name == "runtime.NumGoroutine") = false ∧ compF tyG fn = some c97 ∧ c97.body.lt c97.ntmps = true :=
  ⟨Try.f97, Try.func97, by kernel_rfl, by kernel_rfl, by kernel_rfl⟩

theorem c99_is : ∃ fn, Try.prog.funcs[99]? = some fn ∧ (fn.name == "runtime.NumGoroutine") = false ∧ compF tyG fn = some c99 ∧ c99.body.lt c99.ntmps = true :=
  ⟨Try.f99, Try.func99, by kernel_rfl, by kernel_rfl, by kernel_rfl⟩

theorem c100_is : ∃ fn, Try.prog.funcs[100]? = some fn ∧ (fn.name == "runtime.NumGoroutine") = false ∧ compF tyG fn = some c100 ∧ c100.body.lt c100.ntmps = true :=
  ⟨Try.f100, Try.func100, by kernel_rfl, by kernel_rfl, by kernel_rfl⟩

theorem c105_is : ∃ fn, Try.prog.funcs[105]? = some fn ∧ (fn.name == "runtime.NumGoroutine") = false ∧ compF tyG fn = some c105 ∧ c105.body.lt c105.ntmps = true :=
  ⟨Try.f105, Try.func105, by kernel_rfl, by kernel_rfl, by kernel_rfl⟩

theorem c106_is : ∃ fn, Try.prog.funcs[106]? = some fn ∧ (fn.name == "runtime.NumGoroutine") = false ∧ compF tyG fn = some c106 ∧ c106.body.lt c106.ntmps = true :=
  ⟨Try.f106, Try.func106, by kernel_rfl, by kernel_rfl, by kernel_rfl⟩

theorem c107_is : ∃ fn, Try.prog.funcs[107]? = some fn ∧ (fn.name == "runtime.NumGoroutine") = false ∧ compF tyG fn = some c107 ∧ c107.body.lt c107.ntmps = true :=
  ⟨Try.f107, Try.func107, by kernel_rfl, by kernel_rfl, by kernel_rfl⟩

theorem c108_is : ∃ fn, Try.prog.funcs[108]? = some fn ∧ (fn.name == "runtime.NumGoroutine") = false ∧ compF tyG fn = some c108 ∧ c108.body.lt c108.ntmps = true :=
  ⟨Try.f108, Try.func108, by kernel_rfl, by kernel_rfl, by kernel_rfl⟩

theorem c109_is : ∃ fn, Try.prog.funcs[109]? = some fn ∧ (fn.name == "runtime.NumGoroutine") = false ∧ compF tyG fn = some c109 ∧ c109.body.lt c109.ntmps = true :=
  ⟨Try.f109, Try.func109, by kernel_rfl, by kernel_rfl, by kernel_rfl⟩

theorem c112_is : ∃ fn, Try.prog.funcs[112]? = some fn ∧ (fn.name == "runtime.NumGoroutine") = false ∧ compF tyG fn = some c112 ∧ c112.body.lt c112.ntmps = true :=
  ⟨Try.f112, Try.func112, by kernel_rfl, by kernel_rfl, by kernel_rfl⟩

theorem c113_is : ∃ fn, Try.prog.funcs[113]? = some fn ∧ (fn.name == "runtime.NumGoroutine") = false ∧ compF tyG fn = some c113 ∧ c113.body.lt c113.ntmps = true :=
  ⟨Try.f113, Try.func113, by kernel_rfl, by kernel_rfl, by kernel_rfl⟩

theorem c114_is : ∃ fn, Try.prog.funcs[114]? = some fn ∧ (fn.name == "runtime.NumGoroutine") = false ∧ compF tyG fn = some c114 ∧ c114.body.lt c114.ntmps = true :=
  ⟨Try.f114, Try.func114, by kernel_rfl, by kernel_rfl, by kernel_rfl⟩

theorem c115_is : ∃ fn, Try.prog.funcs[115]? = some fn ∧ (fn.name == "runtime.NumGoroutine") = false ∧ compF tyG fn = some c115 ∧ c115.body.lt c115.ntmps = true :=
  ⟨Try.f115, Try.func115, by kernel_rfl, by kernel_rfl, by kernel_rfl⟩

theorem c116_is : ∃ fn, Try.prog.funcs[116]? = some fn ∧ (fn.name == "runtime.NumGoroutine") = false ∧ compF tyG fn = some c116 ∧ c116.body.lt c116.ntmps = true :=
  ⟨Try.f116, Try.func116, by kernel_rfl, by kernel_rfl, by kernel_rfl⟩

theorem c117_is : ∃ fn, Try.prog.funcs[117]? = some fn ∧ (fn.name == "runtime.NumGoroutine") = false ∧ compF tyG fn = some c117 ∧ c117.body.lt c117.ntmps = true :=
  ⟨Try.f117, Try.func117, by kernel_rfl, by kernel_rfl, by kernel_rfl⟩

theorem c118_is : ∃ fn, Try.prog.funcs[118]? = some fn ∧ (fn.name == "runtime.NumGoroutine") = false ∧ compF tyG fn = some c118 ∧ c118.body.lt c118.ntmps = true :=
  ⟨Try.f118, Try.func118, by kernel_rfl, by kernel_rfl, by kernel_rfl⟩

theorem c119_is : ∃ fn, Try.prog.funcs[119]? = some fn ∧ (fn.name == "runtime.NumGoroutine") = false ∧ compF tyG fn = some c119 ∧ c119.body.lt c119.ntmps = true :=
  ⟨Try.f119, Try.func119, by kernel_rfl, by kernel_rfl, by kernel_rfl⟩

theorem c120_is : ∃ fn, Try.prog.funcs[120]? = some fn ∧ (fn.name == "runtime.NumGoroutine") = false ∧ compF tyG fn = some c120 ∧ c120.body.lt c120.ntmps = true :=
  ⟨Try.f120, Try.func120, by kernel_rfl, by kernel_rfl, by kernel_rfl⟩

theorem c121_is : ∃ fn, Try.prog.funcs[121]? = some fn ∧ (fn.name == "runtime.NumGoroutine") = false ∧ compF tyG fn = some c121 ∧ c121.body.lt c121.ntmps = true :=
  ⟨Try.f121, Try.func121, by kernel_rfl, by kernel_rfl, by kernel_rfl⟩

theorem c122_is : ∃ fn, Try.prog.funcs[122]? = some fn ∧ (fn.name == "runtime.NumGoroutine") = false ∧ compF tyG fn = some c122 ∧ c122.body.lt c122.ntmps = true :=
  ⟨Try.f122, Try.func122, by kernel_rfl, by kernel_rfl, by kernel_rfl⟩

theorem c124_is : ∃ fn, Try.prog.funcs[124]? = some fn ∧ (fn.name == "runtime.NumGoroutine") = false ∧ compF tyG fn = some c124 ∧ c124.body.lt c124.ntmps = true :=
  ⟨Try.f124, Try.func124, by kernel_rfl, by kernel_rfl, by kernel_rfl⟩

theorem c125_is : ∃ fn, Try.prog.funcs[125]? = some fn ∧ (fn.name == "runtime.NumGoroutine") = false ∧ compF tyG fn = some c125 ∧ c125.body.lt c125.ntmps = true :=
  ⟨Try.f125, Try.func125, by kernel_rfl, by kernel_rfl, by kernel_rfl⟩

theorem c126_is : ∃ fn, Try.prog.funcs[126]? = some fn ∧ (fn.name == "runtime.NumGoroutine") = false ∧ compF tyG fn = some c126 ∧ c126.body.lt c126.ntmps = true :=
  ⟨Try.f126, Try.func126, by kernel_rfl, by kernel_rfl, by kernel_rfl⟩

theorem c127_is : ∃ fn, Try.prog.funcs[127]? = some fn ∧ (fn.name == "runtime.NumGoroutine") = false ∧ compF tyG fn = some c127 ∧ c127.body.lt c127.ntmps = true :=
  ⟨Try.f127, Try.func127, by kernel_rfl, by kernel_rfl, by kernel_rfl⟩

theorem c131_is : ∃ fn, Try.prog.funcs[131]? = some fn ∧ (fn.name == "runtime.NumGoroutine") = false ∧ compF tyG fn = some c131 ∧ c131.body.lt c131.ntmps = true :=
  ⟨Try.f131, Try.func131, by kernel_rfl, by kernel_rfl, by kernel_rfl⟩

theorem c134_is : ∃ fn, Try.prog.funcs[134]? = some fn ∧ (fn.name == "runtime.NumGoroutine") = false ∧ compF tyG fn = some c134 ∧ c134.body.lt c134.ntmps = true :=
  ⟨Try.f134, Try.func134, by kernel_rfl, by kernel_rfl, by kernel_rfl⟩

theorem c135_is : ∃ fn, Try.prog.funcs[135]? = some fn ∧ (fn.name == "runtime.NumGoroutine") = false ∧ compF tyG fn = some c135 ∧ c135.body.lt c135.ntmps = true :=
  ⟨Try.f135, Try.func135, by kernel_rfl, by kernel_rfl, by kernel_rfl⟩

theorem c136_is : ∃ fn, Try.prog.funcs[136]? = some fn ∧ (fn.name == "runtime.NumGoroutine") = false ∧ compF tyG fn = some c136 ∧ c136.body.lt c136.ntmps = true :=
  ⟨Try.f136, Try.func136, by kernel_rfl, by kernel_rfl, by kernel_rfl⟩

theorem c137_is : ∃ fn, Try.prog.funcs[137]? = some fn ∧ (fn.name == "runtime.NumGoroutine") = false ∧ compF tyG fn = some c137 ∧ c137.body.lt c137.ntmps = true :=
  ⟨Try.f137, Try.func137, by kernel_rfl, by kernel_rfl, by kernel_rfl⟩

theorem c138_is : ∃ fn, Try.prog.funcs[138]? = some fn ∧ (fn.name == "runtime.NumGoroutine") = false ∧ compF tyG fn = some c138 ∧ c138.body.lt c138.ntmps = true :=
  ⟨Try.f138, Try.func138, by kernel_rfl, by kernel_rfl, by kernel_rfl⟩

theorem c139_is : ∃ fn, Try.prog.funcs[139]? = some fn ∧ (fn.name == "runtime.NumGoroutine") = false ∧ compF tyG fn = some c139 ∧ c139.body.lt c139.ntmps = true :=
  ⟨Try.f139, Try.func139, by kernel_rfl, by kernel_rfl, by kernel_rfl⟩

theorem c140_is : ∃ fn, Try.prog.funcs[140]? = some fn ∧ (fn.name == "runtime.NumGoroutine") = false ∧ compF tyG fn = some c140 ∧ c140.body.lt c140.ntmps = true :=
  ⟨Try.f140, Try.func140, by kernel_rfl, by kernel_rfl, by kernel_rfl⟩

theorem c141_is : ∃ fn, Try.prog.funcs[141]? = some fn ∧ (fn.name == "runtime.NumGoroutine") = false ∧ compF tyG fn = some c141 ∧ c141.body.lt c141.ntmps = true :=
  ⟨Try.f141, Try.func141, by kernel_rfl, by kernel_rfl, by kernel_rfl⟩

theorem c142_is : ∃ fn, Try.prog.funcs[142]? = some fn ∧ (fn.name == "runtime.NumGoroutine") = false ∧ compF tyG fn = some c142 ∧ c142.body.lt c142.ntmps = true :=
  ⟨Try.f142, Try.func142, by kernel_rfl, by kernel_rfl, by kernel_rfl⟩

theorem c143_is : ∃ fn, Try.prog.funcs[143]? = some fn ∧ (fn.name == "runtime.NumGoroutine") = false ∧ compF tyG fn = some c143 ∧ c143.body.lt c143.ntmps = true :=
  ⟨Try.f143, Try.func143, by kernel_rfl, by kernel_rfl, by kernel_rfl⟩

theorem c144_is : ∃ fn, Try.prog.funcs[144]? = some fn ∧ (fn.name == "runtime.NumGoroutine") = false ∧ compF tyG fn = some c144 ∧ c144.body.lt c144.ntmps = true :=
  ⟨Try.f144, Try.func144, by kernel_rfl, by kernel_rfl, by kernel_rfl⟩

theorem c148_is : ∃ fn, Try.prog.funcs[148]? = some fn ∧ (fn.name == "runtime.NumGoroutine") = false ∧ compF tyG fn = some c148 ∧ c148.body.lt c148.ntmps = true :=
  ⟨Try.f148, Try.func148, by kernel_rfl, by kernel_rfl, by kernel_rfl⟩

theorem c149_is : ∃ fn, Try.prog.funcs[149]? = some fn ∧ (fn.name == "runtime.NumGoroutine") = false ∧ compF tyG fn = some c149 ∧ c149.body.lt c149.ntmps = true :=
  ⟨Try.f149, Try.func149, by kernel_rfl, by kernel_rfl, by kernel_rfl⟩

theorem c150_is : ∃ fn, Try.prog.funcs[150]? = some fn ∧ (fn.name == "runtime.NumGoroutine") = false ∧ compF tyG fn = some c150 ∧ c150.body.lt c150.ntmps = true :=
  ⟨Try.f150, Try.func150, by kernel_rfl, by kernel_rfl, by kernel_rfl⟩

theorem c151_is : ∃ fn, Try.prog.funcs[151]? = some fn ∧ (fn.name == "runtime.NumGoroutine") = false ∧ compF tyG fn = some c151 ∧ c151.body.lt c151.ntmps = true :=
  ⟨Try.f151, Try.func151, by kernel_rfl, by kernel_rfl, by kernel_rfl⟩

theorem c152_is : ∃ fn, Try.prog.funcs[152]? = some fn ∧ (fn.name == "runtime.NumGoroutine") = false ∧ compF tyG fn = some c152 ∧ c152.body.lt c152.ntmps = true :=
  ⟨Try.f152, Try.func152, by kernel_rfl, by kernel_rfl, by kernel_rfl⟩

theorem c153_is : ∃ fn, Try.prog.funcs[153]? = some fn ∧ (fn.name == "runtime.NumGoroutine") = false ∧ compF tyG fn = some c153 ∧ c153.body.lt c153.ntmps = true :=
  ⟨Try.f153, Try.func153, by kernel_rfl, by kernel_rfl, by kernel_rfl⟩

theorem c154_is : ∃ fn, Try.prog.funcs[154]? = some fn ∧ (fn.name == "runtime.NumGoroutine") = false ∧ compF tyG fn = some c154 ∧ c154.body.lt c154.ntmps = true :=
  ⟨Try.f154, Try.func154, by kernel_rfl, by kernel_rfl, by kernel_rfl⟩

theorem c155_is : ∃ fn, Try.prog.funcs[155]? = some fn ∧ (fn.name == "runtime.NumGoroutine") = false ∧ compF tyG fn = some c155 ∧ c155.body.lt c155.ntmps = true :=
  ⟨Try.f155, Try.func155, by kernel_rfl, by kernel_rfl, by kernel_rfl⟩

theorem c156_is : ∃ fn, Try.prog.funcs[156]? = some fn ∧ (fn.name == "runtime.NumGoroutine") = false ∧ compF tyG fn = some c156 ∧ c156.body.lt c156.ntmps = true :=
  ⟨Try.f156, Try.func156, by kernel_rfl, by kernel_rfl, by kernel_rfl⟩

theorem c157_is : ∃ fn, Try.prog.funcs[157]? = some fn ∧ (fn.name == "runtime.NumGoroutine") = false ∧ compF tyG fn = some c157 ∧ c157.body.lt c157.ntmps = true :=
  ⟨Try.f157, Try.func157, by kernel_rfl, by kernel_rfl, by kernel_rfl⟩

theorem c159_is : ∃ fn, Try.prog.funcs[159]? = some fn ∧ (fn.name == "runtime.NumGoroutine") = false ∧ compF tyG fn = some c159 ∧ c159.body.lt c159.ntmps = true :=
  ⟨Try.f159, Try.func159, by kernel_rfl, by kernel_rfl, by kernel_rfl⟩

theorem fnOK : FnOk Try.prog tyG fnG := by
  refine ⟨fun f fd h => ?_⟩
  have key : fnT.all fun f fd => ∃ fn, Try.prog.funcs[f]? = some fn ∧ (fn.name == "runtime.NumGoroutine") = false ∧ compF tyG fn = some fd ∧ fd.body.lt fd.ntmps = true :=
    ⟨fun a h => (by cases h), ⟨fun a h => (by cases h), ⟨fun a h => (by cases h), ⟨fun a h => (by cases h), ⟨fun a h => (by cases h), ⟨fun a h => (by cases h; exact c31_is), ⟨fun a h => (by cases h; exact c63_is), ⟨fun a h => (by cases h; exact c127_is), trivial, trivial⟩, trivial⟩, ⟨fun a h => (by cases h; exact c95_is), ⟨fun a h => (by cases h; exact c159_is), trivial, trivial⟩, trivial⟩⟩, ⟨fun a h => (by cases h; exact c47_is), ⟨fun a h => (by cases h; exact c79_is), ⟨fun a h => (by cases h; exact c143_is), trivial, trivial⟩, trivial⟩, trivial⟩⟩, ⟨fun a h => (by cases h), ⟨fun a h => (by cases h), ⟨fun a h => (by cases h), ⟨fun a h => (by cases h; exact c135_is), trivial, trivial⟩, trivial⟩, trivial⟩, ⟨fun a h => (by cases h), ⟨fun a h => (by cases h; exact c87_is), ⟨fun a h => (by cases h; exact c151_is), trivial, trivial⟩, trivial⟩, ⟨fun a h => (by cases h; exact c119_is), trivial, trivial⟩⟩⟩⟩, ⟨fun a h => (by cases h), ⟨fun a h => (by cases h), ⟨fun a h => (by cases h), ⟨fun a h => (by cases h), ⟨fun a h => (by cases h; exact c131_is), trivial, trivial⟩, trivial⟩, ⟨fun a h => (by cases h; exact c99_is), trivial, trivial⟩⟩, ⟨fun a h => (by cases h; exact c51_is), trivial, ⟨fun a h => (by cases h; exact c115_is), trivial, trivial⟩⟩⟩, ⟨fun a h => (by cases h), ⟨fun a h => (by cases h), ⟨fun a h => (by cases h), ⟨fun a h => (by cases h; exact c139_is), trivial, trivial⟩, trivial⟩, ⟨fun a h => (by cases h; exact c107_is), trivial, trivial⟩⟩, ⟨fun a h => (by cases h; exact c59_is), ⟨fun a h => (by cases h; exact c91_is), ⟨fun a h => (by cases h; exact c155_is), trivial, trivial⟩, trivial⟩, trivial⟩⟩⟩⟩, ⟨fun a h => (by cases h), ⟨fun a h => (by cases h), ⟨fun a h => (by cases h; exact c17_is), ⟨fun a h => (by cases h; exact c33_is), ⟨fun a h => (by cases h; exact c65_is), trivial, trivial⟩, ⟨fun a h => (by cases h; exact c97_is), trivial, trivial⟩⟩, ⟨fun a h => (by cases h; exact c49_is), ⟨fun a h => (by cases h; exact c81_is), trivial, trivial⟩, ⟨fun a h => (by cases h; exact c113_is), trivial, trivial⟩⟩⟩, ⟨fun a h => (by cases h; exact c25_is), ⟨fun a h => (by cases h), ⟨fun a h => (by cases h), ⟨fun a h => (by cases h; exact c137_is), trivial, trivial⟩, trivial⟩, ⟨fun a h => (by cases h; exact c105_is), trivial, trivial⟩⟩, ⟨fun a h => (by cases h), ⟨fun a h => (by cases h; exact c89_is), ⟨fun a h => (by cases h; exact c153_is), trivial, trivial⟩, trivial⟩, ⟨fun a h => (by cases h; exact c121_is), trivial, trivial⟩⟩⟩⟩, ⟨fun a h => (by cases h), ⟨fun a h => (by cases h), trivial, ⟨fun a h => (by cases h), ⟨fun a h => (by cases h), ⟨fun a h => (by cases h; exact c149_is), trivial, trivial⟩, trivial⟩, ⟨fun a h => (by cases h; exact c117_is), trivial, trivial⟩⟩⟩, ⟨fun a h => (by cases h; exact c29_is), ⟨fun a h => (by cases h), ⟨fun a h => (by cases h), ⟨fun a h => (by cases h; exact c141_is), trivial, trivial⟩, trivial⟩, ⟨fun a h => (by cases h; exact c109_is), trivial, trivial⟩⟩, ⟨fun a h => (by cases h; exact c61_is), ⟨fun a h => (by cases h; exact c93_is), ⟨fun a h => (by cases h; exact c157_is), trivial, trivial⟩, trivial⟩, ⟨fun a h => (by cases h; exact c125_is), trivial, trivial⟩⟩⟩⟩⟩⟩, ⟨fun a h => (by cases h), ⟨fun a h => (by cases h), ⟨fun a h => (by cases h), ⟨fun a h => (by cases h), ⟨fun a h => (by cases h; exact c32_is), ⟨fun a h => (by cases h; exact c64_is), trivial, trivial⟩, ⟨fun a h => (by cases h; exact c96_is), trivial, trivial⟩⟩, ⟨fun a h => (by cases h; exact c48_is), ⟨fun a h => (by cases h; exact c80_is), ⟨fun a h => (by cases h; exact c144_is), trivial, trivial⟩, trivial⟩, ⟨fun a h => (by cases h; exact c112_is), trivial, trivial⟩⟩⟩, ⟨fun a h => (by cases h), ⟨fun a h => (by cases h; exact c40_is), ⟨fun a h => (by cases h; exact c72_is), ⟨fun a h => (by cases h; exact c136_is), trivial, trivial⟩, trivial⟩, trivial⟩, ⟨fun a h => (by cases h), ⟨fun a h => (by cases h; exact c88_is), ⟨fun a h => (by cases h; exact c152_is), trivial, trivial⟩, trivial⟩, ⟨fun a h => (by cases h; exact c120_is), trivial, trivial⟩⟩⟩⟩, ⟨fun a h => (by cases h; exact c12_is), ⟨fun a h => (by cases h), ⟨fun a h => (by cases h; exact c36_is), trivial, ⟨fun a h => (by cases h; exact c100_is), trivial, trivial⟩⟩, ⟨fun a h => (by cases h; exact c52_is), ⟨fun a h => (by cases h), ⟨fun a h => (by cases h; exact c148_is), trivial, trivial⟩, trivial⟩, ⟨fun a h => (by cases h; exact c116_is), trivial, trivial⟩⟩⟩, ⟨fun a h => (by cases h), ⟨fun a h => (by cases h), ⟨fun a h => (by cases h), ⟨fun a h => (by cases h; exact c140_is), trivial, trivial⟩, trivial⟩, ⟨fun a h => (by cases h; exact c108_is), trivial, trivial⟩⟩, ⟨fun a h => (by cases h; exact c60_is), ⟨fun a h => (by cases h; exact c92_is), ⟨fun a h => (by cases h; exact c156_is), trivial, trivial⟩, trivial⟩, ⟨fun a h => (by cases h; exact c124_is), trivial, trivial⟩⟩⟩⟩⟩, ⟨fun a h => (by cases h), ⟨fun a h => (by cases h), ⟨fun a h => (by cases h), ⟨fun a h => (by cases h; exact c34_is), trivial, trivial⟩, ⟨fun a h => (by cases h), ⟨fun a h => (by cases h; exact c82_is), trivial, trivial⟩, ⟨fun a h => (by cases h; exact c114_is), trivial, trivial⟩⟩⟩, ⟨fun a h => (by cases h), ⟨fun a h => (by cases h; exact c42_is), ⟨fun a h => (by cases h), ⟨fun a h => (by cases h; exact c138_is), trivial, trivial⟩, trivial⟩, ⟨fun a h => (by cases h; exact c106_is), trivial, trivial⟩⟩, ⟨fun a h => (by cases h), ⟨fun a h => (by cases h; exact c90_is), ⟨fun a h => (by cases h; exact c154_is), trivial, trivial⟩, trivial⟩, ⟨fun a h => (by cases h; exact c122_is), trivial, trivial⟩⟩⟩⟩, ⟨fun a h => (by cases h), ⟨fun a h => (by cases h), ⟨fun a h => (by cases h; exact c38_is), ⟨fun a h => (by cases h), ⟨fun a h => (by cases h; exact c134_is), trivial, trivial⟩, trivial⟩, trivial⟩, ⟨fun a h => (by cases h; exact c54_is), ⟨fun a h => (by cases h), ⟨fun a h => (by cases h; exact c150_is), trivial, trivial⟩, trivial⟩, ⟨fun a h => (by cases h; exact c118_is), trivial, trivial⟩⟩⟩, ⟨fun a h => (by cases h; exact c30_is), ⟨fun a h => (by cases h; exact c46_is), ⟨fun a h => (by cases h; exact c78_is), ⟨fun a h => (by cases h; exact c142_is), trivial, trivial⟩, trivial⟩, trivial⟩, ⟨fun a h => (by cases h; exact c62_is), ⟨fun a h => (by cases h; exact c94_is), trivial, trivial⟩, ⟨fun a h => (by cases h; exact c126_is), trivial, trivial⟩⟩⟩⟩⟩⟩⟩
  exact T.all_get key h
theorem depth_ok : 8 ≤ Try.prog.depth := Nat.le_of_ble_eq_true (by kernel_rfl)
theorem mixed_ok : Try.prog.follows .mixedOrders = true := by kernel_rfl

end Go.Ab.Try
