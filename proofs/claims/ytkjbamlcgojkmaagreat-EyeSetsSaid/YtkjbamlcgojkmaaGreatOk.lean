/- The types and the code that our machine has are the program's (printed by a program of ours). -/
import Derived.Test.YtkjbamlcgojkmaaGreatProg
import Derived.Test.YtkjbamlcgojkmaaGreatDat
import Derived.Test.YtkjbamlcgojkmaaGreatAbS
import Derived.KernelRfl
set_option linter.unusedSimpArgs false
set_option linter.unusedVariables false
namespace Go.Ab.Tryz
open Go.Proofs

theorem ty3_is : ∃ i u, TyIs Tryz.prog 3 ty3 i u :=
  ⟨Tryz.prog.types.getD 3 default, _, {
    info := by kernel_rfl
    under := Tryz.underlying3
    is := by simp [ty3, UD.is]
    size := by kernel_rfl
    bytes := by kernel_rfl
    zero := by kernel_rfl
    sc := by simp [ty3, scL, V.sc]
    len := by kernel_rfl
    one := fun _ => ⟨_, rfl, rfl⟩
    stood := by kernel_rfl }⟩

theorem ty4_is : ∃ i u, TyIs Tryz.prog 4 ty4 i u :=
  ⟨Tryz.prog.types.getD 4 default, _, {
    info := by kernel_rfl
    under := Tryz.underlying4
    is := by simp [ty4, UD.is]
    size := by kernel_rfl
    bytes := by kernel_rfl
    zero := by kernel_rfl
    sc := by simp [ty4, scL, V.sc]
    len := by kernel_rfl
    one := fun _ => ⟨_, rfl, rfl⟩
    stood := by kernel_rfl }⟩

theorem ty22_is : ∃ i u, TyIs Tryz.prog 22 ty22 i u :=
  ⟨Tryz.prog.types.getD 22 default, _, {
    info := by kernel_rfl
    under := Tryz.underlying22
    is := by simp [ty22, UD.is]
    size := by kernel_rfl
    bytes := by kernel_rfl
    zero := by kernel_rfl
    sc := by simp [ty22, scL, V.sc]
    len := by kernel_rfl
    one := fun _ => ⟨_, rfl, rfl⟩
    stood := by kernel_rfl }⟩

theorem ty23_is : ∃ i u, TyIs Tryz.prog 23 ty23 i u :=
  ⟨Tryz.prog.types.getD 23 default, _, {
    info := by kernel_rfl
    under := Tryz.underlying23
    is := by simp [ty23, UD.is]
    size := by kernel_rfl
    bytes := by kernel_rfl
    zero := by kernel_rfl
    sc := by simp [ty23, scL, V.sc]
    len := by kernel_rfl
    one := fun _ => ⟨_, rfl, rfl⟩
    stood := by kernel_rfl }⟩

theorem ty24_is : ∃ i u, TyIs Tryz.prog 24 ty24 i u :=
  ⟨Tryz.prog.types.getD 24 default, _, {
    info := by kernel_rfl
    under := Tryz.underlying24
    is := by simp [ty24, UD.is]
    size := by kernel_rfl
    bytes := by kernel_rfl
    zero := by kernel_rfl
    sc := by simp [ty24, scL, V.sc]
    len := by kernel_rfl
    one := fun _ => ⟨_, rfl, rfl⟩
    stood := by kernel_rfl }⟩

theorem ty26_is : ∃ i u, TyIs Tryz.prog 26 ty26 i u :=
  ⟨Tryz.prog.types.getD 26 default, _, {
    info := by kernel_rfl
    under := Tryz.underlying26
    is := by simp [ty26, UD.is]
    size := by kernel_rfl
    bytes := by kernel_rfl
    zero := by kernel_rfl
    sc := by simp [ty26, scL, V.sc]
    len := by kernel_rfl
    one := by intro h; cases h
    stood := by kernel_rfl }⟩

theorem ty27_is : ∃ i u, TyIs Tryz.prog 27 ty27 i u :=
  ⟨Tryz.prog.types.getD 27 default, _, {
    info := by kernel_rfl
    under := Tryz.underlying27
    is := by simp [ty27, UD.is]
    size := by kernel_rfl
    bytes := by kernel_rfl
    zero := by kernel_rfl
    sc := by simp [ty27, scL, V.sc]
    len := by kernel_rfl
    one := fun _ => ⟨_, rfl, rfl⟩
    stood := by kernel_rfl }⟩

theorem ty32_is : ∃ i u, TyIs Tryz.prog 32 ty32 i u :=
  ⟨Tryz.prog.types.getD 32 default, _, {
    info := by kernel_rfl
    under := Tryz.underlying32
    is := by simp [ty32, UD.is]
    size := by kernel_rfl
    bytes := by kernel_rfl
    zero := by kernel_rfl
    sc := by simp [ty32, scL, V.sc]
    len := by kernel_rfl
    one := fun _ => ⟨_, rfl, rfl⟩
    stood := by kernel_rfl }⟩

theorem ty33_is : ∃ i u, TyIs Tryz.prog 33 ty33 i u :=
  ⟨Tryz.prog.types.getD 33 default, _, {
    info := by kernel_rfl
    under := Tryz.underlying33
    is := by simp [ty33, UD.is]
    size := by kernel_rfl
    bytes := by kernel_rfl
    zero := by kernel_rfl
    sc := by simp [ty33, scL, V.sc]
    len := by kernel_rfl
    one := fun _ => ⟨_, rfl, rfl⟩
    stood := by kernel_rfl }⟩

theorem ty35_is : ∃ i u, TyIs Tryz.prog 35 ty35 i u :=
  ⟨Tryz.prog.types.getD 35 default, _, {
    info := by kernel_rfl
    under := Tryz.underlying35
    is := by simp [ty35, UD.is]
    size := by kernel_rfl
    bytes := by kernel_rfl
    zero := by kernel_rfl
    sc := by simp [ty35, scL, V.sc]
    len := by kernel_rfl
    one := by intro h; cases h
    stood := by kernel_rfl }⟩

theorem ty38_is : ∃ i u, TyIs Tryz.prog 38 ty38 i u :=
  ⟨Tryz.prog.types.getD 38 default, _, {
    info := by kernel_rfl
    under := Tryz.underlying38
    is := by simp [ty38, UD.is]
    size := by kernel_rfl
    bytes := by kernel_rfl
    zero := by kernel_rfl
    sc := by simp [ty38, scL, V.sc]
    len := by kernel_rfl
    one := fun _ => ⟨_, rfl, rfl⟩
    stood := by kernel_rfl }⟩

theorem ty40_is : ∃ i u, TyIs Tryz.prog 40 ty40 i u :=
  ⟨Tryz.prog.types.getD 40 default, _, {
    info := by kernel_rfl
    under := Tryz.underlying40
    is := by simp [ty40, UD.is]
    size := by kernel_rfl
    bytes := by kernel_rfl
    zero := by kernel_rfl
    sc := by simp [ty40, scL, V.sc]
    len := by kernel_rfl
    one := fun _ => ⟨_, rfl, rfl⟩
    stood := by kernel_rfl }⟩

theorem ty68_is : ∃ i u, TyIs Tryz.prog 68 ty68 i u :=
  ⟨Tryz.prog.types.getD 68 default, _, {
    info := by kernel_rfl
    under := Tryz.underlying68
    is := by simp [ty68, UD.is]
    size := by kernel_rfl
    bytes := by kernel_rfl
    zero := by kernel_rfl
    sc := by simp [ty68, scL, V.sc]
    len := by kernel_rfl
    one := by intro h; cases h
    stood := by kernel_rfl }⟩

theorem ty70_is : ∃ i u, TyIs Tryz.prog 70 ty70 i u :=
  ⟨Tryz.prog.types.getD 70 default, _, {
    info := by kernel_rfl
    under := Tryz.underlying70
    is := by simp [ty70, UD.is]
    size := by kernel_rfl
    bytes := by kernel_rfl
    zero := by kernel_rfl
    sc := by simp [ty70, scL, V.sc]
    len := by kernel_rfl
    one := by intro h; cases h
    stood := by kernel_rfl }⟩

theorem ty73_is : ∃ i u, TyIs Tryz.prog 73 ty73 i u :=
  ⟨Tryz.prog.types.getD 73 default, _, {
    info := by kernel_rfl
    under := Tryz.underlying73
    is := by simp [ty73, UD.is]
    size := by kernel_rfl
    bytes := by kernel_rfl
    zero := by kernel_rfl
    sc := by simp [ty73, scL, V.sc]
    len := by kernel_rfl
    one := by intro h; cases h
    stood := by kernel_rfl }⟩

theorem ty74_is : ∃ i u, TyIs Tryz.prog 74 ty74 i u :=
  ⟨Tryz.prog.types.getD 74 default, _, {
    info := by kernel_rfl
    under := Tryz.underlying74
    is := by simp [ty74, UD.is]
    size := by kernel_rfl
    bytes := by kernel_rfl
    zero := by kernel_rfl
    sc := by simp [ty74, scL, V.sc]
    len := by kernel_rfl
    one := by intro h; cases h
    stood := by kernel_rfl }⟩

theorem ty79_is : ∃ i u, TyIs Tryz.prog 79 ty79 i u :=
  ⟨Tryz.prog.types.getD 79 default, _, {
    info := by kernel_rfl
    under := Tryz.underlying79
    is := by simp [ty79, UD.is]
    size := by kernel_rfl
    bytes := by kernel_rfl
    zero := by kernel_rfl
    sc := by simp [ty79, scL, V.sc]
    len := by kernel_rfl
    one := fun _ => ⟨_, rfl, rfl⟩
    stood := by kernel_rfl }⟩

theorem ty85_is : ∃ i u, TyIs Tryz.prog 85 ty85 i u :=
  ⟨Tryz.prog.types.getD 85 default, _, {
    info := by kernel_rfl
    under := Tryz.underlying85
    is := by simp [ty85, UD.is]
    size := by kernel_rfl
    bytes := by kernel_rfl
    zero := by kernel_rfl
    sc := by simp [ty85, scL, V.sc]
    len := by kernel_rfl
    one := fun _ => ⟨_, rfl, rfl⟩
    stood := by kernel_rfl }⟩

theorem ty87_is : ∃ i u, TyIs Tryz.prog 87 ty87 i u :=
  ⟨Tryz.prog.types.getD 87 default, _, {
    info := by kernel_rfl
    under := Tryz.underlying87
    is := by simp [ty87, UD.is]
    size := by kernel_rfl
    bytes := by kernel_rfl
    zero := by kernel_rfl
    sc := by simp [ty87, scL, V.sc]
    len := by kernel_rfl
    one := fun _ => ⟨_, rfl, rfl⟩
    stood := by kernel_rfl }⟩

theorem ty90_is : ∃ i u, TyIs Tryz.prog 90 ty90 i u :=
  ⟨Tryz.prog.types.getD 90 default, _, {
    info := by kernel_rfl
    under := Tryz.underlying90
    is := by simp [ty90, UD.is]
    size := by kernel_rfl
    bytes := by kernel_rfl
    zero := by kernel_rfl
    sc := by simp [ty90, scL, V.sc]
    len := by kernel_rfl
    one := fun _ => ⟨_, rfl, rfl⟩
    stood := by kernel_rfl }⟩

theorem ty99_is : ∃ i u, TyIs Tryz.prog 99 ty99 i u :=
  ⟨Tryz.prog.types.getD 99 default, _, {
    info := by kernel_rfl
    under := Tryz.underlying99
    is := by simp [ty99, UD.is]
    size := by kernel_rfl
    bytes := by kernel_rfl
    zero := by kernel_rfl
    sc := by simp [ty99, scL, V.sc]
    len := by kernel_rfl
    one := fun _ => ⟨_, rfl, rfl⟩
    stood := by kernel_rfl }⟩

theorem ty104_is : ∃ i u, TyIs Tryz.prog 104 ty104 i u :=
  ⟨Tryz.prog.types.getD 104 default, _, {
    info := by kernel_rfl
    under := Tryz.underlying104
    is := by simp [ty104, UD.is]
    size := by kernel_rfl
    bytes := by kernel_rfl
    zero := by kernel_rfl
    sc := by simp [ty104, scL, V.sc]
    len := by kernel_rfl
    one := by intro h; cases h
    stood := by kernel_rfl }⟩

theorem ty112_is : ∃ i u, TyIs Tryz.prog 112 ty112 i u :=
  ⟨Tryz.prog.types.getD 112 default, _, {
    info := by kernel_rfl
    under := Tryz.underlying112
    is := by simp [ty112, UD.is]
    size := by kernel_rfl
    bytes := by kernel_rfl
    zero := by kernel_rfl
    sc := by simp [ty112, scL, V.sc]
    len := by kernel_rfl
    one := by intro h; cases h
    stood := by kernel_rfl }⟩

theorem ty114_is : ∃ i u, TyIs Tryz.prog 114 ty114 i u :=
  ⟨Tryz.prog.types.getD 114 default, _, {
    info := by kernel_rfl
    under := Tryz.underlying114
    is := by simp [ty114, UD.is]
    size := by kernel_rfl
    bytes := by kernel_rfl
    zero := by kernel_rfl
    sc := by simp [ty114, scL, V.sc]
    len := by kernel_rfl
    one := by intro h; cases h
    stood := by kernel_rfl }⟩

theorem ty117_is : ∃ i u, TyIs Tryz.prog 117 ty117 i u :=
  ⟨Tryz.prog.types.getD 117 default, _, {
    info := by kernel_rfl
    under := Tryz.underlying117
    is := by simp [ty117, UD.is]
    size := by kernel_rfl
    bytes := by kernel_rfl
    zero := by kernel_rfl
    sc := by simp [ty117, scL, V.sc]
    len := by kernel_rfl
    one := fun _ => ⟨_, rfl, rfl⟩
    stood := by kernel_rfl }⟩

theorem ty119_is : ∃ i u, TyIs Tryz.prog 119 ty119 i u :=
  ⟨Tryz.prog.types.getD 119 default, _, {
    info := by kernel_rfl
    under := Tryz.underlying119
    is := by simp [ty119, UD.is]
    size := by kernel_rfl
    bytes := by kernel_rfl
    zero := by kernel_rfl
    sc := by simp [ty119, scL, V.sc]
    len := by kernel_rfl
    one := fun _ => ⟨_, rfl, rfl⟩
    stood := by kernel_rfl }⟩

theorem ty123_is : ∃ i u, TyIs Tryz.prog 123 ty123 i u :=
  ⟨Tryz.prog.types.getD 123 default, _, {
    info := by kernel_rfl
    under := Tryz.underlying123
    is := by simp [ty123, UD.is]
    size := by kernel_rfl
    bytes := by kernel_rfl
    zero := by kernel_rfl
    sc := by simp [ty123, scL, V.sc]
    len := by kernel_rfl
    one := fun _ => ⟨_, rfl, rfl⟩
    stood := by kernel_rfl }⟩

theorem ty125_is : ∃ i u, TyIs Tryz.prog 125 ty125 i u :=
  ⟨Tryz.prog.types.getD 125 default, _, {
    info := by kernel_rfl
    under := Tryz.underlying125
    is := by simp [ty125, UD.is]
    size := by kernel_rfl
    bytes := by kernel_rfl
    zero := by kernel_rfl
    sc := by simp [ty125, scL, V.sc]
    len := by kernel_rfl
    one := by intro h; cases h
    stood := by kernel_rfl }⟩

theorem ty128_is : ∃ i u, TyIs Tryz.prog 128 ty128 i u :=
  ⟨Tryz.prog.types.getD 128 default, _, {
    info := by kernel_rfl
    under := Tryz.underlying128
    is := by simp [ty128, UD.is]
    size := by kernel_rfl
    bytes := by kernel_rfl
    zero := by kernel_rfl
    sc := by simp [ty128, scL, V.sc]
    len := by kernel_rfl
    one := fun _ => ⟨_, rfl, rfl⟩
    stood := by kernel_rfl }⟩

theorem ty139_is : ∃ i u, TyIs Tryz.prog 139 ty139 i u :=
  ⟨Tryz.prog.types.getD 139 default, _, {
    info := by kernel_rfl
    under := Tryz.underlying139
    is := by simp [ty139, UD.is]
    size := by kernel_rfl
    bytes := by kernel_rfl
    zero := by kernel_rfl
    sc := by simp [ty139, scL, V.sc]
    len := by kernel_rfl
    one := fun _ => ⟨_, rfl, rfl⟩
    stood := by kernel_rfl }⟩

theorem ty141_is : ∃ i u, TyIs Tryz.prog 141 ty141 i u :=
  ⟨Tryz.prog.types.getD 141 default, _, {
    info := by kernel_rfl
    under := Tryz.underlying141
    is := by simp [ty141, UD.is]
    size := by kernel_rfl
    bytes := by kernel_rfl
    zero := by kernel_rfl
    sc := by simp [ty141, scL, V.sc]
    len := by kernel_rfl
    one := fun _ => ⟨_, rfl, rfl⟩
    stood := by kernel_rfl }⟩

theorem ty143_is : ∃ i u, TyIs Tryz.prog 143 ty143 i u :=
  ⟨Tryz.prog.types.getD 143 default, _, {
    info := by kernel_rfl
    under := Tryz.underlying143
    is := by simp [ty143, UD.is]
    size := by kernel_rfl
    bytes := by kernel_rfl
    zero := by kernel_rfl
    sc := by simp [ty143, scL, V.sc]
    len := by kernel_rfl
    one := fun _ => ⟨_, rfl, rfl⟩
    stood := by kernel_rfl }⟩

theorem ty161_is : ∃ i u, TyIs Tryz.prog 161 ty161 i u :=
  ⟨Tryz.prog.types.getD 161 default, _, {
    info := by kernel_rfl
    under := Tryz.underlying161
    is := by simp [ty161, UD.is]
    size := by kernel_rfl
    bytes := by kernel_rfl
    zero := by kernel_rfl
    sc := by simp [ty161, scL, V.sc]
    len := by kernel_rfl
    one := fun _ => ⟨_, rfl, rfl⟩
    stood := by kernel_rfl }⟩

theorem ty166_is : ∃ i u, TyIs Tryz.prog 166 ty166 i u :=
  ⟨Tryz.prog.types.getD 166 default, _, {
    info := by kernel_rfl
    under := Tryz.underlying166
    is := by simp [ty166, UD.is]
    size := by kernel_rfl
    bytes := by kernel_rfl
    zero := by kernel_rfl
    sc := by simp [ty166, scL, V.sc]
    len := by kernel_rfl
    one := by intro h; cases h
    stood := by kernel_rfl }⟩

theorem ty168_is : ∃ i u, TyIs Tryz.prog 168 ty168 i u :=
  ⟨Tryz.prog.types.getD 168 default, _, {
    info := by kernel_rfl
    under := Tryz.underlying168
    is := by simp [ty168, UD.is]
    size := by kernel_rfl
    bytes := by kernel_rfl
    zero := by kernel_rfl
    sc := by simp [ty168, scL, V.sc]
    len := by kernel_rfl
    one := by intro h; cases h
    stood := by kernel_rfl }⟩

noncomputable def tyG (t : Nat) : Option TD := tyT.get t
noncomputable def fnG (f : Nat) : Option FD := fnT.get f
theorem tyOK : TyOK Tryz.prog tyG := by
  intro t d h
  have key : tyT.all fun t d => ∃ i u, TyIs Tryz.prog t d i u := ⟨fun a h => (by cases h), ⟨fun a h => (by cases h), ⟨fun a h => (by cases h; exact ty3_is), ⟨fun a h => (by cases h), ⟨fun a h => (by cases h), trivial, ⟨fun a h => (by cases h), ⟨fun a h => (by cases h; exact ty79_is), ⟨fun a h => (by cases h; exact ty143_is), trivial, trivial⟩, trivial⟩, trivial⟩⟩, ⟨fun a h => (by cases h; exact ty23_is), trivial, ⟨fun a h => (by cases h), ⟨fun a h => (by cases h; exact ty87_is), trivial, trivial⟩, ⟨fun a h => (by cases h; exact ty119_is), trivial, trivial⟩⟩⟩⟩, ⟨fun a h => (by cases h), ⟨fun a h => (by cases h), ⟨fun a h => (by cases h; exact ty35_is), trivial, ⟨fun a h => (by cases h; exact ty99_is), trivial, trivial⟩⟩, trivial⟩, ⟨fun a h => (by cases h; exact ty27_is), ⟨fun a h => (by cases h), ⟨fun a h => (by cases h), ⟨fun a h => (by cases h; exact ty139_is), trivial, trivial⟩, trivial⟩, trivial⟩, ⟨fun a h => (by cases h), trivial, ⟨fun a h => (by cases h; exact ty123_is), trivial, trivial⟩⟩⟩⟩⟩, ⟨fun a h => (by cases h), ⟨fun a h => (by cases h), ⟨fun a h => (by cases h), ⟨fun a h => (by cases h; exact ty33_is), trivial, ⟨fun a h => (by cases h), ⟨fun a h => (by cases h; exact ty161_is), trivial, trivial⟩, trivial⟩⟩, trivial⟩, ⟨fun a h => (by cases h), ⟨fun a h => (by cases h), ⟨fun a h => (by cases h; exact ty73_is), trivial, trivial⟩, trivial⟩, trivial⟩⟩, ⟨fun a h => (by cases h), ⟨fun a h => (by cases h), trivial, ⟨fun a h => (by cases h), ⟨fun a h => (by cases h; exact ty85_is), trivial, trivial⟩, ⟨fun a h => (by cases h; exact ty117_is), trivial, trivial⟩⟩⟩, ⟨fun a h => (by cases h), ⟨fun a h => (by cases h), ⟨fun a h => (by cases h), ⟨fun a h => (by cases h; exact ty141_is), trivial, trivial⟩, trivial⟩, trivial⟩, ⟨fun a h => (by cases h), trivial, ⟨fun a h => (by cases h; exact ty125_is), trivial, trivial⟩⟩⟩⟩⟩⟩, ⟨fun a h => (by cases h), ⟨fun a h => (by cases h; exact ty4_is), ⟨fun a h => (by cases h), ⟨fun a h => (by cases h), ⟨fun a h => (by cases h; exact ty32_is), ⟨fun a h => (by cases h), ⟨fun a h => (by cases h; exact ty128_is), trivial, trivial⟩, trivial⟩, trivial⟩, ⟨fun a h => (by cases h), trivial, ⟨fun a h => (by cases h; exact ty112_is), trivial, trivial⟩⟩⟩, ⟨fun a h => (by cases h; exact ty24_is), ⟨fun a h => (by cases h; exact ty40_is), trivial, ⟨fun a h => (by cases h; exact ty104_is), ⟨fun a h => (by cases h; exact ty168_is), trivial, trivial⟩, trivial⟩⟩, trivial⟩⟩, ⟨fun a h => (by cases h), ⟨fun a h => (by cases h), ⟨fun a h => (by cases h), ⟨fun a h => (by cases h; exact ty68_is), trivial, trivial⟩, trivial⟩, trivial⟩, trivial⟩⟩, ⟨fun a h => (by cases h), ⟨fun a h => (by cases h), ⟨fun a h => (by cases h), trivial, ⟨fun a h => (by cases h), trivial, ⟨fun a h => (by cases h; exact ty114_is), trivial, trivial⟩⟩⟩, ⟨fun a h => (by cases h; exact ty26_is), ⟨fun a h => (by cases h), ⟨fun a h => (by cases h; exact ty74_is), trivial, trivial⟩, trivial⟩, ⟨fun a h => (by cases h), ⟨fun a h => (by cases h; exact ty90_is), trivial, trivial⟩, trivial⟩⟩⟩, ⟨fun a h => (by cases h), ⟨fun a h => (by cases h; exact ty22_is), ⟨fun a h => (by cases h; exact ty38_is), ⟨fun a h => (by cases h; exact ty70_is), trivial, trivial⟩, ⟨fun a h => (by cases h), ⟨fun a h => (by cases h; exact ty166_is), trivial, trivial⟩, trivial⟩⟩, trivial⟩, trivial⟩⟩⟩⟩
  exact T.all_get key h

theorem c3_is : ∃ fn, Tryz.prog.funcs[3]? = some fn ∧ (fn.name == "runtime.NumGoroutine") = false ∧ compF tyG fn = some c3 ∧ c3.body.lt c3.ntmps = true :=
  ⟨Tryz.f3, Tryz.func3, by kernel_rfl, by kernel_rfl, by kernel_rfl⟩

theorem c7_is : ∃ fn, Tryz.prog.funcs[7]? = some fn ∧ (fn.name == "runtime.NumGoroutine") = false ∧ compF tyG fn = some c7 ∧ c7.body.lt c7.ntmps = true :=
  ⟨Tryz.f7, Tryz.func7, by kernel_rfl, by kernel_rfl, by kernel_rfl⟩

theorem c8_is : ∃ fn, Tryz.prog.funcs[8]? = some fn ∧ (fn.name == "runtime.NumGoroutine") = false ∧ compF tyG fn = some c8 ∧ c8.body.lt c8.ntmps = true :=
  ⟨Tryz.f8, Tryz.func8, by kernel_rfl, by kernel_rfl, by kernel_rfl⟩

theorem c9_is : ∃ fn, Tryz.prog.funcs[9]? = some fn ∧ (fn.name == "runtime.NumGoroutine") = false ∧ compF tyG fn = some c9 ∧ c9.body.lt c9.ntmps = true :=
  ⟨Tryz.f9, Tryz.func9, by kernel_rfl, by kernel_rfl, by kernel_rfl⟩

theorem c10_is : ∃ fn, Tryz.prog.funcs[10]? = some fn ∧ (fn.name == "runtime.NumGoroutine") = false ∧ compF tyG fn = some c10 ∧ c10.body.lt c10.ntmps = true :=
  ⟨Tryz.f10, Tryz.func10, by kernel_rfl, by kernel_rfl, by kernel_rfl⟩

theorem c11_is : ∃ fn, Tryz.prog.funcs[11]? = some fn ∧ (fn.name == "runtime.NumGoroutine") = false ∧ compF tyG fn = some c11 ∧ c11.body.lt c11.ntmps = true :=
  ⟨Tryz.f11, Tryz.func11, by kernel_rfl, by kernel_rfl, by kernel_rfl⟩

theorem c12_is : ∃ fn, Tryz.prog.funcs[12]? = some fn ∧ (fn.name == "runtime.NumGoroutine") = false ∧ compF tyG fn = some c12 ∧ c12.body.lt c12.ntmps = true :=
  ⟨Tryz.f12, Tryz.func12, by kernel_rfl, by kernel_rfl, by kernel_rfl⟩

theorem c13_is : ∃ fn, Tryz.prog.funcs[13]? = some fn ∧ (fn.name == "runtime.NumGoroutine") = false ∧ compF tyG fn = some c13 ∧ c13.body.lt c13.ntmps = true :=
  ⟨Tryz.f13, Tryz.func13, by kernel_rfl, by kernel_rfl, by kernel_rfl⟩

theorem c14_is : ∃ fn, Tryz.prog.funcs[14]? = some fn ∧ (fn.name == "runtime.NumGoroutine") = false ∧ compF tyG fn = some c14 ∧ c14.body.lt c14.ntmps = true :=
  ⟨Tryz.f14, Tryz.func14, by kernel_rfl, by kernel_rfl, by kernel_rfl⟩

theorem c15_is : ∃ fn, Tryz.prog.funcs[15]? = some fn ∧ (fn.name == "runtime.NumGoroutine") = false ∧ compF tyG fn = some c15 ∧ c15.body.lt c15.ntmps = true :=
  ⟨Tryz.f15, Tryz.func15, by kernel_rfl, by kernel_rfl, by kernel_rfl⟩

theorem c16_is : ∃ fn, Tryz.prog.funcs[16]? = some fn ∧ (fn.name == "runtime.NumGoroutine") = false ∧ compF tyG fn = some c16 ∧ c16.body.lt c16.ntmps = true :=
  ⟨Tryz.f16, Tryz.func16, by kernel_rfl, by kernel_rfl, by kernel_rfl⟩

theorem c17_is : ∃ fn, Tryz.prog.funcs[17]? = some fn ∧ (fn.name == "runtime.NumGoroutine") = false ∧ compF tyG fn = some c17 ∧ c17.body.lt c17.ntmps = true :=
  ⟨Tryz.f17, Tryz.func17, by kernel_rfl, by kernel_rfl, by kernel_rfl⟩

theorem c18_is : ∃ fn, Tryz.prog.funcs[18]? = some fn ∧ (fn.name == "runtime.NumGoroutine") = false ∧ compF tyG fn = some c18 ∧ c18.body.lt c18.ntmps = true :=
  ⟨Tryz.f18, Tryz.func18, by kernel_rfl, by kernel_rfl, by kernel_rfl⟩

theorem c19_is : ∃ fn, Tryz.prog.funcs[19]? = some fn ∧ (fn.name == "runtime.NumGoroutine") = false ∧ compF tyG fn = some c19 ∧ c19.body.lt c19.ntmps = true :=
  ⟨Tryz.f19, Tryz.func19, by kernel_rfl, by kernel_rfl, by kernel_rfl⟩

theorem c20_is : ∃ fn, Tryz.prog.funcs[20]? = some fn ∧ (fn.name == "runtime.NumGoroutine") = false ∧ compF tyG fn = some c20 ∧ c20.body.lt c20.ntmps = true :=
  ⟨Tryz.f20, Tryz.func20, by kernel_rfl, by kernel_rfl, by kernel_rfl⟩

theorem c21_is : ∃ fn, Tryz.prog.funcs[21]? = some fn ∧ (fn.name == "runtime.NumGoroutine") = false ∧ compF tyG fn = some c21 ∧ c21.body.lt c21.ntmps = true :=
  ⟨Tryz.f21, Tryz.func21, by kernel_rfl, by kernel_rfl, by kernel_rfl⟩

theorem c22_is : ∃ fn, Tryz.prog.funcs[22]? = some fn ∧ (fn.name == "runtime.NumGoroutine") = false ∧ compF tyG fn = some c22 ∧ c22.body.lt c22.ntmps = true :=
  ⟨Tryz.f22, Tryz.func22, by kernel_rfl, by kernel_rfl, by kernel_rfl⟩

theorem c23_is : ∃ fn, Tryz.prog.funcs[23]? = some fn ∧ (fn.name == "runtime.NumGoroutine") = false ∧ compF tyG fn = some c23 ∧ c23.body.lt c23.ntmps = true :=
  ⟨Tryz.f23, Tryz.func23, by kernel_rfl, by kernel_rfl, by kernel_rfl⟩

theorem c24_is : ∃ fn, Tryz.prog.funcs[24]? = some fn ∧ (fn.name == "runtime.NumGoroutine") = false ∧ compF tyG fn = some c24 ∧ c24.body.lt c24.ntmps = true :=
  ⟨Tryz.f24, Tryz.func24, by kernel_rfl, by kernel_rfl, by kernel_rfl⟩

theorem c25_is : ∃ fn, Tryz.prog.funcs[25]? = some fn ∧ (fn.name == "runtime.NumGoroutine") = false ∧ compF tyG fn = some c25 ∧ c25.body.lt c25.ntmps = true :=
  ⟨Tryz.f25, Tryz.func25, by kernel_rfl, by kernel_rfl, by kernel_rfl⟩

theorem c26_is : ∃ fn, Tryz.prog.funcs[26]? = some fn ∧ (fn.name == "runtime.NumGoroutine") = false ∧ compF tyG fn = some c26 ∧ c26.body.lt c26.ntmps = true :=
  ⟨Tryz.f26, Tryz.func26, by kernel_rfl, by kernel_rfl, by kernel_rfl⟩

theorem c33_is : ∃ fn, Tryz.prog.funcs[33]? = some fn ∧ (fn.name == "runtime.NumGoroutine") = false ∧ compF tyG fn = some c33 ∧ c33.body.lt c33.ntmps = true :=
  ⟨Tryz.f33, Tryz.func33, by kernel_rfl, by kernel_rfl, by kernel_rfl⟩

theorem c36_is : ∃ fn, Tryz.prog.funcs[36]? = some fn ∧ (fn.name == "runtime.NumGoroutine") = false ∧ compF tyG fn = some c36 ∧ c36.body.lt c36.ntmps = true :=
  ⟨Tryz.f36, Tryz.func36, by kernel_rfl, by kernel_rfl, by kernel_rfl⟩

theorem c38_is : ∃ fn, Tryz.prog.funcs[38]? = some fn ∧ (fn.name == "runtime.NumGoroutine") = false ∧ compF tyG fn = some c38 ∧ c38.body.lt c38.ntmps = true :=
  ⟨Tryz.f38, Tryz.func38, by kernel_rfl, by kernel_rfl, by kernel_rfl⟩

theorem c42_is : ∃ fn, Tryz.prog.funcs[42]? = some fn ∧ (fn.name == "runtime.NumGoroutine") = false ∧ compF tyG fn = some c42 ∧ c42.body.lt c42.ntmps = true :=
  ⟨Tryz.f42, Tryz.func42, by kernel_rfl, by kernel_rfl, by kernel_rfl⟩

theorem c43_is : ∃ fn, Tryz.prog.funcs[43]? = some fn ∧ (fn.name == "runtime.NumGoroutine") = false ∧ compF tyG fn = some c43 ∧ c43.body.lt c43.ntmps = true :=
  ⟨Tryz.f43, Tryz.func43, by kernel_rfl, by kernel_rfl, by kernel_rfl⟩

theorem c45_is : ∃ fn, Tryz.prog.funcs[45]? = some fn ∧ (fn.name == "runtime.NumGoroutine") = false ∧ compF tyG fn = some c45 ∧ c45.body.lt c45.ntmps = true :=
  ⟨Tryz.f45, Tryz.func45, by kernel_rfl, by kernel_rfl, by kernel_rfl⟩

theorem c52_is : ∃ fn, Tryz.prog.funcs[52]? = some fn ∧ (fn.name == "runtime.NumGoroutine") = false ∧ compF tyG fn = some c52 ∧ c52.body.lt c52.ntmps = true :=
  ⟨Tryz.f52, Tryz.func52, by kernel_rfl, by kernel_rfl, by kernel_rfl⟩

theorem c57_is : ∃ fn, Tryz.prog.funcs[57]? = some fn ∧ (fn.name == "runtime.NumGoroutine") = false ∧ compF tyG fn = some c57 ∧ c57.body.lt c57.ntmps = true :=
  ⟨Tryz.f57, Tryz.func57, by kernel_rfl, by kernel_rfl, by kernel_rfl⟩

theorem c58_is : ∃ fn, Tryz.prog.funcs[58]? = some fn ∧ (fn.name == "runtime.NumGoroutine") = false ∧ compF tyG fn = some c58 ∧ c58.body.lt c58.ntmps = true :=
  ⟨Tryz.f58, Tryz.func58, by kernel_rfl, by kernel_rfl, by kernel_rfl⟩

theorem c59_is : ∃ fn, Tryz.prog.funcs[59]? = some fn ∧ (fn.name == "runtime.NumGoroutine") = false ∧ compF tyG fn = some c59 ∧ c59.body.lt c59.ntmps = true :=
  ⟨Tryz.f59, Tryz.func59, by kernel_rfl, by kernel_rfl, by kernel_rfl⟩

theorem c60_is : ∃ fn, Tryz.prog.funcs[60]? = some fn ∧ (fn.name == "runtime.NumGoroutine") = false ∧ compF tyG fn = some c60 ∧ c60.body.lt c60.ntmps = true :=
  ⟨Tryz.f60, Tryz.func60, by kernel_rfl, by kernel_rfl, by kernel_rfl⟩

theorem c61_is : ∃ fn, Tryz.prog.funcs[61]? = some fn ∧ (fn.name == "runtime.NumGoroutine") = false ∧ compF tyG fn = some c61 ∧ c61.body.lt c61.ntmps = true :=
  ⟨Tryz.f61, Tryz.func61, by kernel_rfl, by kernel_rfl, by kernel_rfl⟩

theorem c62_is : ∃ fn, Tryz.prog.funcs[62]? = some fn ∧ (fn.name == "runtime.NumGoroutine") = false ∧ compF tyG fn = some c62 ∧ c62.body.lt c62.ntmps = true :=
  ⟨Tryz.f62, Tryz.func62, by kernel_rfl, by kernel_rfl, by kernel_rfl⟩

theorem c63_is : ∃ fn, Tryz.prog.funcs[63]? = some fn ∧ (fn.name == "runtime.NumGoroutine") = false ∧ compF tyG fn = some c63 ∧ c63.body.lt c63.ntmps = true :=
  ⟨Tryz.f63, Tryz.func63, by kernel_rfl, by kernel_rfl, by kernel_rfl⟩

theorem c64_is : ∃ fn, Tryz.prog.funcs[64]? = some fn ∧ (fn.name == "runtime.NumGoroutine") = false ∧ compF tyG fn = some c64 ∧ c64.body.lt c64.ntmps = true :=
  ⟨Tryz.f64, Tryz.func64, by kernel_rfl, by kernel_rfl, by kernel_rfl⟩

theorem c65_is : ∃ fn, Tryz.prog.funcs[65]? = some fn ∧ (fn.name == "runtime.NumGoroutine") = false ∧ compF tyG fn = some c65 ∧ c65.body.lt c65.ntmps = true :=
  ⟨Tryz.f65, Tryz.func65, by kernel_rfl, by kernel_rfl, by kernel_rfl⟩

theorem c66_is : ∃ fn, Tryz.prog.funcs[66]? = some fn ∧ (fn.name == "runtime.NumGoroutine") = false ∧ compF tyG fn = some c66 ∧ c66.body.lt c66.ntmps = true :=
  ⟨Tryz.f66, Tryz.func66, by kernel_rfl, by kernel_rfl, by kernel_rfl⟩

theorem c67_is : ∃ fn, Tryz.prog.funcs[67]? = some fn ∧ (fn.name == "runtime.NumGoroutine") = false ∧ compF tyG fn = some c67 ∧ c67.body.lt c67.ntmps = true :=
  ⟨Tryz.f67, Tryz.func67, by kernel_rfl, by kernel_rfl, by kernel_rfl⟩

theorem c68_is : ∃ fn, Tryz.prog.funcs[68]? = some fn ∧ (fn.name == "runtime.NumGoroutine") = false ∧ compF tyG fn = some c68 ∧ c68.body.lt c68.ntmps = true :=
  ⟨Tryz.f68, Tryz.func68, by kernel_rfl, by kernel_rfl, by kernel_rfl⟩

theorem c69_is : ∃ fn, Tryz.prog.funcs[69]? = some fn ∧ (fn.name == "runtime.NumGoroutine") = false ∧ compF tyG fn = some c69 ∧ c69.body.lt c69.ntmps = true :=
  ⟨Tryz.f69, Tryz.func69, by kernel_rfl, by kernel_rfl, by kernel_rfl⟩

theorem c70_is : ∃ fn, Tryz.prog.funcs[70]? = some fn ∧ (fn.name == "runtime.NumGoroutine") = false ∧ compF tyG fn = some c70 ∧ c70.body.lt c70.ntmps = true :=
  ⟨Tryz.f70, Tryz.func70, by kernel_rfl, by kernel_rfl, by kernel_rfl⟩

theorem c71_is : ∃ fn, Tryz.prog.funcs[71]? = some fn ∧ (fn.name == "runtime.NumGoroutine") = false ∧ compF tyG fn = some c71 ∧ c71.body.lt c71.ntmps = true :=
  ⟨Tryz.f71, Tryz.func71, by kernel_rfl, by kernel_rfl, by kernel_rfl⟩

theorem c72_is : ∃ fn, Tryz.prog.funcs[72]? = some fn ∧ (fn.name == "runtime.NumGoroutine") = false ∧ compF tyG fn = some c72 ∧ c72.body.lt c72.ntmps = true :=
  ⟨Tryz.f72, Tryz.func72, by kernel_rfl, by kernel_rfl, by kernel_rfl⟩

theorem c73_is : ∃ fn, Tryz.prog.funcs[73]? = some fn ∧ (fn.name == "runtime.NumGoroutine") = false ∧ compF tyG fn = some c73 ∧ c73.body.lt c73.ntmps = true :=
  ⟨Tryz.f73, Tryz.func73, by kernel_rfl, by kernel_rfl, by kernel_rfl⟩

theorem c74_is : ∃ fn, Tryz.prog.funcs[74]? = some fn ∧ (fn.name == "runtime.NumGoroutine") = false ∧ compF tyG fn = some c74 ∧ c74.body.lt c74.ntmps = true :=
  ⟨Tryz.f74, Tryz.func74, by kernel_rfl, by kernel_rfl, by kernel_rfl⟩

theorem c75_is : ∃ fn, Tryz.prog.funcs[75]? = some fn ∧ (fn.name == "runtime.NumGoroutine") = false ∧ compF tyG fn = some c75 ∧ c75.body.lt c75.ntmps = true :=
  ⟨Tryz.f75, Tryz.func75, by kernel_rfl, by kernel_rfl, by kernel_rfl⟩

theorem c76_is : ∃ fn, Tryz.prog.funcs[76]? = some fn ∧ (fn.name == "runtime.NumGoroutine") = false ∧ compF tyG fn = some c76 ∧ c76.body.lt c76.ntmps = true :=
  ⟨Tryz.f76, Tryz.func76, by kernel_rfl, by kernel_rfl, by kernel_rfl⟩

theorem c77_is : ∃ fn, Tryz.prog.funcs[77]? = some fn ∧ (fn.name == "runtime.NumGoroutine") = false ∧ compF tyG fn = some c77 ∧ c77.body.lt c77.ntmps = true :=
  ⟨Tryz.f77, Tryz.func77, by kernel_rfl, by kernel_rfl, by kernel_rfl⟩

theorem c78_is : ∃ fn, Tryz.prog.funcs[78]? = some fn ∧ (fn.name == "runtime.NumGoroutine") = false ∧ compF tyG fn = some c78 ∧ c78.body.lt c78.ntmps = true :=
  ⟨Tryz.f78, Tryz.func78, by kernel_rfl, by kernel_rfl, by kernel_rfl⟩

theorem c79_is : ∃ fn, Tryz.prog.funcs[79]? = some fn ∧ (fn.name == "runtime.NumGoroutine") = false ∧ compF tyG fn = some c79 ∧ c79.body.lt c79.ntmps = true :=
  ⟨Tryz.f79, Tryz.func79, by kernel_rfl, by kernel_rfl, by kernel_rfl⟩

theorem c80_is : ∃ fn, Tryz.prog.funcs[80]? = some fn ∧ (fn.name == "runtime.NumGoroutine") = false ∧ compF tyG fn = some c80 ∧ c80.body.lt c80.ntmps = true :=
  ⟨Tryz.f80, Tryz.func80, by kernel_rfl, by kernel_rfl, by kernel_rfl⟩

theorem c81_is : ∃ fn, Tryz.prog.funcs[81]? = some fn ∧ (fn.name == "runtime.NumGoroutine") = false ∧ compF tyG fn = some c81 ∧ c81.body.lt c81.ntmps = true :=
  ⟨Tryz.f81, Tryz.func81, by kernel_rfl, by kernel_rfl, by kernel_rfl⟩

theorem c82_is : ∃ fn, Tryz.prog.funcs[82]? = some fn ∧ (fn.name == "runtime.NumGoroutine") = false ∧ compF tyG fn = some c82 ∧ c82.body.lt c82.ntmps = true :=
  ⟨Tryz.f82, Tryz.func82, by kernel_rfl, by kernel_rfl, by kernel_rfl⟩

theorem c83_is : ∃ fn, Tryz.prog.funcs[83]? = some fn ∧ (fn.name == "runtime.NumGoroutine") = false ∧ compF tyG fn = some c83 ∧ c83.body.lt c83.ntmps = true :=
  ⟨Tryz.f83, Tryz.func83, by kernel_rfl, by kernel_rfl, by kernel_rfl⟩

theorem c84_is : ∃ fn, Tryz.prog.funcs[84]? = some fn ∧ (fn.name == "runtime.NumGoroutine") = false ∧ compF tyG fn = some c84 ∧ c84.body.lt c84.ntmps = true :=
  ⟨Tryz.f84, Tryz.func84, by kernel_rfl, by kernel_rfl, by kernel_rfl⟩

theorem c85_is : ∃ fn, Tryz.prog.funcs[85]? = some fn ∧ (fn.name == "runtime.NumGoroutine") = false ∧ compF tyG fn = some c85 ∧ c85.body.lt c85.ntmps = true :=
  ⟨Tryz.f85, Tryz.func85, by kernel_rfl, by kernel_rfl, by kernel_rfl⟩

theorem c86_is : ∃ fn, Tryz.prog.funcs[86]? = some fn ∧ (fn.name == "runtime.NumGoroutine") = false ∧ compF tyG fn = some c86 ∧ c86.body.lt c86.ntmps = true :=
  ⟨Tryz.f86, Tryz.func86, by kernel_rfl, by kernel_rfl, by kernel_rfl⟩

theorem c87_is : ∃ fn, Tryz.prog.funcs[87]? = some fn ∧ (fn.name == "runtime.NumGoroutine") = false ∧ compF tyG fn = some c87 ∧ c87.body.lt c87.ntmps = true :=
  ⟨Tryz.f87, Tryz.func87, by kernel_rfl, by kernel_rfl, by kernel_rfl⟩

theorem c88_is : ∃ fn, Tryz.prog.funcs[88]? = some fn ∧ (fn.name == "runtime.NumGoroutine") = false ∧ compF tyG fn = some c88 ∧ c88.body.lt c88.ntmps = true :=
  ⟨Tryz.f88, Tryz.func88, by kernel_rfl, by kernel_rfl, by kernel_rfl⟩

theorem c89_is : ∃ fn, Tryz.prog.funcs[89]? = some fn ∧ (fn.name == "runtime.NumGoroutine") = false ∧ compF tyG fn = some c89 ∧ c89.body.lt c89.ntmps = true :=
  ⟨Tryz.f89, Tryz.func89, by kernel_rfl, by kernel_rfl, by kernel_rfl⟩

theorem c90_is : ∃ fn, Tryz.prog.funcs[90]? = some fn ∧ (fn.name == "runtime.NumGoroutine") = false ∧ compF tyG fn = some c90 ∧ c90.body.lt c90.ntmps = true :=
  ⟨Tryz.f90, Tryz.func90, by kernel_rfl, by kernel_rfl, by kernel_rfl⟩

theorem c91_is : ∃ fn, Tryz.prog.funcs[91]? = some fn ∧ (fn.name == "runtime.NumGoroutine") = false ∧ compF tyG fn = some c91 ∧ c91.body.lt c91.ntmps = true :=
  ⟨Tryz.f91, Tryz.func91, by kernel_rfl, by kernel_rfl, by kernel_rfl⟩

theorem c93_is : ∃ fn, Tryz.prog.funcs[93]? = some fn ∧ (fn.name == "runtime.NumGoroutine") = false ∧ compF tyG fn = some c93 ∧ c93.body.lt c93.ntmps = true :=
  ⟨Tryz.f93, Tryz.func93, by kernel_rfl, by kernel_rfl, by kernel_rfl⟩

theorem c94_is : ∃ fn, Tryz.prog.funcs[94]? = some fn ∧ (fn.name == "runtime.NumGoroutine") = false ∧ compF tyG fn = some c94 ∧ c94.body.lt c94.ntmps = true :=
  ⟨Tryz.f94, Tryz.func94, by kernel_rfl, by kernel_rfl, by kernel_rfl⟩

theorem c95_is : ∃ fn, Tryz.prog.funcs[95]? = some fn ∧ (fn.name == "runtime.NumGoroutine") = false ∧ compF tyG fn = some c95 ∧ c95.body.lt c95.ntmps = true :=
  ⟨Tryz.f95, Tryz.func95, by kernel_rfl, by kernel_rfl, by kernel_rfl⟩

theorem c100_is : ∃ fn, Tryz.prog.funcs[100]? = some fn ∧ (fn.name == "runtime.NumGoroutine") = false ∧ compF tyG fn = some c100 ∧ c100.body.lt c100.ntmps = true :=
  ⟨Tryz.f100, Tryz.func100, by kernel_rfl, by kernel_rfl, by kernel_rfl⟩

theorem c101_is : ∃ fn, Tryz.prog.funcs[101]? = some fn ∧ (fn.name == "runtime.NumGoroutine") = false ∧ compF tyG fn = some c101 ∧ c101.body.lt c101.ntmps = true :=
  ⟨Tryz.f101, Tryz.func101, by kernel_rfl, by kernel_rfl, by kernel_rfl⟩

theorem c102_is : ∃ fn, Tryz.prog.funcs[102]? = some fn ∧ (fn.name == "runtime.NumGoroutine") = false ∧ compF tyG fn = some c102 ∧ c102.body.lt c102.ntmps = true :=
  ⟨Tryz.f102, Tryz.func102, by kernel_rfl, by kernel_rfl, by kernel_rfl⟩

theorem c103_is : ∃ fn, Tryz.prog.funcs[103]? = some fn ∧ (fn.name == "runtime.NumGoroutine") = false ∧ compF tyG fn = some c103 ∧ c103.body.lt c103.ntmps = true :=
  ⟨Tryz.f103, Tryz.func103, by kernel_rfl, by kernel_rfl, by kernel_rfl⟩

theorem c104_is : ∃ fn, Tryz.prog.funcs[104]? = some fn ∧ (fn.name == "runtime.NumGoroutine") = false ∧ compF tyG fn = some c104 ∧ c104.body.lt c104.ntmps = true :=
  ⟨Tryz.f104, Tryz.func104, by kernel_rfl, by kernel_rfl, by kernel_rfl⟩

theorem c105_is : ∃ fn, Tryz.prog.funcs[105]? = some fn ∧ (fn.name == "runtime.NumGoroutine") = false ∧ compF tyG fn = some c105 ∧ c105.body.lt c105.ntmps = true :=
  ⟨Tryz.f105, Tryz.func105, by kernel_rfl, by kernel_rfl, by kernel_rfl⟩

theorem c106_is : ∃ fn, Tryz.prog.funcs[106]? = some fn ∧ (fn.name == "runtime.NumGoroutine") = false ∧ compF tyG fn = some c106 ∧ c106.body.lt c106.ntmps = true :=
  ⟨Tryz.f106, Tryz.func106, by kernel_rfl, by kernel_rfl, by kernel_rfl⟩

theorem c107_is : ∃ fn, Tryz.prog.funcs[107]? = some fn ∧ (fn.name == "runtime.NumGoroutine") = false ∧ compF tyG fn = some c107 ∧ c107.body.lt c107.ntmps = true :=
  ⟨Tryz.f107, Tryz.func107, by kernel_rfl, by kernel_rfl, by kernel_rfl⟩

theorem c111_is : ∃ fn, Tryz.prog.funcs[111]? = some fn ∧ (fn.name == "runtime.NumGoroutine") = false ∧ compF tyG fn = some c111 ∧ c111.body.lt c111.ntmps = true :=
  ⟨Tryz.f111, Tryz.func111, by kernel_rfl, by kernel_rfl, by kernel_rfl⟩

theorem c112_is : ∃ fn, Tryz.prog.funcs[112]? = some fn ∧ (fn.name == "runtime.NumGoroutine") = false ∧ compF tyG fn = some c112 ∧ c112.body.lt c112.ntmps = true :=
  ⟨Tryz.f112, Tryz.func112, by kernel_rfl, by kernel_rfl, by kernel_rfl⟩

theorem c118_is : ∃ fn, Tryz.prog.funcs[118]? = some fn ∧ (fn.name == "runtime.NumGoroutine") = false ∧ compF tyG fn = some c118 ∧ c118.body.lt c118.ntmps = true :=
  ⟨Tryz.f118, Tryz.func118, by kernel_rfl, by kernel_rfl, by kernel_rfl⟩

theorem c119_is : ∃ fn, Tryz.prog.funcs[119]? = some fn ∧ (fn.name == "runtime.NumGoroutine") = false ∧ compF tyG fn = some c119 ∧ c119.body.lt c119.ntmps = true :=
  ⟨Tryz.f119, Tryz.func119, by kernel_rfl, by kernel_rfl, by kernel_rfl⟩

theorem c120_is : ∃ fn, Tryz.prog.funcs[120]? = some fn ∧ (fn.name == "runtime.NumGoroutine") = false ∧ compF tyG fn = some c120 ∧ c120.body.lt c120.ntmps = true :=
  ⟨Tryz.f120, Tryz.func120, by kernel_rfl, by kernel_rfl, by kernel_rfl⟩

theorem c121_is : ∃ fn, Tryz.prog.funcs[121]? = some fn ∧ (fn.name == "runtime.NumGoroutine") = false ∧ compF tyG fn = some c121 ∧ c121.body.lt c121.ntmps = true :=
  ⟨Tryz.f121, Tryz.func121, by kernel_rfl, by kernel_rfl, by kernel_rfl⟩

theorem c122_is : ∃ fn, Tryz.prog.funcs[122]? = some fn ∧ (fn.name == "runtime.NumGoroutine") = false ∧ compF tyG fn = some c122 ∧ c122.body.lt c122.ntmps = true :=
  ⟨Tryz.f122, Tryz.func122, by kernel_rfl, by kernel_rfl, by kernel_rfl⟩

theorem c123_is : ∃ fn, Tryz.prog.funcs[123]? = some fn ∧ (fn.name == "runtime.NumGoroutine") = false ∧ compF tyG fn = some c123 ∧ c123.body.lt c123.ntmps = true :=
  ⟨Tryz.f123, Tryz.func123, by kernel_rfl, by kernel_rfl, by kernel_rfl⟩

theorem c124_is : ∃ fn, Tryz.prog.funcs[124]? = some fn ∧ (fn.name == "runtime.NumGoroutine") = false ∧ compF tyG fn = some c124 ∧ c124.body.lt c124.ntmps = true :=
  ⟨Tryz.f124, Tryz.func124, by kernel_rfl, by kernel_rfl, by kernel_rfl⟩

theorem c125_is : ∃ fn, Tryz.prog.funcs[125]? = some fn ∧ (fn.name == "runtime.NumGoroutine") = false ∧ compF tyG fn = some c125 ∧ c125.body.lt c125.ntmps = true :=
  ⟨Tryz.f125, Tryz.func125, by kernel_rfl, by kernel_rfl, by kernel_rfl⟩

theorem c126_is : ∃ fn, Tryz.prog.funcs[126]? = some fn ∧ (fn.name == "runtime.NumGoroutine") = false ∧ compF tyG fn = some c126 ∧ c126.body.lt c126.ntmps = true :=
  ⟨Tryz.f126, Tryz.func126, by kernel_rfl, by kernel_rfl, by kernel_rfl⟩

theorem c127_is : ∃ fn, Tryz.prog.funcs[127]? = some fn ∧ (fn.name == "runtime.NumGoroutine") = false ∧ compF tyG fn = some c127 ∧ c127.body.lt c127.ntmps = true :=
  ⟨Tryz.f127, Tryz.func127, by kernel_rfl, by kernel_rfl, by kernel_rfl⟩

theorem c128_is : ∃ fn, Tryz.prog.funcs[128]? = some fn ∧ (fn.name == "runtime.NumGoroutine") = false ∧ compF tyG fn = some c128 ∧ c128.body.lt c128.ntmps = true :=
  ⟨Tryz.f128, Tryz.func128, by kernel_rfl, by kernel_rfl, by kernel_rfl⟩

theorem c129_is : ∃ fn, Tryz.prog.funcs[129]? = some fn ∧ (fn.name == "runtime.NumGoroutine") = false ∧ compF tyG fn = some c129 ∧ c129.body.lt c129.ntmps = true :=
  ⟨Tryz.f129, Tryz.func129, by kernel_rfl, by kernel_rfl, by kernel_rfl⟩

theorem c130_is : ∃ fn, Tryz.prog.funcs[130]? = some fn ∧ (fn.name == "runtime.NumGoroutine") = false ∧ compF tyG fn = some c130 ∧ c130.body.lt c130.ntmps = true :=
  ⟨Tryz.f130, Tryz.func130, by kernel_rfl, by kernel_rfl, by kernel_rfl⟩

theorem c131_is : ∃ fn, Tryz.prog.funcs[131]? = some fn ∧ (fn.name == "runtime.NumGoroutine") = false ∧ compF tyG fn = some c131 ∧ c131.body.lt c131.ntmps = true :=
  ⟨Tryz.f131, Tryz.func131, by kernel_rfl, by kernel_rfl, by kernel_rfl⟩

theorem c132_is : ∃ fn, Tryz.prog.funcs[132]? = some fn ∧ (fn.name == "runtime.NumGoroutine") = false ∧ compF tyG fn = some c132 ∧ c132.body.lt c132.ntmps = true :=
  ⟨Tryz.f132, Tryz.func132, by kernel_rfl, by kernel_rfl, by kernel_rfl⟩

theorem c133_is : ∃ fn, Tryz.prog.funcs[133]? = some fn ∧ (fn.name == "runtime.NumGoroutine") = false ∧ compF tyG fn = some c133 ∧ c133.body.lt c133.ntmps = true :=
  ⟨Tryz.f133, Tryz.func133, by kernel_rfl, by kernel_rfl, by kernel_rfl⟩

theorem c134_is : ∃ fn, Tryz.prog.funcs[134]? = some fn ∧ (fn.name == "runtime.NumGoroutine") = false ∧ compF tyG fn = some c134 ∧ c134.body.lt c134.ntmps = true :=
  ⟨Tryz.f134, Tryz.func134, by kernel_rfl, by kernel_rfl, by kernel_rfl⟩

theorem c135_is : ∃ fn, Tryz.prog.funcs[135]? = some fn ∧ (fn.name == "runtime.NumGoroutine") = false ∧ compF tyG fn = some c135 ∧ c135.body.lt c135.ntmps = true :=
  ⟨Tryz.f135, Tryz.func135, by kernel_rfl, by kernel_rfl, by kernel_rfl⟩

theorem c136_is : ∃ fn, Tryz.prog.funcs[136]? = some fn ∧ (fn.name == "runtime.NumGoroutine") = false ∧ compF tyG fn = some c136 ∧ c136.body.lt c136.ntmps = true :=
  ⟨Tryz.f136, Tryz.func136, by kernel_rfl, by kernel_rfl, by kernel_rfl⟩

theorem c137_is : ∃ fn, Tryz.prog.funcs[137]? = some fn ∧ (fn.name == "runtime.NumGoroutine") = false ∧ compF tyG fn = some c137 ∧ c137.body.lt c137.ntmps = true :=
  ⟨Tryz.f137, Tryz.func137, by kernel_rfl, by kernel_rfl, by kernel_rfl⟩

theorem c138_is : ∃ fn, Tryz.prog.funcs[138]? = some fn ∧ (fn.name == "runtime.NumGoroutine") = false ∧ compF tyG fn = some c138 ∧ c138.body.lt c138.ntmps = true :=
  ⟨Tryz.f138, Tryz.func138, by kernel_rfl, by kernel_rfl, by kernel_rfl⟩

theorem c139_is : ∃ fn, Tryz.prog.funcs[139]? = some fn ∧ (fn.name == "runtime.NumGoroutine") = false ∧ compF tyG fn = some c139 ∧ c139.body.lt c139.ntmps = true :=
  ⟨Tryz.f139, Tryz.func139, by kernel_rfl, by kernel_rfl, by kernel_rfl⟩

theorem c140_is : ∃ fn, Tryz.prog.funcs[140]? = some fn ∧ (fn.name == "runtime.NumGoroutine") = false ∧ compF tyG fn = some c140 ∧ c140.body.lt c140.ntmps = true :=
  ⟨Tryz.f140, Tryz.func140, by kernel_rfl, by kernel_rfl, by kernel_rfl⟩

theorem c141_is : ∃ fn, Tryz.prog.funcs[141]? = some fn ∧ (fn.name == "runtime.NumGoroutine") = false ∧ compF tyG fn = some c141 ∧ c141.body.lt c141.ntmps = true :=
  ⟨Tryz.f141, Tryz.func141, by kernel_rfl, by kernel_rfl, by kernel_rfl⟩

theorem c142_is : ∃ fn, Tryz.prog.funcs[142]? = some fn ∧ (fn.name == "runtime.NumGoroutine") = false ∧ compF tyG fn = some c142 ∧ c142.body.lt c142.ntmps = true :=
  ⟨Tryz.f142, Tryz.func142, by kernel_rfl, by kernel_rfl, by kernel_rfl⟩

theorem c151_is : ∃ fn, Tryz.prog.funcs[151]? = some fn ∧ (fn.name == "runtime.NumGoroutine") = false ∧ compF tyG fn = some c151 ∧ c151.body.lt c151.ntmps = true :=
  ⟨Tryz.f151, Tryz.func151, by kernel_rfl, by kernel_rfl, by kernel_rfl⟩

theorem c152_is : ∃ fn, Tryz.prog.funcs[152]? = some fn ∧ (fn.name == "runtime.NumGoroutine") = false ∧ compF tyG fn = some c152 ∧ c152.body.lt c152.ntmps = true :=
  ⟨Tryz.f152, Tryz.func152, by kernel_rfl, by kernel_rfl, by kernel_rfl⟩

theorem c153_is : ∃ fn, Tryz.prog.funcs[153]? = some fn ∧ (fn.name == "runtime.NumGoroutine") = false ∧ compF tyG fn = some c153 ∧ c153.body.lt c153.ntmps = true :=
  ⟨Tryz.f153, Tryz.func153, by kernel_rfl, by kernel_rfl, by kernel_rfl⟩

theorem c154_is : ∃ fn, Tryz.prog.funcs[154]? = some fn ∧ (fn.name == "runtime.NumGoroutine") = false ∧ compF tyG fn = some c154 ∧ c154.body.lt c154.ntmps = true :=
  ⟨Tryz.f154, Tryz.func154, by kernel_rfl, by kernel_rfl, by kernel_rfl⟩

theorem c155_is : ∃ fn, Tryz.prog.funcs[155]? = some fn ∧ (fn.name == "runtime.NumGoroutine") = false ∧ compF tyG fn = some c155 ∧ c155.body.lt c155.ntmps = true :=
  ⟨Tryz.f155, Tryz.func155, by kernel_rfl, by kernel_rfl, by kernel_rfl⟩

theorem c156_is : ∃ fn, Tryz.prog.funcs[156]? = some fn ∧ (fn.name == "runtime.NumGoroutine") = false ∧ compF tyG fn = some c156 ∧ c156.body.lt c156.ntmps = true :=
  ⟨Tryz.f156, Tryz.func156, by kernel_rfl, by kernel_rfl, by kernel_rfl⟩

theorem c157_is : ∃ fn, Tryz.prog.funcs[157]? = some fn ∧ (fn.name == "runtime.NumGoroutine") = false ∧ compF tyG fn = some c157 ∧ c157.body.lt c157.ntmps = true :=
  ⟨Tryz.f157, Tryz.func157, by kernel_rfl, by kernel_rfl, by kernel_rfl⟩

theorem c165_is : ∃ fn, Tryz.prog.funcs[165]? = some fn ∧ (fn.name == "runtime.NumGoroutine") = false ∧ compF tyG fn = some c165 ∧ c165.body.lt c165.ntmps = true :=
  ⟨Tryz.f165, Tryz.func165, by kernel_rfl, by kernel_rfl, by kernel_rfl⟩

theorem c170_is : ∃ fn, Tryz.prog.funcs[170]? = some fn ∧ (fn.name == "runtime.NumGoroutine") = false ∧ compF tyG fn = some c170 ∧ c170.body.lt c170.ntmps = true :=
  ⟨Tryz.f170, Tryz.func170, by kernel_rfl, by kernel_rfl, by kernel_rfl⟩

theorem c171_is : ∃ fn, Tryz.prog.funcs[171]? = some fn ∧ (fn.name == "runtime.NumGoroutine") = false ∧ compF tyG fn = some c171 ∧ c171.body.lt c171.ntmps = true :=
  ⟨Tryz.f171, Tryz.func171, by kernel_rfl, by kernel_rfl, by kernel_rfl⟩

theorem c176_is : ∃ fn, Tryz.prog.funcs[176]? = some fn ∧ (fn.name == "runtime.NumGoroutine") = false ∧ compF tyG fn = some c176 ∧ c176.body.lt c176.ntmps = true :=
  ⟨Tryz.f176, Tryz.func176, by kernel_rfl, by kernel_rfl, by kernel_rfl⟩

theorem c177_is : ∃ fn, Tryz.prog.funcs[177]? = some fn ∧ (fn.name == "runtime.NumGoroutine") = false ∧ compF tyG fn = some c177 ∧ c177.body.lt c177.ntmps = true :=
  ⟨Tryz.f177, Tryz.func177, by kernel_rfl, by kernel_rfl, by kernel_rfl⟩

theorem c178_is : ∃ fn, Tryz.prog.funcs[178]? = some fn ∧ (fn.name == "runtime.NumGoroutine") = false ∧ compF tyG fn = some c178 ∧ c178.body.lt c178.ntmps = true :=
  ⟨Tryz.f178, Tryz.func178, by kernel_rfl, by kernel_rfl, by kernel_rfl⟩

theorem c184_is : ∃ fn, Tryz.prog.funcs[184]? = some fn ∧ (fn.name == "runtime.NumGoroutine") = false ∧ compF tyG fn = some c184 ∧ c184.body.lt c184.ntmps = true :=
  ⟨Tryz.f184, Tryz.func184, by kernel_rfl, by kernel_rfl, by kernel_rfl⟩

theorem fnOK : FnOk Tryz.prog tyG fnG := by
  refine ⟨fun f fd h => ?_⟩
  have key : fnT.all fun f fd => ∃ fn, Tryz.prog.funcs[f]? = some fn ∧ (fn.name == "runtime.NumGoroutine") = false ∧ compF tyG fn = some fd ∧ fd.body.lt fd.ntmps = true :=
    ⟨fun a h => (by cases h), ⟨fun a h => (by cases h), ⟨fun a h => (by cases h; exact c3_is), ⟨fun a h => (by cases h; exact c7_is), ⟨fun a h => (by cases h; exact c15_is), ⟨fun a h => (by cases h), ⟨fun a h => (by cases h; exact c63_is), ⟨fun a h => (by cases h; exact c127_is), trivial, trivial⟩, trivial⟩, ⟨fun a h => (by cases h; exact c95_is), trivial, trivial⟩⟩, ⟨fun a h => (by cases h), ⟨fun a h => (by cases h; exact c79_is), trivial, trivial⟩, ⟨fun a h => (by cases h; exact c111_is), trivial, trivial⟩⟩⟩, ⟨fun a h => (by cases h; exact c23_is), ⟨fun a h => (by cases h), ⟨fun a h => (by cases h; exact c71_is), ⟨fun a h => (by cases h; exact c135_is), trivial, trivial⟩, trivial⟩, ⟨fun a h => (by cases h; exact c103_is), trivial, trivial⟩⟩, ⟨fun a h => (by cases h), ⟨fun a h => (by cases h; exact c87_is), ⟨fun a h => (by cases h; exact c151_is), trivial, trivial⟩, trivial⟩, ⟨fun a h => (by cases h; exact c119_is), trivial, trivial⟩⟩⟩⟩, ⟨fun a h => (by cases h; exact c11_is), ⟨fun a h => (by cases h; exact c19_is), ⟨fun a h => (by cases h), ⟨fun a h => (by cases h; exact c67_is), ⟨fun a h => (by cases h; exact c131_is), trivial, trivial⟩, trivial⟩, trivial⟩, ⟨fun a h => (by cases h), ⟨fun a h => (by cases h; exact c83_is), trivial, trivial⟩, trivial⟩⟩, ⟨fun a h => (by cases h), ⟨fun a h => (by cases h; exact c43_is), ⟨fun a h => (by cases h; exact c75_is), ⟨fun a h => (by cases h; exact c139_is), trivial, trivial⟩, trivial⟩, ⟨fun a h => (by cases h; exact c107_is), ⟨fun a h => (by cases h; exact c171_is), trivial, trivial⟩, trivial⟩⟩, ⟨fun a h => (by cases h; exact c59_is), ⟨fun a h => (by cases h; exact c91_is), ⟨fun a h => (by cases h; exact c155_is), trivial, trivial⟩, trivial⟩, ⟨fun a h => (by cases h; exact c123_is), trivial, trivial⟩⟩⟩⟩⟩, ⟨fun a h => (by cases h), ⟨fun a h => (by cases h; exact c9_is), ⟨fun a h => (by cases h; exact c17_is), ⟨fun a h => (by cases h; exact c33_is), ⟨fun a h => (by cases h; exact c65_is), ⟨fun a h => (by cases h; exact c129_is), trivial, trivial⟩, trivial⟩, trivial⟩, ⟨fun a h => (by cases h), ⟨fun a h => (by cases h; exact c81_is), trivial, trivial⟩, ⟨fun a h => (by cases h), ⟨fun a h => (by cases h; exact c177_is), trivial, trivial⟩, trivial⟩⟩⟩, ⟨fun a h => (by cases h; exact c25_is), ⟨fun a h => (by cases h), ⟨fun a h => (by cases h; exact c73_is), ⟨fun a h => (by cases h; exact c137_is), trivial, trivial⟩, trivial⟩, ⟨fun a h => (by cases h; exact c105_is), trivial, trivial⟩⟩, ⟨fun a h => (by cases h; exact c57_is), ⟨fun a h => (by cases h; exact c89_is), ⟨fun a h => (by cases h; exact c153_is), trivial, trivial⟩, trivial⟩, ⟨fun a h => (by cases h; exact c121_is), trivial, trivial⟩⟩⟩⟩, ⟨fun a h => (by cases h; exact c13_is), ⟨fun a h => (by cases h; exact c21_is), ⟨fun a h => (by cases h), ⟨fun a h => (by cases h; exact c69_is), ⟨fun a h => (by cases h; exact c133_is), trivial, trivial⟩, trivial⟩, ⟨fun a h => (by cases h; exact c101_is), ⟨fun a h => (by cases h; exact c165_is), trivial, trivial⟩, trivial⟩⟩, ⟨fun a h => (by cases h), ⟨fun a h => (by cases h; exact c85_is), trivial, trivial⟩, trivial⟩⟩, ⟨fun a h => (by cases h), ⟨fun a h => (by cases h; exact c45_is), ⟨fun a h => (by cases h; exact c77_is), ⟨fun a h => (by cases h; exact c141_is), trivial, trivial⟩, trivial⟩, trivial⟩, ⟨fun a h => (by cases h; exact c61_is), ⟨fun a h => (by cases h; exact c93_is), ⟨fun a h => (by cases h; exact c157_is), trivial, trivial⟩, trivial⟩, ⟨fun a h => (by cases h; exact c125_is), trivial, trivial⟩⟩⟩⟩⟩⟩, ⟨fun a h => (by cases h), ⟨fun a h => (by cases h), ⟨fun a h => (by cases h; exact c8_is), ⟨fun a h => (by cases h; exact c16_is), ⟨fun a h => (by cases h), ⟨fun a h => (by cases h; exact c64_is), ⟨fun a h => (by cases h; exact c128_is), trivial, trivial⟩, trivial⟩, trivial⟩, ⟨fun a h => (by cases h), ⟨fun a h => (by cases h; exact c80_is), trivial, trivial⟩, ⟨fun a h => (by cases h; exact c112_is), ⟨fun a h => (by cases h; exact c176_is), trivial, trivial⟩, trivial⟩⟩⟩, ⟨fun a h => (by cases h; exact c24_is), ⟨fun a h => (by cases h), ⟨fun a h => (by cases h; exact c72_is), ⟨fun a h => (by cases h; exact c136_is), trivial, trivial⟩, trivial⟩, ⟨fun a h => (by cases h; exact c104_is), trivial, trivial⟩⟩, ⟨fun a h => (by cases h), ⟨fun a h => (by cases h; exact c88_is), ⟨fun a h => (by cases h; exact c152_is), trivial, trivial⟩, trivial⟩, ⟨fun a h => (by cases h; exact c120_is), ⟨fun a h => (by cases h; exact c184_is), trivial, trivial⟩, trivial⟩⟩⟩⟩, ⟨fun a h => (by cases h; exact c12_is), ⟨fun a h => (by cases h; exact c20_is), ⟨fun a h => (by cases h; exact c36_is), ⟨fun a h => (by cases h; exact c68_is), ⟨fun a h => (by cases h; exact c132_is), trivial, trivial⟩, trivial⟩, ⟨fun a h => (by cases h; exact c100_is), trivial, trivial⟩⟩, ⟨fun a h => (by cases h; exact c52_is), ⟨fun a h => (by cases h; exact c84_is), trivial, trivial⟩, trivial⟩⟩, ⟨fun a h => (by cases h), ⟨fun a h => (by cases h), ⟨fun a h => (by cases h; exact c76_is), ⟨fun a h => (by cases h; exact c140_is), trivial, trivial⟩, trivial⟩, trivial⟩, ⟨fun a h => (by cases h; exact c60_is), ⟨fun a h => (by cases h), ⟨fun a h => (by cases h; exact c156_is), trivial, trivial⟩, trivial⟩, ⟨fun a h => (by cases h; exact c124_is), trivial, trivial⟩⟩⟩⟩⟩, ⟨fun a h => (by cases h), ⟨fun a h => (by cases h; exact c10_is), ⟨fun a h => (by cases h; exact c18_is), ⟨fun a h => (by cases h), ⟨fun a h => (by cases h; exact c66_is), ⟨fun a h => (by cases h; exact c130_is), trivial, trivial⟩, trivial⟩, trivial⟩, ⟨fun a h => (by cases h), ⟨fun a h => (by cases h; exact c82_is), trivial, trivial⟩, ⟨fun a h => (by cases h), ⟨fun a h => (by cases h; exact c178_is), trivial, trivial⟩, trivial⟩⟩⟩, ⟨fun a h => (by cases h; exact c26_is), ⟨fun a h => (by cases h; exact c42_is), ⟨fun a h => (by cases h; exact c74_is), ⟨fun a h => (by cases h; exact c138_is), trivial, trivial⟩, trivial⟩, ⟨fun a h => (by cases h; exact c106_is), ⟨fun a h => (by cases h; exact c170_is), trivial, trivial⟩, trivial⟩⟩, ⟨fun a h => (by cases h; exact c58_is), ⟨fun a h => (by cases h; exact c90_is), ⟨fun a h => (by cases h; exact c154_is), trivial, trivial⟩, trivial⟩, ⟨fun a h => (by cases h; exact c122_is), trivial, trivial⟩⟩⟩⟩, ⟨fun a h => (by cases h; exact c14_is), ⟨fun a h => (by cases h; exact c22_is), ⟨fun a h => (by cases h; exact c38_is), ⟨fun a h => (by cases h; exact c70_is), ⟨fun a h => (by cases h; exact c134_is), trivial, trivial⟩, trivial⟩, ⟨fun a h => (by cases h; exact c102_is), trivial, trivial⟩⟩, ⟨fun a h => (by cases h), ⟨fun a h => (by cases h; exact c86_is), trivial, trivial⟩, ⟨fun a h => (by cases h; exact c118_is), trivial, trivial⟩⟩⟩, ⟨fun a h => (by cases h), ⟨fun a h => (by cases h), ⟨fun a h => (by cases h; exact c78_is), ⟨fun a h => (by cases h; exact c142_is), trivial, trivial⟩, trivial⟩, trivial⟩, ⟨fun a h => (by cases h; exact c62_is), ⟨fun a h => (by cases h; exact c94_is), trivial, trivial⟩, ⟨fun a h => (by cases h; exact c126_is), trivial, trivial⟩⟩⟩⟩⟩⟩⟩
  exact T.all_get key h
theorem depth_ok : 8 ≤ Tryz.prog.depth := Nat.le_of_ble_eq_true (by kernel_rfl)
theorem mixed_ok : Tryz.prog.follows .mixedOrders = true := by kernel_rfl

end Go.Ab.Tryz
