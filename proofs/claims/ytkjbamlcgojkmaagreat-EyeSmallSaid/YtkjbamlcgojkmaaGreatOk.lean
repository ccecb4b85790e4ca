/- The types and the code that our machine has are the program's (printed by a program of ours). -/
import Derived.Test.YtkjbamlcgojkmaaGreatProg
import Derived.Test.YtkjbamlcgojkmaaGreatDat
import Derived.Test.YtkjbamlcgojkmaaGreatAbS
import Derived.KernelRfl
set_option linter.unusedSimpArgs false
set_option linter.unusedVariables false
namespace Go.Ab.Tryz
open Go.Proofs
abbrev TI (t:Nat) (d:TD):Prop:=∃i u,TyIs Tryz.prog t d i u
abbrev FI (f:Nat) (d:FD) (G:Nat→Option TD):Prop:=∃fn,Tryz.prog.funcs[f]? =some fn∧(fn.name== "runtime.NumGoroutine")=false∧compF G fn=some d∧d.body.lt d.ntmps=true
theorem aN {α:Type}{p:α→Prop}:∀a,(none:Option α)=some a→p a:=fun a h=>by cases h
theorem aS {α:Type}{p:α→Prop}{v:α}(h:p v):∀a,some v=some a→p a:=fun a e=>by cases e;exact h
theorem ty3_is:TI 3 ty3:=⟨Tryz.prog.types.getD 3 default,_,⟨by kernel_rfl,Tryz.underlying3,by simp[ty3,UD.is],by kernel_rfl,by kernel_rfl,by kernel_rfl,by simp[ty3,scL,V.sc],by kernel_rfl,(fun _=>⟨_,rfl,rfl⟩),by kernel_rfl⟩⟩
theorem ty4_is:TI 4 ty4:=⟨Tryz.prog.types.getD 4 default,_,⟨by kernel_rfl,Tryz.underlying4,by simp[ty4,UD.is],by kernel_rfl,by kernel_rfl,by kernel_rfl,by simp[ty4,scL,V.sc],by kernel_rfl,(fun _=>⟨_,rfl,rfl⟩),by kernel_rfl⟩⟩
theorem ty22_is:TI 22 ty22:=⟨Tryz.prog.types.getD 22 default,_,⟨by kernel_rfl,Tryz.underlying22,by simp[ty22,UD.is],by kernel_rfl,by kernel_rfl,by kernel_rfl,by simp[ty22,scL,V.sc],by kernel_rfl,(fun _=>⟨_,rfl,rfl⟩),by kernel_rfl⟩⟩
theorem ty23_is:TI 23 ty23:=⟨Tryz.prog.types.getD 23 default,_,⟨by kernel_rfl,Tryz.underlying23,by simp[ty23,UD.is],by kernel_rfl,by kernel_rfl,by kernel_rfl,by simp[ty23,scL,V.sc],by kernel_rfl,(fun _=>⟨_,rfl,rfl⟩),by kernel_rfl⟩⟩
theorem ty24_is:TI 24 ty24:=⟨Tryz.prog.types.getD 24 default,_,⟨by kernel_rfl,Tryz.underlying24,by simp[ty24,UD.is],by kernel_rfl,by kernel_rfl,by kernel_rfl,by simp[ty24,scL,V.sc],by kernel_rfl,(fun _=>⟨_,rfl,rfl⟩),by kernel_rfl⟩⟩
theorem ty26_is:TI 26 ty26:=⟨Tryz.prog.types.getD 26 default,_,⟨by kernel_rfl,Tryz.underlying26,by simp[ty26,UD.is],by kernel_rfl,by kernel_rfl,by kernel_rfl,by simp[ty26,scL,V.sc],by kernel_rfl,(fun h=>by cases h),by kernel_rfl⟩⟩
theorem ty27_is:TI 27 ty27:=⟨Tryz.prog.types.getD 27 default,_,⟨by kernel_rfl,Tryz.underlying27,by simp[ty27,UD.is],by kernel_rfl,by kernel_rfl,by kernel_rfl,by simp[ty27,scL,V.sc],by kernel_rfl,(fun _=>⟨_,rfl,rfl⟩),by kernel_rfl⟩⟩
theorem ty32_is:TI 32 ty32:=⟨Tryz.prog.types.getD 32 default,_,⟨by kernel_rfl,Tryz.underlying32,by simp[ty32,UD.is],by kernel_rfl,by kernel_rfl,by kernel_rfl,by simp[ty32,scL,V.sc],by kernel_rfl,(fun _=>⟨_,rfl,rfl⟩),by kernel_rfl⟩⟩
theorem ty33_is:TI 33 ty33:=⟨Tryz.prog.types.getD 33 default,_,⟨by kernel_rfl,Tryz.underlying33,by simp[ty33,UD.is],by kernel_rfl,by kernel_rfl,by kernel_rfl,by simp[ty33,scL,V.sc],by kernel_rfl,(fun _=>⟨_,rfl,rfl⟩),by kernel_rfl⟩⟩
theorem ty35_is:TI 35 ty35:=⟨Tryz.prog.types.getD 35 default,_,⟨by kernel_rfl,Tryz.underlying35,by simp[ty35,UD.is],by kernel_rfl,by kernel_rfl,by kernel_rfl,by simp[ty35,scL,V.sc],by kernel_rfl,(fun h=>by cases h),by kernel_rfl⟩⟩
theorem ty38_is:TI 38 ty38:=⟨Tryz.prog.types.getD 38 default,_,⟨by kernel_rfl,Tryz.underlying38,by simp[ty38,UD.is],by kernel_rfl,by kernel_rfl,by kernel_rfl,by simp[ty38,scL,V.sc],by kernel_rfl,(fun _=>⟨_,rfl,rfl⟩),by kernel_rfl⟩⟩
theorem ty40_is:TI 40 ty40:=⟨Tryz.prog.types.getD 40 default,_,⟨by kernel_rfl,Tryz.underlying40,by simp[ty40,UD.is],by kernel_rfl,by kernel_rfl,by kernel_rfl,by simp[ty40,scL,V.sc],by kernel_rfl,(fun _=>⟨_,rfl,rfl⟩),by kernel_rfl⟩⟩
theorem ty68_is:TI 68 ty68:=⟨Tryz.prog.types.getD 68 default,_,⟨by kernel_rfl,Tryz.underlying68,by simp[ty68,UD.is],by kernel_rfl,by kernel_rfl,by kernel_rfl,by simp[ty68,scL,V.sc],by kernel_rfl,(fun h=>by cases h),by kernel_rfl⟩⟩
theorem ty70_is:TI 70 ty70:=⟨Tryz.prog.types.getD 70 default,_,⟨by kernel_rfl,Tryz.underlying70,by simp[ty70,UD.is],by kernel_rfl,by kernel_rfl,by kernel_rfl,by simp[ty70,scL,V.sc],by kernel_rfl,(fun h=>by cases h),by kernel_rfl⟩⟩
theorem ty71_is:TI 71 ty71:=⟨Tryz.prog.types.getD 71 default,_,⟨by kernel_rfl,Tryz.underlying71,by simp[ty71,UD.is],by kernel_rfl,by kernel_rfl,by kernel_rfl,by simp[ty71,scL,V.sc],by kernel_rfl,(fun _=>⟨_,rfl,rfl⟩),by kernel_rfl⟩⟩
theorem ty73_is:TI 73 ty73:=⟨Tryz.prog.types.getD 73 default,_,⟨by kernel_rfl,Tryz.underlying73,by simp[ty73,UD.is],by kernel_rfl,by kernel_rfl,by kernel_rfl,by simp[ty73,scL,V.sc],by kernel_rfl,(fun h=>by cases h),by kernel_rfl⟩⟩
theorem ty74_is:TI 74 ty74:=⟨Tryz.prog.types.getD 74 default,_,⟨by kernel_rfl,Tryz.underlying74,by simp[ty74,UD.is],by kernel_rfl,by kernel_rfl,by kernel_rfl,by simp[ty74,scL,V.sc],by kernel_rfl,(fun h=>by cases h),by kernel_rfl⟩⟩
theorem ty75_is:TI 75 ty75:=⟨Tryz.prog.types.getD 75 default,_,⟨by kernel_rfl,Tryz.underlying75,by simp[ty75,UD.is],by kernel_rfl,by kernel_rfl,by kernel_rfl,by simp[ty75,scL,V.sc],by kernel_rfl,(fun _=>⟨_,rfl,rfl⟩),by kernel_rfl⟩⟩
theorem ty77_is:TI 77 ty77:=⟨Tryz.prog.types.getD 77 default,_,⟨by kernel_rfl,Tryz.underlying77,by simp[ty77,UD.is],by kernel_rfl,by kernel_rfl,by kernel_rfl,by simp[ty77,scL,V.sc],by kernel_rfl,(fun _=>⟨_,rfl,rfl⟩),by kernel_rfl⟩⟩
theorem ty79_is:TI 79 ty79:=⟨Tryz.prog.types.getD 79 default,_,⟨by kernel_rfl,Tryz.underlying79,by simp[ty79,UD.is],by kernel_rfl,by kernel_rfl,by kernel_rfl,by simp[ty79,scL,V.sc],by kernel_rfl,(fun _=>⟨_,rfl,rfl⟩),by kernel_rfl⟩⟩
theorem ty85_is:TI 85 ty85:=⟨Tryz.prog.types.getD 85 default,_,⟨by kernel_rfl,Tryz.underlying85,by simp[ty85,UD.is],by kernel_rfl,by kernel_rfl,by kernel_rfl,by simp[ty85,scL,V.sc],by kernel_rfl,(fun _=>⟨_,rfl,rfl⟩),by kernel_rfl⟩⟩
theorem ty87_is:TI 87 ty87:=⟨Tryz.prog.types.getD 87 default,_,⟨by kernel_rfl,Tryz.underlying87,by simp[ty87,UD.is],by kernel_rfl,by kernel_rfl,by kernel_rfl,by simp[ty87,scL,V.sc],by kernel_rfl,(fun _=>⟨_,rfl,rfl⟩),by kernel_rfl⟩⟩
theorem ty90_is:TI 90 ty90:=⟨Tryz.prog.types.getD 90 default,_,⟨by kernel_rfl,Tryz.underlying90,by simp[ty90,UD.is],by kernel_rfl,by kernel_rfl,by kernel_rfl,by simp[ty90,scL,V.sc],by kernel_rfl,(fun _=>⟨_,rfl,rfl⟩),by kernel_rfl⟩⟩
theorem ty99_is:TI 99 ty99:=⟨Tryz.prog.types.getD 99 default,_,⟨by kernel_rfl,Tryz.underlying99,by simp[ty99,UD.is],by kernel_rfl,by kernel_rfl,by kernel_rfl,by simp[ty99,scL,V.sc],by kernel_rfl,(fun _=>⟨_,rfl,rfl⟩),by kernel_rfl⟩⟩
theorem ty104_is:TI 104 ty104:=⟨Tryz.prog.types.getD 104 default,_,⟨by kernel_rfl,Tryz.underlying104,by simp[ty104,UD.is],by kernel_rfl,by kernel_rfl,by kernel_rfl,by simp[ty104,scL,V.sc],by kernel_rfl,(fun h=>by cases h),by kernel_rfl⟩⟩
theorem ty112_is:TI 112 ty112:=⟨Tryz.prog.types.getD 112 default,_,⟨by kernel_rfl,Tryz.underlying112,by simp[ty112,UD.is],by kernel_rfl,by kernel_rfl,by kernel_rfl,by simp[ty112,scL,V.sc],by kernel_rfl,(fun h=>by cases h),by kernel_rfl⟩⟩
theorem ty114_is:TI 114 ty114:=⟨Tryz.prog.types.getD 114 default,_,⟨by kernel_rfl,Tryz.underlying114,by simp[ty114,UD.is],by kernel_rfl,by kernel_rfl,by kernel_rfl,by simp[ty114,scL,V.sc],by kernel_rfl,(fun h=>by cases h),by kernel_rfl⟩⟩
theorem ty117_is:TI 117 ty117:=⟨Tryz.prog.types.getD 117 default,_,⟨by kernel_rfl,Tryz.underlying117,by simp[ty117,UD.is],by kernel_rfl,by kernel_rfl,by kernel_rfl,by simp[ty117,scL,V.sc],by kernel_rfl,(fun _=>⟨_,rfl,rfl⟩),by kernel_rfl⟩⟩
theorem ty119_is:TI 119 ty119:=⟨Tryz.prog.types.getD 119 default,_,⟨by kernel_rfl,Tryz.underlying119,by simp[ty119,UD.is],by kernel_rfl,by kernel_rfl,by kernel_rfl,by simp[ty119,scL,V.sc],by kernel_rfl,(fun _=>⟨_,rfl,rfl⟩),by kernel_rfl⟩⟩
theorem ty123_is:TI 123 ty123:=⟨Tryz.prog.types.getD 123 default,_,⟨by kernel_rfl,Tryz.underlying123,by simp[ty123,UD.is],by kernel_rfl,by kernel_rfl,by kernel_rfl,by simp[ty123,scL,V.sc],by kernel_rfl,(fun _=>⟨_,rfl,rfl⟩),by kernel_rfl⟩⟩
theorem ty125_is:TI 125 ty125:=⟨Tryz.prog.types.getD 125 default,_,⟨by kernel_rfl,Tryz.underlying125,by simp[ty125,UD.is],by kernel_rfl,by kernel_rfl,by kernel_rfl,by simp[ty125,scL,V.sc],by kernel_rfl,(fun h=>by cases h),by kernel_rfl⟩⟩
theorem ty128_is:TI 128 ty128:=⟨Tryz.prog.types.getD 128 default,_,⟨by kernel_rfl,Tryz.underlying128,by simp[ty128,UD.is],by kernel_rfl,by kernel_rfl,by kernel_rfl,by simp[ty128,scL,V.sc],by kernel_rfl,(fun _=>⟨_,rfl,rfl⟩),by kernel_rfl⟩⟩
theorem ty139_is:TI 139 ty139:=⟨Tryz.prog.types.getD 139 default,_,⟨by kernel_rfl,Tryz.underlying139,by simp[ty139,UD.is],by kernel_rfl,by kernel_rfl,by kernel_rfl,by simp[ty139,scL,V.sc],by kernel_rfl,(fun _=>⟨_,rfl,rfl⟩),by kernel_rfl⟩⟩
theorem ty141_is:TI 141 ty141:=⟨Tryz.prog.types.getD 141 default,_,⟨by kernel_rfl,Tryz.underlying141,by simp[ty141,UD.is],by kernel_rfl,by kernel_rfl,by kernel_rfl,by simp[ty141,scL,V.sc],by kernel_rfl,(fun _=>⟨_,rfl,rfl⟩),by kernel_rfl⟩⟩
theorem ty143_is:TI 143 ty143:=⟨Tryz.prog.types.getD 143 default,_,⟨by kernel_rfl,Tryz.underlying143,by simp[ty143,UD.is],by kernel_rfl,by kernel_rfl,by kernel_rfl,by simp[ty143,scL,V.sc],by kernel_rfl,(fun _=>⟨_,rfl,rfl⟩),by kernel_rfl⟩⟩
theorem ty161_is:TI 161 ty161:=⟨Tryz.prog.types.getD 161 default,_,⟨by kernel_rfl,Tryz.underlying161,by simp[ty161,UD.is],by kernel_rfl,by kernel_rfl,by kernel_rfl,by simp[ty161,scL,V.sc],by kernel_rfl,(fun _=>⟨_,rfl,rfl⟩),by kernel_rfl⟩⟩
theorem ty166_is:TI 166 ty166:=⟨Tryz.prog.types.getD 166 default,_,⟨by kernel_rfl,Tryz.underlying166,by simp[ty166,UD.is],by kernel_rfl,by kernel_rfl,by kernel_rfl,by simp[ty166,scL,V.sc],by kernel_rfl,(fun h=>by cases h),by kernel_rfl⟩⟩
theorem ty168_is:TI 168 ty168:=⟨Tryz.prog.types.getD 168 default,_,⟨by kernel_rfl,Tryz.underlying168,by simp[ty168,UD.is],by kernel_rfl,by kernel_rfl,by kernel_rfl,by simp[ty168,scL,V.sc],by kernel_rfl,(fun h=>by cases h),by kernel_rfl⟩⟩
theorem ty173_is:TI 173 ty173:=⟨Tryz.prog.types.getD 173 default,_,⟨by kernel_rfl,Tryz.underlying173,by simp[ty173,UD.is],by kernel_rfl,by kernel_rfl,by kernel_rfl,by simp[ty173,scL,V.sc],by kernel_rfl,(fun _=>⟨_,rfl,rfl⟩),by kernel_rfl⟩⟩
noncomputable def tyG (t:Nat):Option TD:=tyT.get t
noncomputable def fnG (f:Nat):Option FD:=fnT.get f
theorem tyOK:ZV Tryz.prog tyG:=by
 intro t d h
 have key:tyT.all TI:=⟨aN,⟨aN,⟨aS ty3_is,⟨aN,⟨aN,⟨⟩,⟨aN,⟨aS ty79_is,⟨aS ty143_is,⟨⟩,⟨⟩⟩,⟨⟩⟩,⟨⟩⟩⟩,⟨aS ty23_is,⟨aN,⟨aS ty71_is,⟨⟩,⟨⟩⟩,⟨⟩⟩,⟨aN,⟨aS ty87_is,⟨⟩,⟨⟩⟩,⟨aS ty119_is,⟨⟩,⟨⟩⟩⟩⟩⟩,⟨aN,⟨aN,⟨aS ty35_is,⟨⟩,⟨aS ty99_is,⟨⟩,⟨⟩⟩⟩,⟨⟩⟩,⟨aS ty27_is,⟨aN,⟨aS ty75_is,⟨aS ty139_is,⟨⟩,⟨⟩⟩,⟨⟩⟩,⟨⟩⟩,⟨aN,⟨⟩,⟨aS ty123_is,⟨⟩,⟨⟩⟩⟩⟩⟩⟩,⟨aN,⟨aN,⟨aN,⟨aS ty33_is,⟨⟩,⟨aN,⟨aS ty161_is,⟨⟩,⟨⟩⟩,⟨⟩⟩⟩,⟨⟩⟩,⟨aN,⟨aN,⟨aS ty73_is,⟨⟩,⟨⟩⟩,⟨⟩⟩,⟨⟩⟩⟩,⟨aN,⟨aN,⟨⟩,⟨aN,⟨aS ty85_is,⟨⟩,⟨⟩⟩,⟨aS ty117_is,⟨⟩,⟨⟩⟩⟩⟩,⟨aN,⟨aN,⟨aS ty77_is,⟨aS ty141_is,⟨⟩,⟨⟩⟩,⟨⟩⟩,⟨aN,⟨aS ty173_is,⟨⟩,⟨⟩⟩,⟨⟩⟩⟩,⟨aN,⟨⟩,⟨aS ty125_is,⟨⟩,⟨⟩⟩⟩⟩⟩⟩⟩,⟨aN,⟨aS ty4_is,⟨aN,⟨aN,⟨aS ty32_is,⟨aN,⟨aS ty128_is,⟨⟩,⟨⟩⟩,⟨⟩⟩,⟨⟩⟩,⟨aN,⟨⟩,⟨aS ty112_is,⟨⟩,⟨⟩⟩⟩⟩,⟨aS ty24_is,⟨aS ty40_is,⟨⟩,⟨aS ty104_is,⟨aS ty168_is,⟨⟩,⟨⟩⟩,⟨⟩⟩⟩,⟨⟩⟩⟩,⟨aN,⟨aN,⟨aN,⟨aS ty68_is,⟨⟩,⟨⟩⟩,⟨⟩⟩,⟨⟩⟩,⟨⟩⟩⟩,⟨aN,⟨aN,⟨aN,⟨⟩,⟨aN,⟨⟩,⟨aS ty114_is,⟨⟩,⟨⟩⟩⟩⟩,⟨aS ty26_is,⟨aN,⟨aS ty74_is,⟨⟩,⟨⟩⟩,⟨⟩⟩,⟨aN,⟨aS ty90_is,⟨⟩,⟨⟩⟩,⟨⟩⟩⟩⟩,⟨aN,⟨aS ty22_is,⟨aS ty38_is,⟨aS ty70_is,⟨⟩,⟨⟩⟩,⟨aN,⟨aS ty166_is,⟨⟩,⟨⟩⟩,⟨⟩⟩⟩,⟨⟩⟩,⟨⟩⟩⟩⟩⟩
 exact T.all_get key h
theorem c3_is:FI 3 c3 tyG:=⟨_,Tryz.func3,by kernel_rfl,by kernel_rfl,by kernel_rfl⟩
theorem c4_is:FI 4 c4 tyG:=⟨_,Tryz.func4,by kernel_rfl,by kernel_rfl,by kernel_rfl⟩
theorem c5_is:FI 5 c5 tyG:=⟨_,Tryz.func5,by kernel_rfl,by kernel_rfl,by kernel_rfl⟩
theorem c7_is:FI 7 c7 tyG:=⟨_,Tryz.func7,by kernel_rfl,by kernel_rfl,by kernel_rfl⟩
theorem c8_is:FI 8 c8 tyG:=⟨_,Tryz.func8,by kernel_rfl,by kernel_rfl,by kernel_rfl⟩
theorem c9_is:FI 9 c9 tyG:=⟨_,Tryz.func9,by kernel_rfl,by kernel_rfl,by kernel_rfl⟩
theorem c10_is:FI 10 c10 tyG:=⟨_,Tryz.func10,by kernel_rfl,by kernel_rfl,by kernel_rfl⟩
theorem c11_is:FI 11 c11 tyG:=⟨_,Tryz.func11,by kernel_rfl,by kernel_rfl,by kernel_rfl⟩
theorem c12_is:FI 12 c12 tyG:=⟨_,Tryz.func12,by kernel_rfl,by kernel_rfl,by kernel_rfl⟩
theorem c13_is:FI 13 c13 tyG:=⟨_,Tryz.func13,by kernel_rfl,by kernel_rfl,by kernel_rfl⟩
theorem c14_is:FI 14 c14 tyG:=⟨_,Tryz.func14,by kernel_rfl,by kernel_rfl,by kernel_rfl⟩
theorem c15_is:FI 15 c15 tyG:=⟨_,Tryz.func15,by kernel_rfl,by kernel_rfl,by kernel_rfl⟩
theorem c16_is:FI 16 c16 tyG:=⟨_,Tryz.func16,by kernel_rfl,by kernel_rfl,by kernel_rfl⟩
theorem c17_is:FI 17 c17 tyG:=⟨_,Tryz.func17,by kernel_rfl,by kernel_rfl,by kernel_rfl⟩
theorem c18_is:FI 18 c18 tyG:=⟨_,Tryz.func18,by kernel_rfl,by kernel_rfl,by kernel_rfl⟩
theorem c19_is:FI 19 c19 tyG:=⟨_,Tryz.func19,by kernel_rfl,by kernel_rfl,by kernel_rfl⟩
theorem c20_is:FI 20 c20 tyG:=⟨_,Tryz.func20,by kernel_rfl,by kernel_rfl,by kernel_rfl⟩
theorem c21_is:FI 21 c21 tyG:=⟨_,Tryz.func21,by kernel_rfl,by kernel_rfl,by kernel_rfl⟩
theorem c22_is:FI 22 c22 tyG:=⟨_,Tryz.func22,by kernel_rfl,by kernel_rfl,by kernel_rfl⟩
theorem c23_is:FI 23 c23 tyG:=⟨_,Tryz.func23,by kernel_rfl,by kernel_rfl,by kernel_rfl⟩
theorem c24_is:FI 24 c24 tyG:=⟨_,Tryz.func24,by kernel_rfl,by kernel_rfl,by kernel_rfl⟩
theorem c25_is:FI 25 c25 tyG:=⟨_,Tryz.func25,by kernel_rfl,by kernel_rfl,by kernel_rfl⟩
theorem c26_is:FI 26 c26 tyG:=⟨_,Tryz.func26,by kernel_rfl,by kernel_rfl,by kernel_rfl⟩
theorem c27_is:FI 27 c27 tyG:=⟨_,Tryz.func27,by kernel_rfl,by kernel_rfl,by kernel_rfl⟩
theorem c28_is:FI 28 c28 tyG:=⟨_,Tryz.func28,by kernel_rfl,by kernel_rfl,by kernel_rfl⟩
theorem c29_is:FI 29 c29 tyG:=⟨_,Tryz.func29,by kernel_rfl,by kernel_rfl,by kernel_rfl⟩
theorem c30_is:FI 30 c30 tyG:=⟨_,Tryz.func30,by kernel_rfl,by kernel_rfl,by kernel_rfl⟩
theorem c31_is:FI 31 c31 tyG:=⟨_,Tryz.func31,by kernel_rfl,by kernel_rfl,by kernel_rfl⟩
theorem c32_is:FI 32 c32 tyG:=⟨_,Tryz.func32,by kernel_rfl,by kernel_rfl,by kernel_rfl⟩
theorem c33_is:FI 33 c33 tyG:=⟨_,Tryz.func33,by kernel_rfl,by kernel_rfl,by kernel_rfl⟩
theorem c34_is:FI 34 c34 tyG:=⟨_,Tryz.func34,by kernel_rfl,by kernel_rfl,by kernel_rfl⟩
theorem c35_is:FI 35 c35 tyG:=⟨_,Tryz.func35,by kernel_rfl,by kernel_rfl,by kernel_rfl⟩
theorem c36_is:FI 36 c36 tyG:=⟨_,Tryz.func36,by kernel_rfl,by kernel_rfl,by kernel_rfl⟩
theorem c37_is:FI 37 c37 tyG:=⟨_,Tryz.func37,by kernel_rfl,by kernel_rfl,by kernel_rfl⟩
theorem c38_is:FI 38 c38 tyG:=⟨_,Tryz.func38,by kernel_rfl,by kernel_rfl,by kernel_rfl⟩
theorem c42_is:FI 42 c42 tyG:=⟨_,Tryz.func42,by kernel_rfl,by kernel_rfl,by kernel_rfl⟩
theorem c43_is:FI 43 c43 tyG:=⟨_,Tryz.func43,by kernel_rfl,by kernel_rfl,by kernel_rfl⟩
theorem c45_is:FI 45 c45 tyG:=⟨_,Tryz.func45,by kernel_rfl,by kernel_rfl,by kernel_rfl⟩
theorem c52_is:FI 52 c52 tyG:=⟨_,Tryz.func52,by kernel_rfl,by kernel_rfl,by kernel_rfl⟩
theorem c57_is:FI 57 c57 tyG:=⟨_,Tryz.func57,by kernel_rfl,by kernel_rfl,by kernel_rfl⟩
theorem c58_is:FI 58 c58 tyG:=⟨_,Tryz.func58,by kernel_rfl,by kernel_rfl,by kernel_rfl⟩
theorem c59_is:FI 59 c59 tyG:=⟨_,Tryz.func59,by kernel_rfl,by kernel_rfl,by kernel_rfl⟩
theorem c60_is:FI 60 c60 tyG:=⟨_,Tryz.func60,by kernel_rfl,by kernel_rfl,by kernel_rfl⟩
theorem c61_is:FI 61 c61 tyG:=⟨_,Tryz.func61,by kernel_rfl,by kernel_rfl,by kernel_rfl⟩
theorem c62_is:FI 62 c62 tyG:=⟨_,Tryz.func62,by kernel_rfl,by kernel_rfl,by kernel_rfl⟩
theorem c63_is:FI 63 c63 tyG:=⟨_,Tryz.func63,by kernel_rfl,by kernel_rfl,by kernel_rfl⟩
theorem c64_is:FI 64 c64 tyG:=⟨_,Tryz.func64,by kernel_rfl,by kernel_rfl,by kernel_rfl⟩
theorem c65_is:FI 65 c65 tyG:=⟨_,Tryz.func65,by kernel_rfl,by kernel_rfl,by kernel_rfl⟩
theorem c66_is:FI 66 c66 tyG:=⟨_,Tryz.func66,by kernel_rfl,by kernel_rfl,by kernel_rfl⟩
theorem c67_is:FI 67 c67 tyG:=⟨_,Tryz.func67,by kernel_rfl,by kernel_rfl,by kernel_rfl⟩
theorem c68_is:FI 68 c68 tyG:=⟨_,Tryz.func68,by kernel_rfl,by kernel_rfl,by kernel_rfl⟩
theorem c69_is:FI 69 c69 tyG:=⟨_,Tryz.func69,by kernel_rfl,by kernel_rfl,by kernel_rfl⟩
theorem c70_is:FI 70 c70 tyG:=⟨_,Tryz.func70,by kernel_rfl,by kernel_rfl,by kernel_rfl⟩
theorem c71_is:FI 71 c71 tyG:=⟨_,Tryz.func71,by kernel_rfl,by kernel_rfl,by kernel_rfl⟩
theorem c72_is:FI 72 c72 tyG:=⟨_,Tryz.func72,by kernel_rfl,by kernel_rfl,by kernel_rfl⟩
theorem c73_is:FI 73 c73 tyG:=⟨_,Tryz.func73,by kernel_rfl,by kernel_rfl,by kernel_rfl⟩
theorem c74_is:FI 74 c74 tyG:=⟨_,Tryz.func74,by kernel_rfl,by kernel_rfl,by kernel_rfl⟩
theorem c75_is:FI 75 c75 tyG:=⟨_,Tryz.func75,by kernel_rfl,by kernel_rfl,by kernel_rfl⟩
theorem c76_is:FI 76 c76 tyG:=⟨_,Tryz.func76,by kernel_rfl,by kernel_rfl,by kernel_rfl⟩
theorem c77_is:FI 77 c77 tyG:=⟨_,Tryz.func77,by kernel_rfl,by kernel_rfl,by kernel_rfl⟩
theorem c78_is:FI 78 c78 tyG:=⟨_,Tryz.func78,by kernel_rfl,by kernel_rfl,by kernel_rfl⟩
theorem c79_is:FI 79 c79 tyG:=⟨_,Tryz.func79,by kernel_rfl,by kernel_rfl,by kernel_rfl⟩
theorem c80_is:FI 80 c80 tyG:=⟨_,Tryz.func80,by kernel_rfl,by kernel_rfl,by kernel_rfl⟩
theorem c81_is:FI 81 c81 tyG:=⟨_,Tryz.func81,by kernel_rfl,by kernel_rfl,by kernel_rfl⟩
theorem c82_is:FI 82 c82 tyG:=⟨_,Tryz.func82,by kernel_rfl,by kernel_rfl,by kernel_rfl⟩
theorem c83_is:FI 83 c83 tyG:=⟨_,Tryz.func83,by kernel_rfl,by kernel_rfl,by kernel_rfl⟩
theorem c84_is:FI 84 c84 tyG:=⟨_,Tryz.func84,by kernel_rfl,by kernel_rfl,by kernel_rfl⟩
theorem c85_is:FI 85 c85 tyG:=⟨_,Tryz.func85,by kernel_rfl,by kernel_rfl,by kernel_rfl⟩
theorem c86_is:FI 86 c86 tyG:=⟨_,Tryz.func86,by kernel_rfl,by kernel_rfl,by kernel_rfl⟩
theorem c87_is:FI 87 c87 tyG:=⟨_,Tryz.func87,by kernel_rfl,by kernel_rfl,by kernel_rfl⟩
theorem c88_is:FI 88 c88 tyG:=⟨_,Tryz.func88,by kernel_rfl,by kernel_rfl,by kernel_rfl⟩
theorem c89_is:FI 89 c89 tyG:=⟨_,Tryz.func89,by kernel_rfl,by kernel_rfl,by kernel_rfl⟩
theorem c90_is:FI 90 c90 tyG:=⟨_,Tryz.func90,by kernel_rfl,by kernel_rfl,by kernel_rfl⟩
theorem c91_is:FI 91 c91 tyG:=⟨_,Tryz.func91,by kernel_rfl,by kernel_rfl,by kernel_rfl⟩
theorem c92_is:FI 92 c92 tyG:=⟨_,Tryz.func92,by kernel_rfl,by kernel_rfl,by kernel_rfl⟩
theorem c93_is:FI 93 c93 tyG:=⟨_,Tryz.func93,by kernel_rfl,by kernel_rfl,by kernel_rfl⟩
theorem c94_is:FI 94 c94 tyG:=⟨_,Tryz.func94,by kernel_rfl,by kernel_rfl,by kernel_rfl⟩
theorem c95_is:FI 95 c95 tyG:=⟨_,Tryz.func95,by kernel_rfl,by kernel_rfl,by kernel_rfl⟩
theorem c96_is:FI 96 c96 tyG:=⟨_,Tryz.func96,by kernel_rfl,by kernel_rfl,by kernel_rfl⟩
theorem c97_is:FI 97 c97 tyG:=⟨_,Tryz.func97,by kernel_rfl,by kernel_rfl,by kernel_rfl⟩
theorem c98_is:FI 98 c98 tyG:=⟨_,Tryz.func98,by kernel_rfl,by kernel_rfl,by kernel_rfl⟩
theorem c99_is:FI 99 c99 tyG:=⟨_,Tryz.func99,by kernel_rfl,by kernel_rfl,by kernel_rfl⟩
theorem c100_is:FI 100 c100 tyG:=⟨_,Tryz.func100,by kernel_rfl,by kernel_rfl,by kernel_rfl⟩
theorem c101_is:FI 101 c101 tyG:=⟨_,Tryz.func101,by kernel_rfl,by kernel_rfl,by kernel_rfl⟩
theorem c102_is:FI 102 c102 tyG:=⟨_,Tryz.func102,by kernel_rfl,by kernel_rfl,by kernel_rfl⟩
theorem c103_is:FI 103 c103 tyG:=⟨_,Tryz.func103,by kernel_rfl,by kernel_rfl,by kernel_rfl⟩
theorem c104_is:FI 104 c104 tyG:=⟨_,Tryz.func104,by kernel_rfl,by kernel_rfl,by kernel_rfl⟩
theorem c105_is:FI 105 c105 tyG:=⟨_,Tryz.func105,by kernel_rfl,by kernel_rfl,by kernel_rfl⟩
theorem c106_is:FI 106 c106 tyG:=⟨_,Tryz.func106,by kernel_rfl,by kernel_rfl,by kernel_rfl⟩
theorem c107_is:FI 107 c107 tyG:=⟨_,Tryz.func107,by kernel_rfl,by kernel_rfl,by kernel_rfl⟩
theorem c111_is:FI 111 c111 tyG:=⟨_,Tryz.func111,by kernel_rfl,by kernel_rfl,by kernel_rfl⟩
theorem c112_is:FI 112 c112 tyG:=⟨_,Tryz.func112,by kernel_rfl,by kernel_rfl,by kernel_rfl⟩
theorem c118_is:FI 118 c118 tyG:=⟨_,Tryz.func118,by kernel_rfl,by kernel_rfl,by kernel_rfl⟩
theorem c119_is:FI 119 c119 tyG:=⟨_,Tryz.func119,by kernel_rfl,by kernel_rfl,by kernel_rfl⟩
theorem c120_is:FI 120 c120 tyG:=⟨_,Tryz.func120,by kernel_rfl,by kernel_rfl,by kernel_rfl⟩
theorem c121_is:FI 121 c121 tyG:=⟨_,Tryz.func121,by kernel_rfl,by kernel_rfl,by kernel_rfl⟩
theorem c122_is:FI 122 c122 tyG:=⟨_,Tryz.func122,by kernel_rfl,by kernel_rfl,by kernel_rfl⟩
theorem c123_is:FI 123 c123 tyG:=⟨_,Tryz.func123,by kernel_rfl,by kernel_rfl,by kernel_rfl⟩
theorem c124_is:FI 124 c124 tyG:=⟨_,Tryz.func124,by kernel_rfl,by kernel_rfl,by kernel_rfl⟩
theorem c125_is:FI 125 c125 tyG:=⟨_,Tryz.func125,by kernel_rfl,by kernel_rfl,by kernel_rfl⟩
theorem c126_is:FI 126 c126 tyG:=⟨_,Tryz.func126,by kernel_rfl,by kernel_rfl,by kernel_rfl⟩
theorem c127_is:FI 127 c127 tyG:=⟨_,Tryz.func127,by kernel_rfl,by kernel_rfl,by kernel_rfl⟩
theorem c128_is:FI 128 c128 tyG:=⟨_,Tryz.func128,by kernel_rfl,by kernel_rfl,by kernel_rfl⟩
theorem c129_is:FI 129 c129 tyG:=⟨_,Tryz.func129,by kernel_rfl,by kernel_rfl,by kernel_rfl⟩
theorem c130_is:FI 130 c130 tyG:=⟨_,Tryz.func130,by kernel_rfl,by kernel_rfl,by kernel_rfl⟩
theorem c131_is:FI 131 c131 tyG:=⟨_,Tryz.func131,by kernel_rfl,by kernel_rfl,by kernel_rfl⟩
theorem c132_is:FI 132 c132 tyG:=⟨_,Tryz.func132,by kernel_rfl,by kernel_rfl,by kernel_rfl⟩
theorem c133_is:FI 133 c133 tyG:=⟨_,Tryz.func133,by kernel_rfl,by kernel_rfl,by kernel_rfl⟩
theorem c134_is:FI 134 c134 tyG:=⟨_,Tryz.func134,by kernel_rfl,by kernel_rfl,by kernel_rfl⟩
theorem c135_is:FI 135 c135 tyG:=⟨_,Tryz.func135,by kernel_rfl,by kernel_rfl,by kernel_rfl⟩
theorem c136_is:FI 136 c136 tyG:=⟨_,Tryz.func136,by kernel_rfl,by kernel_rfl,by kernel_rfl⟩
theorem c137_is:FI 137 c137 tyG:=⟨_,Tryz.func137,by kernel_rfl,by kernel_rfl,by kernel_rfl⟩
theorem c138_is:FI 138 c138 tyG:=⟨_,Tryz.func138,by kernel_rfl,by kernel_rfl,by kernel_rfl⟩
theorem c139_is:FI 139 c139 tyG:=⟨_,Tryz.func139,by kernel_rfl,by kernel_rfl,by kernel_rfl⟩
theorem c140_is:FI 140 c140 tyG:=⟨_,Tryz.func140,by kernel_rfl,by kernel_rfl,by kernel_rfl⟩
theorem c141_is:FI 141 c141 tyG:=⟨_,Tryz.func141,by kernel_rfl,by kernel_rfl,by kernel_rfl⟩
theorem c142_is:FI 142 c142 tyG:=⟨_,Tryz.func142,by kernel_rfl,by kernel_rfl,by kernel_rfl⟩
theorem c143_is:FI 143 c143 tyG:=⟨_,Tryz.func143,by kernel_rfl,by kernel_rfl,by kernel_rfl⟩
theorem c144_is:FI 144 c144 tyG:=⟨_,Tryz.func144,by kernel_rfl,by kernel_rfl,by kernel_rfl⟩
theorem c145_is:FI 145 c145 tyG:=⟨_,Tryz.func145,by kernel_rfl,by kernel_rfl,by kernel_rfl⟩
theorem c146_is:FI 146 c146 tyG:=⟨_,Tryz.func146,by kernel_rfl,by kernel_rfl,by kernel_rfl⟩
theorem c147_is:FI 147 c147 tyG:=⟨_,Tryz.func147,by kernel_rfl,by kernel_rfl,by kernel_rfl⟩
theorem c148_is:FI 148 c148 tyG:=⟨_,Tryz.func148,by kernel_rfl,by kernel_rfl,by kernel_rfl⟩
theorem c149_is:FI 149 c149 tyG:=⟨_,Tryz.func149,by kernel_rfl,by kernel_rfl,by kernel_rfl⟩
theorem c150_is:FI 150 c150 tyG:=⟨_,Tryz.func150,by kernel_rfl,by kernel_rfl,by kernel_rfl⟩
theorem c151_is:FI 151 c151 tyG:=⟨_,Tryz.func151,by kernel_rfl,by kernel_rfl,by kernel_rfl⟩
theorem c152_is:FI 152 c152 tyG:=⟨_,Tryz.func152,by kernel_rfl,by kernel_rfl,by kernel_rfl⟩
theorem c153_is:FI 153 c153 tyG:=⟨_,Tryz.func153,by kernel_rfl,by kernel_rfl,by kernel_rfl⟩
theorem c154_is:FI 154 c154 tyG:=⟨_,Tryz.func154,by kernel_rfl,by kernel_rfl,by kernel_rfl⟩
theorem c155_is:FI 155 c155 tyG:=⟨_,Tryz.func155,by kernel_rfl,by kernel_rfl,by kernel_rfl⟩
theorem c156_is:FI 156 c156 tyG:=⟨_,Tryz.func156,by kernel_rfl,by kernel_rfl,by kernel_rfl⟩
theorem c157_is:FI 157 c157 tyG:=⟨_,Tryz.func157,by kernel_rfl,by kernel_rfl,by kernel_rfl⟩
theorem c165_is:FI 165 c165 tyG:=⟨_,Tryz.func165,by kernel_rfl,by kernel_rfl,by kernel_rfl⟩
theorem c170_is:FI 170 c170 tyG:=⟨_,Tryz.func170,by kernel_rfl,by kernel_rfl,by kernel_rfl⟩
theorem c171_is:FI 171 c171 tyG:=⟨_,Tryz.func171,by kernel_rfl,by kernel_rfl,by kernel_rfl⟩
theorem c172_is:FI 172 c172 tyG:=⟨_,Tryz.func172,by kernel_rfl,by kernel_rfl,by kernel_rfl⟩
theorem c173_is:FI 173 c173 tyG:=⟨_,Tryz.func173,by kernel_rfl,by kernel_rfl,by kernel_rfl⟩
theorem c174_is:FI 174 c174 tyG:=⟨_,Tryz.func174,by kernel_rfl,by kernel_rfl,by kernel_rfl⟩
theorem c175_is:FI 175 c175 tyG:=⟨_,Tryz.func175,by kernel_rfl,by kernel_rfl,by kernel_rfl⟩
theorem c176_is:FI 176 c176 tyG:=⟨_,Tryz.func176,by kernel_rfl,by kernel_rfl,by kernel_rfl⟩
theorem c177_is:FI 177 c177 tyG:=⟨_,Tryz.func177,by kernel_rfl,by kernel_rfl,by kernel_rfl⟩
theorem c178_is:FI 178 c178 tyG:=⟨_,Tryz.func178,by kernel_rfl,by kernel_rfl,by kernel_rfl⟩
theorem c184_is:FI 184 c184 tyG:=⟨_,Tryz.func184,by kernel_rfl,by kernel_rfl,by kernel_rfl⟩
theorem fnOK:FnOk Tryz.prog tyG fnG:=by
 refine⟨fun f fd h=>?_⟩
 have key:fnT.all fun f fd=>FI f fd tyG:=
  ⟨aN,⟨aN,⟨aS c3_is,⟨aS c7_is,⟨aS c15_is,⟨aS c31_is,⟨aS c63_is,⟨aS c127_is,⟨⟩,⟨⟩⟩,⟨⟩⟩,⟨aS c95_is,⟨⟩,⟨⟩⟩⟩,⟨aN,⟨aS c79_is,⟨aS c143_is,⟨⟩,⟨⟩⟩,⟨⟩⟩,⟨aS c111_is,⟨aS c175_is,⟨⟩,⟨⟩⟩,⟨⟩⟩⟩⟩,⟨aS c23_is,⟨aN,⟨aS c71_is,⟨aS c135_is,⟨⟩,⟨⟩⟩,⟨⟩⟩,⟨aS c103_is,⟨⟩,⟨⟩⟩⟩,⟨aN,⟨aS c87_is,⟨aS c151_is,⟨⟩,⟨⟩⟩,⟨⟩⟩,⟨aS c119_is,⟨⟩,⟨⟩⟩⟩⟩⟩,⟨aS c11_is,⟨aS c19_is,⟨aS c35_is,⟨aS c67_is,⟨aS c131_is,⟨⟩,⟨⟩⟩,⟨⟩⟩,⟨aS c99_is,⟨⟩,⟨⟩⟩⟩,⟨aN,⟨aS c83_is,⟨aS c147_is,⟨⟩,⟨⟩⟩,⟨⟩⟩,⟨⟩⟩⟩,⟨aS c27_is,⟨aS c43_is,⟨aS c75_is,⟨aS c139_is,⟨⟩,⟨⟩⟩,⟨⟩⟩,⟨aS c107_is,⟨aS c171_is,⟨⟩,⟨⟩⟩,⟨⟩⟩⟩,⟨aS c59_is,⟨aS c91_is,⟨aS c155_is,⟨⟩,⟨⟩⟩,⟨⟩⟩,⟨aS c123_is,⟨⟩,⟨⟩⟩⟩⟩⟩⟩,⟨aS c5_is,⟨aS c9_is,⟨aS c17_is,⟨aS c33_is,⟨aS c65_is,⟨aS c129_is,⟨⟩,⟨⟩⟩,⟨⟩⟩,⟨aS c97_is,⟨⟩,⟨⟩⟩⟩,⟨aN,⟨aS c81_is,⟨aS c145_is,⟨⟩,⟨⟩⟩,⟨⟩⟩,⟨aN,⟨aS c177_is,⟨⟩,⟨⟩⟩,⟨⟩⟩⟩⟩,⟨aS c25_is,⟨aN,⟨aS c73_is,⟨aS c137_is,⟨⟩,⟨⟩⟩,⟨⟩⟩,⟨aS c105_is,⟨⟩,⟨⟩⟩⟩,⟨aS c57_is,⟨aS c89_is,⟨aS c153_is,⟨⟩,⟨⟩⟩,⟨⟩⟩,⟨aS c121_is,⟨⟩,⟨⟩⟩⟩⟩⟩,⟨aS c13_is,⟨aS c21_is,⟨aS c37_is,⟨aS c69_is,⟨aS c133_is,⟨⟩,⟨⟩⟩,⟨⟩⟩,⟨aS c101_is,⟨aS c165_is,⟨⟩,⟨⟩⟩,⟨⟩⟩⟩,⟨aN,⟨aS c85_is,⟨aS c149_is,⟨⟩,⟨⟩⟩,⟨⟩⟩,⟨⟩⟩⟩,⟨aS c29_is,⟨aS c45_is,⟨aS c77_is,⟨aS c141_is,⟨⟩,⟨⟩⟩,⟨⟩⟩,⟨aN,⟨aS c173_is,⟨⟩,⟨⟩⟩,⟨⟩⟩⟩,⟨aS c61_is,⟨aS c93_is,⟨aS c157_is,⟨⟩,⟨⟩⟩,⟨⟩⟩,⟨aS c125_is,⟨⟩,⟨⟩⟩⟩⟩⟩⟩⟩,⟨aN,⟨aS c4_is,⟨aS c8_is,⟨aS c16_is,⟨aS c32_is,⟨aS c64_is,⟨aS c128_is,⟨⟩,⟨⟩⟩,⟨⟩⟩,⟨aS c96_is,⟨⟩,⟨⟩⟩⟩,⟨aN,⟨aS c80_is,⟨aS c144_is,⟨⟩,⟨⟩⟩,⟨⟩⟩,⟨aS c112_is,⟨aS c176_is,⟨⟩,⟨⟩⟩,⟨⟩⟩⟩⟩,⟨aS c24_is,⟨aN,⟨aS c72_is,⟨aS c136_is,⟨⟩,⟨⟩⟩,⟨⟩⟩,⟨aS c104_is,⟨⟩,⟨⟩⟩⟩,⟨aN,⟨aS c88_is,⟨aS c152_is,⟨⟩,⟨⟩⟩,⟨⟩⟩,⟨aS c120_is,⟨aS c184_is,⟨⟩,⟨⟩⟩,⟨⟩⟩⟩⟩⟩,⟨aS c12_is,⟨aS c20_is,⟨aS c36_is,⟨aS c68_is,⟨aS c132_is,⟨⟩,⟨⟩⟩,⟨⟩⟩,⟨aS c100_is,⟨⟩,⟨⟩⟩⟩,⟨aS c52_is,⟨aS c84_is,⟨aS c148_is,⟨⟩,⟨⟩⟩,⟨⟩⟩,⟨⟩⟩⟩,⟨aS c28_is,⟨aN,⟨aS c76_is,⟨aS c140_is,⟨⟩,⟨⟩⟩,⟨⟩⟩,⟨aN,⟨aS c172_is,⟨⟩,⟨⟩⟩,⟨⟩⟩⟩,⟨aS c60_is,⟨aS c92_is,⟨aS c156_is,⟨⟩,⟨⟩⟩,⟨⟩⟩,⟨aS c124_is,⟨⟩,⟨⟩⟩⟩⟩⟩⟩,⟨aN,⟨aS c10_is,⟨aS c18_is,⟨aS c34_is,⟨aS c66_is,⟨aS c130_is,⟨⟩,⟨⟩⟩,⟨⟩⟩,⟨aS c98_is,⟨⟩,⟨⟩⟩⟩,⟨aN,⟨aS c82_is,⟨aS c146_is,⟨⟩,⟨⟩⟩,⟨⟩⟩,⟨aN,⟨aS c178_is,⟨⟩,⟨⟩⟩,⟨⟩⟩⟩⟩,⟨aS c26_is,⟨aS c42_is,⟨aS c74_is,⟨aS c138_is,⟨⟩,⟨⟩⟩,⟨⟩⟩,⟨aS c106_is,⟨aS c170_is,⟨⟩,⟨⟩⟩,⟨⟩⟩⟩,⟨aS c58_is,⟨aS c90_is,⟨aS c154_is,⟨⟩,⟨⟩⟩,⟨⟩⟩,⟨aS c122_is,⟨⟩,⟨⟩⟩⟩⟩⟩,⟨aS c14_is,⟨aS c22_is,⟨aS c38_is,⟨aS c70_is,⟨aS c134_is,⟨⟩,⟨⟩⟩,⟨⟩⟩,⟨aS c102_is,⟨⟩,⟨⟩⟩⟩,⟨aN,⟨aS c86_is,⟨aS c150_is,⟨⟩,⟨⟩⟩,⟨⟩⟩,⟨aS c118_is,⟨⟩,⟨⟩⟩⟩⟩,⟨aS c30_is,⟨aN,⟨aS c78_is,⟨aS c142_is,⟨⟩,⟨⟩⟩,⟨⟩⟩,⟨aN,⟨aS c174_is,⟨⟩,⟨⟩⟩,⟨⟩⟩⟩,⟨aS c62_is,⟨aS c94_is,⟨⟩,⟨⟩⟩,⟨aS c126_is,⟨⟩,⟨⟩⟩⟩⟩⟩⟩⟩⟩
 exact T.all_get key h
theorem depth_ok:8≤Tryz.prog.depth:=Nat.le_of_ble_eq_true (by kernel_rfl)
theorem mixed_ok:Tryz.prog.follows .mixedOrders=true:=by kernel_rfl
end Go.Ab.Tryz
