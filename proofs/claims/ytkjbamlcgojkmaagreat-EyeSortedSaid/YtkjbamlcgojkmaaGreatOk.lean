/- The types and the code that our machine has are the program's (printed by a program of ours). -/
import Derived.Test.YtkjbamlcgojkmaaGreatProg
import Derived.Test.YtkjbamlcgojkmaaGreatDat
import Derived.Test.YtkjbamlcgojkmaaGreatAbS
import Derived.KernelRfl
set_option linter.unusedSimpArgs false
set_option linter.unusedVariables false
namespace Go.Ab.Tryz
open Go.Proofs
abbrev TI (t:Nat) (d:TD):Prop:=∃i u,TyIs Tryz.prog t d i u
abbrev FI (f:Nat) (d:FD) (G:Nat→Option TD):Prop:=∃fn,Tryz.prog.funcs[f]? =some fn∧(fn.name== "runtime.NumGoroutine")=false∧compF G fn=some d∧d.body.lt d.ntmps=true
theorem aN {α:Type}{p:α→Prop}:∀a,(none:Option α)=some a→p a:=fun a h=>by cases h
theorem aS {α:Type}{p:α→Prop}{v:α}(h:p v):∀a,some v=some a→p a:=fun a e=>by cases e;exact h
theorem ty3_is:TI 3 ty3:=⟨Tryz.prog.types.getD 3 default,_,⟨by kernel_rfl,Tryz.underlying3,by simp[ty3,UD.is],by kernel_rfl,by kernel_rfl,by kernel_rfl,by simp[ty3,scL,V.sc],by kernel_rfl,(fun _=>⟨_,rfl,rfl⟩),by kernel_rfl⟩⟩
theorem ty4_is:TI 4 ty4:=⟨Tryz.prog.types.getD 4 default,_,⟨by kernel_rfl,Tryz.underlying4,by simp[ty4,UD.is],by kernel_rfl,by kernel_rfl,by kernel_rfl,by simp[ty4,scL,V.sc],by kernel_rfl,(fun _=>⟨_,rfl,rfl⟩),by kernel_rfl⟩⟩
theorem ty5_is:TI 5 ty5:=⟨Tryz.prog.types.getD 5 default,_,⟨by kernel_rfl,Tryz.underlying5,by simp[ty5,UD.is],by kernel_rfl,by kernel_rfl,by kernel_rfl,by simp[ty5,scL,V.sc],by kernel_rfl,(fun _=>⟨_,rfl,rfl⟩),by kernel_rfl⟩⟩
theorem ty22_is:TI 22 ty22:=⟨Tryz.prog.types.getD 22 default,_,⟨by kernel_rfl,Tryz.underlying22,by simp[ty22,UD.is],by kernel_rfl,by kernel_rfl,by kernel_rfl,by simp[ty22,scL,V.sc],by kernel_rfl,(fun _=>⟨_,rfl,rfl⟩),by kernel_rfl⟩⟩
theorem ty23_is:TI 23 ty23:=⟨Tryz.prog.types.getD 23 default,_,⟨by kernel_rfl,Tryz.underlying23,by simp[ty23,UD.is],by kernel_rfl,by kernel_rfl,by kernel_rfl,by simp[ty23,scL,V.sc],by kernel_rfl,(fun _=>⟨_,rfl,rfl⟩),by kernel_rfl⟩⟩
theorem ty24_is:TI 24 ty24:=⟨Tryz.prog.types.getD 24 default,_,⟨by kernel_rfl,Tryz.underlying24,by simp[ty24,UD.is],by kernel_rfl,by kernel_rfl,by kernel_rfl,by simp[ty24,scL,V.sc],by kernel_rfl,(fun _=>⟨_,rfl,rfl⟩),by kernel_rfl⟩⟩
theorem ty26_is:TI 26 ty26:=⟨Tryz.prog.types.getD 26 default,_,⟨by kernel_rfl,Tryz.underlying26,by simp[ty26,UD.is],by kernel_rfl,by kernel_rfl,by kernel_rfl,by simp[ty26,scL,V.sc],by kernel_rfl,(fun h=>by cases h),by kernel_rfl⟩⟩
theorem ty27_is:TI 27 ty27:=⟨Tryz.prog.types.getD 27 default,_,⟨by kernel_rfl,Tryz.underlying27,by simp[ty27,UD.is],by kernel_rfl,by kernel_rfl,by kernel_rfl,by simp[ty27,scL,V.sc],by kernel_rfl,(fun _=>⟨_,rfl,rfl⟩),by kernel_rfl⟩⟩
theorem ty38_is:TI 38 ty38:=⟨Tryz.prog.types.getD 38 default,_,⟨by kernel_rfl,Tryz.underlying38,by simp[ty38,UD.is],by kernel_rfl,by kernel_rfl,by kernel_rfl,by simp[ty38,scL,V.sc],by kernel_rfl,(fun _=>⟨_,rfl,rfl⟩),by kernel_rfl⟩⟩
theorem ty40_is:TI 40 ty40:=⟨Tryz.prog.types.getD 40 default,_,⟨by kernel_rfl,Tryz.underlying40,by simp[ty40,UD.is],by kernel_rfl,by kernel_rfl,by kernel_rfl,by simp[ty40,scL,V.sc],by kernel_rfl,(fun _=>⟨_,rfl,rfl⟩),by kernel_rfl⟩⟩
theorem ty68_is:TI 68 ty68:=⟨Tryz.prog.types.getD 68 default,_,⟨by kernel_rfl,Tryz.underlying68,by simp[ty68,UD.is],by kernel_rfl,by kernel_rfl,by kernel_rfl,by simp[ty68,scL,V.sc],by kernel_rfl,(fun h=>by cases h),by kernel_rfl⟩⟩
theorem ty70_is:TI 70 ty70:=⟨Tryz.prog.types.getD 70 default,_,⟨by kernel_rfl,Tryz.underlying70,by simp[ty70,UD.is],by kernel_rfl,by kernel_rfl,by kernel_rfl,by simp[ty70,scL,V.sc],by kernel_rfl,(fun h=>by cases h),by kernel_rfl⟩⟩
theorem ty73_is:TI 73 ty73:=⟨Tryz.prog.types.getD 73 default,_,⟨by kernel_rfl,Tryz.underlying73,by simp[ty73,UD.is],by kernel_rfl,by kernel_rfl,by kernel_rfl,by simp[ty73,scL,V.sc],by kernel_rfl,(fun h=>by cases h),by kernel_rfl⟩⟩
theorem ty74_is:TI 74 ty74:=⟨Tryz.prog.types.getD 74 default,_,⟨by kernel_rfl,Tryz.underlying74,by simp[ty74,UD.is],by kernel_rfl,by kernel_rfl,by kernel_rfl,by simp[ty74,scL,V.sc],by kernel_rfl,(fun h=>by cases h),by kernel_rfl⟩⟩
theorem ty80_is:TI 80 ty80:=⟨Tryz.prog.types.getD 80 default,_,⟨by kernel_rfl,Tryz.underlying80,by simp[ty80,UD.is],by kernel_rfl,by kernel_rfl,by kernel_rfl,by simp[ty80,scL,V.sc],by kernel_rfl,(fun _=>⟨_,rfl,rfl⟩),by kernel_rfl⟩⟩
theorem ty85_is:TI 85 ty85:=⟨Tryz.prog.types.getD 85 default,_,⟨by kernel_rfl,Tryz.underlying85,by simp[ty85,UD.is],by kernel_rfl,by kernel_rfl,by kernel_rfl,by simp[ty85,scL,V.sc],by kernel_rfl,(fun _=>⟨_,rfl,rfl⟩),by kernel_rfl⟩⟩
theorem ty87_is:TI 87 ty87:=⟨Tryz.prog.types.getD 87 default,_,⟨by kernel_rfl,Tryz.underlying87,by simp[ty87,UD.is],by kernel_rfl,by kernel_rfl,by kernel_rfl,by simp[ty87,scL,V.sc],by kernel_rfl,(fun _=>⟨_,rfl,rfl⟩),by kernel_rfl⟩⟩
theorem ty90_is:TI 90 ty90:=⟨Tryz.prog.types.getD 90 default,_,⟨by kernel_rfl,Tryz.underlying90,by simp[ty90,UD.is],by kernel_rfl,by kernel_rfl,by kernel_rfl,by simp[ty90,scL,V.sc],by kernel_rfl,(fun _=>⟨_,rfl,rfl⟩),by kernel_rfl⟩⟩
theorem ty99_is:TI 99 ty99:=⟨Tryz.prog.types.getD 99 default,_,⟨by kernel_rfl,Tryz.underlying99,by simp[ty99,UD.is],by kernel_rfl,by kernel_rfl,by kernel_rfl,by simp[ty99,scL,V.sc],by kernel_rfl,(fun _=>⟨_,rfl,rfl⟩),by kernel_rfl⟩⟩
theorem ty104_is:TI 104 ty104:=⟨Tryz.prog.types.getD 104 default,_,⟨by kernel_rfl,Tryz.underlying104,by simp[ty104,UD.is],by kernel_rfl,by kernel_rfl,by kernel_rfl,by simp[ty104,scL,V.sc],by kernel_rfl,(fun h=>by cases h),by kernel_rfl⟩⟩
theorem ty119_is:TI 119 ty119:=⟨Tryz.prog.types.getD 119 default,_,⟨by kernel_rfl,Tryz.underlying119,by simp[ty119,UD.is],by kernel_rfl,by kernel_rfl,by kernel_rfl,by simp[ty119,scL,V.sc],by kernel_rfl,(fun _=>⟨_,rfl,rfl⟩),by kernel_rfl⟩⟩
theorem ty123_is:TI 123 ty123:=⟨Tryz.prog.types.getD 123 default,_,⟨by kernel_rfl,Tryz.underlying123,by simp[ty123,UD.is],by kernel_rfl,by kernel_rfl,by kernel_rfl,by simp[ty123,scL,V.sc],by kernel_rfl,(fun _=>⟨_,rfl,rfl⟩),by kernel_rfl⟩⟩
theorem ty125_is:TI 125 ty125:=⟨Tryz.prog.types.getD 125 default,_,⟨by kernel_rfl,Tryz.underlying125,by simp[ty125,UD.is],by kernel_rfl,by kernel_rfl,by kernel_rfl,by simp[ty125,scL,V.sc],by kernel_rfl,(fun h=>by cases h),by kernel_rfl⟩⟩
theorem ty128_is:TI 128 ty128:=⟨Tryz.prog.types.getD 128 default,_,⟨by kernel_rfl,Tryz.underlying128,by simp[ty128,UD.is],by kernel_rfl,by kernel_rfl,by kernel_rfl,by simp[ty128,scL,V.sc],by kernel_rfl,(fun _=>⟨_,rfl,rfl⟩),by kernel_rfl⟩⟩
theorem ty139_is:TI 139 ty139:=⟨Tryz.prog.types.getD 139 default,_,⟨by kernel_rfl,Tryz.underlying139,by simp[ty139,UD.is],by kernel_rfl,by kernel_rfl,by kernel_rfl,by simp[ty139,scL,V.sc],by kernel_rfl,(fun _=>⟨_,rfl,rfl⟩),by kernel_rfl⟩⟩
theorem ty141_is:TI 141 ty141:=⟨Tryz.prog.types.getD 141 default,_,⟨by kernel_rfl,Tryz.underlying141,by simp[ty141,UD.is],by kernel_rfl,by kernel_rfl,by kernel_rfl,by simp[ty141,scL,V.sc],by kernel_rfl,(fun _=>⟨_,rfl,rfl⟩),by kernel_rfl⟩⟩
theorem ty143_is:TI 143 ty143:=⟨Tryz.prog.types.getD 143 default,_,⟨by kernel_rfl,Tryz.underlying143,by simp[ty143,UD.is],by kernel_rfl,by kernel_rfl,by kernel_rfl,by simp[ty143,scL,V.sc],by kernel_rfl,(fun _=>⟨_,rfl,rfl⟩),by kernel_rfl⟩⟩
theorem ty146_is:TI 146 ty146:=⟨Tryz.prog.types.getD 146 default,_,⟨by kernel_rfl,Tryz.underlying146,by simp[ty146,UD.is],by kernel_rfl,by kernel_rfl,by kernel_rfl,by simp[ty146,scL,V.sc],by kernel_rfl,(fun _=>⟨_,rfl,rfl⟩),by kernel_rfl⟩⟩
theorem ty148_is:TI 148 ty148:=⟨Tryz.prog.types.getD 148 default,_,⟨by kernel_rfl,Tryz.underlying148,by simp[ty148,UD.is],by kernel_rfl,by kernel_rfl,by kernel_rfl,by simp[ty148,scL,V.sc],by kernel_rfl,(fun h=>by cases h),by kernel_rfl⟩⟩
theorem ty161_is:TI 161 ty161:=⟨Tryz.prog.types.getD 161 default,_,⟨by kernel_rfl,Tryz.underlying161,by simp[ty161,UD.is],by kernel_rfl,by kernel_rfl,by kernel_rfl,by simp[ty161,scL,V.sc],by kernel_rfl,(fun _=>⟨_,rfl,rfl⟩),by kernel_rfl⟩⟩
theorem ty166_is:TI 166 ty166:=⟨Tryz.prog.types.getD 166 default,_,⟨by kernel_rfl,Tryz.underlying166,by simp[ty166,UD.is],by kernel_rfl,by kernel_rfl,by kernel_rfl,by simp[ty166,scL,V.sc],by kernel_rfl,(fun h=>by cases h),by kernel_rfl⟩⟩
noncomputable def tyG (t:Nat):Option TD:=tyT.get t
noncomputable def fnG (f:Nat):Option FD:=fnT.get f
theorem tyOK:TyOK Tryz.prog tyG:=by
 intro t d h
 have key:tyT.all TI:=⟨aN,⟨aN,⟨aS ty3_is,⟨aN,⟨aN,⟨⟩,⟨aN,⟨aN,⟨aS ty143_is,⟨⟩,⟨⟩⟩,⟨⟩⟩,⟨⟩⟩⟩,⟨aS ty23_is,⟨⟩,⟨aN,⟨aS ty87_is,⟨⟩,⟨⟩⟩,⟨aS ty119_is,⟨⟩,⟨⟩⟩⟩⟩⟩,⟨aN,⟨aN,⟨aN,⟨⟩,⟨aS ty99_is,⟨⟩,⟨⟩⟩⟩,⟨⟩⟩,⟨aS ty27_is,⟨aN,⟨aN,⟨aS ty139_is,⟨⟩,⟨⟩⟩,⟨⟩⟩,⟨⟩⟩,⟨aN,⟨⟩,⟨aS ty123_is,⟨⟩,⟨⟩⟩⟩⟩⟩⟩,⟨aS ty5_is,⟨aN,⟨aN,⟨aN,⟨⟩,⟨aN,⟨aS ty161_is,⟨⟩,⟨⟩⟩,⟨⟩⟩⟩,⟨⟩⟩,⟨aN,⟨aN,⟨aS ty73_is,⟨⟩,⟨⟩⟩,⟨⟩⟩,⟨⟩⟩⟩,⟨aN,⟨aN,⟨⟩,⟨aN,⟨aS ty85_is,⟨⟩,⟨⟩⟩,⟨⟩⟩⟩,⟨aN,⟨aN,⟨aN,⟨aS ty141_is,⟨⟩,⟨⟩⟩,⟨⟩⟩,⟨⟩⟩,⟨aN,⟨⟩,⟨aS ty125_is,⟨⟩,⟨⟩⟩⟩⟩⟩⟩⟩,⟨aN,⟨aS ty4_is,⟨aN,⟨aN,⟨aN,⟨aN,⟨aS ty128_is,⟨⟩,⟨⟩⟩,⟨⟩⟩,⟨⟩⟩,⟨aN,⟨aS ty80_is,⟨⟩,⟨⟩⟩,⟨⟩⟩⟩,⟨aS ty24_is,⟨aS ty40_is,⟨⟩,⟨aS ty104_is,⟨⟩,⟨⟩⟩⟩,⟨⟩⟩⟩,⟨aN,⟨aN,⟨aN,⟨aS ty68_is,⟨⟩,⟨⟩⟩,⟨⟩⟩,⟨aN,⟨aN,⟨aS ty148_is,⟨⟩,⟨⟩⟩,⟨⟩⟩,⟨⟩⟩⟩,⟨⟩⟩⟩,⟨aN,⟨aN,⟨aN,⟨⟩,⟨aN,⟨aN,⟨aS ty146_is,⟨⟩,⟨⟩⟩,⟨⟩⟩,⟨⟩⟩⟩,⟨aS ty26_is,⟨aN,⟨aS ty74_is,⟨⟩,⟨⟩⟩,⟨⟩⟩,⟨aN,⟨aS ty90_is,⟨⟩,⟨⟩⟩,⟨⟩⟩⟩⟩,⟨aN,⟨aS ty22_is,⟨aS ty38_is,⟨aS ty70_is,⟨⟩,⟨⟩⟩,⟨aN,⟨aS ty166_is,⟨⟩,⟨⟩⟩,⟨⟩⟩⟩,⟨⟩⟩,⟨⟩⟩⟩⟩⟩
 exact T.all_get key h
theorem c6_is:FI 6 c6 tyG:=⟨_,Tryz.func6,by kernel_rfl,by kernel_rfl,by kernel_rfl⟩
theorem c9_is:FI 9 c9 tyG:=⟨_,Tryz.func9,by kernel_rfl,by kernel_rfl,by kernel_rfl⟩
theorem c18_is:FI 18 c18 tyG:=⟨_,Tryz.func18,by kernel_rfl,by kernel_rfl,by kernel_rfl⟩
theorem c19_is:FI 19 c19 tyG:=⟨_,Tryz.func19,by kernel_rfl,by kernel_rfl,by kernel_rfl⟩
theorem c20_is:FI 20 c20 tyG:=⟨_,Tryz.func20,by kernel_rfl,by kernel_rfl,by kernel_rfl⟩
theorem c21_is:FI 21 c21 tyG:=⟨_,Tryz.func21,by kernel_rfl,by kernel_rfl,by kernel_rfl⟩
theorem c22_is:FI 22 c22 tyG:=⟨_,Tryz.func22,by kernel_rfl,by kernel_rfl,by kernel_rfl⟩
theorem c24_is:FI 24 c24 tyG:=⟨_,Tryz.func24,by kernel_rfl,by kernel_rfl,by kernel_rfl⟩
theorem c33_is:FI 33 c33 tyG:=⟨_,Tryz.func33,by kernel_rfl,by kernel_rfl,by kernel_rfl⟩
theorem c36_is:FI 36 c36 tyG:=⟨_,Tryz.func36,by kernel_rfl,by kernel_rfl,by kernel_rfl⟩
theorem c38_is:FI 38 c38 tyG:=⟨_,Tryz.func38,by kernel_rfl,by kernel_rfl,by kernel_rfl⟩
theorem c39_is:FI 39 c39 tyG:=⟨_,Tryz.func39,by kernel_rfl,by kernel_rfl,by kernel_rfl⟩
theorem c40_is:FI 40 c40 tyG:=⟨_,Tryz.func40,by kernel_rfl,by kernel_rfl,by kernel_rfl⟩
theorem c41_is:FI 41 c41 tyG:=⟨_,Tryz.func41,by kernel_rfl,by kernel_rfl,by kernel_rfl⟩
theorem c42_is:FI 42 c42 tyG:=⟨_,Tryz.func42,by kernel_rfl,by kernel_rfl,by kernel_rfl⟩
theorem c43_is:FI 43 c43 tyG:=⟨_,Tryz.func43,by kernel_rfl,by kernel_rfl,by kernel_rfl⟩
theorem c44_is:FI 44 c44 tyG:=⟨_,Tryz.func44,by kernel_rfl,by kernel_rfl,by kernel_rfl⟩
theorem c45_is:FI 45 c45 tyG:=⟨_,Tryz.func45,by kernel_rfl,by kernel_rfl,by kernel_rfl⟩
theorem c46_is:FI 46 c46 tyG:=⟨_,Tryz.func46,by kernel_rfl,by kernel_rfl,by kernel_rfl⟩
theorem c47_is:FI 47 c47 tyG:=⟨_,Tryz.func47,by kernel_rfl,by kernel_rfl,by kernel_rfl⟩
theorem c48_is:FI 48 c48 tyG:=⟨_,Tryz.func48,by kernel_rfl,by kernel_rfl,by kernel_rfl⟩
theorem c49_is:FI 49 c49 tyG:=⟨_,Tryz.func49,by kernel_rfl,by kernel_rfl,by kernel_rfl⟩
theorem c51_is:FI 51 c51 tyG:=⟨_,Tryz.func51,by kernel_rfl,by kernel_rfl,by kernel_rfl⟩
theorem c52_is:FI 52 c52 tyG:=⟨_,Tryz.func52,by kernel_rfl,by kernel_rfl,by kernel_rfl⟩
theorem c53_is:FI 53 c53 tyG:=⟨_,Tryz.func53,by kernel_rfl,by kernel_rfl,by kernel_rfl⟩
theorem c54_is:FI 54 c54 tyG:=⟨_,Tryz.func54,by kernel_rfl,by kernel_rfl,by kernel_rfl⟩
theorem c55_is:FI 55 c55 tyG:=⟨_,Tryz.func55,by kernel_rfl,by kernel_rfl,by kernel_rfl⟩
theorem c56_is:FI 56 c56 tyG:=⟨_,Tryz.func56,by kernel_rfl,by kernel_rfl,by kernel_rfl⟩
theorem c57_is:FI 57 c57 tyG:=⟨_,Tryz.func57,by kernel_rfl,by kernel_rfl,by kernel_rfl⟩
theorem c58_is:FI 58 c58 tyG:=⟨_,Tryz.func58,by kernel_rfl,by kernel_rfl,by kernel_rfl⟩
theorem c59_is:FI 59 c59 tyG:=⟨_,Tryz.func59,by kernel_rfl,by kernel_rfl,by kernel_rfl⟩
theorem c60_is:FI 60 c60 tyG:=⟨_,Tryz.func60,by kernel_rfl,by kernel_rfl,by kernel_rfl⟩
theorem c61_is:FI 61 c61 tyG:=⟨_,Tryz.func61,by kernel_rfl,by kernel_rfl,by kernel_rfl⟩
theorem c62_is:FI 62 c62 tyG:=⟨_,Tryz.func62,by kernel_rfl,by kernel_rfl,by kernel_rfl⟩
theorem c63_is:FI 63 c63 tyG:=⟨_,Tryz.func63,by kernel_rfl,by kernel_rfl,by kernel_rfl⟩
theorem c74_is:FI 74 c74 tyG:=⟨_,Tryz.func74,by kernel_rfl,by kernel_rfl,by kernel_rfl⟩
theorem c75_is:FI 75 c75 tyG:=⟨_,Tryz.func75,by kernel_rfl,by kernel_rfl,by kernel_rfl⟩
theorem c76_is:FI 76 c76 tyG:=⟨_,Tryz.func76,by kernel_rfl,by kernel_rfl,by kernel_rfl⟩
theorem c77_is:FI 77 c77 tyG:=⟨_,Tryz.func77,by kernel_rfl,by kernel_rfl,by kernel_rfl⟩
theorem c78_is:FI 78 c78 tyG:=⟨_,Tryz.func78,by kernel_rfl,by kernel_rfl,by kernel_rfl⟩
theorem c79_is:FI 79 c79 tyG:=⟨_,Tryz.func79,by kernel_rfl,by kernel_rfl,by kernel_rfl⟩
theorem c80_is:FI 80 c80 tyG:=⟨_,Tryz.func80,by kernel_rfl,by kernel_rfl,by kernel_rfl⟩
theorem c81_is:FI 81 c81 tyG:=⟨_,Tryz.func81,by kernel_rfl,by kernel_rfl,by kernel_rfl⟩
theorem c82_is:FI 82 c82 tyG:=⟨_,Tryz.func82,by kernel_rfl,by kernel_rfl,by kernel_rfl⟩
theorem c83_is:FI 83 c83 tyG:=⟨_,Tryz.func83,by kernel_rfl,by kernel_rfl,by kernel_rfl⟩
theorem c84_is:FI 84 c84 tyG:=⟨_,Tryz.func84,by kernel_rfl,by kernel_rfl,by kernel_rfl⟩
theorem c85_is:FI 85 c85 tyG:=⟨_,Tryz.func85,by kernel_rfl,by kernel_rfl,by kernel_rfl⟩
theorem c86_is:FI 86 c86 tyG:=⟨_,Tryz.func86,by kernel_rfl,by kernel_rfl,by kernel_rfl⟩
theorem c90_is:FI 90 c90 tyG:=⟨_,Tryz.func90,by kernel_rfl,by kernel_rfl,by kernel_rfl⟩
theorem c93_is:FI 93 c93 tyG:=⟨_,Tryz.func93,by kernel_rfl,by kernel_rfl,by kernel_rfl⟩
theorem c94_is:FI 94 c94 tyG:=⟨_,Tryz.func94,by kernel_rfl,by kernel_rfl,by kernel_rfl⟩
theorem c95_is:FI 95 c95 tyG:=⟨_,Tryz.func95,by kernel_rfl,by kernel_rfl,by kernel_rfl⟩
theorem c100_is:FI 100 c100 tyG:=⟨_,Tryz.func100,by kernel_rfl,by kernel_rfl,by kernel_rfl⟩
theorem c101_is:FI 101 c101 tyG:=⟨_,Tryz.func101,by kernel_rfl,by kernel_rfl,by kernel_rfl⟩
theorem c102_is:FI 102 c102 tyG:=⟨_,Tryz.func102,by kernel_rfl,by kernel_rfl,by kernel_rfl⟩
theorem c103_is:FI 103 c103 tyG:=⟨_,Tryz.func103,by kernel_rfl,by kernel_rfl,by kernel_rfl⟩
theorem c104_is:FI 104 c104 tyG:=⟨_,Tryz.func104,by kernel_rfl,by kernel_rfl,by kernel_rfl⟩
theorem c105_is:FI 105 c105 tyG:=⟨_,Tryz.func105,by kernel_rfl,by kernel_rfl,by kernel_rfl⟩
theorem c106_is:FI 106 c106 tyG:=⟨_,Tryz.func106,by kernel_rfl,by kernel_rfl,by kernel_rfl⟩
theorem c107_is:FI 107 c107 tyG:=⟨_,Tryz.func107,by kernel_rfl,by kernel_rfl,by kernel_rfl⟩
theorem c108_is:FI 108 c108 tyG:=⟨_,Tryz.func108,by kernel_rfl,by kernel_rfl,by kernel_rfl⟩
theorem c109_is:FI 109 c109 tyG:=⟨_,Tryz.func109,by kernel_rfl,by kernel_rfl,by kernel_rfl⟩
theorem c110_is:FI 110 c110 tyG:=⟨_,Tryz.func110,by kernel_rfl,by kernel_rfl,by kernel_rfl⟩
theorem c111_is:FI 111 c111 tyG:=⟨_,Tryz.func111,by kernel_rfl,by kernel_rfl,by kernel_rfl⟩
theorem c112_is:FI 112 c112 tyG:=⟨_,Tryz.func112,by kernel_rfl,by kernel_rfl,by kernel_rfl⟩
theorem c113_is:FI 113 c113 tyG:=⟨_,Tryz.func113,by kernel_rfl,by kernel_rfl,by kernel_rfl⟩
theorem c116_is:FI 116 c116 tyG:=⟨_,Tryz.func116,by kernel_rfl,by kernel_rfl,by kernel_rfl⟩
theorem c117_is:FI 117 c117 tyG:=⟨_,Tryz.func117,by kernel_rfl,by kernel_rfl,by kernel_rfl⟩
theorem c118_is:FI 118 c118 tyG:=⟨_,Tryz.func118,by kernel_rfl,by kernel_rfl,by kernel_rfl⟩
theorem c119_is:FI 119 c119 tyG:=⟨_,Tryz.func119,by kernel_rfl,by kernel_rfl,by kernel_rfl⟩
theorem c120_is:FI 120 c120 tyG:=⟨_,Tryz.func120,by kernel_rfl,by kernel_rfl,by kernel_rfl⟩
theorem c121_is:FI 121 c121 tyG:=⟨_,Tryz.func121,by kernel_rfl,by kernel_rfl,by kernel_rfl⟩
theorem c122_is:FI 122 c122 tyG:=⟨_,Tryz.func122,by kernel_rfl,by kernel_rfl,by kernel_rfl⟩
theorem c123_is:FI 123 c123 tyG:=⟨_,Tryz.func123,by kernel_rfl,by kernel_rfl,by kernel_rfl⟩
theorem c124_is:FI 124 c124 tyG:=⟨_,Tryz.func124,by kernel_rfl,by kernel_rfl,by kernel_rfl⟩
theorem c125_is:FI 125 c125 tyG:=⟨_,Tryz.func125,by kernel_rfl,by kernel_rfl,by kernel_rfl⟩
theorem c127_is:FI 127 c127 tyG:=⟨_,Tryz.func127,by kernel_rfl,by kernel_rfl,by kernel_rfl⟩
theorem c128_is:FI 128 c128 tyG:=⟨_,Tryz.func128,by kernel_rfl,by kernel_rfl,by kernel_rfl⟩
theorem c129_is:FI 129 c129 tyG:=⟨_,Tryz.func129,by kernel_rfl,by kernel_rfl,by kernel_rfl⟩
theorem c130_is:FI 130 c130 tyG:=⟨_,Tryz.func130,by kernel_rfl,by kernel_rfl,by kernel_rfl⟩
theorem c131_is:FI 131 c131 tyG:=⟨_,Tryz.func131,by kernel_rfl,by kernel_rfl,by kernel_rfl⟩
theorem c132_is:FI 132 c132 tyG:=⟨_,Tryz.func132,by kernel_rfl,by kernel_rfl,by kernel_rfl⟩
theorem c133_is:FI 133 c133 tyG:=⟨_,Tryz.func133,by kernel_rfl,by kernel_rfl,by kernel_rfl⟩
theorem c134_is:FI 134 c134 tyG:=⟨_,Tryz.func134,by kernel_rfl,by kernel_rfl,by kernel_rfl⟩
theorem c135_is:FI 135 c135 tyG:=⟨_,Tryz.func135,by kernel_rfl,by kernel_rfl,by kernel_rfl⟩
theorem c140_is:FI 140 c140 tyG:=⟨_,Tryz.func140,by kernel_rfl,by kernel_rfl,by kernel_rfl⟩
theorem c141_is:FI 141 c141 tyG:=⟨_,Tryz.func141,by kernel_rfl,by kernel_rfl,by kernel_rfl⟩
theorem c142_is:FI 142 c142 tyG:=⟨_,Tryz.func142,by kernel_rfl,by kernel_rfl,by kernel_rfl⟩
theorem c151_is:FI 151 c151 tyG:=⟨_,Tryz.func151,by kernel_rfl,by kernel_rfl,by kernel_rfl⟩
theorem c152_is:FI 152 c152 tyG:=⟨_,Tryz.func152,by kernel_rfl,by kernel_rfl,by kernel_rfl⟩
theorem c153_is:FI 153 c153 tyG:=⟨_,Tryz.func153,by kernel_rfl,by kernel_rfl,by kernel_rfl⟩
theorem c154_is:FI 154 c154 tyG:=⟨_,Tryz.func154,by kernel_rfl,by kernel_rfl,by kernel_rfl⟩
theorem c155_is:FI 155 c155 tyG:=⟨_,Tryz.func155,by kernel_rfl,by kernel_rfl,by kernel_rfl⟩
theorem c156_is:FI 156 c156 tyG:=⟨_,Tryz.func156,by kernel_rfl,by kernel_rfl,by kernel_rfl⟩
theorem c157_is:FI 157 c157 tyG:=⟨_,Tryz.func157,by kernel_rfl,by kernel_rfl,by kernel_rfl⟩
theorem c158_is:FI 158 c158 tyG:=⟨_,Tryz.func158,by kernel_rfl,by kernel_rfl,by kernel_rfl⟩
theorem c165_is:FI 165 c165 tyG:=⟨_,Tryz.func165,by kernel_rfl,by kernel_rfl,by kernel_rfl⟩
theorem c170_is:FI 170 c170 tyG:=⟨_,Tryz.func170,by kernel_rfl,by kernel_rfl,by kernel_rfl⟩
theorem c171_is:FI 171 c171 tyG:=⟨_,Tryz.func171,by kernel_rfl,by kernel_rfl,by kernel_rfl⟩
theorem c176_is:FI 176 c176 tyG:=⟨_,Tryz.func176,by kernel_rfl,by kernel_rfl,by kernel_rfl⟩
theorem c177_is:FI 177 c177 tyG:=⟨_,Tryz.func177,by kernel_rfl,by kernel_rfl,by kernel_rfl⟩
theorem c178_is:FI 178 c178 tyG:=⟨_,Tryz.func178,by kernel_rfl,by kernel_rfl,by kernel_rfl⟩
theorem c184_is:FI 184 c184 tyG:=⟨_,Tryz.func184,by kernel_rfl,by kernel_rfl,by kernel_rfl⟩
theorem fnOK:FnOk Tryz.prog tyG fnG:=by
 refine⟨fun f fd h=>?_⟩
 have key:fnT.all fun f fd=>FI f fd tyG:=
  ⟨aN,⟨aN,⟨aN,⟨aN,⟨aN,⟨aN,⟨aS c63_is,⟨aS c127_is,⟨⟩,⟨⟩⟩,⟨⟩⟩,⟨aS c95_is,⟨⟩,⟨⟩⟩⟩,⟨aS c47_is,⟨aS c79_is,⟨⟩,⟨⟩⟩,⟨aS c111_is,⟨⟩,⟨⟩⟩⟩⟩,⟨aN,⟨aS c39_is,⟨aN,⟨aS c135_is,⟨⟩,⟨⟩⟩,⟨⟩⟩,⟨aS c103_is,⟨⟩,⟨⟩⟩⟩,⟨aS c55_is,⟨aN,⟨aS c151_is,⟨⟩,⟨⟩⟩,⟨⟩⟩,⟨aS c119_is,⟨⟩,⟨⟩⟩⟩⟩⟩,⟨aN,⟨aS c19_is,⟨aN,⟨aN,⟨aS c131_is,⟨⟩,⟨⟩⟩,⟨⟩⟩,⟨⟩⟩,⟨aS c51_is,⟨aS c83_is,⟨⟩,⟨⟩⟩,⟨⟩⟩⟩,⟨aN,⟨aS c43_is,⟨aS c75_is,⟨⟩,⟨⟩⟩,⟨aS c107_is,⟨aS c171_is,⟨⟩,⟨⟩⟩,⟨⟩⟩⟩,⟨aS c59_is,⟨aN,⟨aS c155_is,⟨⟩,⟨⟩⟩,⟨⟩⟩,⟨aS c123_is,⟨⟩,⟨⟩⟩⟩⟩⟩⟩,⟨aN,⟨aS c9_is,⟨aN,⟨aS c33_is,⟨aN,⟨aS c129_is,⟨⟩,⟨⟩⟩,⟨⟩⟩,⟨⟩⟩,⟨aS c49_is,⟨aS c81_is,⟨⟩,⟨⟩⟩,⟨aS c113_is,⟨aS c177_is,⟨⟩,⟨⟩⟩,⟨⟩⟩⟩⟩,⟨aN,⟨aS c41_is,⟨⟩,⟨aS c105_is,⟨⟩,⟨⟩⟩⟩,⟨aS c57_is,⟨aN,⟨aS c153_is,⟨⟩,⟨⟩⟩,⟨⟩⟩,⟨aS c121_is,⟨⟩,⟨⟩⟩⟩⟩⟩,⟨aN,⟨aS c21_is,⟨aN,⟨aN,⟨aS c133_is,⟨⟩,⟨⟩⟩,⟨⟩⟩,⟨aS c101_is,⟨aS c165_is,⟨⟩,⟨⟩⟩,⟨⟩⟩⟩,⟨aS c53_is,⟨aS c85_is,⟨⟩,⟨⟩⟩,⟨aS c117_is,⟨⟩,⟨⟩⟩⟩⟩,⟨aN,⟨aS c45_is,⟨aS c77_is,⟨aS c141_is,⟨⟩,⟨⟩⟩,⟨⟩⟩,⟨aS c109_is,⟨⟩,⟨⟩⟩⟩,⟨aS c61_is,⟨aS c93_is,⟨aS c157_is,⟨⟩,⟨⟩⟩,⟨⟩⟩,⟨aS c125_is,⟨⟩,⟨⟩⟩⟩⟩⟩⟩⟩,⟨aN,⟨aN,⟨aN,⟨aN,⟨aN,⟨aN,⟨aS c128_is,⟨⟩,⟨⟩⟩,⟨⟩⟩,⟨⟩⟩,⟨aS c48_is,⟨aS c80_is,⟨⟩,⟨⟩⟩,⟨aS c112_is,⟨aS c176_is,⟨⟩,⟨⟩⟩,⟨⟩⟩⟩⟩,⟨aS c24_is,⟨aS c40_is,⟨⟩,⟨aS c104_is,⟨⟩,⟨⟩⟩⟩,⟨aS c56_is,⟨aN,⟨aS c152_is,⟨⟩,⟨⟩⟩,⟨⟩⟩,⟨aS c120_is,⟨aS c184_is,⟨⟩,⟨⟩⟩,⟨⟩⟩⟩⟩⟩,⟨aN,⟨aS c20_is,⟨aS c36_is,⟨aN,⟨aS c132_is,⟨⟩,⟨⟩⟩,⟨⟩⟩,⟨aS c100_is,⟨⟩,⟨⟩⟩⟩,⟨aS c52_is,⟨aS c84_is,⟨⟩,⟨⟩⟩,⟨aS c116_is,⟨⟩,⟨⟩⟩⟩⟩,⟨aN,⟨aS c44_is,⟨aS c76_is,⟨aS c140_is,⟨⟩,⟨⟩⟩,⟨⟩⟩,⟨aS c108_is,⟨⟩,⟨⟩⟩⟩,⟨aS c60_is,⟨aN,⟨aS c156_is,⟨⟩,⟨⟩⟩,⟨⟩⟩,⟨aS c124_is,⟨⟩,⟨⟩⟩⟩⟩⟩⟩,⟨aS c6_is,⟨aN,⟨aS c18_is,⟨aN,⟨aN,⟨aS c130_is,⟨⟩,⟨⟩⟩,⟨⟩⟩,⟨⟩⟩,⟨aN,⟨aS c82_is,⟨⟩,⟨⟩⟩,⟨aN,⟨aS c178_is,⟨⟩,⟨⟩⟩,⟨⟩⟩⟩⟩,⟨aN,⟨aS c42_is,⟨aS c74_is,⟨⟩,⟨⟩⟩,⟨aS c106_is,⟨aS c170_is,⟨⟩,⟨⟩⟩,⟨⟩⟩⟩,⟨aS c58_is,⟨aS c90_is,⟨aS c154_is,⟨⟩,⟨⟩⟩,⟨⟩⟩,⟨aS c122_is,⟨⟩,⟨⟩⟩⟩⟩⟩,⟨aN,⟨aS c22_is,⟨aS c38_is,⟨aN,⟨aS c134_is,⟨⟩,⟨⟩⟩,⟨⟩⟩,⟨aS c102_is,⟨⟩,⟨⟩⟩⟩,⟨aS c54_is,⟨aS c86_is,⟨⟩,⟨⟩⟩,⟨aS c118_is,⟨⟩,⟨⟩⟩⟩⟩,⟨aN,⟨aS c46_is,⟨aS c78_is,⟨aS c142_is,⟨⟩,⟨⟩⟩,⟨⟩⟩,⟨aS c110_is,⟨⟩,⟨⟩⟩⟩,⟨aS c62_is,⟨aS c94_is,⟨aS c158_is,⟨⟩,⟨⟩⟩,⟨⟩⟩,⟨⟩⟩⟩⟩⟩⟩⟩
 exact T.all_get key h
theorem depth_ok:8≤Tryz.prog.depth:=Nat.le_of_ble_eq_true (by kernel_rfl)
theorem mixed_ok:Tryz.prog.follows .mixedOrders=true:=by kernel_rfl
end Go.Ab.Tryz
