/- The types and the code that our machine has are the program's (printed by a program of ours). -/
import Derived.Test.YtiphdfiihgbomabGreatProg
import Derived.Test.YtiphdfiihgbomabGreatDat
import Derived.Test.YtiphdfiihgbomabGreatAbS
import Derived.KernelRfl
set_option linter.unusedSimpArgs false
set_option linter.unusedVariables false
namespace Go.Ab.Tryz
open Go.Proofs
abbrev TI (t:Nat) (d:TD):Prop:=∃i u,TyIs Tryz.prog t d i u
abbrev FI (f:Nat) (d:FD) (G:Nat→Option TD):Prop:=∃fn,Tryz.prog.funcs[f]? =some fn∧(fn.name== "runtime.NumGoroutine")=false∧compF G fn=some d∧d.body.lt d.ntmps=true
theorem aN {α:Type}{p:α→Prop}:∀a,(none:Option α)=some a→p a:=fun a h=>by cases h
theorem aS {α:Type}{p:α→Prop}{v:α}(h:p v):∀a,some v=some a→p a:=fun a e=>by cases e;exact h
theorem ty3_is:TI 3 ty3:=⟨Tryz.prog.types.getD 3 default,_,⟨by kernel_rfl,Tryz.underlying3,by simp[ty3,UD.is],by kernel_rfl,by kernel_rfl,by kernel_rfl,by simp[ty3,scL,V.sc],by kernel_rfl,(fun _=>⟨_,rfl,rfl⟩),by kernel_rfl⟩⟩
theorem ty4_is:TI 4 ty4:=⟨Tryz.prog.types.getD 4 default,_,⟨by kernel_rfl,Tryz.underlying4,by simp[ty4,UD.is],by kernel_rfl,by kernel_rfl,by kernel_rfl,by simp[ty4,scL,V.sc],by kernel_rfl,(fun _=>⟨_,rfl,rfl⟩),by kernel_rfl⟩⟩
theorem ty5_is:TI 5 ty5:=⟨Tryz.prog.types.getD 5 default,_,⟨by kernel_rfl,Tryz.underlying5,by simp[ty5,UD.is],by kernel_rfl,by kernel_rfl,by kernel_rfl,by simp[ty5,scL,V.sc],by kernel_rfl,(fun _=>⟨_,rfl,rfl⟩),by kernel_rfl⟩⟩
theorem ty22_is:TI 22 ty22:=⟨Tryz.prog.types.getD 22 default,_,⟨by kernel_rfl,Tryz.underlying22,by simp[ty22,UD.is],by kernel_rfl,by kernel_rfl,by kernel_rfl,by simp[ty22,scL,V.sc],by kernel_rfl,(fun _=>⟨_,rfl,rfl⟩),by kernel_rfl⟩⟩
theorem ty26_is:TI 26 ty26:=⟨Tryz.prog.types.getD 26 default,_,⟨by kernel_rfl,Tryz.underlying26,by simp[ty26,UD.is],by kernel_rfl,by kernel_rfl,by kernel_rfl,by simp[ty26,scL,V.sc],by kernel_rfl,(fun _=>⟨_,rfl,rfl⟩),by kernel_rfl⟩⟩
theorem ty27_is:TI 27 ty27:=⟨Tryz.prog.types.getD 27 default,_,⟨by kernel_rfl,Tryz.underlying27,by simp[ty27,UD.is],by kernel_rfl,by kernel_rfl,by kernel_rfl,by simp[ty27,scL,V.sc],by kernel_rfl,(fun _=>⟨_,rfl,rfl⟩),by kernel_rfl⟩⟩
theorem ty29_is:TI 29 ty29:=⟨Tryz.prog.types.getD 29 default,_,⟨by kernel_rfl,Tryz.underlying29,by simp[ty29,UD.is],by kernel_rfl,by kernel_rfl,by kernel_rfl,by simp[ty29,scL,V.sc],by kernel_rfl,(fun h=>by cases h),by kernel_rfl⟩⟩
theorem ty30_is:TI 30 ty30:=⟨Tryz.prog.types.getD 30 default,_,⟨by kernel_rfl,Tryz.underlying30,by simp[ty30,UD.is],by kernel_rfl,by kernel_rfl,by kernel_rfl,by simp[ty30,scL,V.sc],by kernel_rfl,(fun _=>⟨_,rfl,rfl⟩),by kernel_rfl⟩⟩
theorem ty31_is:TI 31 ty31:=⟨Tryz.prog.types.getD 31 default,_,⟨by kernel_rfl,Tryz.underlying31,by simp[ty31,UD.is],by kernel_rfl,by kernel_rfl,by kernel_rfl,by simp[ty31,scL,V.sc],by kernel_rfl,(fun _=>⟨_,rfl,rfl⟩),by kernel_rfl⟩⟩
theorem ty33_is:TI 33 ty33:=⟨Tryz.prog.types.getD 33 default,_,⟨by kernel_rfl,Tryz.underlying33,by simp[ty33,UD.is],by kernel_rfl,by kernel_rfl,by kernel_rfl,by simp[ty33,scL,V.sc],by kernel_rfl,(fun h=>by cases h),by kernel_rfl⟩⟩
theorem ty36_is:TI 36 ty36:=⟨Tryz.prog.types.getD 36 default,_,⟨by kernel_rfl,Tryz.underlying36,by simp[ty36,UD.is],by kernel_rfl,by kernel_rfl,by kernel_rfl,by simp[ty36,scL,V.sc],by kernel_rfl,(fun h=>by cases h),by kernel_rfl⟩⟩
theorem ty38_is:TI 38 ty38:=⟨Tryz.prog.types.getD 38 default,_,⟨by kernel_rfl,Tryz.underlying38,by simp[ty38,UD.is],by kernel_rfl,by kernel_rfl,by kernel_rfl,by simp[ty38,scL,V.sc],by kernel_rfl,(fun h=>by cases h),by kernel_rfl⟩⟩
theorem ty39_is:TI 39 ty39:=⟨Tryz.prog.types.getD 39 default,_,⟨by kernel_rfl,Tryz.underlying39,by simp[ty39,UD.is],by kernel_rfl,by kernel_rfl,by kernel_rfl,by simp[ty39,scL,V.sc],by kernel_rfl,(fun _=>⟨_,rfl,rfl⟩),by kernel_rfl⟩⟩
theorem ty42_is:TI 42 ty42:=⟨Tryz.prog.types.getD 42 default,_,⟨by kernel_rfl,Tryz.underlying42,by simp[ty42,UD.is],by kernel_rfl,by kernel_rfl,by kernel_rfl,by simp[ty42,scL,V.sc],by kernel_rfl,(fun _=>⟨_,rfl,rfl⟩),by kernel_rfl⟩⟩
theorem ty44_is:TI 44 ty44:=⟨Tryz.prog.types.getD 44 default,_,⟨by kernel_rfl,Tryz.underlying44,by simp[ty44,UD.is],by kernel_rfl,by kernel_rfl,by kernel_rfl,by simp[ty44,scL,V.sc],by kernel_rfl,(fun h=>by cases h),by kernel_rfl⟩⟩
theorem ty45_is:TI 45 ty45:=⟨Tryz.prog.types.getD 45 default,_,⟨by kernel_rfl,Tryz.underlying45,by simp[ty45,UD.is],by kernel_rfl,by kernel_rfl,by kernel_rfl,by simp[ty45,scL,V.sc],by kernel_rfl,(fun _=>⟨_,rfl,rfl⟩),by kernel_rfl⟩⟩
theorem ty46_is:TI 46 ty46:=⟨Tryz.prog.types.getD 46 default,_,⟨by kernel_rfl,Tryz.underlying46,by simp[ty46,UD.is],by kernel_rfl,by kernel_rfl,by kernel_rfl,by simp[ty46,scL,V.sc],by kernel_rfl,(fun _=>⟨_,rfl,rfl⟩),by kernel_rfl⟩⟩
theorem ty48_is:TI 48 ty48:=⟨Tryz.prog.types.getD 48 default,_,⟨by kernel_rfl,Tryz.underlying48,by simp[ty48,UD.is],by kernel_rfl,by kernel_rfl,by kernel_rfl,by simp[ty48,scL,V.sc],by kernel_rfl,(fun h=>by cases h),by kernel_rfl⟩⟩
theorem ty49_is:TI 49 ty49:=⟨Tryz.prog.types.getD 49 default,_,⟨by kernel_rfl,Tryz.underlying49,by simp[ty49,UD.is],by kernel_rfl,by kernel_rfl,by kernel_rfl,by simp[ty49,scL,V.sc],by kernel_rfl,(fun _=>⟨_,rfl,rfl⟩),by kernel_rfl⟩⟩
theorem ty54_is:TI 54 ty54:=⟨Tryz.prog.types.getD 54 default,_,⟨by kernel_rfl,Tryz.underlying54,by simp[ty54,UD.is],by kernel_rfl,by kernel_rfl,by kernel_rfl,by simp[ty54,scL,V.sc],by kernel_rfl,(fun h=>by cases h),by kernel_rfl⟩⟩
theorem ty58_is:TI 58 ty58:=⟨Tryz.prog.types.getD 58 default,_,⟨by kernel_rfl,Tryz.underlying58,by simp[ty58,UD.is],by kernel_rfl,by kernel_rfl,by kernel_rfl,by simp[ty58,scL,V.sc],by kernel_rfl,(fun _=>⟨_,rfl,rfl⟩),by kernel_rfl⟩⟩
theorem ty66_is:TI 66 ty66:=⟨Tryz.prog.types.getD 66 default,_,⟨by kernel_rfl,Tryz.underlying66,by simp[ty66,UD.is],by kernel_rfl,by kernel_rfl,by kernel_rfl,by simp[ty66,scL,V.sc],by kernel_rfl,(fun _=>⟨_,rfl,rfl⟩),by kernel_rfl⟩⟩
theorem ty68_is:TI 68 ty68:=⟨Tryz.prog.types.getD 68 default,_,⟨by kernel_rfl,Tryz.underlying68,by simp[ty68,UD.is],by kernel_rfl,by kernel_rfl,by kernel_rfl,by simp[ty68,scL,V.sc],by kernel_rfl,(fun h=>by cases h),by kernel_rfl⟩⟩
theorem ty72_is:TI 72 ty72:=⟨Tryz.prog.types.getD 72 default,_,⟨by kernel_rfl,Tryz.underlying72,by simp[ty72,UD.is],by kernel_rfl,by kernel_rfl,by kernel_rfl,by simp[ty72,scL,V.sc],by kernel_rfl,(fun _=>⟨_,rfl,rfl⟩),by kernel_rfl⟩⟩
theorem ty78_is:TI 78 ty78:=⟨Tryz.prog.types.getD 78 default,_,⟨by kernel_rfl,Tryz.underlying78,by simp[ty78,UD.is],by kernel_rfl,by kernel_rfl,by kernel_rfl,by simp[ty78,scL,V.sc],by kernel_rfl,(fun _=>⟨_,rfl,rfl⟩),by kernel_rfl⟩⟩
theorem ty80_is:TI 80 ty80:=⟨Tryz.prog.types.getD 80 default,_,⟨by kernel_rfl,Tryz.underlying80,by simp[ty80,UD.is],by kernel_rfl,by kernel_rfl,by kernel_rfl,by simp[ty80,scL,V.sc],by kernel_rfl,(fun h=>by cases h),by kernel_rfl⟩⟩
theorem ty82_is:TI 82 ty82:=⟨Tryz.prog.types.getD 82 default,_,⟨by kernel_rfl,Tryz.underlying82,by simp[ty82,UD.is],by kernel_rfl,by kernel_rfl,by kernel_rfl,by simp[ty82,scL,V.sc],by kernel_rfl,(fun _=>⟨_,rfl,rfl⟩),by kernel_rfl⟩⟩
theorem ty86_is:TI 86 ty86:=⟨Tryz.prog.types.getD 86 default,_,⟨by kernel_rfl,Tryz.underlying86,by simp[ty86,UD.is],by kernel_rfl,by kernel_rfl,by kernel_rfl,by simp[ty86,scL,V.sc],by kernel_rfl,(fun h=>by cases h),by kernel_rfl⟩⟩
theorem ty92_is:TI 92 ty92:=⟨Tryz.prog.types.getD 92 default,_,⟨by kernel_rfl,Tryz.underlying92,by simp[ty92,UD.is],by kernel_rfl,by kernel_rfl,by kernel_rfl,by simp[ty92,scL,V.sc],by kernel_rfl,(fun _=>⟨_,rfl,rfl⟩),by kernel_rfl⟩⟩
theorem ty95_is:TI 95 ty95:=⟨Tryz.prog.types.getD 95 default,_,⟨by kernel_rfl,Tryz.underlying95,by simp[ty95,UD.is],by kernel_rfl,by kernel_rfl,by kernel_rfl,by simp[ty95,scL,V.sc],by kernel_rfl,(fun _=>⟨_,rfl,rfl⟩),by kernel_rfl⟩⟩
theorem ty97_is:TI 97 ty97:=⟨Tryz.prog.types.getD 97 default,_,⟨by kernel_rfl,Tryz.underlying97,by simp[ty97,UD.is],by kernel_rfl,by kernel_rfl,by kernel_rfl,by simp[ty97,scL,V.sc],by kernel_rfl,(fun h=>by cases h),by kernel_rfl⟩⟩
theorem ty98_is:TI 98 ty98:=⟨Tryz.prog.types.getD 98 default,_,⟨by kernel_rfl,Tryz.underlying98,by simp[ty98,UD.is],by kernel_rfl,by kernel_rfl,by kernel_rfl,by simp[ty98,scL,V.sc],by kernel_rfl,(fun _=>⟨_,rfl,rfl⟩),by kernel_rfl⟩⟩
theorem ty100_is:TI 100 ty100:=⟨Tryz.prog.types.getD 100 default,_,⟨by kernel_rfl,Tryz.underlying100,by simp[ty100,UD.is],by kernel_rfl,by kernel_rfl,by kernel_rfl,by simp[ty100,scL,V.sc],by kernel_rfl,(fun h=>by cases h),by kernel_rfl⟩⟩
theorem ty104_is:TI 104 ty104:=⟨Tryz.prog.types.getD 104 default,_,⟨by kernel_rfl,Tryz.underlying104,by simp[ty104,UD.is],by kernel_rfl,by kernel_rfl,by kernel_rfl,by simp[ty104,scL,V.sc],by kernel_rfl,(fun _=>⟨_,rfl,rfl⟩),by kernel_rfl⟩⟩
theorem ty107_is:TI 107 ty107:=⟨Tryz.prog.types.getD 107 default,_,⟨by kernel_rfl,Tryz.underlying107,by simp[ty107,UD.is],by kernel_rfl,by kernel_rfl,by kernel_rfl,by simp[ty107,scL,V.sc],by kernel_rfl,(fun _=>⟨_,rfl,rfl⟩),by kernel_rfl⟩⟩
theorem ty109_is:TI 109 ty109:=⟨Tryz.prog.types.getD 109 default,_,⟨by kernel_rfl,Tryz.underlying109,by simp[ty109,UD.is],by kernel_rfl,by kernel_rfl,by kernel_rfl,by simp[ty109,scL,V.sc],by kernel_rfl,(fun _=>⟨_,rfl,rfl⟩),by kernel_rfl⟩⟩
theorem ty117_is:TI 117 ty117:=⟨Tryz.prog.types.getD 117 default,_,⟨by kernel_rfl,Tryz.underlying117,by simp[ty117,UD.is],by kernel_rfl,by kernel_rfl,by kernel_rfl,by simp[ty117,scL,V.sc],by kernel_rfl,(fun _=>⟨_,rfl,rfl⟩),by kernel_rfl⟩⟩
theorem ty119_is:TI 119 ty119:=⟨Tryz.prog.types.getD 119 default,_,⟨by kernel_rfl,Tryz.underlying119,by simp[ty119,UD.is],by kernel_rfl,by kernel_rfl,by kernel_rfl,by simp[ty119,scL,V.sc],by kernel_rfl,(fun _=>⟨_,rfl,rfl⟩),by kernel_rfl⟩⟩
theorem ty123_is:TI 123 ty123:=⟨Tryz.prog.types.getD 123 default,_,⟨by kernel_rfl,Tryz.underlying123,by simp[ty123,UD.is],by kernel_rfl,by kernel_rfl,by kernel_rfl,by simp[ty123,scL,V.sc],by kernel_rfl,(fun h=>by cases h),by kernel_rfl⟩⟩
theorem ty128_is:TI 128 ty128:=⟨Tryz.prog.types.getD 128 default,_,⟨by kernel_rfl,Tryz.underlying128,by simp[ty128,UD.is],by kernel_rfl,by kernel_rfl,by kernel_rfl,by simp[ty128,scL,V.sc],by kernel_rfl,(fun _=>⟨_,rfl,rfl⟩),by kernel_rfl⟩⟩
theorem ty130_is:TI 130 ty130:=⟨Tryz.prog.types.getD 130 default,_,⟨by kernel_rfl,Tryz.underlying130,by simp[ty130,UD.is],by kernel_rfl,by kernel_rfl,by kernel_rfl,by simp[ty130,scL,V.sc],by kernel_rfl,(fun h=>by cases h),by kernel_rfl⟩⟩
theorem ty133_is:TI 133 ty133:=⟨Tryz.prog.types.getD 133 default,_,⟨by kernel_rfl,Tryz.underlying133,by simp[ty133,UD.is],by kernel_rfl,by kernel_rfl,by kernel_rfl,by simp[ty133,scL,V.sc],by kernel_rfl,(fun h=>by cases h),by kernel_rfl⟩⟩
theorem ty135_is:TI 135 ty135:=⟨Tryz.prog.types.getD 135 default,_,⟨by kernel_rfl,Tryz.underlying135,by simp[ty135,UD.is],by kernel_rfl,by kernel_rfl,by kernel_rfl,by simp[ty135,scL,V.sc],by kernel_rfl,(fun h=>by cases h),by kernel_rfl⟩⟩
theorem ty141_is:TI 141 ty141:=⟨Tryz.prog.types.getD 141 default,_,⟨by kernel_rfl,Tryz.underlying141,by simp[ty141,UD.is],by kernel_rfl,by kernel_rfl,by kernel_rfl,by simp[ty141,scL,V.sc],by kernel_rfl,(fun _=>⟨_,rfl,rfl⟩),by kernel_rfl⟩⟩
theorem ty152_is:TI 152 ty152:=⟨Tryz.prog.types.getD 152 default,_,⟨by kernel_rfl,Tryz.underlying152,by simp[ty152,UD.is],by kernel_rfl,by kernel_rfl,by kernel_rfl,by simp[ty152,scL,V.sc],by kernel_rfl,(fun h=>by cases h),by kernel_rfl⟩⟩
theorem ty161_is:TI 161 ty161:=⟨Tryz.prog.types.getD 161 default,_,⟨by kernel_rfl,Tryz.underlying161,by simp[ty161,UD.is],by kernel_rfl,by kernel_rfl,by kernel_rfl,by simp[ty161,scL,V.sc],by kernel_rfl,(fun _=>⟨_,rfl,rfl⟩),by kernel_rfl⟩⟩
theorem ty163_is:TI 163 ty163:=⟨Tryz.prog.types.getD 163 default,_,⟨by kernel_rfl,Tryz.underlying163,by simp[ty163,UD.is],by kernel_rfl,by kernel_rfl,by kernel_rfl,by simp[ty163,scL,V.sc],by kernel_rfl,(fun h=>by cases h),by kernel_rfl⟩⟩
noncomputable def tyG (t:Nat):Option TD:=tyT.get t
noncomputable def fnG (f:Nat):Option FD:=fnT.get f
theorem tyOK:TyOK Tryz.prog tyG:=by
 intro t d h
 have key:tyT.all TI:=⟨aN,⟨aN,⟨aS ty3_is,⟨aN,⟨aN,⟨aS ty31_is,⟨⟩,⟨aS ty95_is,⟨⟩,⟨⟩⟩⟩,⟨⟩⟩,⟨aN,⟨aS ty39_is,⟨aN,⟨aS ty135_is,⟨⟩,⟨⟩⟩,⟨⟩⟩,⟨⟩⟩,⟨aN,⟨⟩,⟨aS ty119_is,⟨⟩,⟨⟩⟩⟩⟩⟩,⟨aN,⟨aN,⟨aN,⟨⟩,⟨aN,⟨aS ty163_is,⟨⟩,⟨⟩⟩,⟨⟩⟩⟩,⟨⟩⟩,⟨aS ty27_is,⟨aN,⟨⟩,⟨aS ty107_is,⟨⟩,⟨⟩⟩⟩,⟨aN,⟨⟩,⟨aS ty123_is,⟨⟩,⟨⟩⟩⟩⟩⟩⟩,⟨aS ty5_is,⟨aN,⟨aN,⟨aS ty33_is,⟨⟩,⟨aS ty97_is,⟨aS ty161_is,⟨⟩,⟨⟩⟩,⟨⟩⟩⟩,⟨aS ty49_is,⟨⟩,⟨⟩⟩⟩,⟨⟩⟩,⟨aN,⟨aN,⟨aN,⟨aN,⟨aS ty133_is,⟨⟩,⟨⟩⟩,⟨⟩⟩,⟨⟩⟩,⟨aN,⟨⟩,⟨aS ty117_is,⟨⟩,⟨⟩⟩⟩⟩,⟨aS ty29_is,⟨aS ty45_is,⟨aN,⟨aS ty141_is,⟨⟩,⟨⟩⟩,⟨⟩⟩,⟨aS ty109_is,⟨⟩,⟨⟩⟩⟩,⟨⟩⟩⟩⟩⟩,⟨aN,⟨aS ty4_is,⟨aN,⟨aN,⟨aN,⟨aN,⟨aS ty128_is,⟨⟩,⟨⟩⟩,⟨⟩⟩,⟨⟩⟩,⟨aS ty48_is,⟨aS ty80_is,⟨⟩,⟨⟩⟩,⟨⟩⟩⟩,⟨aN,⟨aN,⟨aS ty72_is,⟨⟩,⟨⟩⟩,⟨aS ty104_is,⟨⟩,⟨⟩⟩⟩,⟨aN,⟨aN,⟨aS ty152_is,⟨⟩,⟨⟩⟩,⟨⟩⟩,⟨⟩⟩⟩⟩,⟨aN,⟨aN,⟨aS ty36_is,⟨aS ty68_is,⟨⟩,⟨⟩⟩,⟨aS ty100_is,⟨⟩,⟨⟩⟩⟩,⟨⟩⟩,⟨aN,⟨aS ty44_is,⟨⟩,⟨⟩⟩,⟨aN,⟨aS ty92_is,⟨⟩,⟨⟩⟩,⟨⟩⟩⟩⟩⟩,⟨aN,⟨aN,⟨aN,⟨aN,⟨aS ty66_is,⟨aS ty130_is,⟨⟩,⟨⟩⟩,⟨⟩⟩,⟨aS ty98_is,⟨⟩,⟨⟩⟩⟩,⟨aN,⟨aS ty82_is,⟨⟩,⟨⟩⟩,⟨⟩⟩⟩,⟨aS ty26_is,⟨aS ty42_is,⟨⟩,⟨⟩⟩,⟨aS ty58_is,⟨⟩,⟨⟩⟩⟩⟩,⟨aN,⟨aS ty22_is,⟨aS ty38_is,⟨⟩,⟨⟩⟩,⟨aS ty54_is,⟨aS ty86_is,⟨⟩,⟨⟩⟩,⟨⟩⟩⟩,⟨aS ty30_is,⟨aS ty46_is,⟨aS ty78_is,⟨⟩,⟨⟩⟩,⟨⟩⟩,⟨⟩⟩⟩⟩⟩⟩
 exact T.all_get key h
theorem c3_is:FI 3 c3 tyG:=⟨_,Tryz.func3,by kernel_rfl,by kernel_rfl,by kernel_rfl⟩
theorem c4_is:FI 4 c4 tyG:=⟨_,Tryz.func4,by kernel_rfl,by kernel_rfl,by kernel_rfl⟩
theorem c5_is:FI 5 c5 tyG:=⟨_,Tryz.func5,by kernel_rfl,by kernel_rfl,by kernel_rfl⟩
theorem c6_is:FI 6 c6 tyG:=⟨_,Tryz.func6,by kernel_rfl,by kernel_rfl,by kernel_rfl⟩
theorem c7_is:FI 7 c7 tyG:=⟨_,Tryz.func7,by kernel_rfl,by kernel_rfl,by kernel_rfl⟩
theorem c8_is:FI 8 c8 tyG:=⟨_,Tryz.func8,by kernel_rfl,by kernel_rfl,by kernel_rfl⟩
theorem c9_is:FI 9 c9 tyG:=⟨_,Tryz.func9,by kernel_rfl,by kernel_rfl,by kernel_rfl⟩
theorem c10_is:FI 10 c10 tyG:=⟨_,Tryz.func10,by kernel_rfl,by kernel_rfl,by kernel_rfl⟩
theorem c11_is:FI 11 c11 tyG:=⟨_,Tryz.func11,by kernel_rfl,by kernel_rfl,by kernel_rfl⟩
theorem c12_is:FI 12 c12 tyG:=⟨_,Tryz.func12,by kernel_rfl,by kernel_rfl,by kernel_rfl⟩
theorem c13_is:FI 13 c13 tyG:=⟨_,Tryz.func13,by kernel_rfl,by kernel_rfl,by kernel_rfl⟩
theorem c14_is:FI 14 c14 tyG:=⟨_,Tryz.func14,by kernel_rfl,by kernel_rfl,by kernel_rfl⟩
theorem c15_is:FI 15 c15 tyG:=⟨_,Tryz.func15,by kernel_rfl,by kernel_rfl,by kernel_rfl⟩
theorem c16_is:FI 16 c16 tyG:=⟨_,Tryz.func16,by kernel_rfl,by kernel_rfl,by kernel_rfl⟩
theorem c17_is:FI 17 c17 tyG:=⟨_,Tryz.func17,by kernel_rfl,by kernel_rfl,by kernel_rfl⟩
theorem c18_is:FI 18 c18 tyG:=⟨_,Tryz.func18,by kernel_rfl,by kernel_rfl,by kernel_rfl⟩
theorem c19_is:FI 19 c19 tyG:=⟨_,Tryz.func19,by kernel_rfl,by kernel_rfl,by kernel_rfl⟩
theorem c20_is:FI 20 c20 tyG:=⟨_,Tryz.func20,by kernel_rfl,by kernel_rfl,by kernel_rfl⟩
theorem c21_is:FI 21 c21 tyG:=⟨_,Tryz.func21,by kernel_rfl,by kernel_rfl,by kernel_rfl⟩
theorem c22_is:FI 22 c22 tyG:=⟨_,Tryz.func22,by kernel_rfl,by kernel_rfl,by kernel_rfl⟩
theorem c23_is:FI 23 c23 tyG:=⟨_,Tryz.func23,by kernel_rfl,by kernel_rfl,by kernel_rfl⟩
theorem c24_is:FI 24 c24 tyG:=⟨_,Tryz.func24,by kernel_rfl,by kernel_rfl,by kernel_rfl⟩
theorem c25_is:FI 25 c25 tyG:=⟨_,Tryz.func25,by kernel_rfl,by kernel_rfl,by kernel_rfl⟩
theorem c26_is:FI 26 c26 tyG:=⟨_,Tryz.func26,by kernel_rfl,by kernel_rfl,by kernel_rfl⟩
theorem c27_is:FI 27 c27 tyG:=⟨_,Tryz.func27,by kernel_rfl,by kernel_rfl,by kernel_rfl⟩
theorem c28_is:FI 28 c28 tyG:=⟨_,Tryz.func28,by kernel_rfl,by kernel_rfl,by kernel_rfl⟩
theorem c29_is:FI 29 c29 tyG:=⟨_,Tryz.func29,by kernel_rfl,by kernel_rfl,by kernel_rfl⟩
theorem c30_is:FI 30 c30 tyG:=⟨_,Tryz.func30,by kernel_rfl,by kernel_rfl,by kernel_rfl⟩
theorem c31_is:FI 31 c31 tyG:=⟨_,Tryz.func31,by kernel_rfl,by kernel_rfl,by kernel_rfl⟩
theorem c32_is:FI 32 c32 tyG:=⟨_,Tryz.func32,by kernel_rfl,by kernel_rfl,by kernel_rfl⟩
theorem c33_is:FI 33 c33 tyG:=⟨_,Tryz.func33,by kernel_rfl,by kernel_rfl,by kernel_rfl⟩
theorem c34_is:FI 34 c34 tyG:=⟨_,Tryz.func34,by kernel_rfl,by kernel_rfl,by kernel_rfl⟩
theorem c35_is:FI 35 c35 tyG:=⟨_,Tryz.func35,by kernel_rfl,by kernel_rfl,by kernel_rfl⟩
theorem c36_is:FI 36 c36 tyG:=⟨_,Tryz.func36,by kernel_rfl,by kernel_rfl,by kernel_rfl⟩
theorem c37_is:FI 37 c37 tyG:=⟨_,Tryz.func37,by kernel_rfl,by kernel_rfl,by kernel_rfl⟩
theorem c38_is:FI 38 c38 tyG:=⟨_,Tryz.func38,by kernel_rfl,by kernel_rfl,by kernel_rfl⟩
theorem c39_is:FI 39 c39 tyG:=⟨_,Tryz.func39,by kernel_rfl,by kernel_rfl,by kernel_rfl⟩
theorem c40_is:FI 40 c40 tyG:=⟨_,Tryz.func40,by kernel_rfl,by kernel_rfl,by kernel_rfl⟩
theorem c41_is:FI 41 c41 tyG:=⟨_,Tryz.func41,by kernel_rfl,by kernel_rfl,by kernel_rfl⟩
theorem c42_is:FI 42 c42 tyG:=⟨_,Tryz.func42,by kernel_rfl,by kernel_rfl,by kernel_rfl⟩
theorem c43_is:FI 43 c43 tyG:=⟨_,Tryz.func43,by kernel_rfl,by kernel_rfl,by kernel_rfl⟩
theorem c44_is:FI 44 c44 tyG:=⟨_,Tryz.func44,by kernel_rfl,by kernel_rfl,by kernel_rfl⟩
theorem c45_is:FI 45 c45 tyG:=⟨_,Tryz.func45,by kernel_rfl,by kernel_rfl,by kernel_rfl⟩
theorem c46_is:FI 46 c46 tyG:=⟨_,Tryz.func46,by kernel_rfl,by kernel_rfl,by kernel_rfl⟩
theorem c47_is:FI 47 c47 tyG:=⟨_,Tryz.func47,by kernel_rfl,by kernel_rfl,by kernel_rfl⟩
theorem c48_is:FI 48 c48 tyG:=⟨_,Tryz.func48,by kernel_rfl,by kernel_rfl,by kernel_rfl⟩
theorem c49_is:FI 49 c49 tyG:=⟨_,Tryz.func49,by kernel_rfl,by kernel_rfl,by kernel_rfl⟩
theorem c50_is:FI 50 c50 tyG:=⟨_,Tryz.func50,by kernel_rfl,by kernel_rfl,by kernel_rfl⟩
theorem c51_is:FI 51 c51 tyG:=⟨_,Tryz.func51,by kernel_rfl,by kernel_rfl,by kernel_rfl⟩
theorem c52_is:FI 52 c52 tyG:=⟨_,Tryz.func52,by kernel_rfl,by kernel_rfl,by kernel_rfl⟩
theorem c53_is:FI 53 c53 tyG:=⟨_,Tryz.func53,by kernel_rfl,by kernel_rfl,by kernel_rfl⟩
theorem c54_is:FI 54 c54 tyG:=⟨_,Tryz.func54,by kernel_rfl,by kernel_rfl,by kernel_rfl⟩
theorem c55_is:FI 55 c55 tyG:=⟨_,Tryz.func55,by kernel_rfl,by kernel_rfl,by kernel_rfl⟩
theorem c56_is:FI 56 c56 tyG:=⟨_,Tryz.func56,by kernel_rfl,by kernel_rfl,by kernel_rfl⟩
theorem c57_is:FI 57 c57 tyG:=⟨_,Tryz.func57,by kernel_rfl,by kernel_rfl,by kernel_rfl⟩
theorem c58_is:FI 58 c58 tyG:=⟨_,Tryz.func58,by kernel_rfl,by kernel_rfl,by kernel_rfl⟩
theorem c59_is:FI 59 c59 tyG:=⟨_,Tryz.func59,by kernel_rfl,by kernel_rfl,by kernel_rfl⟩
theorem c60_is:FI 60 c60 tyG:=⟨_,Tryz.func60,by kernel_rfl,by kernel_rfl,by kernel_rfl⟩
theorem c61_is:FI 61 c61 tyG:=⟨_,Tryz.func61,by kernel_rfl,by kernel_rfl,by kernel_rfl⟩
theorem c62_is:FI 62 c62 tyG:=⟨_,Tryz.func62,by kernel_rfl,by kernel_rfl,by kernel_rfl⟩
theorem c63_is:FI 63 c63 tyG:=⟨_,Tryz.func63,by kernel_rfl,by kernel_rfl,by kernel_rfl⟩
theorem c64_is:FI 64 c64 tyG:=⟨_,Tryz.func64,by kernel_rfl,by kernel_rfl,by kernel_rfl⟩
theorem c65_is:FI 65 c65 tyG:=⟨_,Tryz.func65,by kernel_rfl,by kernel_rfl,by kernel_rfl⟩
theorem c66_is:FI 66 c66 tyG:=⟨_,Tryz.func66,by kernel_rfl,by kernel_rfl,by kernel_rfl⟩
theorem c67_is:FI 67 c67 tyG:=⟨_,Tryz.func67,by kernel_rfl,by kernel_rfl,by kernel_rfl⟩
theorem c68_is:FI 68 c68 tyG:=⟨_,Tryz.func68,by kernel_rfl,by kernel_rfl,by kernel_rfl⟩
theorem c69_is:FI 69 c69 tyG:=⟨_,Tryz.func69,by kernel_rfl,by kernel_rfl,by kernel_rfl⟩
theorem c70_is:FI 70 c70 tyG:=⟨_,Tryz.func70,by kernel_rfl,by kernel_rfl,by kernel_rfl⟩
theorem c71_is:FI 71 c71 tyG:=⟨_,Tryz.func71,by kernel_rfl,by kernel_rfl,by kernel_rfl⟩
theorem c72_is:FI 72 c72 tyG:=⟨_,Tryz.func72,by kernel_rfl,by kernel_rfl,by kernel_rfl⟩
theorem c73_is:FI 73 c73 tyG:=⟨_,Tryz.func73,by kernel_rfl,by kernel_rfl,by kernel_rfl⟩
theorem c74_is:FI 74 c74 tyG:=⟨_,Tryz.func74,by kernel_rfl,by kernel_rfl,by kernel_rfl⟩
theorem c75_is:FI 75 c75 tyG:=⟨_,Tryz.func75,by kernel_rfl,by kernel_rfl,by kernel_rfl⟩
theorem c76_is:FI 76 c76 tyG:=⟨_,Tryz.func76,by kernel_rfl,by kernel_rfl,by kernel_rfl⟩
theorem c77_is:FI 77 c77 tyG:=⟨_,Tryz.func77,by kernel_rfl,by kernel_rfl,by kernel_rfl⟩
theorem c78_is:FI 78 c78 tyG:=⟨_,Tryz.func78,by kernel_rfl,by kernel_rfl,by kernel_rfl⟩
theorem c79_is:FI 79 c79 tyG:=⟨_,Tryz.func79,by kernel_rfl,by kernel_rfl,by kernel_rfl⟩
theorem c80_is:FI 80 c80 tyG:=⟨_,Tryz.func80,by kernel_rfl,by kernel_rfl,by kernel_rfl⟩
theorem c81_is:FI 81 c81 tyG:=⟨_,Tryz.func81,by kernel_rfl,by kernel_rfl,by kernel_rfl⟩
theorem c82_is:FI 82 c82 tyG:=⟨_,Tryz.func82,by kernel_rfl,by kernel_rfl,by kernel_rfl⟩
theorem c83_is:FI 83 c83 tyG:=⟨_,Tryz.func83,by kernel_rfl,by kernel_rfl,by kernel_rfl⟩
theorem c84_is:FI 84 c84 tyG:=⟨_,Tryz.func84,by kernel_rfl,by kernel_rfl,by kernel_rfl⟩
theorem c85_is:FI 85 c85 tyG:=⟨_,Tryz.func85,by kernel_rfl,by kernel_rfl,by kernel_rfl⟩
theorem c86_is:FI 86 c86 tyG:=⟨_,Tryz.func86,by kernel_rfl,by kernel_rfl,by kernel_rfl⟩
theorem c87_is:FI 87 c87 tyG:=⟨_,Tryz.func87,by kernel_rfl,by kernel_rfl,by kernel_rfl⟩
theorem c88_is:FI 88 c88 tyG:=⟨_,Tryz.func88,by kernel_rfl,by kernel_rfl,by kernel_rfl⟩
theorem c89_is:FI 89 c89 tyG:=⟨_,Tryz.func89,by kernel_rfl,by kernel_rfl,by kernel_rfl⟩
theorem c90_is:FI 90 c90 tyG:=⟨_,Tryz.func90,by kernel_rfl,by kernel_rfl,by kernel_rfl⟩
theorem c91_is:FI 91 c91 tyG:=⟨_,Tryz.func91,by kernel_rfl,by kernel_rfl,by kernel_rfl⟩
theorem c92_is:FI 92 c92 tyG:=⟨_,Tryz.func92,by kernel_rfl,by kernel_rfl,by kernel_rfl⟩
theorem c93_is:FI 93 c93 tyG:=⟨_,Tryz.func93,by kernel_rfl,by kernel_rfl,by kernel_rfl⟩
theorem c94_is:FI 94 c94 tyG:=⟨_,Tryz.func94,by kernel_rfl,by kernel_rfl,by kernel_rfl⟩
theorem c95_is:FI 95 c95 tyG:=⟨_,Tryz.func95,by kernel_rfl,by kernel_rfl,by kernel_rfl⟩
theorem c96_is:FI 96 c96 tyG:=⟨_,Tryz.func96,by kernel_rfl,by kernel_rfl,by kernel_rfl⟩
theorem c97_is:FI 97 c97 tyG:=⟨_,Tryz.func97,by kernel_rfl,by kernel_rfl,by kernel_rfl⟩
theorem c98_is:FI 98 c98 tyG:=⟨_,Tryz.func98,by kernel_rfl,by kernel_rfl,by kernel_rfl⟩
theorem c99_is:FI 99 c99 tyG:=⟨_,Tryz.func99,by kernel_rfl,by kernel_rfl,by kernel_rfl⟩
theorem c100_is:FI 100 c100 tyG:=⟨_,Tryz.func100,by kernel_rfl,by kernel_rfl,by kernel_rfl⟩
theorem c101_is:FI 101 c101 tyG:=⟨_,Tryz.func101,by kernel_rfl,by kernel_rfl,by kernel_rfl⟩
theorem c102_is:FI 102 c102 tyG:=⟨_,Tryz.func102,by kernel_rfl,by kernel_rfl,by kernel_rfl⟩
theorem c103_is:FI 103 c103 tyG:=⟨_,Tryz.func103,by kernel_rfl,by kernel_rfl,by kernel_rfl⟩
theorem fnOK:FnOk Tryz.prog tyG fnG:=by
 refine⟨fun f fd h=>?_⟩
 have key:fnT.all fun f fd=>FI f fd tyG:=
  ⟨aN,⟨aN,⟨aS c3_is,⟨aS c7_is,⟨aS c15_is,⟨aS c31_is,⟨aS c63_is,⟨⟩,⟨⟩⟩,⟨aS c95_is,⟨⟩,⟨⟩⟩⟩,⟨aS c47_is,⟨aS c79_is,⟨⟩,⟨⟩⟩,⟨⟩⟩⟩,⟨aS c23_is,⟨aS c39_is,⟨aS c71_is,⟨⟩,⟨⟩⟩,⟨aS c103_is,⟨⟩,⟨⟩⟩⟩,⟨aS c55_is,⟨aS c87_is,⟨⟩,⟨⟩⟩,⟨⟩⟩⟩⟩,⟨aS c11_is,⟨aS c19_is,⟨aS c35_is,⟨aS c67_is,⟨⟩,⟨⟩⟩,⟨aS c99_is,⟨⟩,⟨⟩⟩⟩,⟨aS c51_is,⟨aS c83_is,⟨⟩,⟨⟩⟩,⟨⟩⟩⟩,⟨aS c27_is,⟨aS c43_is,⟨aS c75_is,⟨⟩,⟨⟩⟩,⟨⟩⟩,⟨aS c59_is,⟨aS c91_is,⟨⟩,⟨⟩⟩,⟨⟩⟩⟩⟩⟩,⟨aS c5_is,⟨aS c9_is,⟨aS c17_is,⟨aS c33_is,⟨aS c65_is,⟨⟩,⟨⟩⟩,⟨aS c97_is,⟨⟩,⟨⟩⟩⟩,⟨aS c49_is,⟨aS c81_is,⟨⟩,⟨⟩⟩,⟨⟩⟩⟩,⟨aS c25_is,⟨aS c41_is,⟨aS c73_is,⟨⟩,⟨⟩⟩,⟨⟩⟩,⟨aS c57_is,⟨aS c89_is,⟨⟩,⟨⟩⟩,⟨⟩⟩⟩⟩,⟨aS c13_is,⟨aS c21_is,⟨aS c37_is,⟨aS c69_is,⟨⟩,⟨⟩⟩,⟨aS c101_is,⟨⟩,⟨⟩⟩⟩,⟨aS c53_is,⟨aS c85_is,⟨⟩,⟨⟩⟩,⟨⟩⟩⟩,⟨aS c29_is,⟨aS c45_is,⟨aS c77_is,⟨⟩,⟨⟩⟩,⟨⟩⟩,⟨aS c61_is,⟨aS c93_is,⟨⟩,⟨⟩⟩,⟨⟩⟩⟩⟩⟩⟩,⟨aN,⟨aS c4_is,⟨aS c8_is,⟨aS c16_is,⟨aS c32_is,⟨aS c64_is,⟨⟩,⟨⟩⟩,⟨aS c96_is,⟨⟩,⟨⟩⟩⟩,⟨aS c48_is,⟨aS c80_is,⟨⟩,⟨⟩⟩,⟨⟩⟩⟩,⟨aS c24_is,⟨aS c40_is,⟨aS c72_is,⟨⟩,⟨⟩⟩,⟨⟩⟩,⟨aS c56_is,⟨aS c88_is,⟨⟩,⟨⟩⟩,⟨⟩⟩⟩⟩,⟨aS c12_is,⟨aS c20_is,⟨aS c36_is,⟨aS c68_is,⟨⟩,⟨⟩⟩,⟨aS c100_is,⟨⟩,⟨⟩⟩⟩,⟨aS c52_is,⟨aS c84_is,⟨⟩,⟨⟩⟩,⟨⟩⟩⟩,⟨aS c28_is,⟨aS c44_is,⟨aS c76_is,⟨⟩,⟨⟩⟩,⟨⟩⟩,⟨aS c60_is,⟨aS c92_is,⟨⟩,⟨⟩⟩,⟨⟩⟩⟩⟩⟩,⟨aS c6_is,⟨aS c10_is,⟨aS c18_is,⟨aS c34_is,⟨aS c66_is,⟨⟩,⟨⟩⟩,⟨aS c98_is,⟨⟩,⟨⟩⟩⟩,⟨aS c50_is,⟨aS c82_is,⟨⟩,⟨⟩⟩,⟨⟩⟩⟩,⟨aS c26_is,⟨aS c42_is,⟨aS c74_is,⟨⟩,⟨⟩⟩,⟨⟩⟩,⟨aS c58_is,⟨aS c90_is,⟨⟩,⟨⟩⟩,⟨⟩⟩⟩⟩,⟨aS c14_is,⟨aS c22_is,⟨aS c38_is,⟨aS c70_is,⟨⟩,⟨⟩⟩,⟨aS c102_is,⟨⟩,⟨⟩⟩⟩,⟨aS c54_is,⟨aS c86_is,⟨⟩,⟨⟩⟩,⟨⟩⟩⟩,⟨aS c30_is,⟨aS c46_is,⟨aS c78_is,⟨⟩,⟨⟩⟩,⟨⟩⟩,⟨aS c62_is,⟨aS c94_is,⟨⟩,⟨⟩⟩,⟨⟩⟩⟩⟩⟩⟩⟩
 exact T.all_get key h
theorem depth_ok:8≤Tryz.prog.depth:=Nat.le_of_ble_eq_true (by kernel_rfl)
theorem mixed_ok:Tryz.prog.follows .mixedOrders=true:=by kernel_rfl
end Go.Ab.Tryz
