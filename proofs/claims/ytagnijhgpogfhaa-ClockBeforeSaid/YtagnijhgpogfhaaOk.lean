/- The types and the code that our machine has are the program's (printed by a program of ours). -/
import Derived.Test.YtagnijhgpogfhaaProg
import Derived.Test.YtagnijhgpogfhaaDat
import Derived.Test.YtagnijhgpogfhaaAbS
import Derived.KernelRfl
set_option linter.unusedSimpArgs false
set_option linter.unusedVariables false
namespace Go.Ab.Try
open Go.Proofs
abbrev TI (t:Nat) (d:TD):Prop:=∃i u,TyIs Try.prog t d i u
abbrev FI (f:Nat) (d:FD) (G:Nat→Option TD):Prop:=∃fn,Try.prog.funcs[f]? =some fn∧(fn.name== "runtime.NumGoroutine")=false∧compF G fn=some d∧d.body.lt d.ntmps=true
theorem aN {α:Type}{p:α→Prop}:∀a,(none:Option α)=some a→p a:=fun a h=>by cases h
theorem aS {α:Type}{p:α→Prop}{v:α}(h:p v):∀a,some v=some a→p a:=fun a e=>by cases e;exact h
theorem ty3_is:TI 3 ty3:=⟨Try.prog.types.getD 3 default,_,⟨by kernel_rfl,Try.underlying3,by simp[ty3,UD.is],by kernel_rfl,by kernel_rfl,by kernel_rfl,by simp[ty3,scL,V.sc],by kernel_rfl,(fun _=>⟨_,rfl,rfl⟩),by kernel_rfl⟩⟩
theorem ty4_is:TI 4 ty4:=⟨Try.prog.types.getD 4 default,_,⟨by kernel_rfl,Try.underlying4,by simp[ty4,UD.is],by kernel_rfl,by kernel_rfl,by kernel_rfl,by simp[ty4,scL,V.sc],by kernel_rfl,(fun _=>⟨_,rfl,rfl⟩),by kernel_rfl⟩⟩
theorem ty5_is:TI 5 ty5:=⟨Try.prog.types.getD 5 default,_,⟨by kernel_rfl,Try.underlying5,by simp[ty5,UD.is],by kernel_rfl,by kernel_rfl,by kernel_rfl,by simp[ty5,scL,V.sc],by kernel_rfl,(fun _=>⟨_,rfl,rfl⟩),by kernel_rfl⟩⟩
theorem ty22_is:TI 22 ty22:=⟨Try.prog.types.getD 22 default,_,⟨by kernel_rfl,Try.underlying22,by simp[ty22,UD.is],by kernel_rfl,by kernel_rfl,by kernel_rfl,by simp[ty22,scL,V.sc],by kernel_rfl,(fun _=>⟨_,rfl,rfl⟩),by kernel_rfl⟩⟩
theorem ty24_is:TI 24 ty24:=⟨Try.prog.types.getD 24 default,_,⟨by kernel_rfl,Try.underlying24,by simp[ty24,UD.is],by kernel_rfl,by kernel_rfl,by kernel_rfl,by simp[ty24,scL,V.sc],by kernel_rfl,(fun h=>by cases h),by kernel_rfl⟩⟩
theorem ty34_is:TI 34 ty34:=⟨Try.prog.types.getD 34 default,_,⟨by kernel_rfl,Try.underlying34,by simp[ty34,UD.is],by kernel_rfl,by kernel_rfl,by kernel_rfl,by simp[ty34,scL,V.sc],by kernel_rfl,(fun _=>⟨_,rfl,rfl⟩),by kernel_rfl⟩⟩
theorem ty36_is:TI 36 ty36:=⟨Try.prog.types.getD 36 default,_,⟨by kernel_rfl,Try.underlying36,by simp[ty36,UD.is],by kernel_rfl,by kernel_rfl,by kernel_rfl,by simp[ty36,scL,V.sc],by kernel_rfl,(fun _=>⟨_,rfl,rfl⟩),by kernel_rfl⟩⟩
theorem ty37_is:TI 37 ty37:=⟨Try.prog.types.getD 37 default,_,⟨by kernel_rfl,Try.underlying37,by simp[ty37,UD.is],by kernel_rfl,by kernel_rfl,by kernel_rfl,by simp[ty37,scL,V.sc],by kernel_rfl,(fun _=>⟨_,rfl,rfl⟩),by kernel_rfl⟩⟩
theorem ty38_is:TI 38 ty38:=⟨Try.prog.types.getD 38 default,_,⟨by kernel_rfl,Try.underlying38,by simp[ty38,UD.is],by kernel_rfl,by kernel_rfl,by kernel_rfl,by simp[ty38,scL,V.sc],by kernel_rfl,(fun _=>⟨_,rfl,rfl⟩),by kernel_rfl⟩⟩
theorem ty40_is:TI 40 ty40:=⟨Try.prog.types.getD 40 default,_,⟨by kernel_rfl,Try.underlying40,by simp[ty40,UD.is],by kernel_rfl,by kernel_rfl,by kernel_rfl,by simp[ty40,scL,V.sc],by kernel_rfl,(fun h=>by cases h),by kernel_rfl⟩⟩
theorem ty41_is:TI 41 ty41:=⟨Try.prog.types.getD 41 default,_,⟨by kernel_rfl,Try.underlying41,by simp[ty41,UD.is],by kernel_rfl,by kernel_rfl,by kernel_rfl,by simp[ty41,scL,V.sc],by kernel_rfl,(fun _=>⟨_,rfl,rfl⟩),by kernel_rfl⟩⟩
theorem ty43_is:TI 43 ty43:=⟨Try.prog.types.getD 43 default,_,⟨by kernel_rfl,Try.underlying43,by simp[ty43,UD.is],by kernel_rfl,by kernel_rfl,by kernel_rfl,by simp[ty43,scL,V.sc],by kernel_rfl,(fun h=>by cases h),by kernel_rfl⟩⟩
theorem ty53_is:TI 53 ty53:=⟨Try.prog.types.getD 53 default,_,⟨by kernel_rfl,Try.underlying53,by simp[ty53,UD.is],by kernel_rfl,by kernel_rfl,by kernel_rfl,by simp[ty53,scL,V.sc],by kernel_rfl,(fun _=>⟨_,rfl,rfl⟩),by kernel_rfl⟩⟩
theorem ty54_is:TI 54 ty54:=⟨Try.prog.types.getD 54 default,_,⟨by kernel_rfl,Try.underlying54,by simp[ty54,UD.is],by kernel_rfl,by kernel_rfl,by kernel_rfl,by simp[ty54,scL,V.sc],by kernel_rfl,(fun _=>⟨_,rfl,rfl⟩),by kernel_rfl⟩⟩
theorem ty57_is:TI 57 ty57:=⟨Try.prog.types.getD 57 default,_,⟨by kernel_rfl,Try.underlying57,by simp[ty57,UD.is],by kernel_rfl,by kernel_rfl,by kernel_rfl,by simp[ty57,scL,V.sc],by kernel_rfl,(fun _=>⟨_,rfl,rfl⟩),by kernel_rfl⟩⟩
theorem ty61_is:TI 61 ty61:=⟨Try.prog.types.getD 61 default,_,⟨by kernel_rfl,Try.underlying61,by simp[ty61,UD.is],by kernel_rfl,by kernel_rfl,by kernel_rfl,by simp[ty61,scL,V.sc],by kernel_rfl,(fun h=>by cases h),by kernel_rfl⟩⟩
theorem ty71_is:TI 71 ty71:=⟨Try.prog.types.getD 71 default,_,⟨by kernel_rfl,Try.underlying71,by simp[ty71,UD.is],by kernel_rfl,by kernel_rfl,by kernel_rfl,by simp[ty71,scL,V.sc],by kernel_rfl,(fun h=>by cases h),by kernel_rfl⟩⟩
theorem ty75_is:TI 75 ty75:=⟨Try.prog.types.getD 75 default,_,⟨by kernel_rfl,Try.underlying75,by simp[ty75,UD.is],by kernel_rfl,by kernel_rfl,by kernel_rfl,by simp[ty75,scL,V.sc],by kernel_rfl,(fun h=>by cases h),by kernel_rfl⟩⟩
theorem ty77_is:TI 77 ty77:=⟨Try.prog.types.getD 77 default,_,⟨by kernel_rfl,Try.underlying77,by simp[ty77,UD.is],by kernel_rfl,by kernel_rfl,by kernel_rfl,by simp[ty77,scL,V.sc],by kernel_rfl,(fun h=>by cases h),by kernel_rfl⟩⟩
theorem ty78_is:TI 78 ty78:=⟨Try.prog.types.getD 78 default,_,⟨by kernel_rfl,Try.underlying78,by simp[ty78,UD.is],by kernel_rfl,by kernel_rfl,by kernel_rfl,by simp[ty78,scL,V.sc],by kernel_rfl,(fun _=>⟨_,rfl,rfl⟩),by kernel_rfl⟩⟩
theorem ty80_is:TI 80 ty80:=⟨Try.prog.types.getD 80 default,_,⟨by kernel_rfl,Try.underlying80,by simp[ty80,UD.is],by kernel_rfl,by kernel_rfl,by kernel_rfl,by simp[ty80,scL,V.sc],by kernel_rfl,(fun h=>by cases h),by kernel_rfl⟩⟩
theorem ty81_is:TI 81 ty81:=⟨Try.prog.types.getD 81 default,_,⟨by kernel_rfl,Try.underlying81,by simp[ty81,UD.is],by kernel_rfl,by kernel_rfl,by kernel_rfl,by simp[ty81,scL,V.sc],by kernel_rfl,(fun _=>⟨_,rfl,rfl⟩),by kernel_rfl⟩⟩
theorem ty82_is:TI 82 ty82:=⟨Try.prog.types.getD 82 default,_,⟨by kernel_rfl,Try.underlying82,by simp[ty82,UD.is],by kernel_rfl,by kernel_rfl,by kernel_rfl,by simp[ty82,scL,V.sc],by kernel_rfl,(fun _=>⟨_,rfl,rfl⟩),by kernel_rfl⟩⟩
theorem ty85_is:TI 85 ty85:=⟨Try.prog.types.getD 85 default,_,⟨by kernel_rfl,Try.underlying85,by simp[ty85,UD.is],by kernel_rfl,by kernel_rfl,by kernel_rfl,by simp[ty85,scL,V.sc],by kernel_rfl,(fun _=>⟨_,rfl,rfl⟩),by kernel_rfl⟩⟩
theorem ty92_is:TI 92 ty92:=⟨Try.prog.types.getD 92 default,_,⟨by kernel_rfl,Try.underlying92,by simp[ty92,UD.is],by kernel_rfl,by kernel_rfl,by kernel_rfl,by simp[ty92,scL,V.sc],by kernel_rfl,(fun h=>by cases h),by kernel_rfl⟩⟩
theorem ty96_is:TI 96 ty96:=⟨Try.prog.types.getD 96 default,_,⟨by kernel_rfl,Try.underlying96,by simp[ty96,UD.is],by kernel_rfl,by kernel_rfl,by kernel_rfl,by simp[ty96,scL,V.sc],by kernel_rfl,(fun _=>⟨_,rfl,rfl⟩),by kernel_rfl⟩⟩
theorem ty98_is:TI 98 ty98:=⟨Try.prog.types.getD 98 default,_,⟨by kernel_rfl,Try.underlying98,by simp[ty98,UD.is],by kernel_rfl,by kernel_rfl,by kernel_rfl,by simp[ty98,scL,V.sc],by kernel_rfl,(fun h=>by cases h),by kernel_rfl⟩⟩
theorem ty99_is:TI 99 ty99:=⟨Try.prog.types.getD 99 default,_,⟨by kernel_rfl,Try.underlying99,by simp[ty99,UD.is],by kernel_rfl,by kernel_rfl,by kernel_rfl,by simp[ty99,scL,V.sc],by kernel_rfl,(fun _=>⟨_,rfl,rfl⟩),by kernel_rfl⟩⟩
theorem ty100_is:TI 100 ty100:=⟨Try.prog.types.getD 100 default,_,⟨by kernel_rfl,Try.underlying100,by simp[ty100,UD.is],by kernel_rfl,by kernel_rfl,by kernel_rfl,by simp[ty100,scL,V.sc],by kernel_rfl,(fun _=>⟨_,rfl,rfl⟩),by kernel_rfl⟩⟩
theorem ty103_is:TI 103 ty103:=⟨Try.prog.types.getD 103 default,_,⟨by kernel_rfl,Try.underlying103,by simp[ty103,UD.is],by kernel_rfl,by kernel_rfl,by kernel_rfl,by simp[ty103,scL,V.sc],by kernel_rfl,(fun _=>⟨_,rfl,rfl⟩),by kernel_rfl⟩⟩
theorem ty104_is:TI 104 ty104:=⟨Try.prog.types.getD 104 default,_,⟨by kernel_rfl,Try.underlying104,by simp[ty104,UD.is],by kernel_rfl,by kernel_rfl,by kernel_rfl,by simp[ty104,scL,V.sc],by kernel_rfl,(fun h=>by cases h),by kernel_rfl⟩⟩
theorem ty106_is:TI 106 ty106:=⟨Try.prog.types.getD 106 default,_,⟨by kernel_rfl,Try.underlying106,by simp[ty106,UD.is],by kernel_rfl,by kernel_rfl,by kernel_rfl,by simp[ty106,scL,V.sc],by kernel_rfl,(fun h=>by cases h),by kernel_rfl⟩⟩
theorem ty108_is:TI 108 ty108:=⟨Try.prog.types.getD 108 default,_,⟨by kernel_rfl,Try.underlying108,by simp[ty108,UD.is],by kernel_rfl,by kernel_rfl,by kernel_rfl,by simp[ty108,scL,V.sc],by kernel_rfl,(fun h=>by cases h),by kernel_rfl⟩⟩
theorem ty115_is:TI 115 ty115:=⟨Try.prog.types.getD 115 default,_,⟨by kernel_rfl,Try.underlying115,by simp[ty115,UD.is],by kernel_rfl,by kernel_rfl,by kernel_rfl,by simp[ty115,scL,V.sc],by kernel_rfl,(fun _=>⟨_,rfl,rfl⟩),by kernel_rfl⟩⟩
theorem ty117_is:TI 117 ty117:=⟨Try.prog.types.getD 117 default,_,⟨by kernel_rfl,Try.underlying117,by simp[ty117,UD.is],by kernel_rfl,by kernel_rfl,by kernel_rfl,by simp[ty117,scL,V.sc],by kernel_rfl,(fun _=>⟨_,rfl,rfl⟩),by kernel_rfl⟩⟩
theorem ty119_is:TI 119 ty119:=⟨Try.prog.types.getD 119 default,_,⟨by kernel_rfl,Try.underlying119,by simp[ty119,UD.is],by kernel_rfl,by kernel_rfl,by kernel_rfl,by simp[ty119,scL,V.sc],by kernel_rfl,(fun _=>⟨_,rfl,rfl⟩),by kernel_rfl⟩⟩
theorem ty123_is:TI 123 ty123:=⟨Try.prog.types.getD 123 default,_,⟨by kernel_rfl,Try.underlying123,by simp[ty123,UD.is],by kernel_rfl,by kernel_rfl,by kernel_rfl,by simp[ty123,scL,V.sc],by kernel_rfl,(fun _=>⟨_,rfl,rfl⟩),by kernel_rfl⟩⟩
theorem ty127_is:TI 127 ty127:=⟨Try.prog.types.getD 127 default,_,⟨by kernel_rfl,Try.underlying127,by simp[ty127,UD.is],by kernel_rfl,by kernel_rfl,by kernel_rfl,by simp[ty127,scL,V.sc],by kernel_rfl,(fun _=>⟨_,rfl,rfl⟩),by kernel_rfl⟩⟩
theorem ty128_is:TI 128 ty128:=⟨Try.prog.types.getD 128 default,_,⟨by kernel_rfl,Try.underlying128,by simp[ty128,UD.is],by kernel_rfl,by kernel_rfl,by kernel_rfl,by simp[ty128,scL,V.sc],by kernel_rfl,(fun _=>⟨_,rfl,rfl⟩),by kernel_rfl⟩⟩
noncomputable def tyG (t:Nat):Option TD:=tyT.get t
noncomputable def fnG (f:Nat):Option FD:=fnT.get f
theorem tyOK:TyOK Try.prog tyG:=by
 intro t d h
 have key:tyT.all TI:=⟨aN,⟨aN,⟨aS ty3_is,⟨aN,⟨aN,⟨aN,⟨aN,⟨aS ty127_is,⟨⟩,⟨⟩⟩,⟨⟩⟩,⟨⟩⟩,⟨⟩⟩,⟨aN,⟨aN,⟨aS ty71_is,⟨⟩,⟨⟩⟩,⟨aS ty103_is,⟨⟩,⟨⟩⟩⟩,⟨aN,⟨⟩,⟨aS ty119_is,⟨⟩,⟨⟩⟩⟩⟩⟩,⟨aN,⟨aN,⟨aN,⟨⟩,⟨aS ty99_is,⟨⟩,⟨⟩⟩⟩,⟨aN,⟨⟩,⟨aS ty115_is,⟨⟩,⟨⟩⟩⟩⟩,⟨aN,⟨aS ty43_is,⟨aS ty75_is,⟨⟩,⟨⟩⟩,⟨⟩⟩,⟨aN,⟨⟩,⟨aS ty123_is,⟨⟩,⟨⟩⟩⟩⟩⟩⟩,⟨aS ty5_is,⟨aN,⟨aN,⟨⟩,⟨aN,⟨aS ty81_is,⟨⟩,⟨⟩⟩,⟨⟩⟩⟩,⟨aN,⟨aS ty41_is,⟨⟩,⟨⟩⟩,⟨aS ty57_is,⟨⟩,⟨⟩⟩⟩⟩,⟨aN,⟨aN,⟨aS ty37_is,⟨⟩,⟨⟩⟩,⟨aS ty53_is,⟨aS ty85_is,⟨⟩,⟨⟩⟩,⟨aS ty117_is,⟨⟩,⟨⟩⟩⟩⟩,⟨aN,⟨aN,⟨aS ty77_is,⟨⟩,⟨⟩⟩,⟨⟩⟩,⟨aS ty61_is,⟨⟩,⟨⟩⟩⟩⟩⟩⟩,⟨aN,⟨aS ty4_is,⟨aN,⟨aN,⟨aN,⟨aN,⟨aS ty128_is,⟨⟩,⟨⟩⟩,⟨⟩⟩,⟨aS ty96_is,⟨⟩,⟨⟩⟩⟩,⟨aN,⟨aS ty80_is,⟨⟩,⟨⟩⟩,⟨⟩⟩⟩,⟨aS ty24_is,⟨aS ty40_is,⟨⟩,⟨aS ty104_is,⟨⟩,⟨⟩⟩⟩,⟨⟩⟩⟩,⟨aN,⟨aN,⟨aS ty36_is,⟨⟩,⟨aS ty100_is,⟨⟩,⟨⟩⟩⟩,⟨⟩⟩,⟨aN,⟨aN,⟨⟩,⟨aS ty108_is,⟨⟩,⟨⟩⟩⟩,⟨aN,⟨aS ty92_is,⟨⟩,⟨⟩⟩,⟨⟩⟩⟩⟩⟩,⟨aN,⟨aN,⟨aN,⟨aS ty34_is,⟨⟩,⟨aS ty98_is,⟨⟩,⟨⟩⟩⟩,⟨aN,⟨aS ty82_is,⟨⟩,⟨⟩⟩,⟨⟩⟩⟩,⟨aN,⟨aN,⟨⟩,⟨aS ty106_is,⟨⟩,⟨⟩⟩⟩,⟨⟩⟩⟩,⟨aN,⟨aS ty22_is,⟨aS ty38_is,⟨⟩,⟨⟩⟩,⟨aS ty54_is,⟨⟩,⟨⟩⟩⟩,⟨aN,⟨aN,⟨aS ty78_is,⟨⟩,⟨⟩⟩,⟨⟩⟩,⟨⟩⟩⟩⟩⟩⟩
 exact T.all_get key h
theorem c6_is:FI 6 c6 tyG:=⟨_,Try.func6,by kernel_rfl,by kernel_rfl,by kernel_rfl⟩
theorem c9_is:FI 9 c9 tyG:=⟨_,Try.func9,by kernel_rfl,by kernel_rfl,by kernel_rfl⟩
theorem c10_is:FI 10 c10 tyG:=⟨_,Try.func10,by kernel_rfl,by kernel_rfl,by kernel_rfl⟩
theorem c11_is:FI 11 c11 tyG:=⟨_,Try.func11,by kernel_rfl,by kernel_rfl,by kernel_rfl⟩
theorem c12_is:FI 12 c12 tyG:=⟨_,Try.func12,by kernel_rfl,by kernel_rfl,by kernel_rfl⟩
theorem c13_is:FI 13 c13 tyG:=⟨_,Try.func13,by kernel_rfl,by kernel_rfl,by kernel_rfl⟩
theorem c14_is:FI 14 c14 tyG:=⟨_,Try.func14,by kernel_rfl,by kernel_rfl,by kernel_rfl⟩
theorem c15_is:FI 15 c15 tyG:=⟨_,Try.func15,by kernel_rfl,by kernel_rfl,by kernel_rfl⟩
theorem c16_is:FI 16 c16 tyG:=⟨_,Try.func16,by kernel_rfl,by kernel_rfl,by kernel_rfl⟩
theorem c17_is:FI 17 c17 tyG:=⟨_,Try.func17,by kernel_rfl,by kernel_rfl,by kernel_rfl⟩
theorem c18_is:FI 18 c18 tyG:=⟨_,Try.func18,by kernel_rfl,by kernel_rfl,by kernel_rfl⟩
theorem c19_is:FI 19 c19 tyG:=⟨_,Try.func19,by kernel_rfl,by kernel_rfl,by kernel_rfl⟩
theorem c20_is:FI 20 c20 tyG:=⟨_,Try.func20,by kernel_rfl,by kernel_rfl,by kernel_rfl⟩
theorem c21_is:FI 21 c21 tyG:=⟨_,Try.func21,by kernel_rfl,by kernel_rfl,by kernel_rfl⟩
theorem c22_is:FI 22 c22 tyG:=⟨_,Try.func22,by kernel_rfl,by kernel_rfl,by kernel_rfl⟩
theorem c23_is:FI 23 c23 tyG:=⟨_,Try.func23,by kernel_rfl,by kernel_rfl,by kernel_rfl⟩
theorem c24_is:FI 24 c24 tyG:=⟨_,Try.func24,by kernel_rfl,by kernel_rfl,by kernel_rfl⟩
theorem c25_is:FI 25 c25 tyG:=⟨_,Try.func25,by kernel_rfl,by kernel_rfl,by kernel_rfl⟩
theorem c26_is:FI 26 c26 tyG:=⟨_,Try.func26,by kernel_rfl,by kernel_rfl,by kernel_rfl⟩
theorem c27_is:FI 27 c27 tyG:=⟨_,Try.func27,by kernel_rfl,by kernel_rfl,by kernel_rfl⟩
theorem c28_is:FI 28 c28 tyG:=⟨_,Try.func28,by kernel_rfl,by kernel_rfl,by kernel_rfl⟩
theorem c29_is:FI 29 c29 tyG:=⟨_,Try.func29,by kernel_rfl,by kernel_rfl,by kernel_rfl⟩
theorem c30_is:FI 30 c30 tyG:=⟨_,Try.func30,by kernel_rfl,by kernel_rfl,by kernel_rfl⟩
theorem c31_is:FI 31 c31 tyG:=⟨_,Try.func31,by kernel_rfl,by kernel_rfl,by kernel_rfl⟩
theorem c32_is:FI 32 c32 tyG:=⟨_,Try.func32,by kernel_rfl,by kernel_rfl,by kernel_rfl⟩
theorem c33_is:FI 33 c33 tyG:=⟨_,Try.func33,by kernel_rfl,by kernel_rfl,by kernel_rfl⟩
theorem c34_is:FI 34 c34 tyG:=⟨_,Try.func34,by kernel_rfl,by kernel_rfl,by kernel_rfl⟩
theorem c35_is:FI 35 c35 tyG:=⟨_,Try.func35,by kernel_rfl,by kernel_rfl,by kernel_rfl⟩
theorem c36_is:FI 36 c36 tyG:=⟨_,Try.func36,by kernel_rfl,by kernel_rfl,by kernel_rfl⟩
theorem c37_is:FI 37 c37 tyG:=⟨_,Try.func37,by kernel_rfl,by kernel_rfl,by kernel_rfl⟩
theorem c38_is:FI 38 c38 tyG:=⟨_,Try.func38,by kernel_rfl,by kernel_rfl,by kernel_rfl⟩
theorem c39_is:FI 39 c39 tyG:=⟨_,Try.func39,by kernel_rfl,by kernel_rfl,by kernel_rfl⟩
theorem c40_is:FI 40 c40 tyG:=⟨_,Try.func40,by kernel_rfl,by kernel_rfl,by kernel_rfl⟩
theorem c41_is:FI 41 c41 tyG:=⟨_,Try.func41,by kernel_rfl,by kernel_rfl,by kernel_rfl⟩
theorem c42_is:FI 42 c42 tyG:=⟨_,Try.func42,by kernel_rfl,by kernel_rfl,by kernel_rfl⟩
theorem c43_is:FI 43 c43 tyG:=⟨_,Try.func43,by kernel_rfl,by kernel_rfl,by kernel_rfl⟩
theorem c44_is:FI 44 c44 tyG:=⟨_,Try.func44,by kernel_rfl,by kernel_rfl,by kernel_rfl⟩
theorem c45_is:FI 45 c45 tyG:=⟨_,Try.func45,by kernel_rfl,by kernel_rfl,by kernel_rfl⟩
theorem c46_is:FI 46 c46 tyG:=⟨_,Try.func46,by kernel_rfl,by kernel_rfl,by kernel_rfl⟩
theorem c47_is:FI 47 c47 tyG:=⟨_,Try.func47,by kernel_rfl,by kernel_rfl,by kernel_rfl⟩
theorem c48_is:FI 48 c48 tyG:=⟨_,Try.func48,by kernel_rfl,by kernel_rfl,by kernel_rfl⟩
theorem c49_is:FI 49 c49 tyG:=⟨_,Try.func49,by kernel_rfl,by kernel_rfl,by kernel_rfl⟩
theorem c50_is:FI 50 c50 tyG:=⟨_,Try.func50,by kernel_rfl,by kernel_rfl,by kernel_rfl⟩
theorem c51_is:FI 51 c51 tyG:=⟨_,Try.func51,by kernel_rfl,by kernel_rfl,by kernel_rfl⟩
theorem c52_is:FI 52 c52 tyG:=⟨_,Try.func52,by kernel_rfl,by kernel_rfl,by kernel_rfl⟩
theorem c53_is:FI 53 c53 tyG:=⟨_,Try.func53,by kernel_rfl,by kernel_rfl,by kernel_rfl⟩
theorem c54_is:FI 54 c54 tyG:=⟨_,Try.func54,by kernel_rfl,by kernel_rfl,by kernel_rfl⟩
theorem c55_is:FI 55 c55 tyG:=⟨_,Try.func55,by kernel_rfl,by kernel_rfl,by kernel_rfl⟩
theorem c56_is:FI 56 c56 tyG:=⟨_,Try.func56,by kernel_rfl,by kernel_rfl,by kernel_rfl⟩
theorem c57_is:FI 57 c57 tyG:=⟨_,Try.func57,by kernel_rfl,by kernel_rfl,by kernel_rfl⟩
theorem c58_is:FI 58 c58 tyG:=⟨_,Try.func58,by kernel_rfl,by kernel_rfl,by kernel_rfl⟩
theorem c59_is:FI 59 c59 tyG:=⟨_,Try.func59,by kernel_rfl,by kernel_rfl,by kernel_rfl⟩
theorem c60_is:FI 60 c60 tyG:=⟨_,Try.func60,by kernel_rfl,by kernel_rfl,by kernel_rfl⟩
theorem c61_is:FI 61 c61 tyG:=⟨_,Try.func61,by kernel_rfl,by kernel_rfl,by kernel_rfl⟩
theorem c62_is:FI 62 c62 tyG:=⟨_,Try.func62,by kernel_rfl,by kernel_rfl,by kernel_rfl⟩
theorem c63_is:FI 63 c63 tyG:=⟨_,Try.func63,by kernel_rfl,by kernel_rfl,by kernel_rfl⟩
theorem c64_is:FI 64 c64 tyG:=⟨_,Try.func64,by kernel_rfl,by kernel_rfl,by kernel_rfl⟩
theorem c65_is:FI 65 c65 tyG:=⟨_,Try.func65,by kernel_rfl,by kernel_rfl,by kernel_rfl⟩
theorem c67_is:FI 67 c67 tyG:=⟨_,Try.func67,by kernel_rfl,by kernel_rfl,by kernel_rfl⟩
theorem c68_is:FI 68 c68 tyG:=⟨_,Try.func68,by kernel_rfl,by kernel_rfl,by kernel_rfl⟩
theorem c69_is:FI 69 c69 tyG:=⟨_,Try.func69,by kernel_rfl,by kernel_rfl,by kernel_rfl⟩
theorem c70_is:FI 70 c70 tyG:=⟨_,Try.func70,by kernel_rfl,by kernel_rfl,by kernel_rfl⟩
theorem c71_is:FI 71 c71 tyG:=⟨_,Try.func71,by kernel_rfl,by kernel_rfl,by kernel_rfl⟩
theorem c72_is:FI 72 c72 tyG:=⟨_,Try.func72,by kernel_rfl,by kernel_rfl,by kernel_rfl⟩
theorem c73_is:FI 73 c73 tyG:=⟨_,Try.func73,by kernel_rfl,by kernel_rfl,by kernel_rfl⟩
theorem c74_is:FI 74 c74 tyG:=⟨_,Try.func74,by kernel_rfl,by kernel_rfl,by kernel_rfl⟩
theorem c75_is:FI 75 c75 tyG:=⟨_,Try.func75,by kernel_rfl,by kernel_rfl,by kernel_rfl⟩
theorem c76_is:FI 76 c76 tyG:=⟨_,Try.func76,by kernel_rfl,by kernel_rfl,by kernel_rfl⟩
theorem c77_is:FI 77 c77 tyG:=⟨_,Try.func77,by kernel_rfl,by kernel_rfl,by kernel_rfl⟩
theorem c78_is:FI 78 c78 tyG:=⟨_,Try.func78,by kernel_rfl,by kernel_rfl,by kernel_rfl⟩
theorem c79_is:FI 79 c79 tyG:=⟨_,Try.func79,by kernel_rfl,by kernel_rfl,by kernel_rfl⟩
theorem c80_is:FI 80 c80 tyG:=⟨_,Try.func80,by kernel_rfl,by kernel_rfl,by kernel_rfl⟩
theorem c81_is:FI 81 c81 tyG:=⟨_,Try.func81,by kernel_rfl,by kernel_rfl,by kernel_rfl⟩
theorem c82_is:FI 82 c82 tyG:=⟨_,Try.func82,by kernel_rfl,by kernel_rfl,by kernel_rfl⟩
theorem c83_is:FI 83 c83 tyG:=⟨_,Try.func83,by kernel_rfl,by kernel_rfl,by kernel_rfl⟩
theorem c84_is:FI 84 c84 tyG:=⟨_,Try.func84,by kernel_rfl,by kernel_rfl,by kernel_rfl⟩
theorem c85_is:FI 85 c85 tyG:=⟨_,Try.func85,by kernel_rfl,by kernel_rfl,by kernel_rfl⟩
theorem c88_is:FI 88 c88 tyG:=⟨_,Try.func88,by kernel_rfl,by kernel_rfl,by kernel_rfl⟩
theorem c89_is:FI 89 c89 tyG:=⟨_,Try.func89,by kernel_rfl,by kernel_rfl,by kernel_rfl⟩
theorem c90_is:FI 90 c90 tyG:=⟨_,Try.func90,by kernel_rfl,by kernel_rfl,by kernel_rfl⟩
theorem fnOK:FnOk Try.prog tyG fnG:=by
 refine⟨fun f fd h=>?_⟩
 have key:fnT.all fun f fd=>FI f fd tyG:=
  ⟨aN,⟨aN,⟨aN,⟨aN,⟨aS c15_is,⟨aS c31_is,⟨aS c63_is,⟨⟩,⟨⟩⟩,⟨⟩⟩,⟨aS c47_is,⟨aS c79_is,⟨⟩,⟨⟩⟩,⟨⟩⟩⟩,⟨aS c23_is,⟨aS c39_is,⟨aS c71_is,⟨⟩,⟨⟩⟩,⟨⟩⟩,⟨aS c55_is,⟨⟩,⟨⟩⟩⟩⟩,⟨aS c11_is,⟨aS c19_is,⟨aS c35_is,⟨aS c67_is,⟨⟩,⟨⟩⟩,⟨⟩⟩,⟨aS c51_is,⟨aS c83_is,⟨⟩,⟨⟩⟩,⟨⟩⟩⟩,⟨aS c27_is,⟨aS c43_is,⟨aS c75_is,⟨⟩,⟨⟩⟩,⟨⟩⟩,⟨aS c59_is,⟨⟩,⟨⟩⟩⟩⟩⟩,⟨aN,⟨aS c9_is,⟨aS c17_is,⟨aS c33_is,⟨aS c65_is,⟨⟩,⟨⟩⟩,⟨⟩⟩,⟨aS c49_is,⟨aS c81_is,⟨⟩,⟨⟩⟩,⟨⟩⟩⟩,⟨aS c25_is,⟨aS c41_is,⟨aS c73_is,⟨⟩,⟨⟩⟩,⟨⟩⟩,⟨aS c57_is,⟨aS c89_is,⟨⟩,⟨⟩⟩,⟨⟩⟩⟩⟩,⟨aS c13_is,⟨aS c21_is,⟨aS c37_is,⟨aS c69_is,⟨⟩,⟨⟩⟩,⟨⟩⟩,⟨aS c53_is,⟨aS c85_is,⟨⟩,⟨⟩⟩,⟨⟩⟩⟩,⟨aS c29_is,⟨aS c45_is,⟨aS c77_is,⟨⟩,⟨⟩⟩,⟨⟩⟩,⟨aS c61_is,⟨⟩,⟨⟩⟩⟩⟩⟩⟩,⟨aN,⟨aN,⟨aN,⟨aS c16_is,⟨aS c32_is,⟨aS c64_is,⟨⟩,⟨⟩⟩,⟨⟩⟩,⟨aS c48_is,⟨aS c80_is,⟨⟩,⟨⟩⟩,⟨⟩⟩⟩,⟨aS c24_is,⟨aS c40_is,⟨aS c72_is,⟨⟩,⟨⟩⟩,⟨⟩⟩,⟨aS c56_is,⟨aS c88_is,⟨⟩,⟨⟩⟩,⟨⟩⟩⟩⟩,⟨aS c12_is,⟨aS c20_is,⟨aS c36_is,⟨aS c68_is,⟨⟩,⟨⟩⟩,⟨⟩⟩,⟨aS c52_is,⟨aS c84_is,⟨⟩,⟨⟩⟩,⟨⟩⟩⟩,⟨aS c28_is,⟨aS c44_is,⟨aS c76_is,⟨⟩,⟨⟩⟩,⟨⟩⟩,⟨aS c60_is,⟨⟩,⟨⟩⟩⟩⟩⟩,⟨aS c6_is,⟨aS c10_is,⟨aS c18_is,⟨aS c34_is,⟨⟩,⟨⟩⟩,⟨aS c50_is,⟨aS c82_is,⟨⟩,⟨⟩⟩,⟨⟩⟩⟩,⟨aS c26_is,⟨aS c42_is,⟨aS c74_is,⟨⟩,⟨⟩⟩,⟨⟩⟩,⟨aS c58_is,⟨aS c90_is,⟨⟩,⟨⟩⟩,⟨⟩⟩⟩⟩,⟨aS c14_is,⟨aS c22_is,⟨aS c38_is,⟨aS c70_is,⟨⟩,⟨⟩⟩,⟨⟩⟩,⟨aS c54_is,⟨⟩,⟨⟩⟩⟩,⟨aS c30_is,⟨aS c46_is,⟨aS c78_is,⟨⟩,⟨⟩⟩,⟨⟩⟩,⟨aS c62_is,⟨⟩,⟨⟩⟩⟩⟩⟩⟩⟩
 exact T.all_get key h
theorem depth_ok:8≤Try.prog.depth:=Nat.le_of_ble_eq_true (by kernel_rfl)
theorem mixed_ok:Try.prog.follows .mixedOrders=true:=by kernel_rfl
end Go.Ab.Try
