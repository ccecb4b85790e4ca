/- The types and the code that our machine has are the program's (printed by a program of ours). -/
import Derived.Test.YtiabfecpoffidaaProg
import Derived.Test.YtiabfecpoffidaaDat
import Derived.Test.YtiabfecpoffidaaAbS
import Derived.KernelRfl
set_option linter.unusedSimpArgs false
set_option linter.unusedVariables false
namespace Go.Ab.Try
open Go.Proofs
abbrev TI (t:Nat) (d:TD):Prop:=∃i u,TyIs Try.prog t d i u
abbrev FI (f:Nat) (d:FD) (G:Nat→Option TD):Prop:=∃fn,Try.prog.funcs[f]? =some fn∧(fn.name== "runtime.NumGoroutine")=false∧compF G fn=some d∧d.body.lt d.ntmps=true
theorem aN {α:Type}{p:α→Prop}:∀a,(none:Option α)=some a→p a:=fun a h=>by cases h
theorem aS {α:Type}{p:α→Prop}{v:α}(h:p v):∀a,some v=some a→p a:=fun a e=>by cases e;exact h
theorem ty3_is:TI 3 ty3:=⟨Try.prog.types.getD 3 default,_,⟨by kernel_rfl,Try.underlying3,by simp[ty3,UD.is],by kernel_rfl,by kernel_rfl,by kernel_rfl,by simp[ty3,scL,V.sc],by kernel_rfl,(fun _=>⟨_,rfl,rfl⟩),by kernel_rfl⟩⟩
theorem ty5_is:TI 5 ty5:=⟨Try.prog.types.getD 5 default,_,⟨by kernel_rfl,Try.underlying5,by simp[ty5,UD.is],by kernel_rfl,by kernel_rfl,by kernel_rfl,by simp[ty5,scL,V.sc],by kernel_rfl,(fun _=>⟨_,rfl,rfl⟩),by kernel_rfl⟩⟩
theorem ty22_is:TI 22 ty22:=⟨Try.prog.types.getD 22 default,_,⟨by kernel_rfl,Try.underlying22,by simp[ty22,UD.is],by kernel_rfl,by kernel_rfl,by kernel_rfl,by simp[ty22,scL,V.sc],by kernel_rfl,(fun _=>⟨_,rfl,rfl⟩),by kernel_rfl⟩⟩
theorem ty23_is:TI 23 ty23:=⟨Try.prog.types.getD 23 default,_,⟨by kernel_rfl,Try.underlying23,by simp[ty23,UD.is],by kernel_rfl,by kernel_rfl,by kernel_rfl,by simp[ty23,scL,V.sc],by kernel_rfl,(fun _=>⟨_,rfl,rfl⟩),by kernel_rfl⟩⟩
theorem ty24_is:TI 24 ty24:=⟨Try.prog.types.getD 24 default,_,⟨by kernel_rfl,Try.underlying24,by simp[ty24,UD.is],by kernel_rfl,by kernel_rfl,by kernel_rfl,by simp[ty24,scL,V.sc],by kernel_rfl,(fun _=>⟨_,rfl,rfl⟩),by kernel_rfl⟩⟩
theorem ty25_is:TI 25 ty25:=⟨Try.prog.types.getD 25 default,_,⟨by kernel_rfl,Try.underlying25,by simp[ty25,UD.is],by kernel_rfl,by kernel_rfl,by kernel_rfl,by simp[ty25,scL,V.sc],by kernel_rfl,(fun _=>⟨_,rfl,rfl⟩),by kernel_rfl⟩⟩
theorem ty27_is:TI 27 ty27:=⟨Try.prog.types.getD 27 default,_,⟨by kernel_rfl,Try.underlying27,by simp[ty27,UD.is],by kernel_rfl,by kernel_rfl,by kernel_rfl,by simp[ty27,scL,V.sc],by kernel_rfl,(fun h=>by cases h),by kernel_rfl⟩⟩
theorem ty31_is:TI 31 ty31:=⟨Try.prog.types.getD 31 default,_,⟨by kernel_rfl,Try.underlying31,by simp[ty31,UD.is],by kernel_rfl,by kernel_rfl,by kernel_rfl,by simp[ty31,scL,V.sc],by kernel_rfl,(fun _=>⟨_,rfl,rfl⟩),by kernel_rfl⟩⟩
theorem ty32_is:TI 32 ty32:=⟨Try.prog.types.getD 32 default,_,⟨by kernel_rfl,Try.underlying32,by simp[ty32,UD.is],by kernel_rfl,by kernel_rfl,by kernel_rfl,by simp[ty32,scL,V.sc],by kernel_rfl,(fun _=>⟨_,rfl,rfl⟩),by kernel_rfl⟩⟩
theorem ty37_is:TI 37 ty37:=⟨Try.prog.types.getD 37 default,_,⟨by kernel_rfl,Try.underlying37,by simp[ty37,UD.is],by kernel_rfl,by kernel_rfl,by kernel_rfl,by simp[ty37,scL,V.sc],by kernel_rfl,(fun h=>by cases h),by kernel_rfl⟩⟩
theorem ty39_is:TI 39 ty39:=⟨Try.prog.types.getD 39 default,_,⟨by kernel_rfl,Try.underlying39,by simp[ty39,UD.is],by kernel_rfl,by kernel_rfl,by kernel_rfl,by simp[ty39,scL,V.sc],by kernel_rfl,(fun h=>by cases h),by kernel_rfl⟩⟩
theorem ty44_is:TI 44 ty44:=⟨Try.prog.types.getD 44 default,_,⟨by kernel_rfl,Try.underlying44,by simp[ty44,UD.is],by kernel_rfl,by kernel_rfl,by kernel_rfl,by simp[ty44,scL,V.sc],by kernel_rfl,(fun _=>⟨_,rfl,rfl⟩),by kernel_rfl⟩⟩
theorem ty46_is:TI 46 ty46:=⟨Try.prog.types.getD 46 default,_,⟨by kernel_rfl,Try.underlying46,by simp[ty46,UD.is],by kernel_rfl,by kernel_rfl,by kernel_rfl,by simp[ty46,scL,V.sc],by kernel_rfl,(fun h=>by cases h),by kernel_rfl⟩⟩
theorem ty47_is:TI 47 ty47:=⟨Try.prog.types.getD 47 default,_,⟨by kernel_rfl,Try.underlying47,by simp[ty47,UD.is],by kernel_rfl,by kernel_rfl,by kernel_rfl,by simp[ty47,scL,V.sc],by kernel_rfl,(fun _=>⟨_,rfl,rfl⟩),by kernel_rfl⟩⟩
theorem ty51_is:TI 51 ty51:=⟨Try.prog.types.getD 51 default,_,⟨by kernel_rfl,Try.underlying51,by simp[ty51,UD.is],by kernel_rfl,by kernel_rfl,by kernel_rfl,by simp[ty51,scL,V.sc],by kernel_rfl,(fun h=>by cases h),by kernel_rfl⟩⟩
theorem ty59_is:TI 59 ty59:=⟨Try.prog.types.getD 59 default,_,⟨by kernel_rfl,Try.underlying59,by simp[ty59,UD.is],by kernel_rfl,by kernel_rfl,by kernel_rfl,by simp[ty59,scL,V.sc],by kernel_rfl,(fun _=>⟨_,rfl,rfl⟩),by kernel_rfl⟩⟩
theorem ty60_is:TI 60 ty60:=⟨Try.prog.types.getD 60 default,_,⟨by kernel_rfl,Try.underlying60,by simp[ty60,UD.is],by kernel_rfl,by kernel_rfl,by kernel_rfl,by simp[ty60,scL,V.sc],by kernel_rfl,(fun h=>by cases h),by kernel_rfl⟩⟩
theorem ty61_is:TI 61 ty61:=⟨Try.prog.types.getD 61 default,_,⟨by kernel_rfl,Try.underlying61,by simp[ty61,UD.is],by kernel_rfl,by kernel_rfl,by kernel_rfl,by simp[ty61,scL,V.sc],by kernel_rfl,(fun _=>⟨_,rfl,rfl⟩),by kernel_rfl⟩⟩
theorem ty63_is:TI 63 ty63:=⟨Try.prog.types.getD 63 default,_,⟨by kernel_rfl,Try.underlying63,by simp[ty63,UD.is],by kernel_rfl,by kernel_rfl,by kernel_rfl,by simp[ty63,scL,V.sc],by kernel_rfl,(fun h=>by cases h),by kernel_rfl⟩⟩
theorem ty64_is:TI 64 ty64:=⟨Try.prog.types.getD 64 default,_,⟨by kernel_rfl,Try.underlying64,by simp[ty64,UD.is],by kernel_rfl,by kernel_rfl,by kernel_rfl,by simp[ty64,scL,V.sc],by kernel_rfl,(fun _=>⟨_,rfl,rfl⟩),by kernel_rfl⟩⟩
theorem ty70_is:TI 70 ty70:=⟨Try.prog.types.getD 70 default,_,⟨by kernel_rfl,Try.underlying70,by simp[ty70,UD.is],by kernel_rfl,by kernel_rfl,by kernel_rfl,by simp[ty70,scL,V.sc],by kernel_rfl,(fun _=>⟨_,rfl,rfl⟩),by kernel_rfl⟩⟩
theorem ty71_is:TI 71 ty71:=⟨Try.prog.types.getD 71 default,_,⟨by kernel_rfl,Try.underlying71,by simp[ty71,UD.is],by kernel_rfl,by kernel_rfl,by kernel_rfl,by simp[ty71,scL,V.sc],by kernel_rfl,(fun _=>⟨_,rfl,rfl⟩),by kernel_rfl⟩⟩
theorem ty83_is:TI 83 ty83:=⟨Try.prog.types.getD 83 default,_,⟨by kernel_rfl,Try.underlying83,by simp[ty83,UD.is],by kernel_rfl,by kernel_rfl,by kernel_rfl,by simp[ty83,scL,V.sc],by kernel_rfl,(fun h=>by cases h),by kernel_rfl⟩⟩
theorem ty86_is:TI 86 ty86:=⟨Try.prog.types.getD 86 default,_,⟨by kernel_rfl,Try.underlying86,by simp[ty86,UD.is],by kernel_rfl,by kernel_rfl,by kernel_rfl,by simp[ty86,scL,V.sc],by kernel_rfl,(fun h=>by cases h),by kernel_rfl⟩⟩
theorem ty91_is:TI 91 ty91:=⟨Try.prog.types.getD 91 default,_,⟨by kernel_rfl,Try.underlying91,by simp[ty91,UD.is],by kernel_rfl,by kernel_rfl,by kernel_rfl,by simp[ty91,scL,V.sc],by kernel_rfl,(fun _=>⟨_,rfl,rfl⟩),by kernel_rfl⟩⟩
theorem ty92_is:TI 92 ty92:=⟨Try.prog.types.getD 92 default,_,⟨by kernel_rfl,Try.underlying92,by simp[ty92,UD.is],by kernel_rfl,by kernel_rfl,by kernel_rfl,by simp[ty92,scL,V.sc],by kernel_rfl,(fun h=>by cases h),by kernel_rfl⟩⟩
theorem ty94_is:TI 94 ty94:=⟨Try.prog.types.getD 94 default,_,⟨by kernel_rfl,Try.underlying94,by simp[ty94,UD.is],by kernel_rfl,by kernel_rfl,by kernel_rfl,by simp[ty94,scL,V.sc],by kernel_rfl,(fun _=>⟨_,rfl,rfl⟩),by kernel_rfl⟩⟩
theorem ty99_is:TI 99 ty99:=⟨Try.prog.types.getD 99 default,_,⟨by kernel_rfl,Try.underlying99,by simp[ty99,UD.is],by kernel_rfl,by kernel_rfl,by kernel_rfl,by simp[ty99,scL,V.sc],by kernel_rfl,(fun _=>⟨_,rfl,rfl⟩),by kernel_rfl⟩⟩
theorem ty101_is:TI 101 ty101:=⟨Try.prog.types.getD 101 default,_,⟨by kernel_rfl,Try.underlying101,by simp[ty101,UD.is],by kernel_rfl,by kernel_rfl,by kernel_rfl,by simp[ty101,scL,V.sc],by kernel_rfl,(fun _=>⟨_,rfl,rfl⟩),by kernel_rfl⟩⟩
theorem ty103_is:TI 103 ty103:=⟨Try.prog.types.getD 103 default,_,⟨by kernel_rfl,Try.underlying103,by simp[ty103,UD.is],by kernel_rfl,by kernel_rfl,by kernel_rfl,by simp[ty103,scL,V.sc],by kernel_rfl,(fun _=>⟨_,rfl,rfl⟩),by kernel_rfl⟩⟩
theorem ty105_is:TI 105 ty105:=⟨Try.prog.types.getD 105 default,_,⟨by kernel_rfl,Try.underlying105,by simp[ty105,UD.is],by kernel_rfl,by kernel_rfl,by kernel_rfl,by simp[ty105,scL,V.sc],by kernel_rfl,(fun _=>⟨_,rfl,rfl⟩),by kernel_rfl⟩⟩
theorem ty107_is:TI 107 ty107:=⟨Try.prog.types.getD 107 default,_,⟨by kernel_rfl,Try.underlying107,by simp[ty107,UD.is],by kernel_rfl,by kernel_rfl,by kernel_rfl,by simp[ty107,scL,V.sc],by kernel_rfl,(fun _=>⟨_,rfl,rfl⟩),by kernel_rfl⟩⟩
theorem ty115_is:TI 115 ty115:=⟨Try.prog.types.getD 115 default,_,⟨by kernel_rfl,Try.underlying115,by simp[ty115,UD.is],by kernel_rfl,by kernel_rfl,by kernel_rfl,by simp[ty115,scL,V.sc],by kernel_rfl,(fun h=>by cases h),by kernel_rfl⟩⟩
noncomputable def tyG (t:Nat):Option TD:=tyT.get t
noncomputable def fnG (f:Nat):Option FD:=fnT.get f
theorem tyOK:TyOK Try.prog tyG:=by
 intro t d h
 have key:tyT.all TI:=⟨aN,⟨aN,⟨aS ty3_is,⟨aN,⟨aN,⟨aS ty31_is,⟨aS ty63_is,⟨⟩,⟨⟩⟩,⟨⟩⟩,⟨aS ty47_is,⟨⟩,⟨⟩⟩⟩,⟨aS ty23_is,⟨aS ty39_is,⟨aS ty71_is,⟨⟩,⟨⟩⟩,⟨aS ty103_is,⟨⟩,⟨⟩⟩⟩,⟨⟩⟩⟩,⟨aN,⟨aN,⟨aN,⟨⟩,⟨aS ty99_is,⟨⟩,⟨⟩⟩⟩,⟨aS ty51_is,⟨aS ty83_is,⟨⟩,⟨⟩⟩,⟨aS ty115_is,⟨⟩,⟨⟩⟩⟩⟩,⟨aS ty27_is,⟨aN,⟨⟩,⟨aS ty107_is,⟨⟩,⟨⟩⟩⟩,⟨aS ty59_is,⟨aS ty91_is,⟨⟩,⟨⟩⟩,⟨⟩⟩⟩⟩⟩,⟨aS ty5_is,⟨aN,⟨⟩,⟨aS ty25_is,⟨aN,⟨⟩,⟨aS ty105_is,⟨⟩,⟨⟩⟩⟩,⟨⟩⟩⟩,⟨aN,⟨aN,⟨aS ty37_is,⟨⟩,⟨aS ty101_is,⟨⟩,⟨⟩⟩⟩,⟨⟩⟩,⟨aN,⟨⟩,⟨aS ty61_is,⟨⟩,⟨⟩⟩⟩⟩⟩⟩,⟨aN,⟨aN,⟨aN,⟨aN,⟨aS ty32_is,⟨aS ty64_is,⟨⟩,⟨⟩⟩,⟨⟩⟩,⟨⟩⟩,⟨aS ty24_is,⟨⟩,⟨⟩⟩⟩,⟨aN,⟨⟩,⟨aN,⟨aS ty44_is,⟨⟩,⟨⟩⟩,⟨aS ty60_is,⟨aS ty92_is,⟨⟩,⟨⟩⟩,⟨⟩⟩⟩⟩⟩,⟨aN,⟨⟩,⟨aN,⟨aS ty22_is,⟨aN,⟨aS ty70_is,⟨⟩,⟨⟩⟩,⟨⟩⟩,⟨aN,⟨aS ty86_is,⟨⟩,⟨⟩⟩,⟨⟩⟩⟩,⟨aN,⟨aS ty46_is,⟨⟩,⟨⟩⟩,⟨aN,⟨aS ty94_is,⟨⟩,⟨⟩⟩,⟨⟩⟩⟩⟩⟩⟩⟩
 exact T.all_get key h
theorem c3_is:FI 3 c3 tyG:=⟨_,Try.func3,by kernel_rfl,by kernel_rfl,by kernel_rfl⟩
theorem c4_is:FI 4 c4 tyG:=⟨_,Try.func4,by kernel_rfl,by kernel_rfl,by kernel_rfl⟩
theorem c5_is:FI 5 c5 tyG:=⟨_,Try.func5,by kernel_rfl,by kernel_rfl,by kernel_rfl⟩
theorem c6_is:FI 6 c6 tyG:=⟨_,Try.func6,by kernel_rfl,by kernel_rfl,by kernel_rfl⟩
theorem c7_is:FI 7 c7 tyG:=⟨_,Try.func7,by kernel_rfl,by kernel_rfl,by kernel_rfl⟩
theorem c8_is:FI 8 c8 tyG:=⟨_,Try.func8,by kernel_rfl,by kernel_rfl,by kernel_rfl⟩
theorem c9_is:FI 9 c9 tyG:=⟨_,Try.func9,by kernel_rfl,by kernel_rfl,by kernel_rfl⟩
theorem c10_is:FI 10 c10 tyG:=⟨_,Try.func10,by kernel_rfl,by kernel_rfl,by kernel_rfl⟩
theorem c11_is:FI 11 c11 tyG:=⟨_,Try.func11,by kernel_rfl,by kernel_rfl,by kernel_rfl⟩
theorem c12_is:FI 12 c12 tyG:=⟨_,Try.func12,by kernel_rfl,by kernel_rfl,by kernel_rfl⟩
theorem c13_is:FI 13 c13 tyG:=⟨_,Try.func13,by kernel_rfl,by kernel_rfl,by kernel_rfl⟩
theorem c14_is:FI 14 c14 tyG:=⟨_,Try.func14,by kernel_rfl,by kernel_rfl,by kernel_rfl⟩
theorem c15_is:FI 15 c15 tyG:=⟨_,Try.func15,by kernel_rfl,by kernel_rfl,by kernel_rfl⟩
theorem c16_is:FI 16 c16 tyG:=⟨_,Try.func16,by kernel_rfl,by kernel_rfl,by kernel_rfl⟩
theorem c17_is:FI 17 c17 tyG:=⟨_,Try.func17,by kernel_rfl,by kernel_rfl,by kernel_rfl⟩
theorem c18_is:FI 18 c18 tyG:=⟨_,Try.func18,by kernel_rfl,by kernel_rfl,by kernel_rfl⟩
theorem c19_is:FI 19 c19 tyG:=⟨_,Try.func19,by kernel_rfl,by kernel_rfl,by kernel_rfl⟩
theorem c20_is:FI 20 c20 tyG:=⟨_,Try.func20,by kernel_rfl,by kernel_rfl,by kernel_rfl⟩
theorem c21_is:FI 21 c21 tyG:=⟨_,Try.func21,by kernel_rfl,by kernel_rfl,by kernel_rfl⟩
theorem c22_is:FI 22 c22 tyG:=⟨_,Try.func22,by kernel_rfl,by kernel_rfl,by kernel_rfl⟩
theorem c23_is:FI 23 c23 tyG:=⟨_,Try.func23,by kernel_rfl,by kernel_rfl,by kernel_rfl⟩
theorem c24_is:FI 24 c24 tyG:=⟨_,Try.func24,by kernel_rfl,by kernel_rfl,by kernel_rfl⟩
theorem c25_is:FI 25 c25 tyG:=⟨_,Try.func25,by kernel_rfl,by kernel_rfl,by kernel_rfl⟩
theorem c26_is:FI 26 c26 tyG:=⟨_,Try.func26,by kernel_rfl,by kernel_rfl,by kernel_rfl⟩
theorem c27_is:FI 27 c27 tyG:=⟨_,Try.func27,by kernel_rfl,by kernel_rfl,by kernel_rfl⟩
theorem c28_is:FI 28 c28 tyG:=⟨_,Try.func28,by kernel_rfl,by kernel_rfl,by kernel_rfl⟩
theorem c29_is:FI 29 c29 tyG:=⟨_,Try.func29,by kernel_rfl,by kernel_rfl,by kernel_rfl⟩
theorem c30_is:FI 30 c30 tyG:=⟨_,Try.func30,by kernel_rfl,by kernel_rfl,by kernel_rfl⟩
theorem c31_is:FI 31 c31 tyG:=⟨_,Try.func31,by kernel_rfl,by kernel_rfl,by kernel_rfl⟩
theorem c32_is:FI 32 c32 tyG:=⟨_,Try.func32,by kernel_rfl,by kernel_rfl,by kernel_rfl⟩
theorem c33_is:FI 33 c33 tyG:=⟨_,Try.func33,by kernel_rfl,by kernel_rfl,by kernel_rfl⟩
theorem c34_is:FI 34 c34 tyG:=⟨_,Try.func34,by kernel_rfl,by kernel_rfl,by kernel_rfl⟩
theorem c35_is:FI 35 c35 tyG:=⟨_,Try.func35,by kernel_rfl,by kernel_rfl,by kernel_rfl⟩
theorem c36_is:FI 36 c36 tyG:=⟨_,Try.func36,by kernel_rfl,by kernel_rfl,by kernel_rfl⟩
theorem c37_is:FI 37 c37 tyG:=⟨_,Try.func37,by kernel_rfl,by kernel_rfl,by kernel_rfl⟩
theorem c38_is:FI 38 c38 tyG:=⟨_,Try.func38,by kernel_rfl,by kernel_rfl,by kernel_rfl⟩
theorem c39_is:FI 39 c39 tyG:=⟨_,Try.func39,by kernel_rfl,by kernel_rfl,by kernel_rfl⟩
theorem c40_is:FI 40 c40 tyG:=⟨_,Try.func40,by kernel_rfl,by kernel_rfl,by kernel_rfl⟩
theorem c41_is:FI 41 c41 tyG:=⟨_,Try.func41,by kernel_rfl,by kernel_rfl,by kernel_rfl⟩
theorem c42_is:FI 42 c42 tyG:=⟨_,Try.func42,by kernel_rfl,by kernel_rfl,by kernel_rfl⟩
theorem c43_is:FI 43 c43 tyG:=⟨_,Try.func43,by kernel_rfl,by kernel_rfl,by kernel_rfl⟩
theorem c44_is:FI 44 c44 tyG:=⟨_,Try.func44,by kernel_rfl,by kernel_rfl,by kernel_rfl⟩
theorem c45_is:FI 45 c45 tyG:=⟨_,Try.func45,by kernel_rfl,by kernel_rfl,by kernel_rfl⟩
theorem c46_is:FI 46 c46 tyG:=⟨_,Try.func46,by kernel_rfl,by kernel_rfl,by kernel_rfl⟩
theorem c47_is:FI 47 c47 tyG:=⟨_,Try.func47,by kernel_rfl,by kernel_rfl,by kernel_rfl⟩
theorem c48_is:FI 48 c48 tyG:=⟨_,Try.func48,by kernel_rfl,by kernel_rfl,by kernel_rfl⟩
theorem c49_is:FI 49 c49 tyG:=⟨_,Try.func49,by kernel_rfl,by kernel_rfl,by kernel_rfl⟩
theorem c50_is:FI 50 c50 tyG:=⟨_,Try.func50,by kernel_rfl,by kernel_rfl,by kernel_rfl⟩
theorem c51_is:FI 51 c51 tyG:=⟨_,Try.func51,by kernel_rfl,by kernel_rfl,by kernel_rfl⟩
theorem c52_is:FI 52 c52 tyG:=⟨_,Try.func52,by kernel_rfl,by kernel_rfl,by kernel_rfl⟩
theorem c53_is:FI 53 c53 tyG:=⟨_,Try.func53,by kernel_rfl,by kernel_rfl,by kernel_rfl⟩
theorem c54_is:FI 54 c54 tyG:=⟨_,Try.func54,by kernel_rfl,by kernel_rfl,by kernel_rfl⟩
theorem c55_is:FI 55 c55 tyG:=⟨_,Try.func55,by kernel_rfl,by kernel_rfl,by kernel_rfl⟩
theorem c56_is:FI 56 c56 tyG:=⟨_,Try.func56,by kernel_rfl,by kernel_rfl,by kernel_rfl⟩
theorem c57_is:FI 57 c57 tyG:=⟨_,Try.func57,by kernel_rfl,by kernel_rfl,by kernel_rfl⟩
theorem c58_is:FI 58 c58 tyG:=⟨_,Try.func58,by kernel_rfl,by kernel_rfl,by kernel_rfl⟩
theorem c59_is:FI 59 c59 tyG:=⟨_,Try.func59,by kernel_rfl,by kernel_rfl,by kernel_rfl⟩
theorem c60_is:FI 60 c60 tyG:=⟨_,Try.func60,by kernel_rfl,by kernel_rfl,by kernel_rfl⟩
theorem c61_is:FI 61 c61 tyG:=⟨_,Try.func61,by kernel_rfl,by kernel_rfl,by kernel_rfl⟩
theorem c62_is:FI 62 c62 tyG:=⟨_,Try.func62,by kernel_rfl,by kernel_rfl,by kernel_rfl⟩
theorem c63_is:FI 63 c63 tyG:=⟨_,Try.func63,by kernel_rfl,by kernel_rfl,by kernel_rfl⟩
theorem c64_is:FI 64 c64 tyG:=⟨_,Try.func64,by kernel_rfl,by kernel_rfl,by kernel_rfl⟩
theorem c65_is:FI 65 c65 tyG:=⟨_,Try.func65,by kernel_rfl,by kernel_rfl,by kernel_rfl⟩
theorem c66_is:FI 66 c66 tyG:=⟨_,Try.func66,by kernel_rfl,by kernel_rfl,by kernel_rfl⟩
theorem c67_is:FI 67 c67 tyG:=⟨_,Try.func67,by kernel_rfl,by kernel_rfl,by kernel_rfl⟩
theorem c68_is:FI 68 c68 tyG:=⟨_,Try.func68,by kernel_rfl,by kernel_rfl,by kernel_rfl⟩
theorem c69_is:FI 69 c69 tyG:=⟨_,Try.func69,by kernel_rfl,by kernel_rfl,by kernel_rfl⟩
theorem c70_is:FI 70 c70 tyG:=⟨_,Try.func70,by kernel_rfl,by kernel_rfl,by kernel_rfl⟩
theorem c71_is:FI 71 c71 tyG:=⟨_,Try.func71,by kernel_rfl,by kernel_rfl,by kernel_rfl⟩
theorem c72_is:FI 72 c72 tyG:=⟨_,Try.func72,by kernel_rfl,by kernel_rfl,by kernel_rfl⟩
theorem c73_is:FI 73 c73 tyG:=⟨_,Try.func73,by kernel_rfl,by kernel_rfl,by kernel_rfl⟩
theorem c74_is:FI 74 c74 tyG:=⟨_,Try.func74,by kernel_rfl,by kernel_rfl,by kernel_rfl⟩
theorem c75_is:FI 75 c75 tyG:=⟨_,Try.func75,by kernel_rfl,by kernel_rfl,by kernel_rfl⟩
theorem c76_is:FI 76 c76 tyG:=⟨_,Try.func76,by kernel_rfl,by kernel_rfl,by kernel_rfl⟩
theorem c77_is:FI 77 c77 tyG:=⟨_,Try.func77,by kernel_rfl,by kernel_rfl,by kernel_rfl⟩
theorem c78_is:FI 78 c78 tyG:=⟨_,Try.func78,by kernel_rfl,by kernel_rfl,by kernel_rfl⟩
theorem c79_is:FI 79 c79 tyG:=⟨_,Try.func79,by kernel_rfl,by kernel_rfl,by kernel_rfl⟩
theorem c80_is:FI 80 c80 tyG:=⟨_,Try.func80,by kernel_rfl,by kernel_rfl,by kernel_rfl⟩
theorem c81_is:FI 81 c81 tyG:=⟨_,Try.func81,by kernel_rfl,by kernel_rfl,by kernel_rfl⟩
theorem c82_is:FI 82 c82 tyG:=⟨_,Try.func82,by kernel_rfl,by kernel_rfl,by kernel_rfl⟩
theorem c83_is:FI 83 c83 tyG:=⟨_,Try.func83,by kernel_rfl,by kernel_rfl,by kernel_rfl⟩
theorem c84_is:FI 84 c84 tyG:=⟨_,Try.func84,by kernel_rfl,by kernel_rfl,by kernel_rfl⟩
theorem fnOK:FnOk Try.prog tyG fnG:=by
 refine⟨fun f fd h=>?_⟩
 have key:fnT.all fun f fd=>FI f fd tyG:=
  ⟨aN,⟨aN,⟨aS c3_is,⟨aS c7_is,⟨aS c15_is,⟨aS c31_is,⟨aS c63_is,⟨⟩,⟨⟩⟩,⟨⟩⟩,⟨aS c47_is,⟨aS c79_is,⟨⟩,⟨⟩⟩,⟨⟩⟩⟩,⟨aS c23_is,⟨aS c39_is,⟨aS c71_is,⟨⟩,⟨⟩⟩,⟨⟩⟩,⟨aS c55_is,⟨⟩,⟨⟩⟩⟩⟩,⟨aS c11_is,⟨aS c19_is,⟨aS c35_is,⟨aS c67_is,⟨⟩,⟨⟩⟩,⟨⟩⟩,⟨aS c51_is,⟨aS c83_is,⟨⟩,⟨⟩⟩,⟨⟩⟩⟩,⟨aS c27_is,⟨aS c43_is,⟨aS c75_is,⟨⟩,⟨⟩⟩,⟨⟩⟩,⟨aS c59_is,⟨⟩,⟨⟩⟩⟩⟩⟩,⟨aS c5_is,⟨aS c9_is,⟨aS c17_is,⟨aS c33_is,⟨aS c65_is,⟨⟩,⟨⟩⟩,⟨⟩⟩,⟨aS c49_is,⟨aS c81_is,⟨⟩,⟨⟩⟩,⟨⟩⟩⟩,⟨aS c25_is,⟨aS c41_is,⟨aS c73_is,⟨⟩,⟨⟩⟩,⟨⟩⟩,⟨aS c57_is,⟨⟩,⟨⟩⟩⟩⟩,⟨aS c13_is,⟨aS c21_is,⟨aS c37_is,⟨aS c69_is,⟨⟩,⟨⟩⟩,⟨⟩⟩,⟨aS c53_is,⟨⟩,⟨⟩⟩⟩,⟨aS c29_is,⟨aS c45_is,⟨aS c77_is,⟨⟩,⟨⟩⟩,⟨⟩⟩,⟨aS c61_is,⟨⟩,⟨⟩⟩⟩⟩⟩⟩,⟨aN,⟨aS c4_is,⟨aS c8_is,⟨aS c16_is,⟨aS c32_is,⟨aS c64_is,⟨⟩,⟨⟩⟩,⟨⟩⟩,⟨aS c48_is,⟨aS c80_is,⟨⟩,⟨⟩⟩,⟨⟩⟩⟩,⟨aS c24_is,⟨aS c40_is,⟨aS c72_is,⟨⟩,⟨⟩⟩,⟨⟩⟩,⟨aS c56_is,⟨⟩,⟨⟩⟩⟩⟩,⟨aS c12_is,⟨aS c20_is,⟨aS c36_is,⟨aS c68_is,⟨⟩,⟨⟩⟩,⟨⟩⟩,⟨aS c52_is,⟨aS c84_is,⟨⟩,⟨⟩⟩,⟨⟩⟩⟩,⟨aS c28_is,⟨aS c44_is,⟨aS c76_is,⟨⟩,⟨⟩⟩,⟨⟩⟩,⟨aS c60_is,⟨⟩,⟨⟩⟩⟩⟩⟩,⟨aS c6_is,⟨aS c10_is,⟨aS c18_is,⟨aS c34_is,⟨aS c66_is,⟨⟩,⟨⟩⟩,⟨⟩⟩,⟨aS c50_is,⟨aS c82_is,⟨⟩,⟨⟩⟩,⟨⟩⟩⟩,⟨aS c26_is,⟨aS c42_is,⟨aS c74_is,⟨⟩,⟨⟩⟩,⟨⟩⟩,⟨aS c58_is,⟨⟩,⟨⟩⟩⟩⟩,⟨aS c14_is,⟨aS c22_is,⟨aS c38_is,⟨aS c70_is,⟨⟩,⟨⟩⟩,⟨⟩⟩,⟨aS c54_is,⟨⟩,⟨⟩⟩⟩,⟨aS c30_is,⟨aS c46_is,⟨aS c78_is,⟨⟩,⟨⟩⟩,⟨⟩⟩,⟨aS c62_is,⟨⟩,⟨⟩⟩⟩⟩⟩⟩⟩
 exact T.all_get key h
theorem depth_ok:8≤Try.prog.depth:=Nat.le_of_ble_eq_true (by kernel_rfl)
theorem mixed_ok:Try.prog.follows .mixedOrders=true:=by kernel_rfl
end Go.Ab.Try
