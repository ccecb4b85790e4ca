/- The types and the code that our machine has are the program's (printed by a program of ours). -/
import Derived.Test.YthoghcpemmfebaaGreatProg
import Derived.Test.YthoghcpemmfebaaGreatDat
import Derived.Test.YthoghcpemmfebaaGreatAbS
import Derived.KernelRfl
set_option linter.unusedSimpArgs false
set_option linter.unusedVariables false
namespace Go.Ab.Tryz
open Go.Proofs
abbrev TI (t:Nat) (d:TD):Prop:=∃i u,TyIs Tryz.prog t d i u
abbrev FI (f:Nat) (d:FD) (G:Nat→Option TD):Prop:=∃fn,Tryz.prog.funcs[f]? =some fn∧(fn.name== "runtime.NumGoroutine")=false∧compF G fn=some d∧d.body.lt d.ntmps=true
theorem aN {α:Type}{p:α→Prop}:∀a,(none:Option α)=some a→p a:=fun a h=>by cases h
theorem aS {α:Type}{p:α→Prop}{v:α}(h:p v):∀a,some v=some a→p a:=fun a e=>by cases e;exact h
theorem ty3_is:TI 3 ty3:=⟨Tryz.prog.types.getD 3 default,_,⟨by kernel_rfl,Tryz.underlying3,by simp[ty3,UD.is],by kernel_rfl,by kernel_rfl,by kernel_rfl,by simp[ty3,scL,V.sc],by kernel_rfl,(fun _=>⟨_,rfl,rfl⟩),by kernel_rfl⟩⟩
theorem ty4_is:TI 4 ty4:=⟨Tryz.prog.types.getD 4 default,_,⟨by kernel_rfl,Tryz.underlying4,by simp[ty4,UD.is],by kernel_rfl,by kernel_rfl,by kernel_rfl,by simp[ty4,scL,V.sc],by kernel_rfl,(fun _=>⟨_,rfl,rfl⟩),by kernel_rfl⟩⟩
theorem ty5_is:TI 5 ty5:=⟨Tryz.prog.types.getD 5 default,_,⟨by kernel_rfl,Tryz.underlying5,by simp[ty5,UD.is],by kernel_rfl,by kernel_rfl,by kernel_rfl,by simp[ty5,scL,V.sc],by kernel_rfl,(fun _=>⟨_,rfl,rfl⟩),by kernel_rfl⟩⟩
theorem ty22_is:TI 22 ty22:=⟨Tryz.prog.types.getD 22 default,_,⟨by kernel_rfl,Tryz.underlying22,by simp[ty22,UD.is],by kernel_rfl,by kernel_rfl,by kernel_rfl,by simp[ty22,scL,V.sc],by kernel_rfl,(fun _=>⟨_,rfl,rfl⟩),by kernel_rfl⟩⟩
theorem ty23_is:TI 23 ty23:=⟨Tryz.prog.types.getD 23 default,_,⟨by kernel_rfl,Tryz.underlying23,by simp[ty23,UD.is],by kernel_rfl,by kernel_rfl,by kernel_rfl,by simp[ty23,scL,V.sc],by kernel_rfl,(fun _=>⟨_,rfl,rfl⟩),by kernel_rfl⟩⟩
theorem ty24_is:TI 24 ty24:=⟨Tryz.prog.types.getD 24 default,_,⟨by kernel_rfl,Tryz.underlying24,by simp[ty24,UD.is],by kernel_rfl,by kernel_rfl,by kernel_rfl,by simp[ty24,scL,V.sc],by kernel_rfl,(fun _=>⟨_,rfl,rfl⟩),by kernel_rfl⟩⟩
theorem ty26_is:TI 26 ty26:=⟨Tryz.prog.types.getD 26 default,_,⟨by kernel_rfl,Tryz.underlying26,by simp[ty26,UD.is],by kernel_rfl,by kernel_rfl,by kernel_rfl,by simp[ty26,scL,V.sc],by kernel_rfl,(fun h=>by cases h),by kernel_rfl⟩⟩
theorem ty29_is:TI 29 ty29:=⟨Tryz.prog.types.getD 29 default,_,⟨by kernel_rfl,Tryz.underlying29,by simp[ty29,UD.is],by kernel_rfl,by kernel_rfl,by kernel_rfl,by simp[ty29,scL,V.sc],by kernel_rfl,(fun h=>by cases h),by kernel_rfl⟩⟩
theorem ty31_is:TI 31 ty31:=⟨Tryz.prog.types.getD 31 default,_,⟨by kernel_rfl,Tryz.underlying31,by simp[ty31,UD.is],by kernel_rfl,by kernel_rfl,by kernel_rfl,by simp[ty31,scL,V.sc],by kernel_rfl,(fun h=>by cases h),by kernel_rfl⟩⟩
theorem ty33_is:TI 33 ty33:=⟨Tryz.prog.types.getD 33 default,_,⟨by kernel_rfl,Tryz.underlying33,by simp[ty33,UD.is],by kernel_rfl,by kernel_rfl,by kernel_rfl,by simp[ty33,scL,V.sc],by kernel_rfl,(fun h=>by cases h),by kernel_rfl⟩⟩
theorem ty34_is:TI 34 ty34:=⟨Tryz.prog.types.getD 34 default,_,⟨by kernel_rfl,Tryz.underlying34,by simp[ty34,UD.is],by kernel_rfl,by kernel_rfl,by kernel_rfl,by simp[ty34,scL,V.sc],by kernel_rfl,(fun _=>⟨_,rfl,rfl⟩),by kernel_rfl⟩⟩
theorem ty38_is:TI 38 ty38:=⟨Tryz.prog.types.getD 38 default,_,⟨by kernel_rfl,Tryz.underlying38,by simp[ty38,UD.is],by kernel_rfl,by kernel_rfl,by kernel_rfl,by simp[ty38,scL,V.sc],by kernel_rfl,(fun h=>by cases h),by kernel_rfl⟩⟩
theorem ty42_is:TI 42 ty42:=⟨Tryz.prog.types.getD 42 default,_,⟨by kernel_rfl,Tryz.underlying42,by simp[ty42,UD.is],by kernel_rfl,by kernel_rfl,by kernel_rfl,by simp[ty42,scL,V.sc],by kernel_rfl,(fun _=>⟨_,rfl,rfl⟩),by kernel_rfl⟩⟩
theorem ty43_is:TI 43 ty43:=⟨Tryz.prog.types.getD 43 default,_,⟨by kernel_rfl,Tryz.underlying43,by simp[ty43,UD.is],by kernel_rfl,by kernel_rfl,by kernel_rfl,by simp[ty43,scL,V.sc],by kernel_rfl,(fun _=>⟨_,rfl,rfl⟩),by kernel_rfl⟩⟩
theorem ty60_is:TI 60 ty60:=⟨Tryz.prog.types.getD 60 default,_,⟨by kernel_rfl,Tryz.underlying60,by simp[ty60,UD.is],by kernel_rfl,by kernel_rfl,by kernel_rfl,by simp[ty60,scL,V.sc],by kernel_rfl,(fun _=>⟨_,rfl,rfl⟩),by kernel_rfl⟩⟩
theorem ty74_is:TI 74 ty74:=⟨Tryz.prog.types.getD 74 default,_,⟨by kernel_rfl,Tryz.underlying74,by simp[ty74,UD.is],by kernel_rfl,by kernel_rfl,by kernel_rfl,by simp[ty74,scL,V.sc],by kernel_rfl,(fun _=>⟨_,rfl,rfl⟩),by kernel_rfl⟩⟩
theorem ty77_is:TI 77 ty77:=⟨Tryz.prog.types.getD 77 default,_,⟨by kernel_rfl,Tryz.underlying77,by simp[ty77,UD.is],by kernel_rfl,by kernel_rfl,by kernel_rfl,by simp[ty77,scL,V.sc],by kernel_rfl,(fun _=>⟨_,rfl,rfl⟩),by kernel_rfl⟩⟩
theorem ty79_is:TI 79 ty79:=⟨Tryz.prog.types.getD 79 default,_,⟨by kernel_rfl,Tryz.underlying79,by simp[ty79,UD.is],by kernel_rfl,by kernel_rfl,by kernel_rfl,by simp[ty79,scL,V.sc],by kernel_rfl,(fun h=>by cases h),by kernel_rfl⟩⟩
theorem ty88_is:TI 88 ty88:=⟨Tryz.prog.types.getD 88 default,_,⟨by kernel_rfl,Tryz.underlying88,by simp[ty88,UD.is],by kernel_rfl,by kernel_rfl,by kernel_rfl,by simp[ty88,scL,V.sc],by kernel_rfl,(fun h=>by cases h),by kernel_rfl⟩⟩
theorem ty92_is:TI 92 ty92:=⟨Tryz.prog.types.getD 92 default,_,⟨by kernel_rfl,Tryz.underlying92,by simp[ty92,UD.is],by kernel_rfl,by kernel_rfl,by kernel_rfl,by simp[ty92,scL,V.sc],by kernel_rfl,(fun _=>⟨_,rfl,rfl⟩),by kernel_rfl⟩⟩
theorem ty94_is:TI 94 ty94:=⟨Tryz.prog.types.getD 94 default,_,⟨by kernel_rfl,Tryz.underlying94,by simp[ty94,UD.is],by kernel_rfl,by kernel_rfl,by kernel_rfl,by simp[ty94,scL,V.sc],by kernel_rfl,(fun h=>by cases h),by kernel_rfl⟩⟩
theorem ty97_is:TI 97 ty97:=⟨Tryz.prog.types.getD 97 default,_,⟨by kernel_rfl,Tryz.underlying97,by simp[ty97,UD.is],by kernel_rfl,by kernel_rfl,by kernel_rfl,by simp[ty97,scL,V.sc],by kernel_rfl,(fun h=>by cases h),by kernel_rfl⟩⟩
theorem ty137_is:TI 137 ty137:=⟨Tryz.prog.types.getD 137 default,_,⟨by kernel_rfl,Tryz.underlying137,by simp[ty137,UD.is],by kernel_rfl,by kernel_rfl,by kernel_rfl,by simp[ty137,scL,V.sc],by kernel_rfl,(fun _=>⟨_,rfl,rfl⟩),by kernel_rfl⟩⟩
theorem ty140_is:TI 140 ty140:=⟨Tryz.prog.types.getD 140 default,_,⟨by kernel_rfl,Tryz.underlying140,by simp[ty140,UD.is],by kernel_rfl,by kernel_rfl,by kernel_rfl,by simp[ty140,scL,V.sc],by kernel_rfl,(fun _=>⟨_,rfl,rfl⟩),by kernel_rfl⟩⟩
theorem ty142_is:TI 142 ty142:=⟨Tryz.prog.types.getD 142 default,_,⟨by kernel_rfl,Tryz.underlying142,by simp[ty142,UD.is],by kernel_rfl,by kernel_rfl,by kernel_rfl,by simp[ty142,scL,V.sc],by kernel_rfl,(fun _=>⟨_,rfl,rfl⟩),by kernel_rfl⟩⟩
theorem ty144_is:TI 144 ty144:=⟨Tryz.prog.types.getD 144 default,_,⟨by kernel_rfl,Tryz.underlying144,by simp[ty144,UD.is],by kernel_rfl,by kernel_rfl,by kernel_rfl,by simp[ty144,scL,V.sc],by kernel_rfl,(fun h=>by cases h),by kernel_rfl⟩⟩
theorem ty153_is:TI 153 ty153:=⟨Tryz.prog.types.getD 153 default,_,⟨by kernel_rfl,Tryz.underlying153,by simp[ty153,UD.is],by kernel_rfl,by kernel_rfl,by kernel_rfl,by simp[ty153,scL,V.sc],by kernel_rfl,(fun _=>⟨_,rfl,rfl⟩),by kernel_rfl⟩⟩
theorem ty159_is:TI 159 ty159:=⟨Tryz.prog.types.getD 159 default,_,⟨by kernel_rfl,Tryz.underlying159,by simp[ty159,UD.is],by kernel_rfl,by kernel_rfl,by kernel_rfl,by simp[ty159,scL,V.sc],by kernel_rfl,(fun _=>⟨_,rfl,rfl⟩),by kernel_rfl⟩⟩
theorem ty162_is:TI 162 ty162:=⟨Tryz.prog.types.getD 162 default,_,⟨by kernel_rfl,Tryz.underlying162,by simp[ty162,UD.is],by kernel_rfl,by kernel_rfl,by kernel_rfl,by simp[ty162,scL,V.sc],by kernel_rfl,(fun _=>⟨_,rfl,rfl⟩),by kernel_rfl⟩⟩
theorem ty178_is:TI 178 ty178:=⟨Tryz.prog.types.getD 178 default,_,⟨by kernel_rfl,Tryz.underlying178,by simp[ty178,UD.is],by kernel_rfl,by kernel_rfl,by kernel_rfl,by simp[ty178,scL,V.sc],by kernel_rfl,(fun _=>⟨_,rfl,rfl⟩),by kernel_rfl⟩⟩
noncomputable def tyG (t:Nat):Option TD:=tyT.get t
noncomputable def fnG (f:Nat):Option FD:=fnT.get f
theorem tyOK:TyOK Tryz.prog tyG:=by
 intro t d h
 have key:tyT.all TI:=⟨aN,⟨aN,⟨aS ty3_is,⟨aN,⟨aN,⟨aS ty31_is,⟨⟩,⟨aN,⟨aS ty159_is,⟨⟩,⟨⟩⟩,⟨⟩⟩⟩,⟨aN,⟨aS ty79_is,⟨⟩,⟨⟩⟩,⟨⟩⟩⟩,⟨aS ty23_is,⟨⟩,⟨⟩⟩⟩,⟨aN,⟨⟩,⟨aN,⟨aS ty43_is,⟨⟩,⟨⟩⟩,⟨⟩⟩⟩⟩,⟨aS ty5_is,⟨aN,⟨aN,⟨aS ty33_is,⟨⟩,⟨aS ty97_is,⟨⟩,⟨⟩⟩⟩,⟨⟩⟩,⟨aN,⟨aN,⟨aN,⟨aS ty137_is,⟨⟩,⟨⟩⟩,⟨⟩⟩,⟨⟩⟩,⟨aN,⟨aN,⟨aS ty153_is,⟨⟩,⟨⟩⟩,⟨⟩⟩,⟨⟩⟩⟩⟩,⟨aN,⟨⟩,⟨aS ty29_is,⟨aN,⟨aS ty77_is,⟨⟩,⟨⟩⟩,⟨⟩⟩,⟨⟩⟩⟩⟩⟩,⟨aN,⟨aS ty4_is,⟨aN,⟨aN,⟨⟩,⟨aN,⟨aN,⟨aS ty144_is,⟨⟩,⟨⟩⟩,⟨⟩⟩,⟨⟩⟩⟩,⟨aS ty24_is,⟨⟩,⟨aN,⟨aS ty88_is,⟨⟩,⟨⟩⟩,⟨⟩⟩⟩⟩,⟨aN,⟨⟩,⟨aN,⟨aN,⟨aN,⟨aS ty140_is,⟨⟩,⟨⟩⟩,⟨⟩⟩,⟨⟩⟩,⟨aS ty60_is,⟨aS ty92_is,⟨⟩,⟨⟩⟩,⟨⟩⟩⟩⟩⟩,⟨aN,⟨aN,⟨aN,⟨aS ty34_is,⟨⟩,⟨aN,⟨aS ty162_is,⟨⟩,⟨⟩⟩,⟨⟩⟩⟩,⟨aN,⟨⟩,⟨aN,⟨aS ty178_is,⟨⟩,⟨⟩⟩,⟨⟩⟩⟩⟩,⟨aS ty26_is,⟨aS ty42_is,⟨aS ty74_is,⟨⟩,⟨⟩⟩,⟨⟩⟩,⟨⟩⟩⟩,⟨aN,⟨aS ty22_is,⟨aS ty38_is,⟨⟩,⟨⟩⟩,⟨⟩⟩,⟨aN,⟨aN,⟨aN,⟨aS ty142_is,⟨⟩,⟨⟩⟩,⟨⟩⟩,⟨⟩⟩,⟨aN,⟨aS ty94_is,⟨⟩,⟨⟩⟩,⟨⟩⟩⟩⟩⟩⟩⟩
 exact T.all_get key h
theorem c4_is:FI 4 c4 tyG:=⟨_,Tryz.func4,by kernel_rfl,by kernel_rfl,by kernel_rfl⟩
theorem c5_is:FI 5 c5 tyG:=⟨_,Tryz.func5,by kernel_rfl,by kernel_rfl,by kernel_rfl⟩
theorem c7_is:FI 7 c7 tyG:=⟨_,Tryz.func7,by kernel_rfl,by kernel_rfl,by kernel_rfl⟩
theorem c8_is:FI 8 c8 tyG:=⟨_,Tryz.func8,by kernel_rfl,by kernel_rfl,by kernel_rfl⟩
theorem c9_is:FI 9 c9 tyG:=⟨_,Tryz.func9,by kernel_rfl,by kernel_rfl,by kernel_rfl⟩
theorem c15_is:FI 15 c15 tyG:=⟨_,Tryz.func15,by kernel_rfl,by kernel_rfl,by kernel_rfl⟩
theorem c16_is:FI 16 c16 tyG:=⟨_,Tryz.func16,by kernel_rfl,by kernel_rfl,by kernel_rfl⟩
theorem c17_is:FI 17 c17 tyG:=⟨_,Tryz.func17,by kernel_rfl,by kernel_rfl,by kernel_rfl⟩
theorem c18_is:FI 18 c18 tyG:=⟨_,Tryz.func18,by kernel_rfl,by kernel_rfl,by kernel_rfl⟩
theorem c19_is:FI 19 c19 tyG:=⟨_,Tryz.func19,by kernel_rfl,by kernel_rfl,by kernel_rfl⟩
theorem c20_is:FI 20 c20 tyG:=⟨_,Tryz.func20,by kernel_rfl,by kernel_rfl,by kernel_rfl⟩
theorem c21_is:FI 21 c21 tyG:=⟨_,Tryz.func21,by kernel_rfl,by kernel_rfl,by kernel_rfl⟩
theorem c22_is:FI 22 c22 tyG:=⟨_,Tryz.func22,by kernel_rfl,by kernel_rfl,by kernel_rfl⟩
theorem c23_is:FI 23 c23 tyG:=⟨_,Tryz.func23,by kernel_rfl,by kernel_rfl,by kernel_rfl⟩
theorem c25_is:FI 25 c25 tyG:=⟨_,Tryz.func25,by kernel_rfl,by kernel_rfl,by kernel_rfl⟩
theorem c26_is:FI 26 c26 tyG:=⟨_,Tryz.func26,by kernel_rfl,by kernel_rfl,by kernel_rfl⟩
theorem c27_is:FI 27 c27 tyG:=⟨_,Tryz.func27,by kernel_rfl,by kernel_rfl,by kernel_rfl⟩
theorem c28_is:FI 28 c28 tyG:=⟨_,Tryz.func28,by kernel_rfl,by kernel_rfl,by kernel_rfl⟩
theorem c30_is:FI 30 c30 tyG:=⟨_,Tryz.func30,by kernel_rfl,by kernel_rfl,by kernel_rfl⟩
theorem c31_is:FI 31 c31 tyG:=⟨_,Tryz.func31,by kernel_rfl,by kernel_rfl,by kernel_rfl⟩
theorem c32_is:FI 32 c32 tyG:=⟨_,Tryz.func32,by kernel_rfl,by kernel_rfl,by kernel_rfl⟩
theorem c33_is:FI 33 c33 tyG:=⟨_,Tryz.func33,by kernel_rfl,by kernel_rfl,by kernel_rfl⟩
theorem c34_is:FI 34 c34 tyG:=⟨_,Tryz.func34,by kernel_rfl,by kernel_rfl,by kernel_rfl⟩
theorem c35_is:FI 35 c35 tyG:=⟨_,Tryz.func35,by kernel_rfl,by kernel_rfl,by kernel_rfl⟩
theorem c36_is:FI 36 c36 tyG:=⟨_,Tryz.func36,by kernel_rfl,by kernel_rfl,by kernel_rfl⟩
theorem c37_is:FI 37 c37 tyG:=⟨_,Tryz.func37,by kernel_rfl,by kernel_rfl,by kernel_rfl⟩
theorem c38_is:FI 38 c38 tyG:=⟨_,Tryz.func38,by kernel_rfl,by kernel_rfl,by kernel_rfl⟩
theorem c39_is:FI 39 c39 tyG:=⟨_,Tryz.func39,by kernel_rfl,by kernel_rfl,by kernel_rfl⟩
theorem c50_is:FI 50 c50 tyG:=⟨_,Tryz.func50,by kernel_rfl,by kernel_rfl,by kernel_rfl⟩
theorem c58_is:FI 58 c58 tyG:=⟨_,Tryz.func58,by kernel_rfl,by kernel_rfl,by kernel_rfl⟩
theorem c67_is:FI 67 c67 tyG:=⟨_,Tryz.func67,by kernel_rfl,by kernel_rfl,by kernel_rfl⟩
theorem c68_is:FI 68 c68 tyG:=⟨_,Tryz.func68,by kernel_rfl,by kernel_rfl,by kernel_rfl⟩
theorem c69_is:FI 69 c69 tyG:=⟨_,Tryz.func69,by kernel_rfl,by kernel_rfl,by kernel_rfl⟩
theorem c70_is:FI 70 c70 tyG:=⟨_,Tryz.func70,by kernel_rfl,by kernel_rfl,by kernel_rfl⟩
theorem c71_is:FI 71 c71 tyG:=⟨_,Tryz.func71,by kernel_rfl,by kernel_rfl,by kernel_rfl⟩
theorem c72_is:FI 72 c72 tyG:=⟨_,Tryz.func72,by kernel_rfl,by kernel_rfl,by kernel_rfl⟩
theorem c73_is:FI 73 c73 tyG:=⟨_,Tryz.func73,by kernel_rfl,by kernel_rfl,by kernel_rfl⟩
theorem c74_is:FI 74 c74 tyG:=⟨_,Tryz.func74,by kernel_rfl,by kernel_rfl,by kernel_rfl⟩
theorem c75_is:FI 75 c75 tyG:=⟨_,Tryz.func75,by kernel_rfl,by kernel_rfl,by kernel_rfl⟩
theorem c76_is:FI 76 c76 tyG:=⟨_,Tryz.func76,by kernel_rfl,by kernel_rfl,by kernel_rfl⟩
theorem c77_is:FI 77 c77 tyG:=⟨_,Tryz.func77,by kernel_rfl,by kernel_rfl,by kernel_rfl⟩
theorem c78_is:FI 78 c78 tyG:=⟨_,Tryz.func78,by kernel_rfl,by kernel_rfl,by kernel_rfl⟩
theorem c79_is:FI 79 c79 tyG:=⟨_,Tryz.func79,by kernel_rfl,by kernel_rfl,by kernel_rfl⟩
theorem c80_is:FI 80 c80 tyG:=⟨_,Tryz.func80,by kernel_rfl,by kernel_rfl,by kernel_rfl⟩
theorem c81_is:FI 81 c81 tyG:=⟨_,Tryz.func81,by kernel_rfl,by kernel_rfl,by kernel_rfl⟩
theorem c82_is:FI 82 c82 tyG:=⟨_,Tryz.func82,by kernel_rfl,by kernel_rfl,by kernel_rfl⟩
theorem c83_is:FI 83 c83 tyG:=⟨_,Tryz.func83,by kernel_rfl,by kernel_rfl,by kernel_rfl⟩
theorem c86_is:FI 86 c86 tyG:=⟨_,Tryz.func86,by kernel_rfl,by kernel_rfl,by kernel_rfl⟩
theorem c87_is:FI 87 c87 tyG:=⟨_,Tryz.func87,by kernel_rfl,by kernel_rfl,by kernel_rfl⟩
theorem c88_is:FI 88 c88 tyG:=⟨_,Tryz.func88,by kernel_rfl,by kernel_rfl,by kernel_rfl⟩
theorem c89_is:FI 89 c89 tyG:=⟨_,Tryz.func89,by kernel_rfl,by kernel_rfl,by kernel_rfl⟩
theorem c90_is:FI 90 c90 tyG:=⟨_,Tryz.func90,by kernel_rfl,by kernel_rfl,by kernel_rfl⟩
theorem c92_is:FI 92 c92 tyG:=⟨_,Tryz.func92,by kernel_rfl,by kernel_rfl,by kernel_rfl⟩
theorem c93_is:FI 93 c93 tyG:=⟨_,Tryz.func93,by kernel_rfl,by kernel_rfl,by kernel_rfl⟩
theorem c94_is:FI 94 c94 tyG:=⟨_,Tryz.func94,by kernel_rfl,by kernel_rfl,by kernel_rfl⟩
theorem c95_is:FI 95 c95 tyG:=⟨_,Tryz.func95,by kernel_rfl,by kernel_rfl,by kernel_rfl⟩
theorem c96_is:FI 96 c96 tyG:=⟨_,Tryz.func96,by kernel_rfl,by kernel_rfl,by kernel_rfl⟩
theorem c97_is:FI 97 c97 tyG:=⟨_,Tryz.func97,by kernel_rfl,by kernel_rfl,by kernel_rfl⟩
theorem c101_is:FI 101 c101 tyG:=⟨_,Tryz.func101,by kernel_rfl,by kernel_rfl,by kernel_rfl⟩
theorem c102_is:FI 102 c102 tyG:=⟨_,Tryz.func102,by kernel_rfl,by kernel_rfl,by kernel_rfl⟩
theorem c107_is:FI 107 c107 tyG:=⟨_,Tryz.func107,by kernel_rfl,by kernel_rfl,by kernel_rfl⟩
theorem c117_is:FI 117 c117 tyG:=⟨_,Tryz.func117,by kernel_rfl,by kernel_rfl,by kernel_rfl⟩
theorem c118_is:FI 118 c118 tyG:=⟨_,Tryz.func118,by kernel_rfl,by kernel_rfl,by kernel_rfl⟩
theorem c119_is:FI 119 c119 tyG:=⟨_,Tryz.func119,by kernel_rfl,by kernel_rfl,by kernel_rfl⟩
theorem c120_is:FI 120 c120 tyG:=⟨_,Tryz.func120,by kernel_rfl,by kernel_rfl,by kernel_rfl⟩
theorem c121_is:FI 121 c121 tyG:=⟨_,Tryz.func121,by kernel_rfl,by kernel_rfl,by kernel_rfl⟩
theorem c122_is:FI 122 c122 tyG:=⟨_,Tryz.func122,by kernel_rfl,by kernel_rfl,by kernel_rfl⟩
theorem c123_is:FI 123 c123 tyG:=⟨_,Tryz.func123,by kernel_rfl,by kernel_rfl,by kernel_rfl⟩
theorem c124_is:FI 124 c124 tyG:=⟨_,Tryz.func124,by kernel_rfl,by kernel_rfl,by kernel_rfl⟩
theorem c125_is:FI 125 c125 tyG:=⟨_,Tryz.func125,by kernel_rfl,by kernel_rfl,by kernel_rfl⟩
theorem c126_is:FI 126 c126 tyG:=⟨_,Tryz.func126,by kernel_rfl,by kernel_rfl,by kernel_rfl⟩
theorem c127_is:FI 127 c127 tyG:=⟨_,Tryz.func127,by kernel_rfl,by kernel_rfl,by kernel_rfl⟩
theorem c128_is:FI 128 c128 tyG:=⟨_,Tryz.func128,by kernel_rfl,by kernel_rfl,by kernel_rfl⟩
theorem c129_is:FI 129 c129 tyG:=⟨_,Tryz.func129,by kernel_rfl,by kernel_rfl,by kernel_rfl⟩
theorem c130_is:FI 130 c130 tyG:=⟨_,Tryz.func130,by kernel_rfl,by kernel_rfl,by kernel_rfl⟩
theorem c131_is:FI 131 c131 tyG:=⟨_,Tryz.func131,by kernel_rfl,by kernel_rfl,by kernel_rfl⟩
theorem c132_is:FI 132 c132 tyG:=⟨_,Tryz.func132,by kernel_rfl,by kernel_rfl,by kernel_rfl⟩
theorem c144_is:FI 144 c144 tyG:=⟨_,Tryz.func144,by kernel_rfl,by kernel_rfl,by kernel_rfl⟩
theorem c145_is:FI 145 c145 tyG:=⟨_,Tryz.func145,by kernel_rfl,by kernel_rfl,by kernel_rfl⟩
theorem c146_is:FI 146 c146 tyG:=⟨_,Tryz.func146,by kernel_rfl,by kernel_rfl,by kernel_rfl⟩
theorem c148_is:FI 148 c148 tyG:=⟨_,Tryz.func148,by kernel_rfl,by kernel_rfl,by kernel_rfl⟩
theorem c149_is:FI 149 c149 tyG:=⟨_,Tryz.func149,by kernel_rfl,by kernel_rfl,by kernel_rfl⟩
theorem c156_is:FI 156 c156 tyG:=⟨_,Tryz.func156,by kernel_rfl,by kernel_rfl,by kernel_rfl⟩
theorem c157_is:FI 157 c157 tyG:=⟨_,Tryz.func157,by kernel_rfl,by kernel_rfl,by kernel_rfl⟩
theorem c158_is:FI 158 c158 tyG:=⟨_,Tryz.func158,by kernel_rfl,by kernel_rfl,by kernel_rfl⟩
theorem c159_is:FI 159 c159 tyG:=⟨_,Tryz.func159,by kernel_rfl,by kernel_rfl,by kernel_rfl⟩
theorem c160_is:FI 160 c160 tyG:=⟨_,Tryz.func160,by kernel_rfl,by kernel_rfl,by kernel_rfl⟩
theorem c161_is:FI 161 c161 tyG:=⟨_,Tryz.func161,by kernel_rfl,by kernel_rfl,by kernel_rfl⟩
theorem c168_is:FI 168 c168 tyG:=⟨_,Tryz.func168,by kernel_rfl,by kernel_rfl,by kernel_rfl⟩
theorem fnOK:FnOk Tryz.prog tyG fnG:=by
 refine⟨fun f fd h=>?_⟩
 have key:fnT.all fun f fd=>FI f fd tyG:=
  ⟨aN,⟨aN,⟨aN,⟨aS c7_is,⟨aS c15_is,⟨aS c31_is,⟨aN,⟨aS c127_is,⟨⟩,⟨⟩⟩,⟨⟩⟩,⟨aS c95_is,⟨aS c159_is,⟨⟩,⟨⟩⟩,⟨⟩⟩⟩,⟨aN,⟨aS c79_is,⟨⟩,⟨⟩⟩,⟨⟩⟩⟩,⟨aS c23_is,⟨aS c39_is,⟨aS c71_is,⟨⟩,⟨⟩⟩,⟨⟩⟩,⟨aN,⟨aS c87_is,⟨⟩,⟨⟩⟩,⟨aS c119_is,⟨⟩,⟨⟩⟩⟩⟩⟩,⟨aN,⟨aS c19_is,⟨aS c35_is,⟨aS c67_is,⟨aS c131_is,⟨⟩,⟨⟩⟩,⟨⟩⟩,⟨⟩⟩,⟨aN,⟨aS c83_is,⟨⟩,⟨⟩⟩,⟨⟩⟩⟩,⟨aS c27_is,⟨aN,⟨aS c75_is,⟨⟩,⟨⟩⟩,⟨aS c107_is,⟨⟩,⟨⟩⟩⟩,⟨aN,⟨⟩,⟨aS c123_is,⟨⟩,⟨⟩⟩⟩⟩⟩⟩,⟨aS c5_is,⟨aS c9_is,⟨aS c17_is,⟨aS c33_is,⟨aN,⟨aS c129_is,⟨⟩,⟨⟩⟩,⟨⟩⟩,⟨aS c97_is,⟨aS c161_is,⟨⟩,⟨⟩⟩,⟨⟩⟩⟩,⟨aN,⟨aS c81_is,⟨aS c145_is,⟨⟩,⟨⟩⟩,⟨⟩⟩,⟨⟩⟩⟩,⟨aS c25_is,⟨aN,⟨aS c73_is,⟨⟩,⟨⟩⟩,⟨⟩⟩,⟨aN,⟨aS c89_is,⟨⟩,⟨⟩⟩,⟨aS c121_is,⟨⟩,⟨⟩⟩⟩⟩⟩,⟨aN,⟨aS c21_is,⟨aS c37_is,⟨aS c69_is,⟨⟩,⟨⟩⟩,⟨aS c101_is,⟨⟩,⟨⟩⟩⟩,⟨aN,⟨aN,⟨aS c149_is,⟨⟩,⟨⟩⟩,⟨⟩⟩,⟨aS c117_is,⟨⟩,⟨⟩⟩⟩⟩,⟨aN,⟨aN,⟨aS c77_is,⟨⟩,⟨⟩⟩,⟨⟩⟩,⟨aN,⟨aS c93_is,⟨aS c157_is,⟨⟩,⟨⟩⟩,⟨⟩⟩,⟨aS c125_is,⟨⟩,⟨⟩⟩⟩⟩⟩⟩⟩,⟨aN,⟨aS c4_is,⟨aS c8_is,⟨aS c16_is,⟨aS c32_is,⟨aN,⟨aS c128_is,⟨⟩,⟨⟩⟩,⟨⟩⟩,⟨aS c96_is,⟨aS c160_is,⟨⟩,⟨⟩⟩,⟨⟩⟩⟩,⟨aN,⟨aS c80_is,⟨aS c144_is,⟨⟩,⟨⟩⟩,⟨⟩⟩,⟨⟩⟩⟩,⟨aN,⟨aN,⟨aS c72_is,⟨⟩,⟨⟩⟩,⟨aN,⟨aS c168_is,⟨⟩,⟨⟩⟩,⟨⟩⟩⟩,⟨aN,⟨aS c88_is,⟨⟩,⟨⟩⟩,⟨aS c120_is,⟨⟩,⟨⟩⟩⟩⟩⟩,⟨aN,⟨aS c20_is,⟨aS c36_is,⟨aS c68_is,⟨aS c132_is,⟨⟩,⟨⟩⟩,⟨⟩⟩,⟨⟩⟩,⟨aN,⟨aN,⟨aS c148_is,⟨⟩,⟨⟩⟩,⟨⟩⟩,⟨⟩⟩⟩,⟨aS c28_is,⟨aN,⟨aS c76_is,⟨⟩,⟨⟩⟩,⟨⟩⟩,⟨aN,⟨aS c92_is,⟨aS c156_is,⟨⟩,⟨⟩⟩,⟨⟩⟩,⟨aS c124_is,⟨⟩,⟨⟩⟩⟩⟩⟩⟩,⟨aN,⟨aN,⟨aS c18_is,⟨aS c34_is,⟨aN,⟨aS c130_is,⟨⟩,⟨⟩⟩,⟨⟩⟩,⟨⟩⟩,⟨aS c50_is,⟨aS c82_is,⟨aS c146_is,⟨⟩,⟨⟩⟩,⟨⟩⟩,⟨⟩⟩⟩,⟨aS c26_is,⟨aN,⟨aS c74_is,⟨⟩,⟨⟩⟩,⟨⟩⟩,⟨aS c58_is,⟨aS c90_is,⟨⟩,⟨⟩⟩,⟨aS c122_is,⟨⟩,⟨⟩⟩⟩⟩⟩,⟨aN,⟨aS c22_is,⟨aS c38_is,⟨aS c70_is,⟨⟩,⟨⟩⟩,⟨aS c102_is,⟨⟩,⟨⟩⟩⟩,⟨aN,⟨aS c86_is,⟨⟩,⟨⟩⟩,⟨aS c118_is,⟨⟩,⟨⟩⟩⟩⟩,⟨aS c30_is,⟨aN,⟨aS c78_is,⟨⟩,⟨⟩⟩,⟨⟩⟩,⟨aN,⟨aS c94_is,⟨aS c158_is,⟨⟩,⟨⟩⟩,⟨⟩⟩,⟨aS c126_is,⟨⟩,⟨⟩⟩⟩⟩⟩⟩⟩⟩
 exact T.all_get key h
theorem depth_ok:8≤Tryz.prog.depth:=Nat.le_of_ble_eq_true (by kernel_rfl)
theorem mixed_ok:Tryz.prog.follows .mixedOrders=true:=by kernel_rfl
end Go.Ab.Tryz
