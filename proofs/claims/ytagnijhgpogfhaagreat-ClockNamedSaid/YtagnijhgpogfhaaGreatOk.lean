/- The types and the code that our machine has are the program's (printed by a program of ours). -/
import Derived.Test.YtagnijhgpogfhaaGreatProg
import Derived.Test.YtagnijhgpogfhaaGreatDat
import Derived.Test.YtagnijhgpogfhaaGreatAbS
import Derived.KernelRfl
set_option linter.unusedSimpArgs false
set_option linter.unusedVariables false
namespace Go.Ab.Tryz
open Go.Proofs
abbrev TI (t:Nat) (d:TD):Prop:=∃i u,TyIs Tryz.prog t d i u
abbrev FI (f:Nat) (d:FD) (G:Nat→Option TD):Prop:=∃fn,Tryz.prog.funcs[f]? =some fn∧(fn.name== "runtime.NumGoroutine")=false∧compF G fn=some d∧d.body.lt d.ntmps=true
theorem aN {α:Type}{p:α→Prop}:∀a,(none:Option α)=some a→p a:=fun a h=>by cases h
theorem aS {α:Type}{p:α→Prop}{v:α}(h:p v):∀a,some v=some a→p a:=fun a e=>by cases e;exact h
theorem ty3_is:TI 3 ty3:=⟨Tryz.prog.types.getD 3 default,_,⟨by kernel_rfl,Tryz.underlying3,by simp[ty3,UD.is],by kernel_rfl,by kernel_rfl,by kernel_rfl,by simp[ty3,scL,V.sc],by kernel_rfl,(fun _=>⟨_,rfl,rfl⟩),by kernel_rfl⟩⟩
theorem ty4_is:TI 4 ty4:=⟨Tryz.prog.types.getD 4 default,_,⟨by kernel_rfl,Tryz.underlying4,by simp[ty4,UD.is],by kernel_rfl,by kernel_rfl,by kernel_rfl,by simp[ty4,scL,V.sc],by kernel_rfl,(fun _=>⟨_,rfl,rfl⟩),by kernel_rfl⟩⟩
theorem ty5_is:TI 5 ty5:=⟨Tryz.prog.types.getD 5 default,_,⟨by kernel_rfl,Tryz.underlying5,by simp[ty5,UD.is],by kernel_rfl,by kernel_rfl,by kernel_rfl,by simp[ty5,scL,V.sc],by kernel_rfl,(fun _=>⟨_,rfl,rfl⟩),by kernel_rfl⟩⟩
theorem ty22_is:TI 22 ty22:=⟨Tryz.prog.types.getD 22 default,_,⟨by kernel_rfl,Tryz.underlying22,by simp[ty22,UD.is],by kernel_rfl,by kernel_rfl,by kernel_rfl,by simp[ty22,scL,V.sc],by kernel_rfl,(fun _=>⟨_,rfl,rfl⟩),by kernel_rfl⟩⟩
theorem ty23_is:TI 23 ty23:=⟨Tryz.prog.types.getD 23 default,_,⟨by kernel_rfl,Tryz.underlying23,by simp[ty23,UD.is],by kernel_rfl,by kernel_rfl,by kernel_rfl,by simp[ty23,scL,V.sc],by kernel_rfl,(fun _=>⟨_,rfl,rfl⟩),by kernel_rfl⟩⟩
theorem ty24_is:TI 24 ty24:=⟨Tryz.prog.types.getD 24 default,_,⟨by kernel_rfl,Tryz.underlying24,by simp[ty24,UD.is],by kernel_rfl,by kernel_rfl,by kernel_rfl,by simp[ty24,scL,V.sc],by kernel_rfl,(fun _=>⟨_,rfl,rfl⟩),by kernel_rfl⟩⟩
theorem ty25_is:TI 25 ty25:=⟨Tryz.prog.types.getD 25 default,_,⟨by kernel_rfl,Tryz.underlying25,by simp[ty25,UD.is],by kernel_rfl,by kernel_rfl,by kernel_rfl,by simp[ty25,scL,V.sc],by kernel_rfl,(fun _=>⟨_,rfl,rfl⟩),by kernel_rfl⟩⟩
theorem ty27_is:TI 27 ty27:=⟨Tryz.prog.types.getD 27 default,_,⟨by kernel_rfl,Tryz.underlying27,by simp[ty27,UD.is],by kernel_rfl,by kernel_rfl,by kernel_rfl,by simp[ty27,scL,V.sc],by kernel_rfl,(fun h=>by cases h),by kernel_rfl⟩⟩
theorem ty28_is:TI 28 ty28:=⟨Tryz.prog.types.getD 28 default,_,⟨by kernel_rfl,Tryz.underlying28,by simp[ty28,UD.is],by kernel_rfl,by kernel_rfl,by kernel_rfl,by simp[ty28,scL,V.sc],by kernel_rfl,(fun _=>⟨_,rfl,rfl⟩),by kernel_rfl⟩⟩
theorem ty30_is:TI 30 ty30:=⟨Tryz.prog.types.getD 30 default,_,⟨by kernel_rfl,Tryz.underlying30,by simp[ty30,UD.is],by kernel_rfl,by kernel_rfl,by kernel_rfl,by simp[ty30,scL,V.sc],by kernel_rfl,(fun h=>by cases h),by kernel_rfl⟩⟩
theorem ty36_is:TI 36 ty36:=⟨Tryz.prog.types.getD 36 default,_,⟨by kernel_rfl,Tryz.underlying36,by simp[ty36,UD.is],by kernel_rfl,by kernel_rfl,by kernel_rfl,by simp[ty36,scL,V.sc],by kernel_rfl,(fun h=>by cases h),by kernel_rfl⟩⟩
theorem ty40_is:TI 40 ty40:=⟨Tryz.prog.types.getD 40 default,_,⟨by kernel_rfl,Tryz.underlying40,by simp[ty40,UD.is],by kernel_rfl,by kernel_rfl,by kernel_rfl,by simp[ty40,scL,V.sc],by kernel_rfl,(fun h=>by cases h),by kernel_rfl⟩⟩
theorem ty42_is:TI 42 ty42:=⟨Tryz.prog.types.getD 42 default,_,⟨by kernel_rfl,Tryz.underlying42,by simp[ty42,UD.is],by kernel_rfl,by kernel_rfl,by kernel_rfl,by simp[ty42,scL,V.sc],by kernel_rfl,(fun h=>by cases h),by kernel_rfl⟩⟩
theorem ty44_is:TI 44 ty44:=⟨Tryz.prog.types.getD 44 default,_,⟨by kernel_rfl,Tryz.underlying44,by simp[ty44,UD.is],by kernel_rfl,by kernel_rfl,by kernel_rfl,by simp[ty44,scL,V.sc],by kernel_rfl,(fun h=>by cases h),by kernel_rfl⟩⟩
theorem ty45_is:TI 45 ty45:=⟨Tryz.prog.types.getD 45 default,_,⟨by kernel_rfl,Tryz.underlying45,by simp[ty45,UD.is],by kernel_rfl,by kernel_rfl,by kernel_rfl,by simp[ty45,scL,V.sc],by kernel_rfl,(fun _=>⟨_,rfl,rfl⟩),by kernel_rfl⟩⟩
theorem ty107_is:TI 107 ty107:=⟨Tryz.prog.types.getD 107 default,_,⟨by kernel_rfl,Tryz.underlying107,by simp[ty107,UD.is],by kernel_rfl,by kernel_rfl,by kernel_rfl,by simp[ty107,scL,V.sc],by kernel_rfl,(fun _=>⟨_,rfl,rfl⟩),by kernel_rfl⟩⟩
theorem ty109_is:TI 109 ty109:=⟨Tryz.prog.types.getD 109 default,_,⟨by kernel_rfl,Tryz.underlying109,by simp[ty109,UD.is],by kernel_rfl,by kernel_rfl,by kernel_rfl,by simp[ty109,scL,V.sc],by kernel_rfl,(fun _=>⟨_,rfl,rfl⟩),by kernel_rfl⟩⟩
theorem ty114_is:TI 114 ty114:=⟨Tryz.prog.types.getD 114 default,_,⟨by kernel_rfl,Tryz.underlying114,by simp[ty114,UD.is],by kernel_rfl,by kernel_rfl,by kernel_rfl,by simp[ty114,scL,V.sc],by kernel_rfl,(fun _=>⟨_,rfl,rfl⟩),by kernel_rfl⟩⟩
theorem ty124_is:TI 124 ty124:=⟨Tryz.prog.types.getD 124 default,_,⟨by kernel_rfl,Tryz.underlying124,by simp[ty124,UD.is],by kernel_rfl,by kernel_rfl,by kernel_rfl,by simp[ty124,scL,V.sc],by kernel_rfl,(fun _=>⟨_,rfl,rfl⟩),by kernel_rfl⟩⟩
theorem ty126_is:TI 126 ty126:=⟨Tryz.prog.types.getD 126 default,_,⟨by kernel_rfl,Tryz.underlying126,by simp[ty126,UD.is],by kernel_rfl,by kernel_rfl,by kernel_rfl,by simp[ty126,scL,V.sc],by kernel_rfl,(fun h=>by cases h),by kernel_rfl⟩⟩
theorem ty130_is:TI 130 ty130:=⟨Tryz.prog.types.getD 130 default,_,⟨by kernel_rfl,Tryz.underlying130,by simp[ty130,UD.is],by kernel_rfl,by kernel_rfl,by kernel_rfl,by simp[ty130,scL,V.sc],by kernel_rfl,(fun _=>⟨_,rfl,rfl⟩),by kernel_rfl⟩⟩
theorem ty131_is:TI 131 ty131:=⟨Tryz.prog.types.getD 131 default,_,⟨by kernel_rfl,Tryz.underlying131,by simp[ty131,UD.is],by kernel_rfl,by kernel_rfl,by kernel_rfl,by simp[ty131,scL,V.sc],by kernel_rfl,(fun _=>⟨_,rfl,rfl⟩),by kernel_rfl⟩⟩
theorem ty137_is:TI 137 ty137:=⟨Tryz.prog.types.getD 137 default,_,⟨by kernel_rfl,Tryz.underlying137,by simp[ty137,UD.is],by kernel_rfl,by kernel_rfl,by kernel_rfl,by simp[ty137,scL,V.sc],by kernel_rfl,(fun h=>by cases h),by kernel_rfl⟩⟩
theorem ty141_is:TI 141 ty141:=⟨Tryz.prog.types.getD 141 default,_,⟨by kernel_rfl,Tryz.underlying141,by simp[ty141,UD.is],by kernel_rfl,by kernel_rfl,by kernel_rfl,by simp[ty141,scL,V.sc],by kernel_rfl,(fun h=>by cases h),by kernel_rfl⟩⟩
theorem ty144_is:TI 144 ty144:=⟨Tryz.prog.types.getD 144 default,_,⟨by kernel_rfl,Tryz.underlying144,by simp[ty144,UD.is],by kernel_rfl,by kernel_rfl,by kernel_rfl,by simp[ty144,scL,V.sc],by kernel_rfl,(fun _=>⟨_,rfl,rfl⟩),by kernel_rfl⟩⟩
theorem ty146_is:TI 146 ty146:=⟨Tryz.prog.types.getD 146 default,_,⟨by kernel_rfl,Tryz.underlying146,by simp[ty146,UD.is],by kernel_rfl,by kernel_rfl,by kernel_rfl,by simp[ty146,scL,V.sc],by kernel_rfl,(fun h=>by cases h),by kernel_rfl⟩⟩
theorem ty162_is:TI 162 ty162:=⟨Tryz.prog.types.getD 162 default,_,⟨by kernel_rfl,Tryz.underlying162,by simp[ty162,UD.is],by kernel_rfl,by kernel_rfl,by kernel_rfl,by simp[ty162,scL,V.sc],by kernel_rfl,(fun _=>⟨_,rfl,rfl⟩),by kernel_rfl⟩⟩
theorem ty163_is:TI 163 ty163:=⟨Tryz.prog.types.getD 163 default,_,⟨by kernel_rfl,Tryz.underlying163,by simp[ty163,UD.is],by kernel_rfl,by kernel_rfl,by kernel_rfl,by simp[ty163,scL,V.sc],by kernel_rfl,(fun h=>by cases h),by kernel_rfl⟩⟩
theorem ty165_is:TI 165 ty165:=⟨Tryz.prog.types.getD 165 default,_,⟨by kernel_rfl,Tryz.underlying165,by simp[ty165,UD.is],by kernel_rfl,by kernel_rfl,by kernel_rfl,by simp[ty165,scL,V.sc],by kernel_rfl,(fun h=>by cases h),by kernel_rfl⟩⟩
theorem ty167_is:TI 167 ty167:=⟨Tryz.prog.types.getD 167 default,_,⟨by kernel_rfl,Tryz.underlying167,by simp[ty167,UD.is],by kernel_rfl,by kernel_rfl,by kernel_rfl,by simp[ty167,scL,V.sc],by kernel_rfl,(fun h=>by cases h),by kernel_rfl⟩⟩
theorem ty176_is:TI 176 ty176:=⟨Tryz.prog.types.getD 176 default,_,⟨by kernel_rfl,Tryz.underlying176,by simp[ty176,UD.is],by kernel_rfl,by kernel_rfl,by kernel_rfl,by simp[ty176,scL,V.sc],by kernel_rfl,(fun _=>⟨_,rfl,rfl⟩),by kernel_rfl⟩⟩
theorem ty178_is:TI 178 ty178:=⟨Tryz.prog.types.getD 178 default,_,⟨by kernel_rfl,Tryz.underlying178,by simp[ty178,UD.is],by kernel_rfl,by kernel_rfl,by kernel_rfl,by simp[ty178,scL,V.sc],by kernel_rfl,(fun _=>⟨_,rfl,rfl⟩),by kernel_rfl⟩⟩
theorem ty180_is:TI 180 ty180:=⟨Tryz.prog.types.getD 180 default,_,⟨by kernel_rfl,Tryz.underlying180,by simp[ty180,UD.is],by kernel_rfl,by kernel_rfl,by kernel_rfl,by simp[ty180,scL,V.sc],by kernel_rfl,(fun _=>⟨_,rfl,rfl⟩),by kernel_rfl⟩⟩
theorem ty195_is:TI 195 ty195:=⟨Tryz.prog.types.getD 195 default,_,⟨by kernel_rfl,Tryz.underlying195,by simp[ty195,UD.is],by kernel_rfl,by kernel_rfl,by kernel_rfl,by simp[ty195,scL,V.sc],by kernel_rfl,(fun _=>⟨_,rfl,rfl⟩),by kernel_rfl⟩⟩
theorem ty200_is:TI 200 ty200:=⟨Tryz.prog.types.getD 200 default,_,⟨by kernel_rfl,Tryz.underlying200,by simp[ty200,UD.is],by kernel_rfl,by kernel_rfl,by kernel_rfl,by simp[ty200,scL,V.sc],by kernel_rfl,(fun _=>⟨_,rfl,rfl⟩),by kernel_rfl⟩⟩
theorem ty201_is:TI 201 ty201:=⟨Tryz.prog.types.getD 201 default,_,⟨by kernel_rfl,Tryz.underlying201,by simp[ty201,UD.is],by kernel_rfl,by kernel_rfl,by kernel_rfl,by simp[ty201,scL,V.sc],by kernel_rfl,(fun _=>⟨_,rfl,rfl⟩),by kernel_rfl⟩⟩
noncomputable def tyG (t:Nat):Option TD:=tyT.get t
noncomputable def fnG (f:Nat):Option FD:=fnT.get f
theorem tyOK:TyOK Tryz.prog tyG:=by
 intro t d h
 have key:tyT.all TI:=⟨aN,⟨aN,⟨aS ty3_is,⟨aN,⟨⟩,⟨aS ty23_is,⟨aN,⟨⟩,⟨aN,⟨aS ty167_is,⟨⟩,⟨⟩⟩,⟨⟩⟩⟩,⟨⟩⟩⟩,⟨aN,⟨aN,⟨aN,⟨aN,⟨aS ty131_is,⟨⟩,⟨⟩⟩,⟨aS ty195_is,⟨⟩,⟨⟩⟩⟩,⟨aN,⟨aS ty163_is,⟨⟩,⟨⟩⟩,⟨⟩⟩⟩,⟨⟩⟩,⟨aS ty27_is,⟨aN,⟨⟩,⟨aS ty107_is,⟨⟩,⟨⟩⟩⟩,⟨⟩⟩⟩⟩,⟨aS ty5_is,⟨aN,⟨⟩,⟨aS ty25_is,⟨aN,⟨aN,⟨aS ty137_is,⟨⟩,⟨⟩⟩,⟨aS ty201_is,⟨⟩,⟨⟩⟩⟩,⟨⟩⟩,⟨⟩⟩⟩,⟨aN,⟨aN,⟨aN,⟨⟩,⟨aN,⟨aS ty165_is,⟨⟩,⟨⟩⟩,⟨⟩⟩⟩,⟨⟩⟩,⟨aN,⟨aS ty45_is,⟨aN,⟨aS ty141_is,⟨⟩,⟨⟩⟩,⟨⟩⟩,⟨aS ty109_is,⟨⟩,⟨⟩⟩⟩,⟨⟩⟩⟩⟩⟩,⟨aN,⟨aS ty4_is,⟨aN,⟨aN,⟨⟩,⟨aN,⟨aN,⟨aS ty144_is,⟨⟩,⟨⟩⟩,⟨⟩⟩,⟨aN,⟨aS ty176_is,⟨⟩,⟨⟩⟩,⟨⟩⟩⟩⟩,⟨aS ty24_is,⟨aS ty40_is,⟨aN,⟨⟩,⟨aS ty200_is,⟨⟩,⟨⟩⟩⟩,⟨⟩⟩,⟨⟩⟩⟩,⟨aN,⟨aN,⟨aS ty36_is,⟨⟩,⟨⟩⟩,⟨aN,⟨⟩,⟨aN,⟨aS ty180_is,⟨⟩,⟨⟩⟩,⟨⟩⟩⟩⟩,⟨aS ty28_is,⟨aS ty44_is,⟨⟩,⟨⟩⟩,⟨aN,⟨⟩,⟨aS ty124_is,⟨⟩,⟨⟩⟩⟩⟩⟩⟩,⟨aN,⟨aN,⟨aN,⟨aN,⟨aN,⟨aS ty130_is,⟨⟩,⟨⟩⟩,⟨⟩⟩,⟨aN,⟨aS ty162_is,⟨⟩,⟨⟩⟩,⟨⟩⟩⟩,⟨aN,⟨aN,⟨aS ty146_is,⟨⟩,⟨⟩⟩,⟨⟩⟩,⟨aS ty114_is,⟨aS ty178_is,⟨⟩,⟨⟩⟩,⟨⟩⟩⟩⟩,⟨aN,⟨aS ty42_is,⟨⟩,⟨⟩⟩,⟨⟩⟩⟩,⟨aN,⟨aS ty22_is,⟨⟩,⟨⟩⟩,⟨aS ty30_is,⟨⟩,⟨aN,⟨⟩,⟨aS ty126_is,⟨⟩,⟨⟩⟩⟩⟩⟩⟩⟩⟩
 exact T.all_get key h
theorem c3_is:FI 3 c3 tyG:=⟨_,Tryz.func3,by kernel_rfl,by kernel_rfl,by kernel_rfl⟩
theorem c14_is:FI 14 c14 tyG:=⟨_,Tryz.func14,by kernel_rfl,by kernel_rfl,by kernel_rfl⟩
theorem c15_is:FI 15 c15 tyG:=⟨_,Tryz.func15,by kernel_rfl,by kernel_rfl,by kernel_rfl⟩
theorem c16_is:FI 16 c16 tyG:=⟨_,Tryz.func16,by kernel_rfl,by kernel_rfl,by kernel_rfl⟩
theorem c17_is:FI 17 c17 tyG:=⟨_,Tryz.func17,by kernel_rfl,by kernel_rfl,by kernel_rfl⟩
theorem c18_is:FI 18 c18 tyG:=⟨_,Tryz.func18,by kernel_rfl,by kernel_rfl,by kernel_rfl⟩
theorem c19_is:FI 19 c19 tyG:=⟨_,Tryz.func19,by kernel_rfl,by kernel_rfl,by kernel_rfl⟩
theorem c20_is:FI 20 c20 tyG:=⟨_,Tryz.func20,by kernel_rfl,by kernel_rfl,by kernel_rfl⟩
theorem c21_is:FI 21 c21 tyG:=⟨_,Tryz.func21,by kernel_rfl,by kernel_rfl,by kernel_rfl⟩
theorem c22_is:FI 22 c22 tyG:=⟨_,Tryz.func22,by kernel_rfl,by kernel_rfl,by kernel_rfl⟩
theorem c32_is:FI 32 c32 tyG:=⟨_,Tryz.func32,by kernel_rfl,by kernel_rfl,by kernel_rfl⟩
theorem c34_is:FI 34 c34 tyG:=⟨_,Tryz.func34,by kernel_rfl,by kernel_rfl,by kernel_rfl⟩
theorem c44_is:FI 44 c44 tyG:=⟨_,Tryz.func44,by kernel_rfl,by kernel_rfl,by kernel_rfl⟩
theorem c49_is:FI 49 c49 tyG:=⟨_,Tryz.func49,by kernel_rfl,by kernel_rfl,by kernel_rfl⟩
theorem c53_is:FI 53 c53 tyG:=⟨_,Tryz.func53,by kernel_rfl,by kernel_rfl,by kernel_rfl⟩
theorem c57_is:FI 57 c57 tyG:=⟨_,Tryz.func57,by kernel_rfl,by kernel_rfl,by kernel_rfl⟩
theorem c61_is:FI 61 c61 tyG:=⟨_,Tryz.func61,by kernel_rfl,by kernel_rfl,by kernel_rfl⟩
theorem c70_is:FI 70 c70 tyG:=⟨_,Tryz.func70,by kernel_rfl,by kernel_rfl,by kernel_rfl⟩
theorem c71_is:FI 71 c71 tyG:=⟨_,Tryz.func71,by kernel_rfl,by kernel_rfl,by kernel_rfl⟩
theorem c72_is:FI 72 c72 tyG:=⟨_,Tryz.func72,by kernel_rfl,by kernel_rfl,by kernel_rfl⟩
theorem c73_is:FI 73 c73 tyG:=⟨_,Tryz.func73,by kernel_rfl,by kernel_rfl,by kernel_rfl⟩
theorem c74_is:FI 74 c74 tyG:=⟨_,Tryz.func74,by kernel_rfl,by kernel_rfl,by kernel_rfl⟩
theorem c75_is:FI 75 c75 tyG:=⟨_,Tryz.func75,by kernel_rfl,by kernel_rfl,by kernel_rfl⟩
theorem c76_is:FI 76 c76 tyG:=⟨_,Tryz.func76,by kernel_rfl,by kernel_rfl,by kernel_rfl⟩
theorem c77_is:FI 77 c77 tyG:=⟨_,Tryz.func77,by kernel_rfl,by kernel_rfl,by kernel_rfl⟩
theorem c78_is:FI 78 c78 tyG:=⟨_,Tryz.func78,by kernel_rfl,by kernel_rfl,by kernel_rfl⟩
theorem c79_is:FI 79 c79 tyG:=⟨_,Tryz.func79,by kernel_rfl,by kernel_rfl,by kernel_rfl⟩
theorem c80_is:FI 80 c80 tyG:=⟨_,Tryz.func80,by kernel_rfl,by kernel_rfl,by kernel_rfl⟩
theorem c81_is:FI 81 c81 tyG:=⟨_,Tryz.func81,by kernel_rfl,by kernel_rfl,by kernel_rfl⟩
theorem c82_is:FI 82 c82 tyG:=⟨_,Tryz.func82,by kernel_rfl,by kernel_rfl,by kernel_rfl⟩
theorem c83_is:FI 83 c83 tyG:=⟨_,Tryz.func83,by kernel_rfl,by kernel_rfl,by kernel_rfl⟩
theorem c84_is:FI 84 c84 tyG:=⟨_,Tryz.func84,by kernel_rfl,by kernel_rfl,by kernel_rfl⟩
theorem c85_is:FI 85 c85 tyG:=⟨_,Tryz.func85,by kernel_rfl,by kernel_rfl,by kernel_rfl⟩
theorem c86_is:FI 86 c86 tyG:=⟨_,Tryz.func86,by kernel_rfl,by kernel_rfl,by kernel_rfl⟩
theorem c87_is:FI 87 c87 tyG:=⟨_,Tryz.func87,by kernel_rfl,by kernel_rfl,by kernel_rfl⟩
theorem c88_is:FI 88 c88 tyG:=⟨_,Tryz.func88,by kernel_rfl,by kernel_rfl,by kernel_rfl⟩
theorem c89_is:FI 89 c89 tyG:=⟨_,Tryz.func89,by kernel_rfl,by kernel_rfl,by kernel_rfl⟩
theorem c90_is:FI 90 c90 tyG:=⟨_,Tryz.func90,by kernel_rfl,by kernel_rfl,by kernel_rfl⟩
theorem c98_is:FI 98 c98 tyG:=⟨_,Tryz.func98,by kernel_rfl,by kernel_rfl,by kernel_rfl⟩
theorem c106_is:FI 106 c106 tyG:=⟨_,Tryz.func106,by kernel_rfl,by kernel_rfl,by kernel_rfl⟩
theorem c116_is:FI 116 c116 tyG:=⟨_,Tryz.func116,by kernel_rfl,by kernel_rfl,by kernel_rfl⟩
theorem c117_is:FI 117 c117 tyG:=⟨_,Tryz.func117,by kernel_rfl,by kernel_rfl,by kernel_rfl⟩
theorem c118_is:FI 118 c118 tyG:=⟨_,Tryz.func118,by kernel_rfl,by kernel_rfl,by kernel_rfl⟩
theorem c121_is:FI 121 c121 tyG:=⟨_,Tryz.func121,by kernel_rfl,by kernel_rfl,by kernel_rfl⟩
theorem c123_is:FI 123 c123 tyG:=⟨_,Tryz.func123,by kernel_rfl,by kernel_rfl,by kernel_rfl⟩
theorem c125_is:FI 125 c125 tyG:=⟨_,Tryz.func125,by kernel_rfl,by kernel_rfl,by kernel_rfl⟩
theorem c126_is:FI 126 c126 tyG:=⟨_,Tryz.func126,by kernel_rfl,by kernel_rfl,by kernel_rfl⟩
theorem c127_is:FI 127 c127 tyG:=⟨_,Tryz.func127,by kernel_rfl,by kernel_rfl,by kernel_rfl⟩
theorem c128_is:FI 128 c128 tyG:=⟨_,Tryz.func128,by kernel_rfl,by kernel_rfl,by kernel_rfl⟩
theorem c129_is:FI 129 c129 tyG:=⟨_,Tryz.func129,by kernel_rfl,by kernel_rfl,by kernel_rfl⟩
theorem c130_is:FI 130 c130 tyG:=⟨_,Tryz.func130,by kernel_rfl,by kernel_rfl,by kernel_rfl⟩
theorem c131_is:FI 131 c131 tyG:=⟨_,Tryz.func131,by kernel_rfl,by kernel_rfl,by kernel_rfl⟩
theorem c132_is:FI 132 c132 tyG:=⟨_,Tryz.func132,by kernel_rfl,by kernel_rfl,by kernel_rfl⟩
theorem c133_is:FI 133 c133 tyG:=⟨_,Tryz.func133,by kernel_rfl,by kernel_rfl,by kernel_rfl⟩
theorem c134_is:FI 134 c134 tyG:=⟨_,Tryz.func134,by kernel_rfl,by kernel_rfl,by kernel_rfl⟩
theorem c135_is:FI 135 c135 tyG:=⟨_,Tryz.func135,by kernel_rfl,by kernel_rfl,by kernel_rfl⟩
theorem c136_is:FI 136 c136 tyG:=⟨_,Tryz.func136,by kernel_rfl,by kernel_rfl,by kernel_rfl⟩
theorem c139_is:FI 139 c139 tyG:=⟨_,Tryz.func139,by kernel_rfl,by kernel_rfl,by kernel_rfl⟩
theorem c142_is:FI 142 c142 tyG:=⟨_,Tryz.func142,by kernel_rfl,by kernel_rfl,by kernel_rfl⟩
theorem c146_is:FI 146 c146 tyG:=⟨_,Tryz.func146,by kernel_rfl,by kernel_rfl,by kernel_rfl⟩
theorem c147_is:FI 147 c147 tyG:=⟨_,Tryz.func147,by kernel_rfl,by kernel_rfl,by kernel_rfl⟩
theorem c148_is:FI 148 c148 tyG:=⟨_,Tryz.func148,by kernel_rfl,by kernel_rfl,by kernel_rfl⟩
theorem c150_is:FI 150 c150 tyG:=⟨_,Tryz.func150,by kernel_rfl,by kernel_rfl,by kernel_rfl⟩
theorem c151_is:FI 151 c151 tyG:=⟨_,Tryz.func151,by kernel_rfl,by kernel_rfl,by kernel_rfl⟩
theorem c152_is:FI 152 c152 tyG:=⟨_,Tryz.func152,by kernel_rfl,by kernel_rfl,by kernel_rfl⟩
theorem c153_is:FI 153 c153 tyG:=⟨_,Tryz.func153,by kernel_rfl,by kernel_rfl,by kernel_rfl⟩
theorem c154_is:FI 154 c154 tyG:=⟨_,Tryz.func154,by kernel_rfl,by kernel_rfl,by kernel_rfl⟩
theorem c162_is:FI 162 c162 tyG:=⟨_,Tryz.func162,by kernel_rfl,by kernel_rfl,by kernel_rfl⟩
theorem c163_is:FI 163 c163 tyG:=⟨_,Tryz.func163,by kernel_rfl,by kernel_rfl,by kernel_rfl⟩
theorem c164_is:FI 164 c164 tyG:=⟨_,Tryz.func164,by kernel_rfl,by kernel_rfl,by kernel_rfl⟩
theorem c165_is:FI 165 c165 tyG:=⟨_,Tryz.func165,by kernel_rfl,by kernel_rfl,by kernel_rfl⟩
theorem c166_is:FI 166 c166 tyG:=⟨_,Tryz.func166,by kernel_rfl,by kernel_rfl,by kernel_rfl⟩
theorem c167_is:FI 167 c167 tyG:=⟨_,Tryz.func167,by kernel_rfl,by kernel_rfl,by kernel_rfl⟩
theorem c168_is:FI 168 c168 tyG:=⟨_,Tryz.func168,by kernel_rfl,by kernel_rfl,by kernel_rfl⟩
theorem c172_is:FI 172 c172 tyG:=⟨_,Tryz.func172,by kernel_rfl,by kernel_rfl,by kernel_rfl⟩
theorem c173_is:FI 173 c173 tyG:=⟨_,Tryz.func173,by kernel_rfl,by kernel_rfl,by kernel_rfl⟩
theorem c174_is:FI 174 c174 tyG:=⟨_,Tryz.func174,by kernel_rfl,by kernel_rfl,by kernel_rfl⟩
theorem c175_is:FI 175 c175 tyG:=⟨_,Tryz.func175,by kernel_rfl,by kernel_rfl,by kernel_rfl⟩
theorem c176_is:FI 176 c176 tyG:=⟨_,Tryz.func176,by kernel_rfl,by kernel_rfl,by kernel_rfl⟩
theorem c177_is:FI 177 c177 tyG:=⟨_,Tryz.func177,by kernel_rfl,by kernel_rfl,by kernel_rfl⟩
theorem c178_is:FI 178 c178 tyG:=⟨_,Tryz.func178,by kernel_rfl,by kernel_rfl,by kernel_rfl⟩
theorem c182_is:FI 182 c182 tyG:=⟨_,Tryz.func182,by kernel_rfl,by kernel_rfl,by kernel_rfl⟩
theorem c183_is:FI 183 c183 tyG:=⟨_,Tryz.func183,by kernel_rfl,by kernel_rfl,by kernel_rfl⟩
theorem fnOK:FnOk Tryz.prog tyG fnG:=by
 refine⟨fun f fd h=>?_⟩
 have key:fnT.all fun f fd=>FI f fd tyG:=
  ⟨aN,⟨aN,⟨aS c3_is,⟨aN,⟨aS c15_is,⟨aN,⟨aN,⟨aS c127_is,⟨⟩,⟨⟩⟩,⟨⟩⟩,⟨⟩⟩,⟨aN,⟨aS c79_is,⟨⟩,⟨⟩⟩,⟨aN,⟨aS c175_is,⟨⟩,⟨⟩⟩,⟨⟩⟩⟩⟩,⟨aN,⟨aN,⟨aS c71_is,⟨aS c135_is,⟨⟩,⟨⟩⟩,⟨⟩⟩,⟨aN,⟨aS c167_is,⟨⟩,⟨⟩⟩,⟨⟩⟩⟩,⟨aN,⟨aS c87_is,⟨aS c151_is,⟨⟩,⟨⟩⟩,⟨⟩⟩,⟨aN,⟨aS c183_is,⟨⟩,⟨⟩⟩,⟨⟩⟩⟩⟩⟩,⟨aN,⟨aS c19_is,⟨aN,⟨aN,⟨aS c131_is,⟨⟩,⟨⟩⟩,⟨⟩⟩,⟨aN,⟨aS c163_is,⟨⟩,⟨⟩⟩,⟨⟩⟩⟩,⟨aN,⟨aS c83_is,⟨aS c147_is,⟨⟩,⟨⟩⟩,⟨⟩⟩,⟨⟩⟩⟩,⟨aN,⟨aN,⟨aS c75_is,⟨aS c139_is,⟨⟩,⟨⟩⟩,⟨⟩⟩,⟨⟩⟩,⟨aN,⟨⟩,⟨aS c123_is,⟨⟩,⟨⟩⟩⟩⟩⟩⟩,⟨aN,⟨aN,⟨aS c17_is,⟨aN,⟨aN,⟨aS c129_is,⟨⟩,⟨⟩⟩,⟨⟩⟩,⟨⟩⟩,⟨aS c49_is,⟨aS c81_is,⟨⟩,⟨⟩⟩,⟨aN,⟨aS c177_is,⟨⟩,⟨⟩⟩,⟨⟩⟩⟩⟩,⟨aN,⟨aN,⟨aS c73_is,⟨⟩,⟨⟩⟩,⟨⟩⟩,⟨aS c57_is,⟨aS c89_is,⟨aS c153_is,⟨⟩,⟨⟩⟩,⟨⟩⟩,⟨aS c121_is,⟨⟩,⟨⟩⟩⟩⟩⟩,⟨aN,⟨aS c21_is,⟨aN,⟨aN,⟨aS c133_is,⟨⟩,⟨⟩⟩,⟨⟩⟩,⟨aN,⟨aS c165_is,⟨⟩,⟨⟩⟩,⟨⟩⟩⟩,⟨aS c53_is,⟨aS c85_is,⟨⟩,⟨⟩⟩,⟨aS c117_is,⟨⟩,⟨⟩⟩⟩⟩,⟨aN,⟨aN,⟨aS c77_is,⟨⟩,⟨⟩⟩,⟨aN,⟨aS c173_is,⟨⟩,⟨⟩⟩,⟨⟩⟩⟩,⟨aS c61_is,⟨⟩,⟨aS c125_is,⟨⟩,⟨⟩⟩⟩⟩⟩⟩⟩,⟨aN,⟨aN,⟨aN,⟨aS c16_is,⟨aS c32_is,⟨aN,⟨aS c128_is,⟨⟩,⟨⟩⟩,⟨⟩⟩,⟨⟩⟩,⟨aN,⟨aS c80_is,⟨⟩,⟨⟩⟩,⟨aN,⟨aS c176_is,⟨⟩,⟨⟩⟩,⟨⟩⟩⟩⟩,⟨aN,⟨aN,⟨aS c72_is,⟨aS c136_is,⟨⟩,⟨⟩⟩,⟨⟩⟩,⟨aN,⟨aS c168_is,⟨⟩,⟨⟩⟩,⟨⟩⟩⟩,⟨aN,⟨aS c88_is,⟨aS c152_is,⟨⟩,⟨⟩⟩,⟨⟩⟩,⟨⟩⟩⟩⟩,⟨aN,⟨aS c20_is,⟨aN,⟨aN,⟨aS c132_is,⟨⟩,⟨⟩⟩,⟨⟩⟩,⟨aN,⟨aS c164_is,⟨⟩,⟨⟩⟩,⟨⟩⟩⟩,⟨aN,⟨aS c84_is,⟨aS c148_is,⟨⟩,⟨⟩⟩,⟨⟩⟩,⟨aS c116_is,⟨⟩,⟨⟩⟩⟩⟩,⟨aN,⟨aS c44_is,⟨aS c76_is,⟨⟩,⟨⟩⟩,⟨aN,⟨aS c172_is,⟨⟩,⟨⟩⟩,⟨⟩⟩⟩,⟨⟩⟩⟩⟩,⟨aN,⟨aN,⟨aS c18_is,⟨aS c34_is,⟨aN,⟨aS c130_is,⟨⟩,⟨⟩⟩,⟨⟩⟩,⟨aS c98_is,⟨aS c162_is,⟨⟩,⟨⟩⟩,⟨⟩⟩⟩,⟨aN,⟨aS c82_is,⟨aS c146_is,⟨⟩,⟨⟩⟩,⟨⟩⟩,⟨aN,⟨aS c178_is,⟨⟩,⟨⟩⟩,⟨⟩⟩⟩⟩,⟨aN,⟨aN,⟨aS c74_is,⟨⟩,⟨⟩⟩,⟨aS c106_is,⟨⟩,⟨⟩⟩⟩,⟨aN,⟨aS c90_is,⟨aS c154_is,⟨⟩,⟨⟩⟩,⟨⟩⟩,⟨⟩⟩⟩⟩,⟨aS c14_is,⟨aS c22_is,⟨aN,⟨aS c70_is,⟨aS c134_is,⟨⟩,⟨⟩⟩,⟨⟩⟩,⟨aN,⟨aS c166_is,⟨⟩,⟨⟩⟩,⟨⟩⟩⟩,⟨aN,⟨aS c86_is,⟨aS c150_is,⟨⟩,⟨⟩⟩,⟨⟩⟩,⟨aS c118_is,⟨aS c182_is,⟨⟩,⟨⟩⟩,⟨⟩⟩⟩⟩,⟨aN,⟨aN,⟨aS c78_is,⟨aS c142_is,⟨⟩,⟨⟩⟩,⟨⟩⟩,⟨aN,⟨aS c174_is,⟨⟩,⟨⟩⟩,⟨⟩⟩⟩,⟨aN,⟨⟩,⟨aS c126_is,⟨⟩,⟨⟩⟩⟩⟩⟩⟩⟩⟩
 exact T.all_get key h
theorem depth_ok:8≤Tryz.prog.depth:=Nat.le_of_ble_eq_true (by kernel_rfl)
theorem mixed_ok:Tryz.prog.follows .mixedOrders=true:=by kernel_rfl
end Go.Ab.Tryz
