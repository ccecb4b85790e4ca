/- The types and the code that our machine has are the program's (printed by a program of ours). -/
import Derived.Test.YtagnijhgpogfhaaGreatProg
import Derived.Test.YtagnijhgpogfhaaGreatDat
import Derived.Test.YtagnijhgpogfhaaGreatAbS
import Derived.KernelRfl
set_option linter.unusedSimpArgs false
set_option linter.unusedVariables false
namespace Go.Ab.Tryz
open Go.Proofs
abbrev TI (t:Nat) (d:TD):Prop:=∃i u,TyIs Tryz.prog t d i u
abbrev FI (f:Nat) (d:FD) (G:Nat→Option TD):Prop:=∃fn,Tryz.prog.funcs[f]? =some fn∧(fn.name== "runtime.NumGoroutine")=false∧compF G fn=some d∧d.body.lt d.ntmps=true
theorem aN {α:Type}{p:α→Prop}:∀a,(none:Option α)=some a→p a:=fun a h=>by cases h
theorem aS {α:Type}{p:α→Prop}{v:α}(h:p v):∀a,some v=some a→p a:=fun a e=>by cases e;exact h
theorem ty3_is:TI 3 ty3:=⟨Tryz.prog.types.getD 3 default,_,⟨by kernel_rfl,Tryz.underlying3,by simp[ty3,UD.is],by kernel_rfl,by kernel_rfl,by kernel_rfl,by simp[ty3,scL,V.sc],by kernel_rfl,(fun _=>⟨_,rfl,rfl⟩),by kernel_rfl⟩⟩
theorem ty4_is:TI 4 ty4:=⟨Tryz.prog.types.getD 4 default,_,⟨by kernel_rfl,Tryz.underlying4,by simp[ty4,UD.is],by kernel_rfl,by kernel_rfl,by kernel_rfl,by simp[ty4,scL,V.sc],by kernel_rfl,(fun _=>⟨_,rfl,rfl⟩),by kernel_rfl⟩⟩
theorem ty23_is:TI 23 ty23:=⟨Tryz.prog.types.getD 23 default,_,⟨by kernel_rfl,Tryz.underlying23,by simp[ty23,UD.is],by kernel_rfl,by kernel_rfl,by kernel_rfl,by simp[ty23,scL,V.sc],by kernel_rfl,(fun _=>⟨_,rfl,rfl⟩),by kernel_rfl⟩⟩
theorem ty24_is:TI 24 ty24:=⟨Tryz.prog.types.getD 24 default,_,⟨by kernel_rfl,Tryz.underlying24,by simp[ty24,UD.is],by kernel_rfl,by kernel_rfl,by kernel_rfl,by simp[ty24,scL,V.sc],by kernel_rfl,(fun _=>⟨_,rfl,rfl⟩),by kernel_rfl⟩⟩
theorem ty25_is:TI 25 ty25:=⟨Tryz.prog.types.getD 25 default,_,⟨by kernel_rfl,Tryz.underlying25,by simp[ty25,UD.is],by kernel_rfl,by kernel_rfl,by kernel_rfl,by simp[ty25,scL,V.sc],by kernel_rfl,(fun _=>⟨_,rfl,rfl⟩),by kernel_rfl⟩⟩
theorem ty27_is:TI 27 ty27:=⟨Tryz.prog.types.getD 27 default,_,⟨by kernel_rfl,Tryz.underlying27,by simp[ty27,UD.is],by kernel_rfl,by kernel_rfl,by kernel_rfl,by simp[ty27,scL,V.sc],by kernel_rfl,(fun h=>by cases h),by kernel_rfl⟩⟩
theorem ty28_is:TI 28 ty28:=⟨Tryz.prog.types.getD 28 default,_,⟨by kernel_rfl,Tryz.underlying28,by simp[ty28,UD.is],by kernel_rfl,by kernel_rfl,by kernel_rfl,by simp[ty28,scL,V.sc],by kernel_rfl,(fun _=>⟨_,rfl,rfl⟩),by kernel_rfl⟩⟩
theorem ty36_is:TI 36 ty36:=⟨Tryz.prog.types.getD 36 default,_,⟨by kernel_rfl,Tryz.underlying36,by simp[ty36,UD.is],by kernel_rfl,by kernel_rfl,by kernel_rfl,by simp[ty36,scL,V.sc],by kernel_rfl,(fun h=>by cases h),by kernel_rfl⟩⟩
theorem ty40_is:TI 40 ty40:=⟨Tryz.prog.types.getD 40 default,_,⟨by kernel_rfl,Tryz.underlying40,by simp[ty40,UD.is],by kernel_rfl,by kernel_rfl,by kernel_rfl,by simp[ty40,scL,V.sc],by kernel_rfl,(fun h=>by cases h),by kernel_rfl⟩⟩
theorem ty42_is:TI 42 ty42:=⟨Tryz.prog.types.getD 42 default,_,⟨by kernel_rfl,Tryz.underlying42,by simp[ty42,UD.is],by kernel_rfl,by kernel_rfl,by kernel_rfl,by simp[ty42,scL,V.sc],by kernel_rfl,(fun h=>by cases h),by kernel_rfl⟩⟩
theorem ty44_is:TI 44 ty44:=⟨Tryz.prog.types.getD 44 default,_,⟨by kernel_rfl,Tryz.underlying44,by simp[ty44,UD.is],by kernel_rfl,by kernel_rfl,by kernel_rfl,by simp[ty44,scL,V.sc],by kernel_rfl,(fun h=>by cases h),by kernel_rfl⟩⟩
theorem ty45_is:TI 45 ty45:=⟨Tryz.prog.types.getD 45 default,_,⟨by kernel_rfl,Tryz.underlying45,by simp[ty45,UD.is],by kernel_rfl,by kernel_rfl,by kernel_rfl,by simp[ty45,scL,V.sc],by kernel_rfl,(fun _=>⟨_,rfl,rfl⟩),by kernel_rfl⟩⟩
theorem ty55_is:TI 55 ty55:=⟨Tryz.prog.types.getD 55 default,_,⟨by kernel_rfl,Tryz.underlying55,by simp[ty55,UD.is],by kernel_rfl,by kernel_rfl,by kernel_rfl,by simp[ty55,scL,V.sc],by kernel_rfl,(fun _=>⟨_,rfl,rfl⟩),by kernel_rfl⟩⟩
theorem ty56_is:TI 56 ty56:=⟨Tryz.prog.types.getD 56 default,_,⟨by kernel_rfl,Tryz.underlying56,by simp[ty56,UD.is],by kernel_rfl,by kernel_rfl,by kernel_rfl,by simp[ty56,scL,V.sc],by kernel_rfl,(fun _=>⟨_,rfl,rfl⟩),by kernel_rfl⟩⟩
theorem ty57_is:TI 57 ty57:=⟨Tryz.prog.types.getD 57 default,_,⟨by kernel_rfl,Tryz.underlying57,by simp[ty57,UD.is],by kernel_rfl,by kernel_rfl,by kernel_rfl,by simp[ty57,scL,V.sc],by kernel_rfl,(fun _=>⟨_,rfl,rfl⟩),by kernel_rfl⟩⟩
theorem ty59_is:TI 59 ty59:=⟨Tryz.prog.types.getD 59 default,_,⟨by kernel_rfl,Tryz.underlying59,by simp[ty59,UD.is],by kernel_rfl,by kernel_rfl,by kernel_rfl,by simp[ty59,scL,V.sc],by kernel_rfl,(fun h=>by cases h),by kernel_rfl⟩⟩
theorem ty62_is:TI 62 ty62:=⟨Tryz.prog.types.getD 62 default,_,⟨by kernel_rfl,Tryz.underlying62,by simp[ty62,UD.is],by kernel_rfl,by kernel_rfl,by kernel_rfl,by simp[ty62,scL,V.sc],by kernel_rfl,(fun _=>⟨_,rfl,rfl⟩),by kernel_rfl⟩⟩
theorem ty90_is:TI 90 ty90:=⟨Tryz.prog.types.getD 90 default,_,⟨by kernel_rfl,Tryz.underlying90,by simp[ty90,UD.is],by kernel_rfl,by kernel_rfl,by kernel_rfl,by simp[ty90,scL,V.sc],by kernel_rfl,(fun h=>by cases h),by kernel_rfl⟩⟩
theorem ty97_is:TI 97 ty97:=⟨Tryz.prog.types.getD 97 default,_,⟨by kernel_rfl,Tryz.underlying97,by simp[ty97,UD.is],by kernel_rfl,by kernel_rfl,by kernel_rfl,by simp[ty97,scL,V.sc],by kernel_rfl,(fun _=>⟨_,rfl,rfl⟩),by kernel_rfl⟩⟩
theorem ty107_is:TI 107 ty107:=⟨Tryz.prog.types.getD 107 default,_,⟨by kernel_rfl,Tryz.underlying107,by simp[ty107,UD.is],by kernel_rfl,by kernel_rfl,by kernel_rfl,by simp[ty107,scL,V.sc],by kernel_rfl,(fun _=>⟨_,rfl,rfl⟩),by kernel_rfl⟩⟩
theorem ty109_is:TI 109 ty109:=⟨Tryz.prog.types.getD 109 default,_,⟨by kernel_rfl,Tryz.underlying109,by simp[ty109,UD.is],by kernel_rfl,by kernel_rfl,by kernel_rfl,by simp[ty109,scL,V.sc],by kernel_rfl,(fun _=>⟨_,rfl,rfl⟩),by kernel_rfl⟩⟩
theorem ty114_is:TI 114 ty114:=⟨Tryz.prog.types.getD 114 default,_,⟨by kernel_rfl,Tryz.underlying114,by simp[ty114,UD.is],by kernel_rfl,by kernel_rfl,by kernel_rfl,by simp[ty114,scL,V.sc],by kernel_rfl,(fun _=>⟨_,rfl,rfl⟩),by kernel_rfl⟩⟩
theorem ty115_is:TI 115 ty115:=⟨Tryz.prog.types.getD 115 default,_,⟨by kernel_rfl,Tryz.underlying115,by simp[ty115,UD.is],by kernel_rfl,by kernel_rfl,by kernel_rfl,by simp[ty115,scL,V.sc],by kernel_rfl,(fun _=>⟨_,rfl,rfl⟩),by kernel_rfl⟩⟩
theorem ty121_is:TI 121 ty121:=⟨Tryz.prog.types.getD 121 default,_,⟨by kernel_rfl,Tryz.underlying121,by simp[ty121,UD.is],by kernel_rfl,by kernel_rfl,by kernel_rfl,by simp[ty121,scL,V.sc],by kernel_rfl,(fun _=>⟨_,rfl,rfl⟩),by kernel_rfl⟩⟩
theorem ty130_is:TI 130 ty130:=⟨Tryz.prog.types.getD 130 default,_,⟨by kernel_rfl,Tryz.underlying130,by simp[ty130,UD.is],by kernel_rfl,by kernel_rfl,by kernel_rfl,by simp[ty130,scL,V.sc],by kernel_rfl,(fun _=>⟨_,rfl,rfl⟩),by kernel_rfl⟩⟩
theorem ty131_is:TI 131 ty131:=⟨Tryz.prog.types.getD 131 default,_,⟨by kernel_rfl,Tryz.underlying131,by simp[ty131,UD.is],by kernel_rfl,by kernel_rfl,by kernel_rfl,by simp[ty131,scL,V.sc],by kernel_rfl,(fun _=>⟨_,rfl,rfl⟩),by kernel_rfl⟩⟩
theorem ty137_is:TI 137 ty137:=⟨Tryz.prog.types.getD 137 default,_,⟨by kernel_rfl,Tryz.underlying137,by simp[ty137,UD.is],by kernel_rfl,by kernel_rfl,by kernel_rfl,by simp[ty137,scL,V.sc],by kernel_rfl,(fun h=>by cases h),by kernel_rfl⟩⟩
theorem ty141_is:TI 141 ty141:=⟨Tryz.prog.types.getD 141 default,_,⟨by kernel_rfl,Tryz.underlying141,by simp[ty141,UD.is],by kernel_rfl,by kernel_rfl,by kernel_rfl,by simp[ty141,scL,V.sc],by kernel_rfl,(fun h=>by cases h),by kernel_rfl⟩⟩
theorem ty144_is:TI 144 ty144:=⟨Tryz.prog.types.getD 144 default,_,⟨by kernel_rfl,Tryz.underlying144,by simp[ty144,UD.is],by kernel_rfl,by kernel_rfl,by kernel_rfl,by simp[ty144,scL,V.sc],by kernel_rfl,(fun _=>⟨_,rfl,rfl⟩),by kernel_rfl⟩⟩
theorem ty146_is:TI 146 ty146:=⟨Tryz.prog.types.getD 146 default,_,⟨by kernel_rfl,Tryz.underlying146,by simp[ty146,UD.is],by kernel_rfl,by kernel_rfl,by kernel_rfl,by simp[ty146,scL,V.sc],by kernel_rfl,(fun h=>by cases h),by kernel_rfl⟩⟩
theorem ty149_is:TI 149 ty149:=⟨Tryz.prog.types.getD 149 default,_,⟨by kernel_rfl,Tryz.underlying149,by simp[ty149,UD.is],by kernel_rfl,by kernel_rfl,by kernel_rfl,by simp[ty149,scL,V.sc],by kernel_rfl,(fun h=>by cases h),by kernel_rfl⟩⟩
theorem ty150_is:TI 150 ty150:=⟨Tryz.prog.types.getD 150 default,_,⟨by kernel_rfl,Tryz.underlying150,by simp[ty150,UD.is],by kernel_rfl,by kernel_rfl,by kernel_rfl,by simp[ty150,scL,V.sc],by kernel_rfl,(fun h=>by cases h),by kernel_rfl⟩⟩
theorem ty151_is:TI 151 ty151:=⟨Tryz.prog.types.getD 151 default,_,⟨by kernel_rfl,Tryz.underlying151,by simp[ty151,UD.is],by kernel_rfl,by kernel_rfl,by kernel_rfl,by simp[ty151,scL,V.sc],by kernel_rfl,(fun h=>by cases h),by kernel_rfl⟩⟩
theorem ty162_is:TI 162 ty162:=⟨Tryz.prog.types.getD 162 default,_,⟨by kernel_rfl,Tryz.underlying162,by simp[ty162,UD.is],by kernel_rfl,by kernel_rfl,by kernel_rfl,by simp[ty162,scL,V.sc],by kernel_rfl,(fun _=>⟨_,rfl,rfl⟩),by kernel_rfl⟩⟩
theorem ty163_is:TI 163 ty163:=⟨Tryz.prog.types.getD 163 default,_,⟨by kernel_rfl,Tryz.underlying163,by simp[ty163,UD.is],by kernel_rfl,by kernel_rfl,by kernel_rfl,by simp[ty163,scL,V.sc],by kernel_rfl,(fun h=>by cases h),by kernel_rfl⟩⟩
theorem ty165_is:TI 165 ty165:=⟨Tryz.prog.types.getD 165 default,_,⟨by kernel_rfl,Tryz.underlying165,by simp[ty165,UD.is],by kernel_rfl,by kernel_rfl,by kernel_rfl,by simp[ty165,scL,V.sc],by kernel_rfl,(fun h=>by cases h),by kernel_rfl⟩⟩
theorem ty167_is:TI 167 ty167:=⟨Tryz.prog.types.getD 167 default,_,⟨by kernel_rfl,Tryz.underlying167,by simp[ty167,UD.is],by kernel_rfl,by kernel_rfl,by kernel_rfl,by simp[ty167,scL,V.sc],by kernel_rfl,(fun h=>by cases h),by kernel_rfl⟩⟩
theorem ty176_is:TI 176 ty176:=⟨Tryz.prog.types.getD 176 default,_,⟨by kernel_rfl,Tryz.underlying176,by simp[ty176,UD.is],by kernel_rfl,by kernel_rfl,by kernel_rfl,by simp[ty176,scL,V.sc],by kernel_rfl,(fun _=>⟨_,rfl,rfl⟩),by kernel_rfl⟩⟩
theorem ty178_is:TI 178 ty178:=⟨Tryz.prog.types.getD 178 default,_,⟨by kernel_rfl,Tryz.underlying178,by simp[ty178,UD.is],by kernel_rfl,by kernel_rfl,by kernel_rfl,by simp[ty178,scL,V.sc],by kernel_rfl,(fun _=>⟨_,rfl,rfl⟩),by kernel_rfl⟩⟩
theorem ty180_is:TI 180 ty180:=⟨Tryz.prog.types.getD 180 default,_,⟨by kernel_rfl,Tryz.underlying180,by simp[ty180,UD.is],by kernel_rfl,by kernel_rfl,by kernel_rfl,by simp[ty180,scL,V.sc],by kernel_rfl,(fun _=>⟨_,rfl,rfl⟩),by kernel_rfl⟩⟩
theorem ty195_is:TI 195 ty195:=⟨Tryz.prog.types.getD 195 default,_,⟨by kernel_rfl,Tryz.underlying195,by simp[ty195,UD.is],by kernel_rfl,by kernel_rfl,by kernel_rfl,by simp[ty195,scL,V.sc],by kernel_rfl,(fun _=>⟨_,rfl,rfl⟩),by kernel_rfl⟩⟩
theorem ty200_is:TI 200 ty200:=⟨Tryz.prog.types.getD 200 default,_,⟨by kernel_rfl,Tryz.underlying200,by simp[ty200,UD.is],by kernel_rfl,by kernel_rfl,by kernel_rfl,by simp[ty200,scL,V.sc],by kernel_rfl,(fun _=>⟨_,rfl,rfl⟩),by kernel_rfl⟩⟩
theorem ty201_is:TI 201 ty201:=⟨Tryz.prog.types.getD 201 default,_,⟨by kernel_rfl,Tryz.underlying201,by simp[ty201,UD.is],by kernel_rfl,by kernel_rfl,by kernel_rfl,by simp[ty201,scL,V.sc],by kernel_rfl,(fun _=>⟨_,rfl,rfl⟩),by kernel_rfl⟩⟩
noncomputable def tyG (t:Nat):Option TD:=tyT.get t
noncomputable def fnG (f:Nat):Option FD:=fnT.get f
theorem tyOK:TyOK Tryz.prog tyG:=by
 intro t d h
 have key:tyT.all TI:=⟨aN,⟨aN,⟨aS ty3_is,⟨aN,⟨⟩,⟨aS ty23_is,⟨aN,⟨⟩,⟨aN,⟨aS ty167_is,⟨⟩,⟨⟩⟩,⟨⟩⟩⟩,⟨aS ty55_is,⟨aN,⟨aS ty151_is,⟨⟩,⟨⟩⟩,⟨⟩⟩,⟨⟩⟩⟩⟩,⟨aN,⟨aN,⟨aN,⟨aN,⟨aS ty131_is,⟨⟩,⟨⟩⟩,⟨aS ty195_is,⟨⟩,⟨⟩⟩⟩,⟨aN,⟨aS ty163_is,⟨⟩,⟨⟩⟩,⟨⟩⟩⟩,⟨aN,⟨⟩,⟨aS ty115_is,⟨⟩,⟨⟩⟩⟩⟩,⟨aS ty27_is,⟨aN,⟨⟩,⟨aS ty107_is,⟨⟩,⟨⟩⟩⟩,⟨aS ty59_is,⟨⟩,⟨⟩⟩⟩⟩⟩,⟨aN,⟨aN,⟨aN,⟨aN,⟨⟩,⟨aS ty97_is,⟨⟩,⟨⟩⟩⟩,⟨⟩⟩,⟨aS ty25_is,⟨aN,⟨aN,⟨aS ty137_is,⟨⟩,⟨⟩⟩,⟨aS ty201_is,⟨⟩,⟨⟩⟩⟩,⟨⟩⟩,⟨aS ty57_is,⟨⟩,⟨aS ty121_is,⟨⟩,⟨⟩⟩⟩⟩⟩,⟨aN,⟨aN,⟨aN,⟨⟩,⟨aN,⟨aS ty165_is,⟨⟩,⟨⟩⟩,⟨⟩⟩⟩,⟨aN,⟨aN,⟨aS ty149_is,⟨⟩,⟨⟩⟩,⟨⟩⟩,⟨⟩⟩⟩,⟨aN,⟨aS ty45_is,⟨aN,⟨aS ty141_is,⟨⟩,⟨⟩⟩,⟨⟩⟩,⟨aS ty109_is,⟨⟩,⟨⟩⟩⟩,⟨⟩⟩⟩⟩⟩,⟨aN,⟨aS ty4_is,⟨aN,⟨aN,⟨⟩,⟨aN,⟨aN,⟨aS ty144_is,⟨⟩,⟨⟩⟩,⟨⟩⟩,⟨aN,⟨aS ty176_is,⟨⟩,⟨⟩⟩,⟨⟩⟩⟩⟩,⟨aS ty24_is,⟨aS ty40_is,⟨aN,⟨⟩,⟨aS ty200_is,⟨⟩,⟨⟩⟩⟩,⟨⟩⟩,⟨aS ty56_is,⟨⟩,⟨⟩⟩⟩⟩,⟨aN,⟨aN,⟨aS ty36_is,⟨⟩,⟨⟩⟩,⟨aN,⟨⟩,⟨aN,⟨aS ty180_is,⟨⟩,⟨⟩⟩,⟨⟩⟩⟩⟩,⟨aS ty28_is,⟨aS ty44_is,⟨⟩,⟨⟩⟩,⟨⟩⟩⟩⟩,⟨aN,⟨aN,⟨aN,⟨aN,⟨aN,⟨aS ty130_is,⟨⟩,⟨⟩⟩,⟨⟩⟩,⟨aN,⟨aS ty162_is,⟨⟩,⟨⟩⟩,⟨⟩⟩⟩,⟨aN,⟨aN,⟨aS ty146_is,⟨⟩,⟨⟩⟩,⟨⟩⟩,⟨aS ty114_is,⟨aS ty178_is,⟨⟩,⟨⟩⟩,⟨⟩⟩⟩⟩,⟨aN,⟨aS ty42_is,⟨⟩,⟨⟩⟩,⟨aN,⟨aS ty90_is,⟨⟩,⟨⟩⟩,⟨⟩⟩⟩⟩,⟨aN,⟨aN,⟨⟩,⟨aN,⟨aN,⟨aS ty150_is,⟨⟩,⟨⟩⟩,⟨⟩⟩,⟨⟩⟩⟩,⟨aN,⟨⟩,⟨aS ty62_is,⟨⟩,⟨⟩⟩⟩⟩⟩⟩⟩
 exact T.all_get key h
theorem c6_is:FI 6 c6 tyG:=⟨_,Tryz.func6,by kernel_rfl,by kernel_rfl,by kernel_rfl⟩
theorem c17_is:FI 17 c17 tyG:=⟨_,Tryz.func17,by kernel_rfl,by kernel_rfl,by kernel_rfl⟩
theorem c18_is:FI 18 c18 tyG:=⟨_,Tryz.func18,by kernel_rfl,by kernel_rfl,by kernel_rfl⟩
theorem c19_is:FI 19 c19 tyG:=⟨_,Tryz.func19,by kernel_rfl,by kernel_rfl,by kernel_rfl⟩
theorem c20_is:FI 20 c20 tyG:=⟨_,Tryz.func20,by kernel_rfl,by kernel_rfl,by kernel_rfl⟩
theorem c21_is:FI 21 c21 tyG:=⟨_,Tryz.func21,by kernel_rfl,by kernel_rfl,by kernel_rfl⟩
theorem c22_is:FI 22 c22 tyG:=⟨_,Tryz.func22,by kernel_rfl,by kernel_rfl,by kernel_rfl⟩
theorem c23_is:FI 23 c23 tyG:=⟨_,Tryz.func23,by kernel_rfl,by kernel_rfl,by kernel_rfl⟩
theorem c24_is:FI 24 c24 tyG:=⟨_,Tryz.func24,by kernel_rfl,by kernel_rfl,by kernel_rfl⟩
theorem c25_is:FI 25 c25 tyG:=⟨_,Tryz.func25,by kernel_rfl,by kernel_rfl,by kernel_rfl⟩
theorem c27_is:FI 27 c27 tyG:=⟨_,Tryz.func27,by kernel_rfl,by kernel_rfl,by kernel_rfl⟩
theorem c32_is:FI 32 c32 tyG:=⟨_,Tryz.func32,by kernel_rfl,by kernel_rfl,by kernel_rfl⟩
theorem c34_is:FI 34 c34 tyG:=⟨_,Tryz.func34,by kernel_rfl,by kernel_rfl,by kernel_rfl⟩
theorem c35_is:FI 35 c35 tyG:=⟨_,Tryz.func35,by kernel_rfl,by kernel_rfl,by kernel_rfl⟩
theorem c40_is:FI 40 c40 tyG:=⟨_,Tryz.func40,by kernel_rfl,by kernel_rfl,by kernel_rfl⟩
theorem c41_is:FI 41 c41 tyG:=⟨_,Tryz.func41,by kernel_rfl,by kernel_rfl,by kernel_rfl⟩
theorem c42_is:FI 42 c42 tyG:=⟨_,Tryz.func42,by kernel_rfl,by kernel_rfl,by kernel_rfl⟩
theorem c43_is:FI 43 c43 tyG:=⟨_,Tryz.func43,by kernel_rfl,by kernel_rfl,by kernel_rfl⟩
theorem c44_is:FI 44 c44 tyG:=⟨_,Tryz.func44,by kernel_rfl,by kernel_rfl,by kernel_rfl⟩
theorem c49_is:FI 49 c49 tyG:=⟨_,Tryz.func49,by kernel_rfl,by kernel_rfl,by kernel_rfl⟩
theorem c54_is:FI 54 c54 tyG:=⟨_,Tryz.func54,by kernel_rfl,by kernel_rfl,by kernel_rfl⟩
theorem c57_is:FI 57 c57 tyG:=⟨_,Tryz.func57,by kernel_rfl,by kernel_rfl,by kernel_rfl⟩
theorem c58_is:FI 58 c58 tyG:=⟨_,Tryz.func58,by kernel_rfl,by kernel_rfl,by kernel_rfl⟩
theorem c72_is:FI 72 c72 tyG:=⟨_,Tryz.func72,by kernel_rfl,by kernel_rfl,by kernel_rfl⟩
theorem c73_is:FI 73 c73 tyG:=⟨_,Tryz.func73,by kernel_rfl,by kernel_rfl,by kernel_rfl⟩
theorem c74_is:FI 74 c74 tyG:=⟨_,Tryz.func74,by kernel_rfl,by kernel_rfl,by kernel_rfl⟩
theorem c75_is:FI 75 c75 tyG:=⟨_,Tryz.func75,by kernel_rfl,by kernel_rfl,by kernel_rfl⟩
theorem c76_is:FI 76 c76 tyG:=⟨_,Tryz.func76,by kernel_rfl,by kernel_rfl,by kernel_rfl⟩
theorem c77_is:FI 77 c77 tyG:=⟨_,Tryz.func77,by kernel_rfl,by kernel_rfl,by kernel_rfl⟩
theorem c78_is:FI 78 c78 tyG:=⟨_,Tryz.func78,by kernel_rfl,by kernel_rfl,by kernel_rfl⟩
theorem c79_is:FI 79 c79 tyG:=⟨_,Tryz.func79,by kernel_rfl,by kernel_rfl,by kernel_rfl⟩
theorem c80_is:FI 80 c80 tyG:=⟨_,Tryz.func80,by kernel_rfl,by kernel_rfl,by kernel_rfl⟩
theorem c81_is:FI 81 c81 tyG:=⟨_,Tryz.func81,by kernel_rfl,by kernel_rfl,by kernel_rfl⟩
theorem c82_is:FI 82 c82 tyG:=⟨_,Tryz.func82,by kernel_rfl,by kernel_rfl,by kernel_rfl⟩
theorem c83_is:FI 83 c83 tyG:=⟨_,Tryz.func83,by kernel_rfl,by kernel_rfl,by kernel_rfl⟩
theorem c84_is:FI 84 c84 tyG:=⟨_,Tryz.func84,by kernel_rfl,by kernel_rfl,by kernel_rfl⟩
theorem c85_is:FI 85 c85 tyG:=⟨_,Tryz.func85,by kernel_rfl,by kernel_rfl,by kernel_rfl⟩
theorem c86_is:FI 86 c86 tyG:=⟨_,Tryz.func86,by kernel_rfl,by kernel_rfl,by kernel_rfl⟩
theorem c87_is:FI 87 c87 tyG:=⟨_,Tryz.func87,by kernel_rfl,by kernel_rfl,by kernel_rfl⟩
theorem c88_is:FI 88 c88 tyG:=⟨_,Tryz.func88,by kernel_rfl,by kernel_rfl,by kernel_rfl⟩
theorem c89_is:FI 89 c89 tyG:=⟨_,Tryz.func89,by kernel_rfl,by kernel_rfl,by kernel_rfl⟩
theorem c90_is:FI 90 c90 tyG:=⟨_,Tryz.func90,by kernel_rfl,by kernel_rfl,by kernel_rfl⟩
theorem c91_is:FI 91 c91 tyG:=⟨_,Tryz.func91,by kernel_rfl,by kernel_rfl,by kernel_rfl⟩
theorem c92_is:FI 92 c92 tyG:=⟨_,Tryz.func92,by kernel_rfl,by kernel_rfl,by kernel_rfl⟩
theorem c93_is:FI 93 c93 tyG:=⟨_,Tryz.func93,by kernel_rfl,by kernel_rfl,by kernel_rfl⟩
theorem c94_is:FI 94 c94 tyG:=⟨_,Tryz.func94,by kernel_rfl,by kernel_rfl,by kernel_rfl⟩
theorem c95_is:FI 95 c95 tyG:=⟨_,Tryz.func95,by kernel_rfl,by kernel_rfl,by kernel_rfl⟩
theorem c96_is:FI 96 c96 tyG:=⟨_,Tryz.func96,by kernel_rfl,by kernel_rfl,by kernel_rfl⟩
theorem c98_is:FI 98 c98 tyG:=⟨_,Tryz.func98,by kernel_rfl,by kernel_rfl,by kernel_rfl⟩
theorem c99_is:FI 99 c99 tyG:=⟨_,Tryz.func99,by kernel_rfl,by kernel_rfl,by kernel_rfl⟩
theorem c100_is:FI 100 c100 tyG:=⟨_,Tryz.func100,by kernel_rfl,by kernel_rfl,by kernel_rfl⟩
theorem c101_is:FI 101 c101 tyG:=⟨_,Tryz.func101,by kernel_rfl,by kernel_rfl,by kernel_rfl⟩
theorem c102_is:FI 102 c102 tyG:=⟨_,Tryz.func102,by kernel_rfl,by kernel_rfl,by kernel_rfl⟩
theorem c106_is:FI 106 c106 tyG:=⟨_,Tryz.func106,by kernel_rfl,by kernel_rfl,by kernel_rfl⟩
theorem c108_is:FI 108 c108 tyG:=⟨_,Tryz.func108,by kernel_rfl,by kernel_rfl,by kernel_rfl⟩
theorem c109_is:FI 109 c109 tyG:=⟨_,Tryz.func109,by kernel_rfl,by kernel_rfl,by kernel_rfl⟩
theorem c110_is:FI 110 c110 tyG:=⟨_,Tryz.func110,by kernel_rfl,by kernel_rfl,by kernel_rfl⟩
theorem c111_is:FI 111 c111 tyG:=⟨_,Tryz.func111,by kernel_rfl,by kernel_rfl,by kernel_rfl⟩
theorem c112_is:FI 112 c112 tyG:=⟨_,Tryz.func112,by kernel_rfl,by kernel_rfl,by kernel_rfl⟩
theorem c113_is:FI 113 c113 tyG:=⟨_,Tryz.func113,by kernel_rfl,by kernel_rfl,by kernel_rfl⟩
theorem c114_is:FI 114 c114 tyG:=⟨_,Tryz.func114,by kernel_rfl,by kernel_rfl,by kernel_rfl⟩
theorem c115_is:FI 115 c115 tyG:=⟨_,Tryz.func115,by kernel_rfl,by kernel_rfl,by kernel_rfl⟩
theorem c116_is:FI 116 c116 tyG:=⟨_,Tryz.func116,by kernel_rfl,by kernel_rfl,by kernel_rfl⟩
theorem c117_is:FI 117 c117 tyG:=⟨_,Tryz.func117,by kernel_rfl,by kernel_rfl,by kernel_rfl⟩
theorem c118_is:FI 118 c118 tyG:=⟨_,Tryz.func118,by kernel_rfl,by kernel_rfl,by kernel_rfl⟩
theorem c121_is:FI 121 c121 tyG:=⟨_,Tryz.func121,by kernel_rfl,by kernel_rfl,by kernel_rfl⟩
theorem c123_is:FI 123 c123 tyG:=⟨_,Tryz.func123,by kernel_rfl,by kernel_rfl,by kernel_rfl⟩
theorem c125_is:FI 125 c125 tyG:=⟨_,Tryz.func125,by kernel_rfl,by kernel_rfl,by kernel_rfl⟩
theorem c126_is:FI 126 c126 tyG:=⟨_,Tryz.func126,by kernel_rfl,by kernel_rfl,by kernel_rfl⟩
theorem c127_is:FI 127 c127 tyG:=⟨_,Tryz.func127,by kernel_rfl,by kernel_rfl,by kernel_rfl⟩
theorem c128_is:FI 128 c128 tyG:=⟨_,Tryz.func128,by kernel_rfl,by kernel_rfl,by kernel_rfl⟩
theorem c129_is:FI 129 c129 tyG:=⟨_,Tryz.func129,by kernel_rfl,by kernel_rfl,by kernel_rfl⟩
theorem c130_is:FI 130 c130 tyG:=⟨_,Tryz.func130,by kernel_rfl,by kernel_rfl,by kernel_rfl⟩
theorem c131_is:FI 131 c131 tyG:=⟨_,Tryz.func131,by kernel_rfl,by kernel_rfl,by kernel_rfl⟩
theorem c132_is:FI 132 c132 tyG:=⟨_,Tryz.func132,by kernel_rfl,by kernel_rfl,by kernel_rfl⟩
theorem c133_is:FI 133 c133 tyG:=⟨_,Tryz.func133,by kernel_rfl,by kernel_rfl,by kernel_rfl⟩
theorem c134_is:FI 134 c134 tyG:=⟨_,Tryz.func134,by kernel_rfl,by kernel_rfl,by kernel_rfl⟩
theorem c135_is:FI 135 c135 tyG:=⟨_,Tryz.func135,by kernel_rfl,by kernel_rfl,by kernel_rfl⟩
theorem c136_is:FI 136 c136 tyG:=⟨_,Tryz.func136,by kernel_rfl,by kernel_rfl,by kernel_rfl⟩
theorem c142_is:FI 142 c142 tyG:=⟨_,Tryz.func142,by kernel_rfl,by kernel_rfl,by kernel_rfl⟩
theorem c143_is:FI 143 c143 tyG:=⟨_,Tryz.func143,by kernel_rfl,by kernel_rfl,by kernel_rfl⟩
theorem c146_is:FI 146 c146 tyG:=⟨_,Tryz.func146,by kernel_rfl,by kernel_rfl,by kernel_rfl⟩
theorem c147_is:FI 147 c147 tyG:=⟨_,Tryz.func147,by kernel_rfl,by kernel_rfl,by kernel_rfl⟩
theorem c148_is:FI 148 c148 tyG:=⟨_,Tryz.func148,by kernel_rfl,by kernel_rfl,by kernel_rfl⟩
theorem c150_is:FI 150 c150 tyG:=⟨_,Tryz.func150,by kernel_rfl,by kernel_rfl,by kernel_rfl⟩
theorem c151_is:FI 151 c151 tyG:=⟨_,Tryz.func151,by kernel_rfl,by kernel_rfl,by kernel_rfl⟩
theorem c152_is:FI 152 c152 tyG:=⟨_,Tryz.func152,by kernel_rfl,by kernel_rfl,by kernel_rfl⟩
theorem c153_is:FI 153 c153 tyG:=⟨_,Tryz.func153,by kernel_rfl,by kernel_rfl,by kernel_rfl⟩
theorem c154_is:FI 154 c154 tyG:=⟨_,Tryz.func154,by kernel_rfl,by kernel_rfl,by kernel_rfl⟩
theorem c155_is:FI 155 c155 tyG:=⟨_,Tryz.func155,by kernel_rfl,by kernel_rfl,by kernel_rfl⟩
theorem c156_is:FI 156 c156 tyG:=⟨_,Tryz.func156,by kernel_rfl,by kernel_rfl,by kernel_rfl⟩
theorem c157_is:FI 157 c157 tyG:=⟨_,Tryz.func157,by kernel_rfl,by kernel_rfl,by kernel_rfl⟩
theorem c158_is:FI 158 c158 tyG:=⟨_,Tryz.func158,by kernel_rfl,by kernel_rfl,by kernel_rfl⟩
theorem c159_is:FI 159 c159 tyG:=⟨_,Tryz.func159,by kernel_rfl,by kernel_rfl,by kernel_rfl⟩
theorem c160_is:FI 160 c160 tyG:=⟨_,Tryz.func160,by kernel_rfl,by kernel_rfl,by kernel_rfl⟩
theorem c161_is:FI 161 c161 tyG:=⟨_,Tryz.func161,by kernel_rfl,by kernel_rfl,by kernel_rfl⟩
theorem c162_is:FI 162 c162 tyG:=⟨_,Tryz.func162,by kernel_rfl,by kernel_rfl,by kernel_rfl⟩
theorem c163_is:FI 163 c163 tyG:=⟨_,Tryz.func163,by kernel_rfl,by kernel_rfl,by kernel_rfl⟩
theorem c164_is:FI 164 c164 tyG:=⟨_,Tryz.func164,by kernel_rfl,by kernel_rfl,by kernel_rfl⟩
theorem c165_is:FI 165 c165 tyG:=⟨_,Tryz.func165,by kernel_rfl,by kernel_rfl,by kernel_rfl⟩
theorem c166_is:FI 166 c166 tyG:=⟨_,Tryz.func166,by kernel_rfl,by kernel_rfl,by kernel_rfl⟩
theorem c167_is:FI 167 c167 tyG:=⟨_,Tryz.func167,by kernel_rfl,by kernel_rfl,by kernel_rfl⟩
theorem c168_is:FI 168 c168 tyG:=⟨_,Tryz.func168,by kernel_rfl,by kernel_rfl,by kernel_rfl⟩
theorem c172_is:FI 172 c172 tyG:=⟨_,Tryz.func172,by kernel_rfl,by kernel_rfl,by kernel_rfl⟩
theorem c173_is:FI 173 c173 tyG:=⟨_,Tryz.func173,by kernel_rfl,by kernel_rfl,by kernel_rfl⟩
theorem c174_is:FI 174 c174 tyG:=⟨_,Tryz.func174,by kernel_rfl,by kernel_rfl,by kernel_rfl⟩
theorem c175_is:FI 175 c175 tyG:=⟨_,Tryz.func175,by kernel_rfl,by kernel_rfl,by kernel_rfl⟩
theorem c176_is:FI 176 c176 tyG:=⟨_,Tryz.func176,by kernel_rfl,by kernel_rfl,by kernel_rfl⟩
theorem c177_is:FI 177 c177 tyG:=⟨_,Tryz.func177,by kernel_rfl,by kernel_rfl,by kernel_rfl⟩
theorem c178_is:FI 178 c178 tyG:=⟨_,Tryz.func178,by kernel_rfl,by kernel_rfl,by kernel_rfl⟩
theorem c181_is:FI 181 c181 tyG:=⟨_,Tryz.func181,by kernel_rfl,by kernel_rfl,by kernel_rfl⟩
theorem c182_is:FI 182 c182 tyG:=⟨_,Tryz.func182,by kernel_rfl,by kernel_rfl,by kernel_rfl⟩
theorem c183_is:FI 183 c183 tyG:=⟨_,Tryz.func183,by kernel_rfl,by kernel_rfl,by kernel_rfl⟩
theorem fnOK:FnOk Tryz.prog tyG fnG:=by
 refine⟨fun f fd h=>?_⟩
 have key:fnT.all fun f fd=>FI f fd tyG:=
  ⟨aN,⟨aN,⟨aN,⟨aN,⟨aN,⟨aN,⟨aN,⟨aS c127_is,⟨⟩,⟨⟩⟩,⟨⟩⟩,⟨aS c95_is,⟨aS c159_is,⟨⟩,⟨⟩⟩,⟨⟩⟩⟩,⟨aN,⟨aS c79_is,⟨aS c143_is,⟨⟩,⟨⟩⟩,⟨⟩⟩,⟨aS c111_is,⟨aS c175_is,⟨⟩,⟨⟩⟩,⟨⟩⟩⟩⟩,⟨aS c23_is,⟨aN,⟨aN,⟨aS c135_is,⟨⟩,⟨⟩⟩,⟨⟩⟩,⟨aN,⟨aS c167_is,⟨⟩,⟨⟩⟩,⟨⟩⟩⟩,⟨aN,⟨aS c87_is,⟨aS c151_is,⟨⟩,⟨⟩⟩,⟨⟩⟩,⟨aN,⟨aS c183_is,⟨⟩,⟨⟩⟩,⟨⟩⟩⟩⟩⟩,⟨aN,⟨aS c19_is,⟨aS c35_is,⟨aN,⟨aS c131_is,⟨⟩,⟨⟩⟩,⟨⟩⟩,⟨aS c99_is,⟨aS c163_is,⟨⟩,⟨⟩⟩,⟨⟩⟩⟩,⟨aN,⟨aS c83_is,⟨aS c147_is,⟨⟩,⟨⟩⟩,⟨⟩⟩,⟨aS c115_is,⟨⟩,⟨⟩⟩⟩⟩,⟨aS c27_is,⟨aS c43_is,⟨aS c75_is,⟨⟩,⟨⟩⟩,⟨⟩⟩,⟨aN,⟨aS c91_is,⟨aS c155_is,⟨⟩,⟨⟩⟩,⟨⟩⟩,⟨aS c123_is,⟨⟩,⟨⟩⟩⟩⟩⟩⟩,⟨aN,⟨aN,⟨aS c17_is,⟨aN,⟨aN,⟨aS c129_is,⟨⟩,⟨⟩⟩,⟨⟩⟩,⟨aN,⟨aS c161_is,⟨⟩,⟨⟩⟩,⟨⟩⟩⟩,⟨aS c49_is,⟨aS c81_is,⟨⟩,⟨⟩⟩,⟨aS c113_is,⟨aS c177_is,⟨⟩,⟨⟩⟩,⟨⟩⟩⟩⟩,⟨aS c25_is,⟨aS c41_is,⟨aS c73_is,⟨⟩,⟨⟩⟩,⟨⟩⟩,⟨aS c57_is,⟨aS c89_is,⟨aS c153_is,⟨⟩,⟨⟩⟩,⟨⟩⟩,⟨aS c121_is,⟨⟩,⟨⟩⟩⟩⟩⟩,⟨aN,⟨aS c21_is,⟨aN,⟨aN,⟨aS c133_is,⟨⟩,⟨⟩⟩,⟨⟩⟩,⟨aS c101_is,⟨aS c165_is,⟨⟩,⟨⟩⟩,⟨⟩⟩⟩,⟨aN,⟨aS c85_is,⟨⟩,⟨⟩⟩,⟨aS c117_is,⟨aS c181_is,⟨⟩,⟨⟩⟩,⟨⟩⟩⟩⟩,⟨aN,⟨aN,⟨aS c77_is,⟨⟩,⟨⟩⟩,⟨aS c109_is,⟨aS c173_is,⟨⟩,⟨⟩⟩,⟨⟩⟩⟩,⟨aN,⟨aS c93_is,⟨aS c157_is,⟨⟩,⟨⟩⟩,⟨⟩⟩,⟨aS c125_is,⟨⟩,⟨⟩⟩⟩⟩⟩⟩⟩,⟨aN,⟨aN,⟨aN,⟨aN,⟨aS c32_is,⟨aN,⟨aS c128_is,⟨⟩,⟨⟩⟩,⟨⟩⟩,⟨aS c96_is,⟨aS c160_is,⟨⟩,⟨⟩⟩,⟨⟩⟩⟩,⟨aN,⟨aS c80_is,⟨⟩,⟨⟩⟩,⟨aS c112_is,⟨aS c176_is,⟨⟩,⟨⟩⟩,⟨⟩⟩⟩⟩,⟨aS c24_is,⟨aS c40_is,⟨aS c72_is,⟨aS c136_is,⟨⟩,⟨⟩⟩,⟨⟩⟩,⟨aN,⟨aS c168_is,⟨⟩,⟨⟩⟩,⟨⟩⟩⟩,⟨aN,⟨aS c88_is,⟨aS c152_is,⟨⟩,⟨⟩⟩,⟨⟩⟩,⟨⟩⟩⟩⟩,⟨aN,⟨aS c20_is,⟨aN,⟨aN,⟨aS c132_is,⟨⟩,⟨⟩⟩,⟨⟩⟩,⟨aS c100_is,⟨aS c164_is,⟨⟩,⟨⟩⟩,⟨⟩⟩⟩,⟨aN,⟨aS c84_is,⟨aS c148_is,⟨⟩,⟨⟩⟩,⟨⟩⟩,⟨aS c116_is,⟨⟩,⟨⟩⟩⟩⟩,⟨aN,⟨aS c44_is,⟨aS c76_is,⟨⟩,⟨⟩⟩,⟨aS c108_is,⟨aS c172_is,⟨⟩,⟨⟩⟩,⟨⟩⟩⟩,⟨aN,⟨aS c92_is,⟨aS c156_is,⟨⟩,⟨⟩⟩,⟨⟩⟩,⟨⟩⟩⟩⟩⟩,⟨aS c6_is,⟨aN,⟨aS c18_is,⟨aS c34_is,⟨aN,⟨aS c130_is,⟨⟩,⟨⟩⟩,⟨⟩⟩,⟨aS c98_is,⟨aS c162_is,⟨⟩,⟨⟩⟩,⟨⟩⟩⟩,⟨aN,⟨aS c82_is,⟨aS c146_is,⟨⟩,⟨⟩⟩,⟨⟩⟩,⟨aS c114_is,⟨aS c178_is,⟨⟩,⟨⟩⟩,⟨⟩⟩⟩⟩,⟨aN,⟨aS c42_is,⟨aS c74_is,⟨⟩,⟨⟩⟩,⟨aS c106_is,⟨⟩,⟨⟩⟩⟩,⟨aS c58_is,⟨aS c90_is,⟨aS c154_is,⟨⟩,⟨⟩⟩,⟨⟩⟩,⟨⟩⟩⟩⟩,⟨aN,⟨aS c22_is,⟨aN,⟨aN,⟨aS c134_is,⟨⟩,⟨⟩⟩,⟨⟩⟩,⟨aS c102_is,⟨aS c166_is,⟨⟩,⟨⟩⟩,⟨⟩⟩⟩,⟨aS c54_is,⟨aS c86_is,⟨aS c150_is,⟨⟩,⟨⟩⟩,⟨⟩⟩,⟨aS c118_is,⟨aS c182_is,⟨⟩,⟨⟩⟩,⟨⟩⟩⟩⟩,⟨aN,⟨aN,⟨aS c78_is,⟨aS c142_is,⟨⟩,⟨⟩⟩,⟨⟩⟩,⟨aS c110_is,⟨aS c174_is,⟨⟩,⟨⟩⟩,⟨⟩⟩⟩,⟨aN,⟨aS c94_is,⟨aS c158_is,⟨⟩,⟨⟩⟩,⟨⟩⟩,⟨aS c126_is,⟨⟩,⟨⟩⟩⟩⟩⟩⟩⟩⟩
 exact T.all_get key h
theorem depth_ok:8≤Tryz.prog.depth:=Nat.le_of_ble_eq_true (by kernel_rfl)
theorem mixed_ok:Tryz.prog.follows .mixedOrders=true:=by kernel_rfl
end Go.Ab.Tryz
