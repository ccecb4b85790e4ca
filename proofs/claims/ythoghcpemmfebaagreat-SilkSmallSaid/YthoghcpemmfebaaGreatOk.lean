import Derived.Test.YthoghcpemmfebaaGreatProg
import Derived.Test.YthoghcpemmfebaaGreatDat
import Derived.Test.YthoghcpemmfebaaGreatAbS
import Derived.KernelRfl
set_option linter.unusedSimpArgs false
set_option linter.unusedVariables false
namespace Go.Ab.Tryz
open Go.Proofs
theorem KR{p:Prop}(h:p:=by kernel_rfl):p:=h
abbrev TI (t:Nat) (d:TD):Prop:=∃i u,TyIs Tryz.prog t d i u
abbrev FI (f:Nat) (d:FD) (G:Nat→Option TD):Prop:=∃fn,Tryz.prog.funcs[f]? =some fn∧(fn.name== "runtime.NumGoroutine")=false∧compF G fn=some d∧d.body.lt d.ntmps=true
theorem aN {α:Type}{p:α→Prop}:∀a,(none:Option α)=some a→p a:=fun a h=>by cases h
theorem aS {α:Type}{p:α→Prop}{v:α}(h:p v):∀a,some v=some a→p a:=fun a e=>by cases e;exact h
theorem ty3_is:TI 3 ty3:=⟨Tryz.prog.types.getD 3 default,_,⟨KR,Tryz.underlying3,by simp[ty3,UD.is],KR,KR,KR,by simp[ty3,scL,V.sc],KR,(fun _=>⟨_,rfl,rfl⟩),KR⟩⟩
theorem ty4_is:TI 4 ty4:=⟨Tryz.prog.types.getD 4 default,_,⟨KR,Tryz.underlying4,by simp[ty4,UD.is],KR,KR,KR,by simp[ty4,scL,V.sc],KR,(fun _=>⟨_,rfl,rfl⟩),KR⟩⟩
theorem ty22_is:TI 22 ty22:=⟨Tryz.prog.types.getD 22 default,_,⟨KR,Tryz.underlying22,by simp[ty22,UD.is],KR,KR,KR,by simp[ty22,scL,V.sc],KR,(fun _=>⟨_,rfl,rfl⟩),KR⟩⟩
theorem ty23_is:TI 23 ty23:=⟨Tryz.prog.types.getD 23 default,_,⟨KR,Tryz.underlying23,by simp[ty23,UD.is],KR,KR,KR,by simp[ty23,scL,V.sc],KR,(fun _=>⟨_,rfl,rfl⟩),KR⟩⟩
theorem ty24_is:TI 24 ty24:=⟨Tryz.prog.types.getD 24 default,_,⟨KR,Tryz.underlying24,by simp[ty24,UD.is],KR,KR,KR,by simp[ty24,scL,V.sc],KR,(fun _=>⟨_,rfl,rfl⟩),KR⟩⟩
theorem ty26_is:TI 26 ty26:=⟨Tryz.prog.types.getD 26 default,_,⟨KR,Tryz.underlying26,by simp[ty26,UD.is],KR,KR,KR,by simp[ty26,scL,V.sc],KR,(fun h=>by cases h),KR⟩⟩
theorem ty29_is:TI 29 ty29:=⟨Tryz.prog.types.getD 29 default,_,⟨KR,Tryz.underlying29,by simp[ty29,UD.is],KR,KR,KR,by simp[ty29,scL,V.sc],KR,(fun h=>by cases h),KR⟩⟩
theorem ty31_is:TI 31 ty31:=⟨Tryz.prog.types.getD 31 default,_,⟨KR,Tryz.underlying31,by simp[ty31,UD.is],KR,KR,KR,by simp[ty31,scL,V.sc],KR,(fun h=>by cases h),KR⟩⟩
theorem ty33_is:TI 33 ty33:=⟨Tryz.prog.types.getD 33 default,_,⟨KR,Tryz.underlying33,by simp[ty33,UD.is],KR,KR,KR,by simp[ty33,scL,V.sc],KR,(fun h=>by cases h),KR⟩⟩
theorem ty34_is:TI 34 ty34:=⟨Tryz.prog.types.getD 34 default,_,⟨KR,Tryz.underlying34,by simp[ty34,UD.is],KR,KR,KR,by simp[ty34,scL,V.sc],KR,(fun _=>⟨_,rfl,rfl⟩),KR⟩⟩
theorem ty35_is:TI 35 ty35:=⟨Tryz.prog.types.getD 35 default,_,⟨KR,Tryz.underlying35,by simp[ty35,UD.is],KR,KR,KR,by simp[ty35,scL,V.sc],KR,(fun _=>⟨_,rfl,rfl⟩),KR⟩⟩
theorem ty36_is:TI 36 ty36:=⟨Tryz.prog.types.getD 36 default,_,⟨KR,Tryz.underlying36,by simp[ty36,UD.is],KR,KR,KR,by simp[ty36,scL,V.sc],KR,(fun _=>⟨_,rfl,rfl⟩),KR⟩⟩
theorem ty38_is:TI 38 ty38:=⟨Tryz.prog.types.getD 38 default,_,⟨KR,Tryz.underlying38,by simp[ty38,UD.is],KR,KR,KR,by simp[ty38,scL,V.sc],KR,(fun h=>by cases h),KR⟩⟩
theorem ty40_is:TI 40 ty40:=⟨Tryz.prog.types.getD 40 default,_,⟨KR,Tryz.underlying40,by simp[ty40,UD.is],KR,KR,KR,by simp[ty40,scL,V.sc],KR,(fun _=>⟨_,rfl,rfl⟩),KR⟩⟩
theorem ty42_is:TI 42 ty42:=⟨Tryz.prog.types.getD 42 default,_,⟨KR,Tryz.underlying42,by simp[ty42,UD.is],KR,KR,KR,by simp[ty42,scL,V.sc],KR,(fun _=>⟨_,rfl,rfl⟩),KR⟩⟩
theorem ty43_is:TI 43 ty43:=⟨Tryz.prog.types.getD 43 default,_,⟨KR,Tryz.underlying43,by simp[ty43,UD.is],KR,KR,KR,by simp[ty43,scL,V.sc],KR,(fun _=>⟨_,rfl,rfl⟩),KR⟩⟩
theorem ty50_is:TI 50 ty50:=⟨Tryz.prog.types.getD 50 default,_,⟨KR,Tryz.underlying50,by simp[ty50,UD.is],KR,KR,KR,by simp[ty50,scL,V.sc],KR,(fun _=>⟨_,rfl,rfl⟩),KR⟩⟩
theorem ty51_is:TI 51 ty51:=⟨Tryz.prog.types.getD 51 default,_,⟨KR,Tryz.underlying51,by simp[ty51,UD.is],KR,KR,KR,by simp[ty51,scL,V.sc],KR,(fun _=>⟨_,rfl,rfl⟩),KR⟩⟩
theorem ty57_is:TI 57 ty57:=⟨Tryz.prog.types.getD 57 default,_,⟨KR,Tryz.underlying57,by simp[ty57,UD.is],KR,KR,KR,by simp[ty57,scL,V.sc],KR,(fun _=>⟨_,rfl,rfl⟩),KR⟩⟩
theorem ty74_is:TI 74 ty74:=⟨Tryz.prog.types.getD 74 default,_,⟨KR,Tryz.underlying74,by simp[ty74,UD.is],KR,KR,KR,by simp[ty74,scL,V.sc],KR,(fun _=>⟨_,rfl,rfl⟩),KR⟩⟩
theorem ty77_is:TI 77 ty77:=⟨Tryz.prog.types.getD 77 default,_,⟨KR,Tryz.underlying77,by simp[ty77,UD.is],KR,KR,KR,by simp[ty77,scL,V.sc],KR,(fun _=>⟨_,rfl,rfl⟩),KR⟩⟩
theorem ty79_is:TI 79 ty79:=⟨Tryz.prog.types.getD 79 default,_,⟨KR,Tryz.underlying79,by simp[ty79,UD.is],KR,KR,KR,by simp[ty79,scL,V.sc],KR,(fun h=>by cases h),KR⟩⟩
theorem ty88_is:TI 88 ty88:=⟨Tryz.prog.types.getD 88 default,_,⟨KR,Tryz.underlying88,by simp[ty88,UD.is],KR,KR,KR,by simp[ty88,scL,V.sc],KR,(fun h=>by cases h),KR⟩⟩
theorem ty92_is:TI 92 ty92:=⟨Tryz.prog.types.getD 92 default,_,⟨KR,Tryz.underlying92,by simp[ty92,UD.is],KR,KR,KR,by simp[ty92,scL,V.sc],KR,(fun _=>⟨_,rfl,rfl⟩),KR⟩⟩
theorem ty94_is:TI 94 ty94:=⟨Tryz.prog.types.getD 94 default,_,⟨KR,Tryz.underlying94,by simp[ty94,UD.is],KR,KR,KR,by simp[ty94,scL,V.sc],KR,(fun h=>by cases h),KR⟩⟩
theorem ty97_is:TI 97 ty97:=⟨Tryz.prog.types.getD 97 default,_,⟨KR,Tryz.underlying97,by simp[ty97,UD.is],KR,KR,KR,by simp[ty97,scL,V.sc],KR,(fun h=>by cases h),KR⟩⟩
theorem ty101_is:TI 101 ty101:=⟨Tryz.prog.types.getD 101 default,_,⟨KR,Tryz.underlying101,by simp[ty101,UD.is],KR,KR,KR,by simp[ty101,scL,V.sc],KR,(fun _=>⟨_,rfl,rfl⟩),KR⟩⟩
theorem ty102_is:TI 102 ty102:=⟨Tryz.prog.types.getD 102 default,_,⟨KR,Tryz.underlying102,by simp[ty102,UD.is],KR,KR,KR,by simp[ty102,scL,V.sc],KR,(fun _=>⟨_,rfl,rfl⟩),KR⟩⟩
theorem ty104_is:TI 104 ty104:=⟨Tryz.prog.types.getD 104 default,_,⟨KR,Tryz.underlying104,by simp[ty104,UD.is],KR,KR,KR,by simp[ty104,scL,V.sc],KR,(fun h=>by cases h),KR⟩⟩
theorem ty117_is:TI 117 ty117:=⟨Tryz.prog.types.getD 117 default,_,⟨KR,Tryz.underlying117,by simp[ty117,UD.is],KR,KR,KR,by simp[ty117,scL,V.sc],KR,(fun _=>⟨_,rfl,rfl⟩),KR⟩⟩
theorem ty125_is:TI 125 ty125:=⟨Tryz.prog.types.getD 125 default,_,⟨KR,Tryz.underlying125,by simp[ty125,UD.is],KR,KR,KR,by simp[ty125,scL,V.sc],KR,(fun h=>by cases h),KR⟩⟩
theorem ty137_is:TI 137 ty137:=⟨Tryz.prog.types.getD 137 default,_,⟨KR,Tryz.underlying137,by simp[ty137,UD.is],KR,KR,KR,by simp[ty137,scL,V.sc],KR,(fun _=>⟨_,rfl,rfl⟩),KR⟩⟩
theorem ty139_is:TI 139 ty139:=⟨Tryz.prog.types.getD 139 default,_,⟨KR,Tryz.underlying139,by simp[ty139,UD.is],KR,KR,KR,by simp[ty139,scL,V.sc],KR,(fun _=>⟨_,rfl,rfl⟩),KR⟩⟩
theorem ty140_is:TI 140 ty140:=⟨Tryz.prog.types.getD 140 default,_,⟨KR,Tryz.underlying140,by simp[ty140,UD.is],KR,KR,KR,by simp[ty140,scL,V.sc],KR,(fun _=>⟨_,rfl,rfl⟩),KR⟩⟩
theorem ty153_is:TI 153 ty153:=⟨Tryz.prog.types.getD 153 default,_,⟨KR,Tryz.underlying153,by simp[ty153,UD.is],KR,KR,KR,by simp[ty153,scL,V.sc],KR,(fun _=>⟨_,rfl,rfl⟩),KR⟩⟩
theorem ty159_is:TI 159 ty159:=⟨Tryz.prog.types.getD 159 default,_,⟨KR,Tryz.underlying159,by simp[ty159,UD.is],KR,KR,KR,by simp[ty159,scL,V.sc],KR,(fun _=>⟨_,rfl,rfl⟩),KR⟩⟩
theorem ty162_is:TI 162 ty162:=⟨Tryz.prog.types.getD 162 default,_,⟨KR,Tryz.underlying162,by simp[ty162,UD.is],KR,KR,KR,by simp[ty162,scL,V.sc],KR,(fun _=>⟨_,rfl,rfl⟩),KR⟩⟩
theorem ty166_is:TI 166 ty166:=⟨Tryz.prog.types.getD 166 default,_,⟨KR,Tryz.underlying166,by simp[ty166,UD.is],KR,KR,KR,by simp[ty166,scL,V.sc],KR,(fun h=>by cases h),KR⟩⟩
theorem ty178_is:TI 178 ty178:=⟨Tryz.prog.types.getD 178 default,_,⟨KR,Tryz.underlying178,by simp[ty178,UD.is],KR,KR,KR,by simp[ty178,scL,V.sc],KR,(fun _=>⟨_,rfl,rfl⟩),KR⟩⟩
noncomputable def tyG (t:Nat):Option TD:=tyT.get t
noncomputable def fnG (f:Nat):Option FD:=fnT.get f
theorem tyOK:Yd Tryz.prog tyG:=by
 intro t d h
 have key:tyT.all TI:=⟨aN,⟨aN,⟨aS ty3_is,⟨aN,⟨aN,⟨aS ty31_is,⟨⟩,⟨aN,⟨aS ty159_is,⟨⟩,⟨⟩⟩,⟨⟩⟩⟩,⟨aN,⟨aS ty79_is,⟨⟩,⟨⟩⟩,⟨⟩⟩⟩,⟨aS ty23_is,⟨⟩,⟨⟩⟩⟩,⟨aN,⟨aN,⟨aS ty35_is,⟨⟩,⟨⟩⟩,⟨aS ty51_is,⟨⟩,⟨⟩⟩⟩,⟨aN,⟨aS ty43_is,⟨aN,⟨aS ty139_is,⟨⟩,⟨⟩⟩,⟨⟩⟩,⟨⟩⟩,⟨⟩⟩⟩⟩,⟨aN,⟨aN,⟨aN,⟨aS ty33_is,⟨⟩,⟨aS ty97_is,⟨⟩,⟨⟩⟩⟩,⟨⟩⟩,⟨aN,⟨aN,⟨aN,⟨aS ty137_is,⟨⟩,⟨⟩⟩,⟨⟩⟩,⟨⟩⟩,⟨aS ty57_is,⟨aN,⟨aS ty153_is,⟨⟩,⟨⟩⟩,⟨⟩⟩,⟨⟩⟩⟩⟩,⟨aN,⟨aN,⟨aN,⟨⟩,⟨aS ty101_is,⟨⟩,⟨⟩⟩⟩,⟨aN,⟨⟩,⟨aS ty117_is,⟨⟩,⟨⟩⟩⟩⟩,⟨aS ty29_is,⟨aN,⟨aS ty77_is,⟨⟩,⟨⟩⟩,⟨⟩⟩,⟨aN,⟨⟩,⟨aS ty125_is,⟨⟩,⟨⟩⟩⟩⟩⟩⟩⟩,⟨aN,⟨aS ty4_is,⟨aN,⟨⟩,⟨aS ty24_is,⟨aS ty40_is,⟨⟩,⟨aS ty104_is,⟨⟩,⟨⟩⟩⟩,⟨aN,⟨aS ty88_is,⟨⟩,⟨⟩⟩,⟨⟩⟩⟩⟩,⟨aN,⟨aN,⟨aS ty36_is,⟨⟩,⟨⟩⟩,⟨⟩⟩,⟨aN,⟨aN,⟨aN,⟨aS ty140_is,⟨⟩,⟨⟩⟩,⟨⟩⟩,⟨⟩⟩,⟨aN,⟨aS ty92_is,⟨⟩,⟨⟩⟩,⟨⟩⟩⟩⟩⟩,⟨aN,⟨aN,⟨aN,⟨aS ty34_is,⟨⟩,⟨aN,⟨aS ty162_is,⟨⟩,⟨⟩⟩,⟨⟩⟩⟩,⟨aS ty50_is,⟨⟩,⟨aN,⟨aS ty178_is,⟨⟩,⟨⟩⟩,⟨⟩⟩⟩⟩,⟨aS ty26_is,⟨aS ty42_is,⟨aS ty74_is,⟨⟩,⟨⟩⟩,⟨⟩⟩,⟨⟩⟩⟩,⟨aN,⟨aS ty22_is,⟨aS ty38_is,⟨⟩,⟨aS ty102_is,⟨aS ty166_is,⟨⟩,⟨⟩⟩,⟨⟩⟩⟩,⟨⟩⟩,⟨aN,⟨⟩,⟨aN,⟨aS ty94_is,⟨⟩,⟨⟩⟩,⟨⟩⟩⟩⟩⟩⟩⟩
 exact T.all_get key h
theorem c3_is:FI 3 c3 tyG:=⟨_,Tryz.func3,KR,KR,KR⟩
theorem c5_is:FI 5 c5 tyG:=⟨_,Tryz.func5,KR,KR,KR⟩
theorem c6_is:FI 6 c6 tyG:=⟨_,Tryz.func6,KR,KR,KR⟩
theorem c7_is:FI 7 c7 tyG:=⟨_,Tryz.func7,KR,KR,KR⟩
theorem c8_is:FI 8 c8 tyG:=⟨_,Tryz.func8,KR,KR,KR⟩
theorem c9_is:FI 9 c9 tyG:=⟨_,Tryz.func9,KR,KR,KR⟩
theorem c10_is:FI 10 c10 tyG:=⟨_,Tryz.func10,KR,KR,KR⟩
theorem c11_is:FI 11 c11 tyG:=⟨_,Tryz.func11,KR,KR,KR⟩
theorem c12_is:FI 12 c12 tyG:=⟨_,Tryz.func12,KR,KR,KR⟩
theorem c13_is:FI 13 c13 tyG:=⟨_,Tryz.func13,KR,KR,KR⟩
theorem c14_is:FI 14 c14 tyG:=⟨_,Tryz.func14,KR,KR,KR⟩
theorem c15_is:FI 15 c15 tyG:=⟨_,Tryz.func15,KR,KR,KR⟩
theorem c16_is:FI 16 c16 tyG:=⟨_,Tryz.func16,KR,KR,KR⟩
theorem c22_is:FI 22 c22 tyG:=⟨_,Tryz.func22,KR,KR,KR⟩
theorem c23_is:FI 23 c23 tyG:=⟨_,Tryz.func23,KR,KR,KR⟩
theorem c25_is:FI 25 c25 tyG:=⟨_,Tryz.func25,KR,KR,KR⟩
theorem c29_is:FI 29 c29 tyG:=⟨_,Tryz.func29,KR,KR,KR⟩
theorem c30_is:FI 30 c30 tyG:=⟨_,Tryz.func30,KR,KR,KR⟩
theorem c31_is:FI 31 c31 tyG:=⟨_,Tryz.func31,KR,KR,KR⟩
theorem c32_is:FI 32 c32 tyG:=⟨_,Tryz.func32,KR,KR,KR⟩
theorem c33_is:FI 33 c33 tyG:=⟨_,Tryz.func33,KR,KR,KR⟩
theorem c34_is:FI 34 c34 tyG:=⟨_,Tryz.func34,KR,KR,KR⟩
theorem c35_is:FI 35 c35 tyG:=⟨_,Tryz.func35,KR,KR,KR⟩
theorem c36_is:FI 36 c36 tyG:=⟨_,Tryz.func36,KR,KR,KR⟩
theorem c37_is:FI 37 c37 tyG:=⟨_,Tryz.func37,KR,KR,KR⟩
theorem c38_is:FI 38 c38 tyG:=⟨_,Tryz.func38,KR,KR,KR⟩
theorem c39_is:FI 39 c39 tyG:=⟨_,Tryz.func39,KR,KR,KR⟩
theorem c40_is:FI 40 c40 tyG:=⟨_,Tryz.func40,KR,KR,KR⟩
theorem c41_is:FI 41 c41 tyG:=⟨_,Tryz.func41,KR,KR,KR⟩
theorem c42_is:FI 42 c42 tyG:=⟨_,Tryz.func42,KR,KR,KR⟩
theorem c43_is:FI 43 c43 tyG:=⟨_,Tryz.func43,KR,KR,KR⟩
theorem c44_is:FI 44 c44 tyG:=⟨_,Tryz.func44,KR,KR,KR⟩
theorem c45_is:FI 45 c45 tyG:=⟨_,Tryz.func45,KR,KR,KR⟩
theorem c46_is:FI 46 c46 tyG:=⟨_,Tryz.func46,KR,KR,KR⟩
theorem c47_is:FI 47 c47 tyG:=⟨_,Tryz.func47,KR,KR,KR⟩
theorem c48_is:FI 48 c48 tyG:=⟨_,Tryz.func48,KR,KR,KR⟩
theorem c49_is:FI 49 c49 tyG:=⟨_,Tryz.func49,KR,KR,KR⟩
theorem c50_is:FI 50 c50 tyG:=⟨_,Tryz.func50,KR,KR,KR⟩
theorem c51_is:FI 51 c51 tyG:=⟨_,Tryz.func51,KR,KR,KR⟩
theorem c52_is:FI 52 c52 tyG:=⟨_,Tryz.func52,KR,KR,KR⟩
theorem c53_is:FI 53 c53 tyG:=⟨_,Tryz.func53,KR,KR,KR⟩
theorem c54_is:FI 54 c54 tyG:=⟨_,Tryz.func54,KR,KR,KR⟩
theorem c55_is:FI 55 c55 tyG:=⟨_,Tryz.func55,KR,KR,KR⟩
theorem c56_is:FI 56 c56 tyG:=⟨_,Tryz.func56,KR,KR,KR⟩
theorem c57_is:FI 57 c57 tyG:=⟨_,Tryz.func57,KR,KR,KR⟩
theorem c58_is:FI 58 c58 tyG:=⟨_,Tryz.func58,KR,KR,KR⟩
theorem c59_is:FI 59 c59 tyG:=⟨_,Tryz.func59,KR,KR,KR⟩
theorem c60_is:FI 60 c60 tyG:=⟨_,Tryz.func60,KR,KR,KR⟩
theorem c61_is:FI 61 c61 tyG:=⟨_,Tryz.func61,KR,KR,KR⟩
theorem c62_is:FI 62 c62 tyG:=⟨_,Tryz.func62,KR,KR,KR⟩
theorem c63_is:FI 63 c63 tyG:=⟨_,Tryz.func63,KR,KR,KR⟩
theorem c64_is:FI 64 c64 tyG:=⟨_,Tryz.func64,KR,KR,KR⟩
theorem c65_is:FI 65 c65 tyG:=⟨_,Tryz.func65,KR,KR,KR⟩
theorem c66_is:FI 66 c66 tyG:=⟨_,Tryz.func66,KR,KR,KR⟩
theorem c67_is:FI 67 c67 tyG:=⟨_,Tryz.func67,KR,KR,KR⟩
theorem c68_is:FI 68 c68 tyG:=⟨_,Tryz.func68,KR,KR,KR⟩
theorem c69_is:FI 69 c69 tyG:=⟨_,Tryz.func69,KR,KR,KR⟩
theorem c70_is:FI 70 c70 tyG:=⟨_,Tryz.func70,KR,KR,KR⟩
theorem c71_is:FI 71 c71 tyG:=⟨_,Tryz.func71,KR,KR,KR⟩
theorem c72_is:FI 72 c72 tyG:=⟨_,Tryz.func72,KR,KR,KR⟩
theorem c73_is:FI 73 c73 tyG:=⟨_,Tryz.func73,KR,KR,KR⟩
theorem c74_is:FI 74 c74 tyG:=⟨_,Tryz.func74,KR,KR,KR⟩
theorem c75_is:FI 75 c75 tyG:=⟨_,Tryz.func75,KR,KR,KR⟩
theorem c76_is:FI 76 c76 tyG:=⟨_,Tryz.func76,KR,KR,KR⟩
theorem c77_is:FI 77 c77 tyG:=⟨_,Tryz.func77,KR,KR,KR⟩
theorem c80_is:FI 80 c80 tyG:=⟨_,Tryz.func80,KR,KR,KR⟩
theorem c81_is:FI 81 c81 tyG:=⟨_,Tryz.func81,KR,KR,KR⟩
theorem c82_is:FI 82 c82 tyG:=⟨_,Tryz.func82,KR,KR,KR⟩
theorem c83_is:FI 83 c83 tyG:=⟨_,Tryz.func83,KR,KR,KR⟩
theorem c86_is:FI 86 c86 tyG:=⟨_,Tryz.func86,KR,KR,KR⟩
theorem c87_is:FI 87 c87 tyG:=⟨_,Tryz.func87,KR,KR,KR⟩
theorem c88_is:FI 88 c88 tyG:=⟨_,Tryz.func88,KR,KR,KR⟩
theorem c91_is:FI 91 c91 tyG:=⟨_,Tryz.func91,KR,KR,KR⟩
theorem c92_is:FI 92 c92 tyG:=⟨_,Tryz.func92,KR,KR,KR⟩
theorem c93_is:FI 93 c93 tyG:=⟨_,Tryz.func93,KR,KR,KR⟩
theorem c94_is:FI 94 c94 tyG:=⟨_,Tryz.func94,KR,KR,KR⟩
theorem c95_is:FI 95 c95 tyG:=⟨_,Tryz.func95,KR,KR,KR⟩
theorem c96_is:FI 96 c96 tyG:=⟨_,Tryz.func96,KR,KR,KR⟩
theorem c97_is:FI 97 c97 tyG:=⟨_,Tryz.func97,KR,KR,KR⟩
theorem c98_is:FI 98 c98 tyG:=⟨_,Tryz.func98,KR,KR,KR⟩
theorem c99_is:FI 99 c99 tyG:=⟨_,Tryz.func99,KR,KR,KR⟩
theorem c100_is:FI 100 c100 tyG:=⟨_,Tryz.func100,KR,KR,KR⟩
theorem c101_is:FI 101 c101 tyG:=⟨_,Tryz.func101,KR,KR,KR⟩
theorem c102_is:FI 102 c102 tyG:=⟨_,Tryz.func102,KR,KR,KR⟩
theorem c103_is:FI 103 c103 tyG:=⟨_,Tryz.func103,KR,KR,KR⟩
theorem c104_is:FI 104 c104 tyG:=⟨_,Tryz.func104,KR,KR,KR⟩
theorem c105_is:FI 105 c105 tyG:=⟨_,Tryz.func105,KR,KR,KR⟩
theorem c106_is:FI 106 c106 tyG:=⟨_,Tryz.func106,KR,KR,KR⟩
theorem c107_is:FI 107 c107 tyG:=⟨_,Tryz.func107,KR,KR,KR⟩
theorem c108_is:FI 108 c108 tyG:=⟨_,Tryz.func108,KR,KR,KR⟩
theorem c109_is:FI 109 c109 tyG:=⟨_,Tryz.func109,KR,KR,KR⟩
theorem c110_is:FI 110 c110 tyG:=⟨_,Tryz.func110,KR,KR,KR⟩
theorem c111_is:FI 111 c111 tyG:=⟨_,Tryz.func111,KR,KR,KR⟩
theorem c112_is:FI 112 c112 tyG:=⟨_,Tryz.func112,KR,KR,KR⟩
theorem c113_is:FI 113 c113 tyG:=⟨_,Tryz.func113,KR,KR,KR⟩
theorem c114_is:FI 114 c114 tyG:=⟨_,Tryz.func114,KR,KR,KR⟩
theorem c115_is:FI 115 c115 tyG:=⟨_,Tryz.func115,KR,KR,KR⟩
theorem c116_is:FI 116 c116 tyG:=⟨_,Tryz.func116,KR,KR,KR⟩
theorem c117_is:FI 117 c117 tyG:=⟨_,Tryz.func117,KR,KR,KR⟩
theorem c118_is:FI 118 c118 tyG:=⟨_,Tryz.func118,KR,KR,KR⟩
theorem c119_is:FI 119 c119 tyG:=⟨_,Tryz.func119,KR,KR,KR⟩
theorem c120_is:FI 120 c120 tyG:=⟨_,Tryz.func120,KR,KR,KR⟩
theorem c121_is:FI 121 c121 tyG:=⟨_,Tryz.func121,KR,KR,KR⟩
theorem c122_is:FI 122 c122 tyG:=⟨_,Tryz.func122,KR,KR,KR⟩
theorem c123_is:FI 123 c123 tyG:=⟨_,Tryz.func123,KR,KR,KR⟩
theorem c124_is:FI 124 c124 tyG:=⟨_,Tryz.func124,KR,KR,KR⟩
theorem c125_is:FI 125 c125 tyG:=⟨_,Tryz.func125,KR,KR,KR⟩
theorem c127_is:FI 127 c127 tyG:=⟨_,Tryz.func127,KR,KR,KR⟩
theorem c128_is:FI 128 c128 tyG:=⟨_,Tryz.func128,KR,KR,KR⟩
theorem c129_is:FI 129 c129 tyG:=⟨_,Tryz.func129,KR,KR,KR⟩
theorem c130_is:FI 130 c130 tyG:=⟨_,Tryz.func130,KR,KR,KR⟩
theorem c131_is:FI 131 c131 tyG:=⟨_,Tryz.func131,KR,KR,KR⟩
theorem c132_is:FI 132 c132 tyG:=⟨_,Tryz.func132,KR,KR,KR⟩
theorem c144_is:FI 144 c144 tyG:=⟨_,Tryz.func144,KR,KR,KR⟩
theorem c145_is:FI 145 c145 tyG:=⟨_,Tryz.func145,KR,KR,KR⟩
theorem c146_is:FI 146 c146 tyG:=⟨_,Tryz.func146,KR,KR,KR⟩
theorem c147_is:FI 147 c147 tyG:=⟨_,Tryz.func147,KR,KR,KR⟩
theorem c148_is:FI 148 c148 tyG:=⟨_,Tryz.func148,KR,KR,KR⟩
theorem c149_is:FI 149 c149 tyG:=⟨_,Tryz.func149,KR,KR,KR⟩
theorem c150_is:FI 150 c150 tyG:=⟨_,Tryz.func150,KR,KR,KR⟩
theorem c151_is:FI 151 c151 tyG:=⟨_,Tryz.func151,KR,KR,KR⟩
theorem c152_is:FI 152 c152 tyG:=⟨_,Tryz.func152,KR,KR,KR⟩
theorem c153_is:FI 153 c153 tyG:=⟨_,Tryz.func153,KR,KR,KR⟩
theorem c154_is:FI 154 c154 tyG:=⟨_,Tryz.func154,KR,KR,KR⟩
theorem c155_is:FI 155 c155 tyG:=⟨_,Tryz.func155,KR,KR,KR⟩
theorem c156_is:FI 156 c156 tyG:=⟨_,Tryz.func156,KR,KR,KR⟩
theorem c157_is:FI 157 c157 tyG:=⟨_,Tryz.func157,KR,KR,KR⟩
theorem c158_is:FI 158 c158 tyG:=⟨_,Tryz.func158,KR,KR,KR⟩
theorem c159_is:FI 159 c159 tyG:=⟨_,Tryz.func159,KR,KR,KR⟩
theorem c160_is:FI 160 c160 tyG:=⟨_,Tryz.func160,KR,KR,KR⟩
theorem c161_is:FI 161 c161 tyG:=⟨_,Tryz.func161,KR,KR,KR⟩
theorem c168_is:FI 168 c168 tyG:=⟨_,Tryz.func168,KR,KR,KR⟩
theorem c169_is:FI 169 c169 tyG:=⟨_,Tryz.func169,KR,KR,KR⟩
theorem fnOK:FnOk Tryz.prog tyG fnG:=by
 refine⟨fun f fd h=>?_⟩
 have key:fnT.all fun f fd=>FI f fd tyG:=
  ⟨aN,⟨aN,⟨aS c3_is,⟨aS c7_is,⟨aS c15_is,⟨aS c31_is,⟨aS c63_is,⟨aS c127_is,⟨⟩,⟨⟩⟩,⟨⟩⟩,⟨aS c95_is,⟨aS c159_is,⟨⟩,⟨⟩⟩,⟨⟩⟩⟩,⟨aS c47_is,⟨⟩,⟨aS c111_is,⟨⟩,⟨⟩⟩⟩⟩,⟨aS c23_is,⟨aS c39_is,⟨aS c71_is,⟨⟩,⟨⟩⟩,⟨aS c103_is,⟨⟩,⟨⟩⟩⟩,⟨aS c55_is,⟨aS c87_is,⟨aS c151_is,⟨⟩,⟨⟩⟩,⟨⟩⟩,⟨aS c119_is,⟨⟩,⟨⟩⟩⟩⟩⟩,⟨aS c11_is,⟨aN,⟨aS c35_is,⟨aS c67_is,⟨aS c131_is,⟨⟩,⟨⟩⟩,⟨⟩⟩,⟨aS c99_is,⟨⟩,⟨⟩⟩⟩,⟨aS c51_is,⟨aS c83_is,⟨aS c147_is,⟨⟩,⟨⟩⟩,⟨⟩⟩,⟨aS c115_is,⟨⟩,⟨⟩⟩⟩⟩,⟨aN,⟨aS c43_is,⟨aS c75_is,⟨⟩,⟨⟩⟩,⟨aS c107_is,⟨⟩,⟨⟩⟩⟩,⟨aS c59_is,⟨aS c91_is,⟨aS c155_is,⟨⟩,⟨⟩⟩,⟨⟩⟩,⟨aS c123_is,⟨⟩,⟨⟩⟩⟩⟩⟩⟩,⟨aS c5_is,⟨aS c9_is,⟨aN,⟨aS c33_is,⟨aS c65_is,⟨aS c129_is,⟨⟩,⟨⟩⟩,⟨⟩⟩,⟨aS c97_is,⟨aS c161_is,⟨⟩,⟨⟩⟩,⟨⟩⟩⟩,⟨aS c49_is,⟨aS c81_is,⟨aS c145_is,⟨⟩,⟨⟩⟩,⟨⟩⟩,⟨aS c113_is,⟨⟩,⟨⟩⟩⟩⟩,⟨aS c25_is,⟨aS c41_is,⟨aS c73_is,⟨⟩,⟨⟩⟩,⟨aS c105_is,⟨aS c169_is,⟨⟩,⟨⟩⟩,⟨⟩⟩⟩,⟨aS c57_is,⟨aN,⟨aS c153_is,⟨⟩,⟨⟩⟩,⟨⟩⟩,⟨aS c121_is,⟨⟩,⟨⟩⟩⟩⟩⟩,⟨aS c13_is,⟨aN,⟨aS c37_is,⟨aS c69_is,⟨⟩,⟨⟩⟩,⟨aS c101_is,⟨⟩,⟨⟩⟩⟩,⟨aS c53_is,⟨aN,⟨aS c149_is,⟨⟩,⟨⟩⟩,⟨⟩⟩,⟨aS c117_is,⟨⟩,⟨⟩⟩⟩⟩,⟨aS c29_is,⟨aS c45_is,⟨aS c77_is,⟨⟩,⟨⟩⟩,⟨aS c109_is,⟨⟩,⟨⟩⟩⟩,⟨aS c61_is,⟨aS c93_is,⟨aS c157_is,⟨⟩,⟨⟩⟩,⟨⟩⟩,⟨aS c125_is,⟨⟩,⟨⟩⟩⟩⟩⟩⟩⟩,⟨aN,⟨aN,⟨aS c8_is,⟨aS c16_is,⟨aS c32_is,⟨aS c64_is,⟨aS c128_is,⟨⟩,⟨⟩⟩,⟨⟩⟩,⟨aS c96_is,⟨aS c160_is,⟨⟩,⟨⟩⟩,⟨⟩⟩⟩,⟨aS c48_is,⟨aS c80_is,⟨aS c144_is,⟨⟩,⟨⟩⟩,⟨⟩⟩,⟨aS c112_is,⟨⟩,⟨⟩⟩⟩⟩,⟨aN,⟨aS c40_is,⟨aS c72_is,⟨⟩,⟨⟩⟩,⟨aS c104_is,⟨aS c168_is,⟨⟩,⟨⟩⟩,⟨⟩⟩⟩,⟨aS c56_is,⟨aS c88_is,⟨aS c152_is,⟨⟩,⟨⟩⟩,⟨⟩⟩,⟨aS c120_is,⟨⟩,⟨⟩⟩⟩⟩⟩,⟨aS c12_is,⟨aN,⟨aS c36_is,⟨aS c68_is,⟨aS c132_is,⟨⟩,⟨⟩⟩,⟨⟩⟩,⟨aS c100_is,⟨⟩,⟨⟩⟩⟩,⟨aS c52_is,⟨aN,⟨aS c148_is,⟨⟩,⟨⟩⟩,⟨⟩⟩,⟨aS c116_is,⟨⟩,⟨⟩⟩⟩⟩,⟨aN,⟨aS c44_is,⟨aS c76_is,⟨⟩,⟨⟩⟩,⟨aS c108_is,⟨⟩,⟨⟩⟩⟩,⟨aS c60_is,⟨aS c92_is,⟨aS c156_is,⟨⟩,⟨⟩⟩,⟨⟩⟩,⟨aS c124_is,⟨⟩,⟨⟩⟩⟩⟩⟩⟩,⟨aS c6_is,⟨aS c10_is,⟨aN,⟨aS c34_is,⟨aS c66_is,⟨aS c130_is,⟨⟩,⟨⟩⟩,⟨⟩⟩,⟨aS c98_is,⟨⟩,⟨⟩⟩⟩,⟨aS c50_is,⟨aS c82_is,⟨aS c146_is,⟨⟩,⟨⟩⟩,⟨⟩⟩,⟨aS c114_is,⟨⟩,⟨⟩⟩⟩⟩,⟨aN,⟨aS c42_is,⟨aS c74_is,⟨⟩,⟨⟩⟩,⟨aS c106_is,⟨⟩,⟨⟩⟩⟩,⟨aS c58_is,⟨aN,⟨aS c154_is,⟨⟩,⟨⟩⟩,⟨⟩⟩,⟨aS c122_is,⟨⟩,⟨⟩⟩⟩⟩⟩,⟨aS c14_is,⟨aS c22_is,⟨aS c38_is,⟨aS c70_is,⟨⟩,⟨⟩⟩,⟨aS c102_is,⟨⟩,⟨⟩⟩⟩,⟨aS c54_is,⟨aS c86_is,⟨aS c150_is,⟨⟩,⟨⟩⟩,⟨⟩⟩,⟨aS c118_is,⟨⟩,⟨⟩⟩⟩⟩,⟨aS c30_is,⟨aS c46_is,⟨⟩,⟨aS c110_is,⟨⟩,⟨⟩⟩⟩,⟨aS c62_is,⟨aS c94_is,⟨aS c158_is,⟨⟩,⟨⟩⟩,⟨⟩⟩,⟨⟩⟩⟩⟩⟩⟩⟩
 exact T.all_get key h
theorem depth_ok:8≤Tryz.prog.depth:=Nat.le_of_ble_eq_true (KR)
theorem mixed_ok:Tryz.prog.follows .mixedOrders=true:=KR
end Go.Ab.Tryz
