import Derived.Test.YthoghcpemmfebaaGreatGB
set_option linter.unusedSimpArgs false
set_option linter.unusedVariables false
namespace Go.Ab.Tryz
abbrev gra:Nat×Blk:=(3374,.bk (iL [0,1100,10,10,2,400,0,10,4,500,5,5,3,150,0,0,5,40,0,0]))
abbrev grb:Nat×Blk:=(3603,.bk (iL [0,1100,10,10,2,400,0,10,4,500,5,5,3,150,0,0,5,40,0,0]))
abbrev grc:Nat×Blk:=(159,.bk (iL [0,1100,10,10,2,400,0,10,4,500,5,5,3,150,0,0,5,40,0,0]))
abbrev grd:Nat×Blk:=(367,.bk (iL [0,1100,10,10,2,400,0,10,4,500,5,5,3,150,0,0,5,40,0,0]))
abbrev gre:Nat×Blk:=(600,.bk (iL [0,1100,10,10,2,400,0,10,4,500,5,5,3,150,0,0,5,40,0,0]))
abbrev grf:Nat×Blk:=(1,.bk (iL [0,1100,10,10,2,400,0,10,4,500,5,5,3,150,0,0,5,40,0,0]))
abbrev grg:Nat×Blk:=(3375,.bk (iL [-1,0,0,0,0,0,0,1,1,2,1,3]))
abbrev grh:Nat×Blk:=(3604,.bk (iL [-1,0,0,0,0,0,0,1,1,2,1,3]))
abbrev gri:Nat×Blk:=(160,.bk (iL [-1,0,0,0,0,0,0,1,1,2,1,3]))
abbrev grj:Nat×Blk:=(368,.bk (iL [-1,0,0,0,0,0,0,1,1,2,1,3]))
abbrev grk:Nat×Blk:=(601,.bk (iL [-1,0,0,0,0,0,0,1,1,2,1,3]))
open Go.Proofs
noncomputable section
def awkf0T:List (Nat × List Ent):=[(87,[awk_87_0,awk_87_1,awk_87_2,awk_87_3,awk_87_4,awk_87_5,awk_87_6,awk_87_7,awk_87_8,awk_87_9,awk_87_10,awk_87_11,awk_87_12,awk_87_13,awk_87_14,awk_87_15,awk_87_16,awk_87_17,awk_87_18,awk_87_19,awk_87_20,awk_87_21,awk_87_22,awk_87_23,awk_87_24,awk_87_25,awk_87_26,awk_87_27,awk_87_28,awk_87_29,awk_87_30,awk_87_31,awk_87_32,awk_87_33])]
def awkf0 (f:Nat):Option (List V→H→Option (V × H)):=lookF f awkf0T
theorem VW:Uw Tryz.prog tyG awkf0:=by
 refine lookF_ok (l:=awkf0T) fun q hq=>?_
 simp only[awkf0T,List.mem_cons,List.not_mem_nil,or_false] at hq
 rcases hq with rfl
 ·refine⟨XG (fd:=c87) rfl,fun e he=>?_⟩
  simp only[List.mem_cons,List.not_mem_nil,or_false] at he
  rcases he with rfl|rfl|rfl|rfl|rfl|rfl|rfl|rfl|rfl|rfl|rfl|rfl|rfl|rfl|rfl|rfl|rfl|rfl|rfl|rfl|rfl|rfl|rfl|rfl|rfl|rfl|rfl|rfl|rfl|rfl|rfl|rfl|rfl|rfl
  ·exact awk_87_0_ok
  ·exact awk_87_1_ok
  ·exact awk_87_2_ok
  ·exact awk_87_3_ok
  ·exact awk_87_4_ok
  ·exact awk_87_5_ok
  ·exact awk_87_6_ok
  ·exact awk_87_7_ok
  ·exact awk_87_8_ok
  ·exact awk_87_9_ok
  ·exact awk_87_10_ok
  ·exact awk_87_11_ok
  ·exact awk_87_12_ok
  ·exact awk_87_13_ok
  ·exact awk_87_14_ok
  ·exact awk_87_15_ok
  ·exact awk_87_16_ok
  ·exact awk_87_17_ok
  ·exact awk_87_18_ok
  ·exact awk_87_19_ok
  ·exact awk_87_20_ok
  ·exact awk_87_21_ok
  ·exact awk_87_22_ok
  ·exact awk_87_23_ok
  ·exact awk_87_24_ok
  ·exact awk_87_25_ok
  ·exact awk_87_26_ok
  ·exact awk_87_27_ok
  ·exact awk_87_28_ok
  ·exact awk_87_29_ok
  ·exact awk_87_30_ok
  ·exact awk_87_31_ok
  ·exact awk_87_32_ok
  ·exact awk_87_33_ok
def awk1_7_0:Ent:=⟨3,[.agg [.ii 2,.sl 2 0 6 (.fix 6),.sl 1 0 4 (.fix 5)]],[grf,(2,.bk (iL [-1,0,0,0,0,0,0,1,1,2,1,3]))],.tup [.sl 157 0 6 (.slk 0 0),.ii 0],158,[grf,(2,.bk (iL [-1,0,0,0,0,0,0,1,1,2,1,3])),(157,.cells (.gr 2) (iL [999,1001,475,491,362,378,148,152,475,478,0,16]))]⟩
theorem awk1_7_0_ok:Z3 Tryz.prog tyG 7 awk1_7_0:=ent VW (n:=100) (fd:=c7) rfl (by kernel_rfl) (by kernel_rfl)
def awk1_77_1:Ent:=⟨161,[.agg [.ii 2,.sl 160 0 6 (.fix 6),.sl 159 0 3 (.fix 5)],.ii 3],[grc,gri],.tup [.agg (iL [0,164]),.ii 0],365,[grc,gri]⟩
theorem awk1_77_1_ok:Z3 Tryz.prog tyG 77 awk1_77_1:=ent VW (n:=100) (fd:=c77) rfl (by kernel_rfl) (by kernel_rfl)
def awk1_22_2:Ent:=⟨371,[.agg [.ii 2,.sl 368 0 6 (.fix 6),.sl 367 0 5 (.fix 5)],.agg [.ii 0,.sl 369 0 4 (.fix 4),.sl 370 0 1 (.fix 1)]],[grd,grj,(369,.bk (iL [1,2,3,4])),(370,.bk (iL [0]))],.tup (iL [22,0]),599,[grd,grj,(369,.bk (iL [1,2,3,4])),(370,.bk (iL [0]))]⟩
theorem awk1_22_2_ok:Z3 Tryz.prog tyG 22 awk1_22_2:=ent VW (n:=100) (fd:=c22) rfl (by kernel_rfl) (by kernel_rfl)
def awk1_67_3:Ent:=⟨602,[.agg [.ii 2,.sl 601 0 6 (.fix 6),.sl 600 0 5 (.fix 5)]],[gre,grk],.tup [.sl 3319 0 5 (.slk 0 0),.ii 0],3373,[gre,grk,(3319,.cells (.gr 1) (iL [0,1,2,3,4]))]⟩
theorem awk1_67_3_ok:Z3 Tryz.prog tyG 67 awk1_67_3:=ent VW (n:=100) (fd:=c67) rfl (by kernel_rfl) (by kernel_rfl)
def awk1_68_4:Ent:=⟨3376,[.agg [.ii 2,.sl 3375 0 6 (.fix 6),.sl 3374 0 5 (.fix 5)]],[gra,grg],.tup [.sl 3519 0 1 (.slk 0 0),.ii 0],3602,[gra,grg,(3519,.cells (.gr 1) (iL [0]))]⟩
theorem awk1_68_4_ok:Z3 Tryz.prog tyG 68 awk1_68_4:=ent VW (n:=100) (fd:=c68) rfl (by kernel_rfl) (by kernel_rfl)
def awk1_9_5:Ent:=⟨3605,[.agg [.ii 2,.sl 3604 0 6 (.fix 6),.sl 3603 0 4 (.fix 5)]],[grb,grh],.tup [.agg [.ii 0,.nils,.nils],.ii 6],4409,[grb,grh]⟩
theorem awk1_9_5_ok:Z3 Tryz.prog tyG 9 awk1_9_5:=ent VW (n:=100) (fd:=c9) rfl (by kernel_rfl) (by kernel_rfl)
def awkf1T:List (Nat × List Ent):=[(7,[awk1_7_0]),(77,[awk1_77_1]),(22,[awk1_22_2]),(67,[awk1_67_3]),(68,[awk1_68_4]),(9,[awk1_9_5])]
def awkf1 (f:Nat):Option (List V→H→Option (V × H)):=lookF f awkf1T
theorem awkf1_ok:Uw Tryz.prog tyG awkf1:=by
 refine lookF_ok (l:=awkf1T) fun q hq=>?_
 simp only[awkf1T,List.mem_cons,List.not_mem_nil,or_false] at hq
 rcases hq with rfl|rfl|rfl|rfl|rfl|rfl
 ·refine⟨XG (fd:=c7) rfl,fun e he=>?_⟩
  simp only[List.mem_cons,List.not_mem_nil,or_false] at he
  rcases he with rfl
  ·exact awk1_7_0_ok
 ·refine⟨XG (fd:=c77) rfl,fun e he=>?_⟩
  simp only[List.mem_cons,List.not_mem_nil,or_false] at he
  rcases he with rfl
  ·exact awk1_77_1_ok
 ·refine⟨XG (fd:=c22) rfl,fun e he=>?_⟩
  simp only[List.mem_cons,List.not_mem_nil,or_false] at he
  rcases he with rfl
  ·exact awk1_22_2_ok
 ·refine⟨XG (fd:=c67) rfl,fun e he=>?_⟩
  simp only[List.mem_cons,List.not_mem_nil,or_false] at he
  rcases he with rfl
  ·exact awk1_67_3_ok
 ·refine⟨XG (fd:=c68) rfl,fun e he=>?_⟩
  simp only[List.mem_cons,List.not_mem_nil,or_false] at he
  rcases he with rfl
  ·exact awk1_68_4_ok
 ·refine⟨XG (fd:=c9) rfl,fun e he=>?_⟩
  simp only[List.mem_cons,List.not_mem_nil,or_false] at he
  rcases he with rfl
  ·exact awk1_9_5_ok
def awkE:Ent:=⟨0,[],[],.bool true,4413,[]⟩
theorem awk_ok:Z3 Tryz.prog tyG 16 awkE:=ent awkf1_ok (n:=100) (fd:=c16) rfl (by kernel_rfl) (by kernel_rfl)
end
end Go.Ab.Tryz
