/- EyeSmall: the whole. -/
import Derived.Test.YtkjbamlcgojkmaaGreatG8
set_option linter.unusedSimpArgs false
set_option linter.unusedVariables false
theorem yia {p:Prop}(h:p:=by simp[encI]):p:=h
theorem yib {p:Prop}(h:p:=by simp):p:=h
namespace Go.Ab.Tryz
def AllR (h:H):List V→List (List Int)→Prop
 |[],[]=>True
 |v::vs,l::ls=>YY h v l∧AllR h vs ls
 |_,_=>False
theorem AllR.at {h:H}:∀{vs:List V} {ls:List (List Int)},AllR h vs ls→vs.length=ls.length∧∀i (hi:i<vs.length) (hj:i<ls.length),YY h vs[i] ls[i]
 |[],[],_=>⟨rfl,fun i hi=>by simp at hi⟩
 |v::vs,l::ls,a=>by
  obtain⟨h1,h2⟩:=AllR.at a.2
  refine⟨by simp[h1],fun i hi hj=>?_⟩
  cases i with
  |zero=>exact a.1
  |succ i=>exact h2 i (by simpa using hi) (by simpa using hj)
 |[],_::_,a=>a.elim
 |_::_,[],a=>a.elim
def limS:List (List Int):=[[(-1),0,1,2,4,5],[(-1),0,4,5],[0,1,3,4,5,6,7,400,401],[(-1),0,1,2,3,4],[(-1),0,3,4],[(-1),0,4,5,7,8,20,21],[(-1),0,20,21],[(-1),0,1,2],[(-1),0,1,2],[(-1),0,5,20,21],[(-1),0,20,21],[(-1),0,1,2,5,6],[(-1),0,1,2,3,6],[(-1),0,1,2,3],[(-1),0,1,2],[(-1),0,1,2,5,6]]
set_option maxRecDepth 8000 in
set_option maxHeartbeats 8000000 in
theorem EyeSmall_sub {h:H}(hw:h.wf):Ev fnG Zm (.fn 5 [] []) [] h (fun u h'=>u=.bool true∧h.Sub h'):=by
 refine Zd (fd:=c5) rfl rfl rfl ?_
 obtain⟨R1,hR1⟩:∃R:Ab.C,Xz [true,true,false] c5.body=R:=⟨_,rfl⟩
 obtain⟨R2,hR2⟩:∃R:Ab.C,Xz [true,true,true,false] c5.body=R:=⟨_,rfl⟩
 obtain⟨R3,hR3⟩:∃R:Ab.C,Xz [true,true,true,true,false] c5.body=R:=⟨_,rfl⟩
 have W1:=fun(hh:H) (hw:hh.wf) (tm:Go.Ab.T V) (x:V) (S:List (List Int)) (hS:RdI hh x S) (h16:S.length=16) (hll:∀l∈S,l.length≤100) (t1:tm.E 1=x)=>small1_ev hw tm hS h16 hll t1
 have W2:=fun(hh:H) (hw:hh.wf) (tm:Go.Ab.T V)=>small2_ev hw tm
 have W3:=fun(hh:H) (hw:hh.wf) (tm:Go.Ab.T V)=>small3_ev hw tm
 rw[hR1] at W1;rw[hR2] at W2;rw[hR3] at W3
 simp only[Xz,c5] at hR1 hR2 hR3
 simp only[c5]
 rw[hR1,hR2,hR3]
 obtain⟨HL,eHL⟩:∃HL,(((((((((((((((((h.add (.bk [.ii (-1),.ii 0,.ii 1,.ii 2,.ii 4,.ii 5])).add (.bk [.ii (-1),.ii 0,.ii 4,.ii 5])).add (.bk [.ii 0,.ii 1,.ii 3,.ii 4,.ii 5,.ii 6,.ii 7,.ii 400,.ii 401])).add (.bk [.ii (-1),.ii 0,.ii 1,.ii 2,.ii 3,.ii 4])).add (.bk [.ii (-1),.ii 0,.ii 3,.ii 4])).add (.bk [.ii (-1),.ii 0,.ii 4,.ii 5,.ii 7,.ii 8,.ii 20,.ii 21])).add (.bk [.ii (-1),.ii 0,.ii 20,.ii 21])).add (.bk [.ii (-1),.ii 0,.ii 1,.ii 2])).add (.bk [.ii (-1),.ii 0,.ii 1,.ii 2])).add (.bk [.ii (-1),.ii 0,.ii 5,.ii 20,.ii 21])).add (.bk [.ii (-1),.ii 0,.ii 20,.ii 21])).add (.bk [.ii (-1),.ii 0,.ii 1,.ii 2,.ii 5,.ii 6])).add (.bk [.ii (-1),.ii 0,.ii 1,.ii 2,.ii 3,.ii 6])).add (.bk [.ii (-1),.ii 0,.ii 1,.ii 2,.ii 3])).add (.bk [.ii (-1),.ii 0,.ii 1,.ii 2])).add (.bk [.ii (-1),.ii 0,.ii 1,.ii 2,.ii 5,.ii 6])).add (.bk [.sl h.next 0 6 (.fix 6),.sl (h.next+1) 0 4 (.fix 4),.sl (h.next+1+1) 0 9 (.fix 9),.sl (h.next+1+1+1) 0 6 (.fix 6),.sl (h.next+1+1+1+1) 0 4 (.fix 4),.sl (h.next+1+1+1+1+1) 0 8 (.fix 8),.sl (h.next+1+1+1+1+1+1) 0 4 (.fix 4),.sl (h.next+1+1+1+1+1+1+1) 0 4 (.fix 4),.sl (h.next+1+1+1+1+1+1+1+1) 0 4 (.fix 4),.sl (h.next+1+1+1+1+1+1+1+1+1) 0 5 (.fix 5),.sl (h.next+1+1+1+1+1+1+1+1+1+1) 0 4 (.fix 4),.sl (h.next+1+1+1+1+1+1+1+1+1+1+1) 0 6 (.fix 6),.sl (h.next+1+1+1+1+1+1+1+1+1+1+1+1) 0 6 (.fix 6),.sl (h.next+1+1+1+1+1+1+1+1+1+1+1+1+1) 0 5 (.fix 5),.sl (h.next+1+1+1+1+1+1+1+1+1+1+1+1+1+1) 0 4 (.fix 4),.sl (h.next+1+1+1+1+1+1+1+1+1+1+1+1+1+1+1) 0 6 (.fix 6)]))=HL:=⟨_,rfl⟩
 have sL:h.Sub HL:=by rw[←eHL];exact(by repeat(first|assumption|exact H.Sub.refl (by assumption)|refine H.Sub.add ?_ _|refine H.Sub.set ?_ (by first|omega|(simp only[H.next_add,H.next_set,H.next_del]<;>omega)) (by first|omega|(simp only[H.next_add,H.next_set,H.next_del]<;>omega)) (by assumption) _))
 have g0:YY HL (.sl h.next 0 6 (.fix 6)) [(-1),0,1,2,4,5]:=.inl (Zg.full rfl (k:=.rw) (by rw[←eHL];show _=some (Blk.bk [.ii (-1),.ii 0,.ii 1,.ii 2,.ii 4,.ii 5]);simp(disch:=first|omega|simp only[nZ]<;>omega|fail)only[go_sem]) yia yib)
 have g1:YY HL (.sl (h.next+1) 0 4 (.fix 4)) [(-1),0,4,5]:=.inl (Zg.full rfl (k:=.rw) (by rw[←eHL];show _=some (Blk.bk [.ii (-1),.ii 0,.ii 4,.ii 5]);simp(disch:=first|omega|simp only[nZ]<;>omega|fail)only[go_sem]) yia yib)
 have g2:YY HL (.sl (h.next+1+1) 0 9 (.fix 9)) [0,1,3,4,5,6,7,400,401]:=.inl (Zg.full rfl (k:=.rw) (by rw[←eHL];show _=some (Blk.bk [.ii 0,.ii 1,.ii 3,.ii 4,.ii 5,.ii 6,.ii 7,.ii 400,.ii 401]);simp(disch:=first|omega|simp only[nZ]<;>omega|fail)only[go_sem]) yia yib)
 have g3:YY HL (.sl (h.next+1+1+1) 0 6 (.fix 6)) [(-1),0,1,2,3,4]:=.inl (Zg.full rfl (k:=.rw) (by rw[←eHL];show _=some (Blk.bk [.ii (-1),.ii 0,.ii 1,.ii 2,.ii 3,.ii 4]);simp(disch:=first|omega|simp only[nZ]<;>omega|fail)only[go_sem]) yia yib)
 have g4:YY HL (.sl (h.next+1+1+1+1) 0 4 (.fix 4)) [(-1),0,3,4]:=.inl (Zg.full rfl (k:=.rw) (by rw[←eHL];show _=some (Blk.bk [.ii (-1),.ii 0,.ii 3,.ii 4]);simp(disch:=first|omega|simp only[nZ]<;>omega|fail)only[go_sem]) yia yib)
 have g5:YY HL (.sl (h.next+1+1+1+1+1) 0 8 (.fix 8)) [(-1),0,4,5,7,8,20,21]:=.inl (Zg.full rfl (k:=.rw) (by rw[←eHL];show _=some (Blk.bk [.ii (-1),.ii 0,.ii 4,.ii 5,.ii 7,.ii 8,.ii 20,.ii 21]);simp(disch:=first|omega|simp only[nZ]<;>omega|fail)only[go_sem]) yia yib)
 have g6:YY HL (.sl (h.next+1+1+1+1+1+1) 0 4 (.fix 4)) [(-1),0,20,21]:=.inl (Zg.full rfl (k:=.rw) (by rw[←eHL];show _=some (Blk.bk [.ii (-1),.ii 0,.ii 20,.ii 21]);simp(disch:=first|omega|simp only[nZ]<;>omega|fail)only[go_sem]) yia yib)
 have g7:YY HL (.sl (h.next+1+1+1+1+1+1+1) 0 4 (.fix 4)) [(-1),0,1,2]:=.inl (Zg.full rfl (k:=.rw) (by rw[←eHL];show _=some (Blk.bk [.ii (-1),.ii 0,.ii 1,.ii 2]);simp(disch:=first|omega|simp only[nZ]<;>omega|fail)only[go_sem]) yia yib)
 have g8:YY HL (.sl (h.next+1+1+1+1+1+1+1+1) 0 4 (.fix 4)) [(-1),0,1,2]:=.inl (Zg.full rfl (k:=.rw) (by rw[←eHL];show _=some (Blk.bk [.ii (-1),.ii 0,.ii 1,.ii 2]);simp(disch:=first|omega|simp only[nZ]<;>omega|fail)only[go_sem]) yia yib)
 have g9:YY HL (.sl (h.next+1+1+1+1+1+1+1+1+1) 0 5 (.fix 5)) [(-1),0,5,20,21]:=.inl (Zg.full rfl (k:=.rw) (by rw[←eHL];show _=some (Blk.bk [.ii (-1),.ii 0,.ii 5,.ii 20,.ii 21]);simp(disch:=first|omega|simp only[nZ]<;>omega|fail)only[go_sem]) yia yib)
 have g10:YY HL (.sl (h.next+1+1+1+1+1+1+1+1+1+1) 0 4 (.fix 4)) [(-1),0,20,21]:=.inl (Zg.full rfl (k:=.rw) (by rw[←eHL];show _=some (Blk.bk [.ii (-1),.ii 0,.ii 20,.ii 21]);simp(disch:=first|omega|simp only[nZ]<;>omega|fail)only[go_sem]) yia yib)
 have g11:YY HL (.sl (h.next+1+1+1+1+1+1+1+1+1+1+1) 0 6 (.fix 6)) [(-1),0,1,2,5,6]:=.inl (Zg.full rfl (k:=.rw) (by rw[←eHL];show _=some (Blk.bk [.ii (-1),.ii 0,.ii 1,.ii 2,.ii 5,.ii 6]);simp(disch:=first|omega|simp only[nZ]<;>omega|fail)only[go_sem]) yia yib)
 have g12:YY HL (.sl (h.next+1+1+1+1+1+1+1+1+1+1+1+1) 0 6 (.fix 6)) [(-1),0,1,2,3,6]:=.inl (Zg.full rfl (k:=.rw) (by rw[←eHL];show _=some (Blk.bk [.ii (-1),.ii 0,.ii 1,.ii 2,.ii 3,.ii 6]);simp(disch:=first|omega|simp only[nZ]<;>omega|fail)only[go_sem]) yia yib)
 have g13:YY HL (.sl (h.next+1+1+1+1+1+1+1+1+1+1+1+1+1) 0 5 (.fix 5)) [(-1),0,1,2,3]:=.inl (Zg.full rfl (k:=.rw) (by rw[←eHL];show _=some (Blk.bk [.ii (-1),.ii 0,.ii 1,.ii 2,.ii 3]);simp(disch:=first|omega|simp only[nZ]<;>omega|fail)only[go_sem]) yia yib)
 have g14:YY HL (.sl (h.next+1+1+1+1+1+1+1+1+1+1+1+1+1+1) 0 4 (.fix 4)) [(-1),0,1,2]:=.inl (Zg.full rfl (k:=.rw) (by rw[←eHL];show _=some (Blk.bk [.ii (-1),.ii 0,.ii 1,.ii 2]);simp(disch:=first|omega|simp only[nZ]<;>omega|fail)only[go_sem]) yia yib)
 have g15:YY HL (.sl (h.next+1+1+1+1+1+1+1+1+1+1+1+1+1+1+1) 0 6 (.fix 6)) [(-1),0,1,2,5,6]:=.inl (Zg.full rfl (k:=.rw) (by rw[←eHL];show _=some (Blk.bk [.ii (-1),.ii 0,.ii 1,.ii 2,.ii 5,.ii 6]);simp(disch:=first|omega|simp only[nZ]<;>omega|fail)only[go_sem]) yia yib)
 have ga:AllR HL [.sl h.next 0 6 (.fix 6),.sl (h.next+1) 0 4 (.fix 4),.sl (h.next+1+1) 0 9 (.fix 9),.sl (h.next+1+1+1) 0 6 (.fix 6),.sl (h.next+1+1+1+1) 0 4 (.fix 4),.sl (h.next+1+1+1+1+1) 0 8 (.fix 8),.sl (h.next+1+1+1+1+1+1) 0 4 (.fix 4),.sl (h.next+1+1+1+1+1+1+1) 0 4 (.fix 4),.sl (h.next+1+1+1+1+1+1+1+1) 0 4 (.fix 4),.sl (h.next+1+1+1+1+1+1+1+1+1) 0 5 (.fix 5),.sl (h.next+1+1+1+1+1+1+1+1+1+1) 0 4 (.fix 4),.sl (h.next+1+1+1+1+1+1+1+1+1+1+1) 0 6 (.fix 6),.sl (h.next+1+1+1+1+1+1+1+1+1+1+1+1) 0 6 (.fix 6),.sl (h.next+1+1+1+1+1+1+1+1+1+1+1+1+1) 0 5 (.fix 5),.sl (h.next+1+1+1+1+1+1+1+1+1+1+1+1+1+1) 0 4 (.fix 4),.sl (h.next+1+1+1+1+1+1+1+1+1+1+1+1+1+1+1) 0 6 (.fix 6)] limS:=⟨g0,g1,g2,g3,g4,g5,g6,g7,g8,g9,g10,g11,g12,g13,g14,g15,trivial⟩
 have gl:HL.get (h.next+1+1+1+1+1+1+1+1+1+1+1+1+1+1+1+1)=some (.bk [.sl h.next 0 6 (.fix 6),.sl (h.next+1) 0 4 (.fix 4),.sl (h.next+1+1) 0 9 (.fix 9),.sl (h.next+1+1+1) 0 6 (.fix 6),.sl (h.next+1+1+1+1) 0 4 (.fix 4),.sl (h.next+1+1+1+1+1) 0 8 (.fix 8),.sl (h.next+1+1+1+1+1+1) 0 4 (.fix 4),.sl (h.next+1+1+1+1+1+1+1) 0 4 (.fix 4),.sl (h.next+1+1+1+1+1+1+1+1) 0 4 (.fix 4),.sl (h.next+1+1+1+1+1+1+1+1+1) 0 5 (.fix 5),.sl (h.next+1+1+1+1+1+1+1+1+1+1) 0 4 (.fix 4),.sl (h.next+1+1+1+1+1+1+1+1+1+1+1) 0 6 (.fix 6),.sl (h.next+1+1+1+1+1+1+1+1+1+1+1+1) 0 6 (.fix 6),.sl (h.next+1+1+1+1+1+1+1+1+1+1+1+1+1) 0 5 (.fix 5),.sl (h.next+1+1+1+1+1+1+1+1+1+1+1+1+1+1) 0 4 (.fix 4),.sl (h.next+1+1+1+1+1+1+1+1+1+1+1+1+1+1+1) 0 6 (.fix 6)]):=by rw[←eHL];simp(disch:=first|omega|simp only[nZ]<;>omega|fail)only[go_sem]
 have rd:RdI HL (.sl (h.next+1+1+1+1+1+1+1+1+1+1+1+1+1+1+1+1) 0 16 (.fix 16)) limS:=⟨[.sl h.next 0 6 (.fix 6),.sl (h.next+1) 0 4 (.fix 4),.sl (h.next+1+1) 0 9 (.fix 9),.sl (h.next+1+1+1) 0 6 (.fix 6),.sl (h.next+1+1+1+1) 0 4 (.fix 4),.sl (h.next+1+1+1+1+1) 0 8 (.fix 8),.sl (h.next+1+1+1+1+1+1) 0 4 (.fix 4),.sl (h.next+1+1+1+1+1+1+1) 0 4 (.fix 4),.sl (h.next+1+1+1+1+1+1+1+1) 0 4 (.fix 4),.sl (h.next+1+1+1+1+1+1+1+1+1) 0 5 (.fix 5),.sl (h.next+1+1+1+1+1+1+1+1+1+1) 0 4 (.fix 4),.sl (h.next+1+1+1+1+1+1+1+1+1+1+1) 0 6 (.fix 6),.sl (h.next+1+1+1+1+1+1+1+1+1+1+1+1) 0 6 (.fix 6),.sl (h.next+1+1+1+1+1+1+1+1+1+1+1+1+1) 0 5 (.fix 5),.sl (h.next+1+1+1+1+1+1+1+1+1+1+1+1+1+1) 0 4 (.fix 4),.sl (h.next+1+1+1+1+1+1+1+1+1+1+1+1+1+1+1) 0 6 (.fix 6)],Zg.full rfl gl yib yib,ga.at.1,ga.at.2⟩
 simp(disch:=first|omega|simp only[nZ]<;>omega|fail)only[go_sem]
 rw[eHL]
 refine(W1 HL sL.wf _ _ limS rd rfl (by decide) yib).mono fun x1 s hx1=>?_
 obtain⟨rfl,tm1,h1,rfl,s1⟩:=hx1
 simp(disch:=first|omega|simp only[nZ]<;>omega|fail)only[go_sem]
 refine(W2 h1 s1.wf tm1).mono fun x1 s hx1=>?_
 obtain⟨rfl,tm2,h2,rfl,s2⟩:=hx1
 simp(disch:=first|omega|simp only[nZ]<;>omega|fail)only[go_sem]
 refine(W3 h2 s2.wf tm2).mono fun x1 s hx1=>?_
 obtain⟨rfl,tm3,h3,rfl,s3⟩:=hx1
 simp(disch:=first|omega|simp only[nZ]<;>omega|fail)only[go_sem,YC]
 first|exact⟨rfl,sL.trans (s1.trans (s2.trans s3))⟩|exact sL.trans (s1.trans (s2.trans s3))
theorem EyeSmall_ev {h:H}(hw:h.wf):Ev fnG Zm (.fn 5 [] []) [] h (fun u _=>u=.bool true):=(EyeSmall_sub hw).mono fun _ _ h=>h.1
end Go.Ab.Tryz
