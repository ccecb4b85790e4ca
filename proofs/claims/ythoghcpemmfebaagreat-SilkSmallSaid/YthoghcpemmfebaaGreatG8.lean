import Derived.Test.YthoghcpemmfebaaGreatG4
import Derived.Test.YthoghcpemmfebaaGreatG5
import Derived.Test.YthoghcpemmfebaaGreatG6
import Derived.Test.YthoghcpemmfebaaGreatG7
set_option linter.unusedSimpArgs false
set_option linter.unusedVariables false
theorem yga {p:Prop}(h:p:=by repeat(first|assumption|exact H.Sub.refl (by assumption)|refine H.Sub.add ?_ _|refine H.Sub.set ?_ (by first|omega|(simp only[H.next_add,H.next_set,H.next_del]<;>omega)) (by first|omega|(simp only[H.next_add,H.next_set,H.next_del]<;>omega)) (by assumption) _)):p:=h
theorem ygb {p:Prop}(h:p:=by simp[Zn,Zd]<;>rfl):p:=h
theorem ygc {p:Prop}(h:p:=by omega):p:=h
theorem ygd {p:Prop}(h:p:=by simp[Zn,Zd,t125]<;>rfl):p:=h
theorem yge {p:Prop}(h:p:=by simp only[List.length_map];omega):p:=h
theorem ygf {p:Prop}(h:p:=by simp[Zn,Zd,t14]<;>rfl):p:=h
theorem ygg {p:Prop}(h:p:=by simp[Zn,Zd,t15]<;>rfl):p:=h
theorem ygh {p:Prop}(h:p:=by simp[Zn,Zd,t19]<;>rfl):p:=h
theorem ygi {p:Prop}(h:p:=by simp[Zn,Zd,t295]<;>rfl):p:=h
theorem ygj {p:Prop}(h:p:=by simp[Zn,Zd,t22]<;>rfl):p:=h
theorem ygk {p:Prop}(h:p:=by simp[Zn,Zd,t27]<;>rfl):p:=h
theorem ygl {p:Prop}(h:p:=by simp[Zn,Zd,t23]<;>rfl):p:=h
theorem ygm {p:Prop}(h:p:=by simp only[Zd];rfl):p:=h
theorem ygn {p:Prop}(h:p:=by simp[encI]):p:=h
theorem ygo {p:Prop}(h:p:=by simp[Zn,Zd,t34]<;>rfl):p:=h
theorem ygp {p:Prop}(h:p:=by simp[Zn,Zd,t35]<;>rfl):p:=h
theorem ygq {p:Prop}(h:p:=by simp only[List.length_append,List.length_map,List.length_singleton];omega):p:=h
theorem ygr {p:Prop}(h:p:=by simp only[List.length_map,lsN_len];omega):p:=h
theorem ygs {p:Prop}(h:p:=by simp only[List.length_map,wsN_len];omega):p:=h
theorem ygt {p:Prop}(h:p:=by simp[Zn,Zd,t329]<;>rfl):p:=h
theorem ygu {p:Prop}(h:p:=by simp[Zn,Zd,t330]<;>rfl):p:=h
theorem ygv {p:Prop}(h:p:=by simp[Zn,Zd,t36]<;>rfl):p:=h
theorem ygw {p:Prop}(h:p:=by simp):p:=h
theorem ygx {p:Prop}(h:p:=by simp[Zn,Zd,t331]<;>rfl):p:=h
theorem ygy {p:Prop}(h:p:=by simp[Zn,Zd,t40]<;>rfl):p:=h
theorem ygz {p:Prop}(h:p:=by simp[Zn,Zd,t28]<;>rfl):p:=h
theorem ygA {p:Prop}(h:p:=by simp[Zn,Zd,t29]<;>rfl):p:=h
theorem ygB {p:Prop}(h:p:=by simp[Zn,Zd,t25]<;>rfl):p:=h
namespace Go.Ab.Tryz
open Go.Ab.Silk
set_option maxHeartbeats 1000000 in
theorem asked_ev {h:H}(hw:h.wf){v:V}{m:Ml}(hm:ZF h v m)(lot weighing dry plot:Int){K A B I Z:V}{ws la lb il kl:List Int}(hK:Zk h K 1 (ws.map encI))(hA:Zk h A 1 (la.map encI))(hB:Zk h B 1 (lb.map encI))(hI:Zk h I 1 (il.map encI))(y:Wg)(hZ:Zk h Z 1 (kl.map encI))
  (Q:V→H→Prop) (q:∀h',h.Sub h'→Q (.bool true) h'):Ev fnG Zm (.fn 6 [] []) [v,.ii lot,.ii weighing,.ii dry,K,.agg [.ii plot,A,B],I,.agg (Zy y),Z] h Q:=by
 have hm0:=hm
 obtain⟨L,W,rfl,aL,aW⟩:=hm
 have L1:=aL.one
 have W1:=aW.one
 have A1:=hA.one
 have B1:=hB.one
 refine Zf (fd:=c6) rfl rfl rfl ?_
 obtain⟨z,hz⟩:∃z,(((h.add (.bk [.ii m.errs,L,W])).add (.bk [.ii plot,A,B])).add (.bk (Zy y)))=z:=⟨_,rfl⟩
 have s:h.Sub z:=by rw[←hz];exact yga
 have g0:z.cells h.next=some [.ii m.errs,L,W]:=by rw[←hz];simp -implicitDefEqProofs(disch:=first|omega|simp only[nZ]<;>omega|fail)only[go_sem]
 have g1:z.cells (h.next+1)=some [.ii plot,A,B]:=by rw[←hz];simp -implicitDefEqProofs(disch:=first|omega|simp only[nZ]<;>omega|fail)only[go_sem]
 have g2:z.cells (h.next+1+1)=some (Zy y):=by rw[←hz];simp -implicitDefEqProofs(disch:=first|omega|simp only[nZ]<;>omega|fail)only[go_sem]
 simp only[Zy] at hz g2
 simp -implicitDefEqProofs(disch:=first|omega|simp only[nZ]<;>omega|fail)only[c6,go_sem,L1,W1,A1,B1,cells_one L1,cells_one W1,cells_one A1,cells_one B1,Zy]
 rw[hz]
 clear hz
 refine(SilkChecks_sub s.wf (hm0.mono s) lot weighing).mono fun u h1 hu=>?_
 obtain⟨rfl,s1⟩:=hu
 have r1:=s.trans s1
 simp(disch:=omega)only[go_sem,s1.cells g0]
 refine(SilkBounds_sub r1.wf (hm0.mono r1) (hK.mono r1) lot dry).mono fun u h2 hu=>?_
 obtain⟨rfl,s2⟩:=hu
 have r2:=r1.trans s2
 have t2:=s1.trans s2
 simp(disch:=omega)only[go_sem,t2.cells g0]
 refine(SilkWhere_sub r2.wf (hm0.mono r2) lot).mono fun u h3 hu=>?_
 obtain⟨rfl,s3⟩:=hu
 have r3:=r2.trans s3
 have t3:=t2.trans s3
 simp(disch:=omega)only[go_sem,t3.cells g0,t3.cells g1]
 refine(SilkProofs_sub r3.wf (hm0.mono r3) plot (hA.mono r3) (hB.mono r3)).mono fun u h4 hu=>?_
 obtain⟨rfl,s4⟩:=hu
 have r4:=r3.trans s4
 have t4:=t3.trans s4
 simp(disch:=omega)only[go_sem,t4.cells g0]
 refine(SilkClashes_sub r4.wf (hm0.mono r4) (hI.mono r4)).mono fun u h5 hu=>?_
 obtain⟨rfl,s5⟩:=hu
 have r5:=r4.trans s5
 have t5:=t4.trans s5
 simp(disch:=omega)only[go_sem,t5.cells g0,t5.cells g2]
 refine(SilkGrows_sub r5.wf (hm0.mono r5) (y:=y) lot (hZ.mono r5)).mono fun u h6 hu=>?_
 obtain⟨rfl,s6⟩:=hu
 simp(disch:=omega)only[go_sem]
 exact q _ (r5.trans s6)
end Go.Ab.Tryz
namespace Go.Ab.Tryz
open Go.Ab.Silk
def Cs (n0:Nat)(z5 z:H)(cs:List (List V)):Prop:=z5.Sub z∧z5.next≤n0∧n0+cs.length≤z.next∧∀(i:Nat) (c:List V),cs[i]? =some c→z.get (n0+i)=some (.bk c)
theorem Cs.mono {z5 z z':H}{cs:List (List V)}{n0:Nat}(k:Cs n0 z5 z cs)(s:z.Sub z'):Cs n0 z5 z' cs:=⟨k.1.trans s,k.2.1,Nat.le_trans k.2.2.1 s.next,fun i c h=>s.get (k.2.2.2 i c h)⟩
theorem Cs.set {z5 z:H}{cs:List (List V)}{n0:Nat}(k:Cs n0 z5 z cs)(hw:z5.wf){b i:Nat}(hb:b=n0+i)(hi:i<cs.length)(c:List V):Cs n0 z5 (z.set b (.bk c)) (cs.set i c):=by
 obtain⟨s,l0,l1,g⟩:=k
 subst hb
 refine⟨s.set ygc ygc hw _,l0,by rw[List.length_set,H.next_set];exact l1,fun j c' hj=>?_⟩
 rw[List.getElem?_set] at hj
 by_cases e:i=j
 ·subst e
  rw[if_pos rfl,if_pos hi] at hj
  cases hj
  exact get_set_same rfl
 ·rw[if_neg e] at hj
  rw[get_set_other ygc]
  exact g j c' hj
theorem Zk.blk {h:H}{b n sz:Nat}{k:Kd}{cs:List V}(rows:List (List V))(g:h.get b=some (.cells k cs))(e:cs=rows.flatten)(hn:n=rows.length)(hz:∀r∈rows,r.length=sz)(hl:rows.length≤9223372036854775807):Zk h (.sl b 0 n (.fix n)) sz rows:=by
 subst hn;subst e
 exact⟨hz,hl,.inr ⟨b,0,_,_,rfl,.inr (Za g),by
  refine Z9.2 ⟨?_,by rw[Zp hz];omega⟩
  rw[List.drop_zero,←Zp hz,List.take_length]⟩⟩
def LikeV:V→V→Prop
 |.int k _,v=>∃n,v=.int k n
 |u,v=>v=u
def Xh:List V→List V→Prop
 |[],m=>m=[]
 |u::l,m=>∃v m',m=v::m'∧LikeV u v∧Xh l m'
def Vo:List (List V)→List (List V)→Prop
 |[],m=>m=[]
 |u::l,m=>∃v m',m=v::m'∧Xh u v∧Vo l m'
theorem LikeV.refl:∀u,LikeV u u
 |.int _ n=>⟨n,rfl⟩
 |.bool _|.ptr _ _|.nilp|.sl _ _ _ _|.nils|.map _|.nilm|.fn _ _ _|.nilf|.yld _|.agg _|.tup _|.sl0 _=>rfl
theorem Xh.refl:∀u,Xh u u
 |[]=>rfl
 |u::l=>⟨u,l,rfl,LikeV.refl u,Xh.refl l⟩
theorem Vo.refl:∀u,Vo u u
 |[]=>rfl
 |u::l=>⟨u,l,rfl,Xh.refl u,Vo.refl l⟩
theorem Xh.put {k:IntKind}{a n:Int}:∀{o:Nat} {cs:List V},cs[o]? =some (.int k a)→∃cs',Yl o [.int k n] cs=some cs'∧Xh cs cs'
 |o,[],h=>by cases h
 |0,u::l,h=>by
  cases h
  exact⟨.int k n::l,by simp only[V7,over_s,over_0,Xq],_,_,rfl,⟨n,rfl⟩,Xh.refl l⟩
 |o+1,u::l,h=>by
  obtain⟨cs',e,lk⟩:=Xh.put (o:=o) (cs:=l) (k:=k) (a:=a) (n:=n) (by simpa using h)
  exact⟨u::cs',by simp only[putN_s,e,Xq],_,_,rfl,LikeV.refl u,lk⟩
theorem Vo.set:∀{i:Nat} {cs:List (List V)} {c c':List V},cs[i]? =some c→Xh c c'→Vo cs (cs.set i c')
 |_,[],_,_,h,_=>by cases h
 |0,u::l,_,_,h,k=>by cases h;exact⟨_,_,rfl,k,Vo.refl l⟩
 |i+1,u::l,_,_,h,k=>⟨_,_,rfl,Xh.refl u,Vo.set (by simpa using h) k⟩
theorem Cs.sto {z5 z:H}{cs:List (List V)}{n0 i o:Nat}(k:Cs n0 z5 z cs)(hw:z5.wf){c:List V}{a:Int}(hc:cs[i]? =some c)(ho:c[o]? =some (.ii a))(n:Int):
  ∃z' cs',z.get (n0+i)=some (.bk c)∧putC (some (.bk c)) z (n0+i) o [.ii n]=some z'∧Vo cs cs'∧Cs n0 z5 z' cs':=by
 obtain⟨c',e,lk⟩:=Xh.put (n:=n) ho
 have hi:i<cs.length:=by
  rcases Nat.lt_or_ge i cs.length with q|q
  ·exact q
  ·rw[List.getElem?_eq_none q] at hc;cases hc
 exact⟨_,_,k.2.2.2 i c hc,by simp only[putC_rw,e,setO_some],Vo.set hc lk,k.set hw rfl hi c'⟩
theorem Vo.at:∀{i:Nat} {cs cs':List (List V)} {c:List V},Vo cs cs'→cs[i]? =some c→∃c',cs'[i]? =some c'∧Xh c c'
 |_,[],_,_,_,h=>by cases h
 |0,u::l,_,_,⟨v,m,rfl,k,_⟩,h=>by cases h;exact⟨v,rfl,k⟩
 |i+1,u::l,_,_,⟨v,m,rfl,_,k⟩,h=>Vo.at (i:=i) k (by simpa using h)
theorem Xh.i {k:IntKind}{a:Int}{l m:List V}(h:Xh (.int k a::l) m):∃n m',m=.int k n::m'∧Xh l m':=by
 obtain⟨v,m',e,⟨n,rfl⟩,q⟩:=h
 exact⟨n,m',e,q⟩
theorem Xh.s {b o n:Nat}{c:Cap}{l m:List V}(h:Xh (.sl b o n c::l) m):∃m',m=.sl b o n c::m'∧Xh l m':=by
 obtain⟨v,m',e,rfl,q⟩:=h
 exact⟨m',e,q⟩
abbrev trC (n0 n:Nat):List V:=[.ii 2,.sl (n0+2) 0 6 (.fix 6),.sl (n0+1) 0 n (.fix 5)]
abbrev trW:List V:=[.ii 0,.ii 1100,.ii 10,.ii 10,.ii 2,.ii 400,.ii 0,.ii 10,.ii 4,.ii 500,.ii 5,.ii 5,.ii 3,.ii 150,.ii 0,.ii 0,.ii 5,.ii 40,.ii 0,.ii 0]
abbrev trL:List V:=[.ii (-1),.ii 0,.ii 0,.ii 0,.ii 0,.ii 0,.ii 0,.ii 1,.ii 1,.ii 2,.ii 1,.ii 3]
def treeB (n0 n:Nat):List (List V):=[trC n0 n,trW,trL]
set_option maxRecDepth 8000 in
set_option maxHeartbeats 4000000 in
theorem Tree_ev {h:H}(hw:h.wf){n:Nat}(hn:n≤5)(Q:V→H→Prop)(q:∀z,Cs h.next h z (treeB h.next n)→z.next=h.next+3→Q (.agg (trC h.next n)) z):Ev fnG Zm (.fn 5 [] []) [.ii (n:Int)] h Q:=by
 refine Zf (fd:=c5) rfl rfl rfl ?_
 have e:max (0:Int) (min (n:Int) ((5:Nat):Int))=(n:Int):=by omega
 have sl:∀(z:H) (b:Nat),slcTo z 4 (.sl b 0 5 (.fix 5)) (.ii (n:Int))=some (.sl b 0 n (.fix 5)):=fun z b=>by
  match n,hn with
  |0,_=>rfl|1,_=>rfl|2,_=>rfl|3,_=>rfl|4,_=>rfl|5,_=>rfl
 simp -implicitDefEqProofs(disch:=first|omega|simp only[nZ]<;>omega|fail)only[c5,go_sem,e,q_slc_to,sl]
 refine q _ ⟨yga,Nat.le_refl _,by simp -implicitDefEqProofs(maxSteps:=999999)(disch:=first|with_reducible rfl|omega|(simp only[nA,nS,nD]<;>omega)|fail)only[go_sem,treeB,List.length_cons,List.length_nil],fun i c hc=>?_⟩ (by simp -implicitDefEqProofs(maxSteps:=999999)(disch:=first|with_reducible rfl|omega|(simp only[nA,nS,nD]<;>omega)|fail)only[go_sem])
 rcases(by omega:i=0∨i=1∨i=2∨3≤i) with rfl|rfl|rfl|h4
 ·cases hc;simp(disch:=omega)only[go_sem]
 ·cases hc;simp -implicitDefEqProofs(disch:=first|omega|simp only[nZ]<;>omega|fail)only[go_sem]
 ·cases hc;simp -implicitDefEqProofs(disch:=first|omega|simp only[nZ]<;>omega|fail)only[go_sem]
 ·rw[List.getElem?_eq_none (by simpa[treeB] using h4)] at hc;cases hc
end Go.Ab.Tryz
namespace Go.Ab
def Yw:List Bool→C→C
 |[],c=>c
 |b::p,.seq x y=>match b with|true=>Yw p y|false=>Yw p x
 |b::p,.cond _ x y=>match b with|true=>Yw p y|false=>Yw p x
 |_::p,.block _ x=>Yw p x
 |_::p,.loop x=>Yw p x
 |_::p,.scope x=>Yw p x
 |_::_,c=>c
namespace Tryz
open Go.Ab.Silk
theorem LikeI:∀{l:List Int} {m:List V},Xh (l.map iv) m→∃l':List Int,l'.length=l.length∧m=l'.map iv
 |[],m,h=>⟨[],rfl,h⟩
 |a::l,m,h=>by
  obtain⟨n,m',rfl,q⟩:=Xh.i h
  obtain⟨l',e,rfl⟩:=LikeI q
  exact⟨n::l',by simp[e],rfl⟩
theorem ints_wg:∀(k:Nat) {l:List Int},l.length=4*k→∃ws:List Wg,ws.length=k∧l.map iv=(ws.map Zy).flatten
 |0,l,h=>by
  have:l=[]:=List.length_eq_zero_iff.1 ygc
  subst this;exact⟨[],rfl,rfl⟩
 |k+1,a::b::c::d::l,h=>by
  obtain⟨ws,e,q⟩:=ints_wg k (l:=l) (by simp only[List.length_cons] at h;omega)
  exact⟨⟨a,b,c,d⟩::ws,by simp[e],by simp only[List.map_cons,List.flatten_cons,←q];rfl⟩
 |k+1,[],h=>by simp at h
 |k+1,[_],h=>by simp at h;omega
 |k+1,[_,_],h=>by simp at h;omega
 |k+1,[_,_,_],h=>by simp at h;omega
theorem ints_lt:∀(k:Nat) {l:List Int},l.length=2*k→∃ws:List Lt,ws.length=k∧l.map iv=(ws.map ZO).flatten
 |0,l,h=>by
  have:l=[]:=List.length_eq_zero_iff.1 ygc
  subst this;exact⟨[],rfl,rfl⟩
 |k+1,a::b::l,h=>by
  obtain⟨ws,e,q⟩:=ints_lt k (l:=l) (by simp only[List.length_cons] at h;omega)
  exact⟨⟨a,b⟩::ws,by simp[e],by simp only[List.map_cons,List.flatten_cons,←q];rfl⟩
 |k+1,[],h=>by simp at h
 |k+1,[_],h=>by simp at h;omega
theorem flat_int:∀l:List Int,(l.map encI).flatten=l.map iv
 |[]=>rfl
 |a::l=>by rw[List.map_cons,List.flatten_cons,flat_int l];rfl
theorem Zk.pre {h:H}{b n sz:Nat}{k:Kd}{c:Cap}{rows:List (List V)}(g:h.get b=some (.cells k rows.flatten))(hn:n≤rows.length)(hz:∀r∈rows,r.length=sz)(hl:rows.length≤1000000):Zk h (.sl b 0 n c) sz (rows.take n):=by
 have z2:∀r∈rows.take n,r.length=sz:=fun r hr=>hz r (List.mem_of_mem_take hr)
 have e:(rows.take n).length=n:=by rw[List.length_take,Nat.min_eq_left hn]
 refine⟨z2,by omega,.inr ⟨b,0,c,rows.flatten,by rw[e],.inr (Za g),Z9.2 ⟨?_,?_⟩⟩⟩
 ·rw[List.drop_zero]
  have h1:=Zp z2
  have h2:rows.flatten=(rows.take n).flatten++(rows.drop n).flatten:=by rw[←List.flatten_append,List.take_append_drop]
  rw[h2,←h1,List.take_left'];rfl
 ·have h1:=Zp z2
  have h2:=Zp hz
  rw[h2,e]
  have:n*sz≤rows.length*sz:=Nat.mul_le_mul_right _ hn
  omega
def limB (n nw:Nat):List (List V):=treeB n nw++[trC n nw,([1000,480,370,150,476,4]:List Int).map iv,([1,2]:List Int).map iv,[iv 1],[iv 2],[iv 480],([1,2,3]:List Int).map iv,([0]:List Int).map iv,[iv 0,.sl (n+9) 0 3 (.fix 3),.sl (n+10) 0 1 (.fix 1)],([3,1]:List Int).map iv,([3,151,0,2]:List Int).map iv]
theorem lim_asked {h z:H}{n nw:Nat}(hw:h.wf)(hn:nw≤5){cs:List (List V)}(lk:Vo (limB n nw) cs)(k:Cs n h z cs):∃(e lot wg dry pl:Int) (y:Wg),z.cells (n+3)=some [.ii e,.sl (n+2) 0 6 (.fix 6),.sl (n+1) 0 nw (.fix 5)]∧z.cells (n+6)=some [.ii lot]∧z.cells (n+7)=some [.ii wg]∧z.cells (n+8)=some [.ii dry]∧
  z.cells (n+11)=some [.ii pl,.sl (n+9) 0 3 (.fix 3),.sl (n+10) 0 1 (.fix 1)]∧z.cells (n+13)=some (Zy y)∧
  ∀(Q:V→H→Prop),(∀h',z.Sub h'→Q (.bool true) h')→Ev fnG Zm (.fn 6 [] []) [.agg [.ii e,.sl (n+2) 0 6 (.fix 6),.sl (n+1) 0 nw (.fix 5)],.ii lot,.ii wg,.ii dry,.sl (n+4) 0 6 (.fix 6),.agg [.ii pl,.sl (n+9) 0 3 (.fix 3),.sl (n+10) 0 1 (.fix 1)],.sl (n+5) 0 2 (.fix 2),.agg (Zy y),.sl (n+12) 0 2 (.fix 2)] z Q:=by
 have at':∀{i:Nat} {c:List V},(limB n nw)[i]? =some c→∃c',z.get (n+i)=some (.bk c')∧Xh c c':=fun hc=>by
  obtain⟨c',e,l⟩:=Vo.at lk hc
  exact⟨c',k.2.2.2 _ _ e,l⟩
 have ints:∀{i:Nat} {l:List Int},(limB n nw)[i]? =some (l.map iv)→∃l':List Int,l'.length=l.length∧z.get (n+i)=some (.bk (l'.map iv)):=fun hc=>by
  obtain⟨c',e,l⟩:=at' hc
  obtain⟨l',q,rfl⟩:=LikeI l
  exact⟨l',q,e⟩
 have sli:∀{i:Nat} {l:List Int},(limB n nw)[i]? =some (l.map iv)→l.length≤100→∃l':List Int,Zk z (.sl (n+i) 0 l.length (.fix l.length)) 1 (l'.map encI):=fun{i l} hc hl=>by
  obtain⟨l',q,g⟩:=ints hc
  exact⟨l',Zk.blk (sz:=1) (l'.map encI) g (flat_int l').symm (by rw[List.length_map,q]) ygn (by rw[List.length_map,q];omega)⟩
 obtain⟨lw,qw,gw⟩:=ints (i:=1) (l:=[0,1100,10,10,2,400,0,10,4,500,5,5,3,150,0,0,5,40,0,0]) rfl
 obtain⟨ll,ql,gl⟩:=ints (i:=2) (l:=[-1,0,0,0,0,0,0,1,1,2,1,3]) rfl
 obtain⟨ws,ew,fw⟩:=ints_wg 5 (l:=lw) (by rw[qw];rfl)
 obtain⟨ls,el,fl⟩:=ints_lt 6 (l:=ll) (by rw[ql];rfl)
 rw[fw] at gw
 rw[fl] at gl
 obtain⟨c3,g3,l3⟩:=at' (i:=3) rfl
 have l3:Xh [.ii 2,.sl (n+2) 0 6 (.fix 6),.sl (n+1) 0 nw (.fix 5)] c3:=l3
 obtain⟨e,_,rfl,la3⟩:=Xh.i l3
 obtain⟨_,rfl,lb3⟩:=Xh.s la3
 obtain⟨_,rfl,lc3⟩:=Xh.s lb3
 cases lc3
 obtain⟨c11,g11,l11⟩:=at' (i:=11) rfl
 have l11:Xh [.ii 0,.sl (n+9) 0 3 (.fix 3),.sl (n+10) 0 1 (.fix 1)] c11:=l11
 obtain⟨pl,_,rfl,la11⟩:=Xh.i l11
 obtain⟨_,rfl,lb11⟩:=Xh.s la11
 obtain⟨_,rfl,lc11⟩:=Xh.s lb11
 cases lc11
 obtain⟨c6,g6,l6⟩:=at' (i:=6) rfl
 have l6:Xh [.ii 1] c6:=l6
 obtain⟨lot,_,rfl,la6⟩:=Xh.i l6
 cases la6
 obtain⟨c7,g7,l7⟩:=at' (i:=7) rfl
 have l7:Xh [.ii 2] c7:=l7
 obtain⟨wg,_,rfl,la7⟩:=Xh.i l7
 cases la7
 obtain⟨c8,g8,l8⟩:=at' (i:=8) rfl
 have l8:Xh [.ii 480] c8:=l8
 obtain⟨dry,_,rfl,la8⟩:=Xh.i l8
 cases la8
 obtain⟨ly,qy,gy⟩:=ints (i:=13) (l:=[3,151,0,2]) rfl
 obtain⟨y,hy⟩:∃y:Wg,ly.map iv=Zy y:=by
  match ly,qy with
  |[a,b,c,d],_=>exact⟨⟨a,b,c,d⟩,rfl⟩
 rw[hy] at gy
 obtain⟨_,sK⟩:=sli (i:=4) (l:=[1000,480,370,150,476,4]) rfl (by decide)
 obtain⟨_,sI⟩:=sli (i:=5) (l:=[1,2]) rfl (by decide)
 obtain⟨_,sA⟩:=sli (i:=9) (l:=[1,2,3]) rfl (by decide)
 obtain⟨_,sB⟩:=sli (i:=10) (l:=[0]) rfl (by decide)
 obtain⟨_,sZ⟩:=sli (i:=12) (l:=[3,1]) rfl (by decide)
 have mi:ZF z (.agg [.ii e,.sl (n+2) 0 6 (.fix 6),.sl (n+1) 0 nw (.fix 5)]) ⟨e,ls,ws.take nw⟩:=⟨_,_,rfl,Zk.blk _ gl rfl (by rw[List.length_map,el]) (by simp[ZO]) (by rw[List.length_map,el];omega),by
  have:=Zk.pre (c:=.fix 5) (n:=nw) gw (by rw[List.length_map];omega) (sz:=4) (by simp[Zy]) (by rw[List.length_map];omega)
  rwa[←List.map_take] at this⟩
 exact⟨e,lot,wg,dry,pl,y,Za g3,Za g6,Za g7,Za g8,Za g11,Za gy,fun Q q=>asked_ev k.1.wf mi lot wg dry pl sK sA sB sI y sZ Q q⟩
end Tryz
end Go.Ab
namespace Go.Ab.Tryz
open Go.Ab.Silk
set_option maxRecDepth 8000 in
set_option maxHeartbeats 8000000 in
theorem lim1_ev {h z:H}(hw:h.wf){n i nw:Nat}(hnw:nw=4∨nw=5)(k:Cs n h z (limB n nw))(hi:i<21)(tm:Go.Ab.T V){v34 v35 v36 v40:V}{x:Int}
  (t2:tm.E 2=.ii x) (t3:tm.E 3=.ii (i:Int)) (t4:tm.E 4=.ptr (n+3) 0) (t5:tm.E 5=.ptr (n+6) 0) (t6:tm.E 6=.ptr (n+7) 0) (t7:tm.E 7=.ptr (n+8) 0) (t8:tm.E 8=.sl (n+4) 0 6 (.fix 6)) (t9:tm.E 9=.sl (n+5) 0 2 (.fix 2))
  (t10:tm.E 10=.ptr (n+11) 0) (t11:tm.E 11=.ptr (n+13) 0) (t12:tm.E 12=.sl (n+12) 0 2 (.fix 2)) (t34:tm.E 34=v34) (t35:tm.E 35=v35) (t36:tm.E 36=v36) (t40:tm.E 40=v40):
  W fnG Zm 385 3 none (Yw [true,false,true,true,true,true,true,false,true,true,true,true,true,true,true,false,true,true,true,true,true,true] c3.body) ⟨tm,z,[]⟩ fun x1 s=>x1=.nrm∧∃tm' z',s=⟨tm',z',[]⟩∧h.Sub z'∧
   tm'.E 2=.ii x∧tm'.E 34=v34∧tm'.E 35=v35∧tm'.E 36=v36∧tm'.E 40=v40:=by
 have i1:∀b,YI 2 (.sl b 0 6 (.fix 6)) (.ii 1)=some (.ptr b 2):=fun b=>rfl
 have i2:∀b,YI 2 (.sl b 0 6 (.fix 6)) (.ii 4)=some (.ptr b 8):=fun b=>rfl
 have i3:∀b,YI 2 (.sl b 0 6 (.fix 6)) (.ii 5)=some (.ptr b 10):=fun b=>rfl
 have i4:∀b,YI 4 (.sl b 0 nw (.fix 5)) (.ii 1)=some (.ptr b 4):=fun b=>by rcases hnw with rfl|rfl<;>rfl
 have i5:∀b,YI 4 (.sl b 0 nw (.fix 5)) (.ii 2)=some (.ptr b 8):=fun b=>by rcases hnw with rfl|rfl<;>rfl
 have i6:∀b,YI 1 (.sl b 0 6 (.fix 6)) (.ii 1)=some (.ptr b 1):=fun b=>rfl
 have i7:∀b,YI 1 (.sl b 0 6 (.fix 6)) (.ii 4)=some (.ptr b 4):=fun b=>rfl
 have i8:∀b,YI 1 (.sl b 0 3 (.fix 3)) (.ii 1)=some (.ptr b 1):=fun b=>rfl
 have i9:∀b,YI 1 (.sl b 0 1 (.fix 1)) (.ii 0)=some (.ptr b 0):=fun b=>rfl
 have iA:∀b,YI 1 (.sl b 0 2 (.fix 2)) (.ii 0)=some (.ptr b 0):=fun b=>rfl
 have iB:∀b,YI 1 (.sl b 0 2 (.fix 2)) (.ii 1)=some (.ptr b 1):=fun b=>rfl
 obtain⟨P,hP⟩:∃P,[V.ptr (n+3) 0,.ptr (n+2) 2,.ptr (n+2) 8,.ptr (n+2) 11,.ptr (n+1) 4,.ptr (n+1) 5,.ptr (n+1) 6,.ptr (n+1) 11,.ptr (n+6) 0,.ptr (n+7) 0,.ptr (n+8) 0,.ptr (n+4) 1,.ptr (n+4) 4,.ptr (n+11) 0,.ptr (n+9) 1,.ptr (n+10) 0,.ptr (n+5) 0,.ptr (n+13) 0,.ptr (n+13) 1,.ptr (n+13) 2,.ptr (n+12) 1]=P:=⟨_,rfl⟩
 obtain⟨kk,o,c,a,hn,hc,ho⟩:∃kk o c a,nth i P=some (.ptr (n+kk) o)∧(limB n nw)[kk]? =some c∧c[o]? =some (.ii a):=by
  rw[←hP]
  match i,hi with
  |0,_=>exact⟨3,0,_,_,rfl,rfl,rfl⟩|1,_=>exact⟨2,2,_,_,rfl,rfl,rfl⟩|2,_=>exact⟨2,8,_,_,rfl,rfl,rfl⟩|3,_=>exact⟨2,11,_,_,rfl,rfl,rfl⟩|4,_=>exact⟨1,4,_,_,rfl,rfl,rfl⟩|5,_=>exact⟨1,5,_,_,rfl,rfl,rfl⟩|6,_=>exact⟨1,6,_,_,rfl,rfl,rfl⟩|7,_=>exact⟨1,11,_,_,rfl,rfl,rfl⟩
  |8,_=>exact⟨6,0,_,_,rfl,rfl,rfl⟩|9,_=>exact⟨7,0,_,_,rfl,rfl,rfl⟩|10,_=>exact⟨8,0,_,_,rfl,rfl,rfl⟩|11,_=>exact⟨4,1,_,_,rfl,rfl,rfl⟩|12,_=>exact⟨4,4,_,_,rfl,rfl,rfl⟩|13,_=>exact⟨11,0,_,_,rfl,rfl,rfl⟩|14,_=>exact⟨9,1,_,_,rfl,rfl,rfl⟩|15,_=>exact⟨10,0,_,_,rfl,rfl,rfl⟩
  |16,_=>exact⟨5,0,_,_,rfl,rfl,rfl⟩|17,_=>exact⟨13,0,_,_,rfl,rfl,rfl⟩|18,_=>exact⟨13,1,_,_,rfl,rfl,rfl⟩|19,_=>exact⟨13,2,_,_,rfl,rfl,rfl⟩|20,_=>exact⟨12,1,_,_,rfl,rfl,rfl⟩
  |j+21,h=>omega
 have sP:=(H.Sub.refl k.1.wf).add (.bk P)
 have b3:z.cells (n+3)=some (trC n nw):=Za (k.2.2.2 3 _ rfl)
 have b11:z.cells (n+11)=some [.ii 0,.sl (n+9) 0 3 (.fix 3),.sl (n+10) 0 1 (.fix 1)]:=Za (k.2.2.2 11 _ rfl)
 have gP:(z.add (.bk P)).cells z.next=some P:=Zh rfl
 have iP:YI 1 (.sl z.next 0 21 (.fix 21)) (.ii (i:Int))=some (.ptr z.next i):=by rw[Zz (Zb i) hi];simp
 obtain⟨z',B',g,hp,lk,k'⟩:=(k.mono sP).sto hw hc ho x
 obtain⟨e,lot,wg,dry,pl,y,w3,w6,w7,w8,w11,w13,ask⟩:=lim_asked hw ygc lk k'
 simp only[Zy] at w13 ask
 simp only[Yw,c3]
 simp -implicitDefEqProofs(disch:=first|omega|simp only[nZ]<;>omega|fail)only[go_sem,t2,t3,t4,t5,t6,t7,t8,t9,t10,t11,t12,i1,i2,i3,i4,i5,i6,i7,i8,i9,iA,iB,b3,b11,hP,gP,iP,hn,sP.cells b3,sP.cells b11,g,hp,Nat.reduceLT,w3,w6,w7,w8,w11,w13]
 refine ask _ fun hE sE=>?_
 simp -implicitDefEqProofs(disch:=first|omega|simp only[nZ]<;>omega|fail)only[go_sem,t2,t34,t35,t36,t40,Bool.not_true]
 exact⟨_,_,rfl,k'.1.trans sE,(by simp[Zn,Zd,t2]<;>rfl),ygo,ygp,ygv,ygy⟩
end Go.Ab.Tryz
namespace Go.Ab.Tryz
open Go.Ab.Silk
set_option maxRecDepth 8000 in
set_option maxHeartbeats 8000000 in
theorem lims_ev {h:H}(hw:h.wf)(tm:Go.Ab.T V):
  W fnG Zm 385 3 none (Yw [true,false] c3.body) ⟨tm,h,[]⟩ fun x1 s=>x1=.nrm∧∃tm' z',s=⟨tm',z',[]⟩∧h.Sub z':=by
 obtain⟨R,hR⟩:∃R,Yw [true,false,true,true,true,true,true,false,true,true,true,true,true,true,true,false,true,true,true,true,true,true] c3.body=R:=⟨_,rfl⟩
 have r1:= @lim1_ev
 rw[hR] at r1
 simp only[Yw,c3] at hR
 simp only[Yw,c3]
 rw[hR]
 clear hR
 obtain⟨vs,hvs⟩:∃vs:List Int,[(-9223372036854775808:Int), -2, -1,0,1,2,3,4,5,6,50,51,60,61,10000,10001,9223372036854775807]=vs:=⟨_,rfl⟩
 have hvl:vs.length=17:=by rw[←hvs];rfl
 have sV:=(H.Sub.refl hw).add (.bk (vs.map iv))
 have aV:Zk (h.add (.bk (vs.map iv))) (.sl h.next 0 17 (.fix 17)) 1 (vs.map encI):=Zk.new _ rfl (by rw[List.length_map,hvl]) (flat_int vs).symm ygn (by rw[List.length_map,hvl];omega)
 have hz:vs.map iv=[.ii (-9223372036854775808),.ii (-2),.ii (-1),.ii 0,.ii 1,.ii 2,.ii 3,.ii 4,.ii 5,.ii 6,.ii 50,.ii 51,.ii 60,.ii 61,.ii 10000,.ii 10001,.ii 9223372036854775807]:=by rw[←hvs];rfl
 rw[hz] at sV aV
 simp(disch:=omega)only[go_sem]
 generalize hg:H.add _ _=hV at sV aV⊢
 clear hg
 refine Zi 17 (fun i s=>∃tm z,s=⟨tm,z,[]⟩∧hV.Sub z∧tm.E 34=.sl h.next 0 17 (.fix 17)∧tm.E 35=.ii 17∧tm.E 36=.ii (i:Int)) ?_ ?_ (i:=0) (Nat.zero_le _)
  ⟨_,_,rfl,H.Sub.refl sV.wf,ygb,ygb,ygm⟩
 ·rintro i s hi ⟨tm,z,rfl,sz,t34,t35,t36⟩
  have hi':(i:Int)<17:=by omega
  obtain⟨b,o,c,cs,_,e2,e3,_,e5,e4⟩:=(aV.mono sz).at (k:=i) ygc
  have hv:nth (o+i*1) cs=some (.ii vs[i]):=e4 ygn
  simp(disch:=omega)only[go_sem,t34,t35,t36,hi',e3 (Zb i),e2,hv]
  generalize vs[i]=x
  refine Zi 21 (fun j s=>∃tm z2,s=⟨tm,z2,[]⟩∧hV.Sub z2∧tm.E 2=.ii x∧tm.E 34=.sl h.next 0 17 (.fix 17)∧tm.E 35=.ii 17∧tm.E 36=.ii (i:Int)∧tm.E 40=.ii (j:Int)) ?_ ?_ (i:=0) (Nat.zero_le _)
   ⟨_,_,rfl,sz,ygb,ygo,ygp,ygv,ygm⟩<;>clear t34 t35 t36
  ·rintro j s hj ⟨tm,z2,rfl,sz2,t2,t34,t35,t36,t40⟩
   have hj':(j:Int)<21:=by omega
   have n2:(2:Int)≠0:=by omega
   obtain⟨nw,hnw,enw⟩:∃nw:Nat,(nw=4∨nw=5)∧4+(j:Int).tmod 2=(nw:Int):=by
    have h0:0≤(j:Int).tmod 2:=Int.tmod_nonneg _ ygc
    have h1:(j:Int).tmod 2<2:=Int.tmod_lt_of_pos _ ygc
    exact⟨(4+(j:Int).tmod 2).toNat,by omega,by omega⟩
   have hm0:0≤(j:Int).tmod 2∧(j:Int).tmod 2<2:=by rcases hnw with rfl|rfl<;>omega
   simp(disch:=omega)only[go_sem,t2,t34,t35,t36,t40,hj',ZY .i64 n2,ZD,enw]
   refine Tree_ev sz2.wf (n:=nw) ygc _ fun z0 k0 nz=>?_
   simp -implicitDefEqProofs(disch:=first|omega|simp only[nZ]<;>omega|fail)only[go_sem,t2,t34,t35,t36,t40,nz]
   generalize hz:H.add _ _=zE
   have wz:=sz2.wf
   have s0:=k0.1
   have k:Cs z2.next z2 zE (limB z2.next nw):=by
    have g0:z0.get z2.next=some (.bk (trC z2.next nw)):=k0.2.2.2 0 _ rfl
    have g1:z0.get (z2.next+1)=some (.bk trW):=k0.2.2.2 1 _ rfl
    have g2:z0.get (z2.next+2)=some (.bk trL):=k0.2.2.2 2 _ rfl
    rw[←hz]
    refine⟨yga,Nat.le_refl _,by simp -implicitDefEqProofs(maxSteps:=999999)(disch:=first|with_reducible rfl|omega|(simp only[nA,nS,nD]<;>omega)|fail)only[go_sem,nz,limB,treeB,List.length_cons,List.length_nil],fun i c hc=>?_⟩
    rcases(by omega:i=0∨i=1∨i=2∨i=3∨i=4∨i=5∨i=6∨i=7∨i=8∨i=9∨i=10∨i=11∨i=12∨i=13∨14≤i) with rfl|rfl|rfl|rfl|rfl|rfl|rfl|rfl|rfl|rfl|rfl|rfl|rfl|rfl|hh
    all_goals first|(cases(show some _=some c from hc);simp -implicitDefEqProofs(disch:=first|omega|simp only[nZ]<;>omega|fail)only[go_sem,g0,g1,g2,nz,List.map_cons,List.map_nil,iv];done)|(rw[List.getElem?_eq_none (by simpa[limB,treeB] using hh)] at hc;cases hc)
   refine(r1 wz hnw k hj _ (v34:=.sl h.next 0 17 (.fix 17)) (v35:=.ii 17) (v36:=.ii (i:Int)) (v40:=.ii (j:Int)) (x:=x) (by simp[Zn,Zd,t2]<;>rfl) ygy ygb ygb ygb ygb ygb ygb ygb ygb ygb ygo ygp ygv ygy).mono fun x1 s hx1=>?_
   clear t2 t34 t35 t36 t40
   obtain⟨rfl,tm,z3,rfl,s3,t2,t34,t35,t36,t40⟩:=hx1
   simp(disch:=omega)only[go_sem,t40,Ze]
   exact⟨_,_,rfl,sz2.trans s3,(by simp[Zn,Zd,t2]<;>rfl),ygo,ygp,ygv,ygb⟩
  ·rintro s ⟨tm,z2,rfl,sz2,t2,t34,t35,t36,t40⟩
   have t40:tm.E 40=.ii 21:=t40
   simp(disch:=omega)only[go_sem,t36,t40,Int.lt_irrefl,Ze]
   exact⟨_,_,rfl,sz2,ygo,ygp,ygb⟩
 ·rintro s ⟨tm,z,rfl,sz,t34,t35,t36⟩
  have t36:tm.E 36=.ii 17:=t36
  simp(disch:=omega)only[go_sem,t35,t36,Int.lt_irrefl]
  exact⟨_,_,rfl,sV.trans sz⟩
end Go.Ab.Tryz
namespace Go.Ab.Tryz
open Go.Ab.Silk
set_option maxRecDepth 8000 in
set_option maxHeartbeats 8000000 in
theorem five_ev {z:H}(hw:z.wf){b n i:Nat}(hi:i<2)(hn:n<15){L Z v28 v29 v295 v329 v330 v331:V}{m:Ml}(g:z.cells b=some [.ii m.errs,L,Z])(hm:ZF z (.agg [.ii m.errs,L,Z]) m)
  (ok:nth i [V.bool (decide ((0:Int)<(n:Int)∧(n:Int)<13)),.bool (decide ((n:Int)<10))]=some (.bool (decide (check m=0)))) (tm:Go.Ab.T V) (t27:tm.E 27=.ii (n:Int)) (t31:tm.E 31=.ii (i:Int)) (t32:tm.E 32=.ptr b 0)
  (t295:tm.E 295=v295) (t329:tm.E 329=v329) (t330:tm.E 330=v330) (t331:tm.E 331=v331):
  W fnG Zm 385 3 none (Yw [true,true,true,false,true,true,true,true,true,false,true,true,true,true,true,true,true,true,true,false,true,true] c3.body) ⟨tm,z,[]⟩ fun x1 s=>x1=.nrm∧∃tm' z',s=⟨tm',z',[]⟩∧z.Sub z'∧
   tm'.E 27=.ii (n:Int)∧tm'.E 295=v295∧tm'.E 329=v329∧tm'.E 330=v330∧tm'.E 331=v331:=by
 have nl:∀z:H,Zk z .nils 1 (([]:List Int).map encI):=fun z=>⟨by simp,by simp,.inl ⟨rfl,rfl⟩⟩
 simp only[Yw,c3]
 simp(disch:=omega)only[go_sem,t27,t31,t32,g]
 refine(SilkChecks_sub hw hm 1 1).mono fun u h1 hu=>?_
 obtain⟨rfl,s1⟩:=hu
 simp(disch:=omega)only[go_sem,t27,t31,t32,s1.cells g,Bool.not_true]
 refine(SilkBounds_sub s1.wf (hm.mono s1) (nl h1) 0 5).mono fun u h2 hu=>?_
 obtain⟨rfl,s2⟩:=hu
 have r2:=s1.trans s2
 simp(disch:=omega)only[go_sem,t27,t31,t32,r2.cells g,Bool.not_true]
 refine(SilkProofs_sub r2.wf (hm.mono r2) 0 (nl h2) (nl h2)).mono fun u h3 hu=>?_
 obtain⟨rfl,s3⟩:=hu
 have r3:=r2.trans s3
 have sA:=(H.Sub.refl r3.wf).add (.bk [.ii 1,.ii 2])
 have aA:Zk (h3.add (.bk [.ii 1,.ii 2])) (.sl h3.next 0 2 (.fix 2)) 1 (([1,2]:List Int).map encI):=Zk.new _ rfl rfl rfl ygn ygw
 have rA:=r3.trans sA
 have v1:wr .i64 ((n:Int)-1)=(n:Int)-1:=ZD ygc ygc
 simp(disch:=omega)only[go_sem,t27,t31,t32,r3.cells g,Bool.not_true,v1]
 refine(SilkGrows_sub rA.wf (hm.mono rA) (y:=⟨0,0,0,0⟩) ((n:Int)-1) aA).mono fun u h4 hu=>?_
 obtain⟨rfl,s4⟩:=hu
 have r4:=rA.trans s4
 have sB:=(H.Sub.refl r4.wf).add (.bk [.ii 0])
 have aB:Zk (h4.add (.bk [.ii 0])) (.sl h4.next 0 1 (.fix 1)) 1 (([0]:List Int).map encI):=Zk.new _ rfl rfl rfl ygn ygw
 have rB:=r4.trans sB
 simp(disch:=omega)only[go_sem,t27,t31,t32,r4.cells g,Bool.not_true]
 refine(SilkClashes_sub rB.wf (hm.mono rB) aB).mono fun u h5 hu=>?_
 obtain⟨rfl,s5⟩:=hu
 have r5:=rB.trans s5
 have iP:∀b:Nat,YI 1 (.sl b 0 2 (.fix 2)) (.ii (i:Int))=some (.ptr b i):=fun b=>by rw[Zz (Zb i) hi];simp
 have beq:∀b:Bool,(!(b==b))=false:=fun b=>by cases b<;>rfl
 by_cases h0:(0:Int)<(n:Int)
 ·have e0:decide ((0:Int)<(n:Int)∧(n:Int)<13)=decide ((n:Int)<13):=by rw[decide_eq_decide];omega
  rw[e0] at ok
  have sC:=(H.Sub.refl r5.wf).add (.bk [.bool (decide ((n:Int)<13)),.bool (decide ((n:Int)<10))])
  have rC:=r5.trans sC
  simp(disch:=omega)only[go_sem,t27,t31,t32,Bool.not_true,h0,iP,ok,rC.cells g]
  refine(Vk rC.wf (hm.mono rC)).mono fun u h6 hu=>?_
  obtain⟨rfl,s6⟩:=hu
  simp(disch:=omega)only[go_sem,t27,t31,t32,beq]
  exact⟨_,_,rfl,rC.trans s6,ygk,ygi,ygt,ygu,ygx⟩
 ·have e0:decide ((0:Int)<(n:Int)∧(n:Int)<13)=false:=decide_eq_false ygc
  rw[e0] at ok
  have sC:=(H.Sub.refl r5.wf).add (.bk [.bool false,.bool (decide ((n:Int)<10))])
  have rC:=r5.trans sC
  simp(disch:=omega)only[go_sem,t27,t31,t32,Bool.not_true,h0,iP,ok,rC.cells g]
  refine(Vk rC.wf (hm.mono rC)).mono fun u h6 hu=>?_
  obtain⟨rfl,s6⟩:=hu
  simp(disch:=omega)only[go_sem,t27,t31,t32,beq]
  exact⟨_,_,rfl,rC.trans s6,ygk,ygi,ygt,ygu,ygx⟩
end Go.Ab.Tryz
namespace Go.Ab.Tryz
open Go.Ab.Silk
def lsN (n:Nat):List Lt:=(List.range n).map fun i=>⟨((i/2:Nat):Int)-1,0⟩
def wsN (n:Nat):List Wg:=⟨0,1100,10,10⟩::(List.range n).map fun i=>⟨((i%6:Nat):Int),300*(1+((i%2:Nat):Int)),0,60⟩
theorem lsN_succ (n:Nat):lsN (n+1)=lsN n++[⟨((n/2:Nat):Int)-1,0⟩]:=by simp[lsN,List.range_succ]
theorem wsN_succ (n:Nat):wsN (n+1)=wsN n++[⟨((n%6:Nat):Int),300*(1+((n%2:Nat):Int)),0,60⟩]:=by simp[wsN,List.range_succ]
theorem lsN_len (n:Nat):(lsN n).length=n:=by simp[lsN]
theorem wsN_len (n:Nat):(wsN n).length=n+1:=by simp[wsN]
def trLs:List Lt:=[⟨-1,0⟩,⟨0,0⟩,⟨0,0⟩,⟨0,1⟩,⟨1,2⟩,⟨1,3⟩]
theorem ok_lots:∀n,n<15→decide ((0:Int)<((n:Nat):Int)∧((n:Nat):Int)<13)=decide (check ⟨0,lsN n,[]⟩=0):=by decide
theorem ok_wgs:∀n,n<15→decide (((n:Nat):Int)<10)=decide (check ⟨2,trLs,wsN n⟩=0):=by decide
structure Gw (h z:H)(a b l0 w0:Nat)(n:Nat)(X Y:V)(y:H):Prop where
 s:h.Sub y
 lt:z.next≤y.next
 ga:y.get a=some (.bk [.ii 0,X,.nils])
 gb:y.get b=some (.bk [.ii 2,.sl l0 0 6 (.fix 6),Y])
 gl:y.get l0=some (.bk trL)
 ox:Zr h y X 2 ((lsN n).map ZO)
 oy:ZK h y Y 4 ((wsN n).map Zy)
 nX:∀c,Zs X c→z.next≤c
 nY:∀c,Zs Y c→c=w0∨z.next≤c
 xy:∀c,Zs X c→¬Zs Y c
set_option maxRecDepth 8000 in
set_option maxHeartbeats 8000000 in
theorem grow_ev {h z:H}(hw:h.wf)(hz:z.wf){a b l0 w0 n:Nat}(hn:n<15)(la:a<z.next)(lb:b<z.next)(ll:l0<z.next)(lw:w0<z.next)(d1:a≠b)(d2:a≠l0)(d3:a≠w0)(d4:b≠l0)(d5:b≠w0)(d6:l0≠w0)(h0a:h.next≤a)(h0b:h.next≤b){X0 Y0 v295:V}(k0:Gw h z a b l0 w0 0 X0 Y0 z)
  (tm:Go.Ab.T V) (t27:tm.E 27=.ii (n:Int)) (t28:tm.E 28=.ptr a 0) (t29:tm.E 29=.ptr b 0) (t295:tm.E 295=v295):
  W fnG Zm 385 3 none (Yw [true,true,true,false,true,true,true,true,true,false,true,true,true,false] c3.body) ⟨tm,z,[]⟩ fun x1 s=>x1=.nrm∧∃tm' y X Y,s=⟨tm',y,[]⟩∧Gw h z a b l0 w0 n X Y y∧
   tm'.E 27=.ii (n:Int)∧tm'.E 28=.ptr a 0∧tm'.E 29=.ptr b 0∧tm'.E 295=v295:=by
 simp only[Yw,c3]
 simp(disch:=omega)only[go_sem,t27]
 refine Zi n (fun i s=>∃tm y X Y,s=⟨tm,y,[]⟩∧Gw h z a b l0 w0 i X Y y∧tm.E 27=.ii (n:Int)∧tm.E 28=.ptr a 0∧tm.E 29=.ptr b 0∧tm.E 295=v295∧tm.E 300=.ii (n:Int)∧tm.E 301=.ii (i:Int)) ?_ ?_ (i:=0) (Nat.zero_le _)
  ⟨_,_,X0,Y0,rfl,k0,ygk,ygz,ygA,ygi,ygb,ygm⟩<;>clear t27 t28 t29 t295
 ·rintro i s hi ⟨tm,y,X,Y,rfl,k,t27,t28,t29,t295,t300,t301⟩
  have hi':(i:Int)<(n:Int):=by omega
  have n2:(2:Int)≠0:=by omega
  have n6:(6:Int)≠0:=by omega
  have q2:(i:Int).tdiv 2=((i/2:Nat):Int):=rfl
  have q6:(i:Int).tmod 6=((i%6:Nat):Int):=rfl
  have q3:(i:Int).tmod 2=((i%2:Nat):Int):=rfl
  have b2:i/2≤15:=by omega
  have b6:i%6<6:=Nat.mod_lt _ ygc
  have b3:i%2<2:=Nat.mod_lt _ ygc
  have lk:=k.lt
  have sC:=(H.Sub.refl k.s.wf).add (.bk [.ii (((i/2:Nat):Int)-1),.ii 0])
  simp(disch:=omega)only[go_sem,t27,t28,t29,t295,t300,t301,hi',Za k.ga,YO .i64 n2,q2,ZD]
  refine(k.ox.mono sC).app1 (r:=ZO ⟨((i/2:Nat):Int)-1,0⟩) hw rfl ygc (Zk.new _ rfl rfl (by simp[ZO]) (by simp[ZO]) ygw) rfl ygr ygr fun y1 o1 k1 n1=>?_
  have ga1:=k1.2 _ _ (sC.get k.ga) ((k.ox.mono sC).ne (sC.get k.ga))
  have gb1:=k1.2 _ _ (sC.get k.gb) ((k.ox.mono sC).ne (sC.get k.gb))
  have gl1:=k1.2 _ _ (sC.get k.gl) ((k.ox.mono sC).ne (sC.get k.gl))
  have oy1:=(k.oy.mono sC).keep k1 o1.1 fun c hc hx=>k.xy c hx hc
  have l1:=k1.1
  rw[H.next_add] at l1 n1 o1
  obtain⟨X1,eX1⟩:∃X1:V,.sl (y.next+1) 0 (((lsN i).map ZO).length+1) (.slk 0 0)=X1:=⟨_,rfl⟩
  have nX1:∀c,Zs X1 c→c=y.next+1:=by rintro c ⟨_,_,_,e⟩;rw[←eX1] at e;cases e;rfl
  simp(disch:=omega)only[go_sem,t27,t28,t29,t295,t300,t301,ga1]
  rw[eX1] at o1⊢
  have s2:=o1.1.set (b:=a) h0a ygc hw (.bk [.ii 0,X1,.nils])
  have ga2:(y1.set a (.bk [.ii 0,X1,.nils])).get a=some (.bk [.ii 0,X1,.nils]):=get_set_same rfl
  have gb2:(y1.set a (.bk [.ii 0,X1,.nils])).get b=some (.bk [.ii 2,.sl l0 0 6 (.fix 6),Y]):=by rw[get_set_other ygc];exact gb1
  have gl2:(y1.set a (.bk [.ii 0,X1,.nils])).get l0=some (.bk trL):=by rw[get_set_other ygc];exact gl1
  have ox2:Zr h (y1.set a (.bk [.ii 0,X1,.nils])) X1 2 ((lsN (i+1)).map ZO):=by
   rw[lsN_succ,List.map_append]
   exact o1.keep (Zq.set _ _ _) s2 fun c hc e=>by have:=nX1 c hc;omega
  have oy2:=oy1.keep (Zq.set y1 a (.bk [.ii 0,X1,.nils])) s2 fun c hc e=>by have:=k.nY c hc;omega
  have l2:(y1.set a (.bk [.ii 0,X1,.nils])).next=y1.next:=H.next_set _ _ _
  generalize y1.set a (.bk [.ii 0,X1,.nils])=y2 at s2 ga2 gb2 gl2 ox2 oy2 l2⊢
  have sD:=(H.Sub.refl s2.wf).add (.bk [.ii ((i%6:Nat):Int),.ii (300*(1+((i%2:Nat):Int))),.ii 0,.ii 60])
  simp(disch:=omega)only[go_sem,t27,t28,t29,t295,t300,t301,Za gb1,Za gb2,ZY .i64 n2,ZY .i64 n6,q3,q6,ZD]
  refine(oy2.mono sD).app1 (r:=Zy ⟨((i%6:Nat):Int),300*(1+((i%2:Nat):Int)),0,60⟩) hw rfl ygc (Zk.new _ rfl rfl (by simp[Zy]) (by simp[Zy]) ygw) rfl ygs ygs fun Y3 y3 o3 nY3 k3=>?_
  have ga3:=k3.2 _ _ (sD.get ga2) fun hc=>by have:=k.nY a hc;omega
  have gb3:=k3.2 _ _ (sD.get gb2) fun hc=>by have:=k.nY b hc;omega
  have gl3:=k3.2 _ _ (sD.get gl2) fun hc=>by have:=k.nY l0 hc;omega
  have ox3:=(ox2.mono sD).keep k3 o3.1 fun c hc hy=>by have h1:=nX1 c hc;have h2:=(k.oy.blk hy).2.1;omega
  have l3:=k3.1
  rw[H.next_add] at l3 nY3
  have Y31:=o3.one
  simp(disch:=omega)only[go_sem,t27,t28,t29,t295,t300,t301,gb3,Y31,cells_one Y31,Ze]
  have s4:=o3.1.set (b:=b) h0b ygc hw (.bk [.ii 2,.sl l0 0 6 (.fix 6),Y3])
  refine⟨_,_,X1,Y3,rfl,⟨s4,by rw[H.next_set];omega,by rw[get_set_other ygc];exact ga3,get_set_same rfl,by rw[get_set_other ygc];exact gl3,ox3.keep (Zq.set _ _ _) s4 fun c hc e=>by have:=nX1 c hc;omega,?_,fun c hc=>by have:=nX1 c hc;omega,fun c hc=>?_,fun c hc hy=>?_⟩,ygk,ygz,ygA,ygi,(by simp[Zn,Zd,t300]<;>rfl),ygb⟩
  ·rw[wsN_succ,List.map_append]
   exact o3.keep (Zq.set _ _ _) s4 fun c hc e=>by
    rcases nY3 c hc with h1|h1
    ·have:=k.nY c h1;omega
    ·omega
  ·rcases nY3 c hc with h1|h1
   ·exact k.nY c h1
   ·exact .inr ygc
  ·have h0:=nX1 c hc
   rcases nY3 c hy with h1|h1
   ·have h2:=(k.oy.blk h1).2.1;omega
   ·omega
 ·rintro s ⟨tm,y,X,Y,rfl,k,t27,t28,t29,t295,t300,t301⟩
  simp(disch:=omega)only[go_sem,t300,t301,Int.lt_irrefl]
  exact⟨_,_,X,Y,rfl,k,ygk,ygz,ygA,ygi⟩
end Go.Ab.Tryz
namespace Go.Ab.Tryz
open Go.Ab.Silk
structure Mw (h z:H)(a:Nat)(e:Int)(ls:List Lt)(ws:List Wg)(X Y:V)(y:H):Prop where
 s:h.Sub y
 lt:z.next≤y.next
 ga:y.get a=some (.bk [.ii e,X,Y])
 ox:Zr h y X 2 (ls.map ZO)
 oy:Zr h y Y 4 (ws.map Zy)
 nX:∀c,Zs X c→z.next≤c
 nY:∀c,Zs Y c→z.next≤c
 xy:∀c,Zs X c→¬Zs Y c
set_option maxRecDepth 8000 in
set_option maxHeartbeats 8000000 in
theorem lots_ev {h z:H}(hw:h.wf){a n:Nat}(hn:n<120)(h0:h.next≤a)(la:a<z.next){e:Int}(k0:Mw h z a e [] [] .nils .nils z){v125:V}
  (tm:Go.Ab.T V) (t14:tm.E 14=.ii (n:Int)) (t15:tm.E 15=.ptr a 0) (t125:tm.E 125=v125):
  W fnG Zm 385 3 none (Yw [true,true,false,true,true,true,true,true,false,true,true,true,false] c3.body) ⟨tm,z,[]⟩ fun x1 s=>x1=.nrm∧∃tm' y X ls,s=⟨tm',y,[]⟩∧ls.length=1+n%6∧Mw h z a e ls [] X .nils y∧
   tm'.E 14=.ii (n:Int)∧tm'.E 15=.ptr a 0∧tm'.E 125=v125:=by
 simp only[Yw,c3]
 have n6:(6:Int)≠0:=by omega
 have q6:(n:Int).tmod 6=((n%6:Nat):Int):=rfl
 have b6:n%6<6:=Nat.mod_lt _ ygc
 have v6:wr .i64 (1+((n%6:Nat):Int))=((1+n%6:Nat):Int):=by rw[ZD ygc ygc];omega
 simp(disch:=omega)only[go_sem,t14,ZY .i64 n6,q6,v6]
 generalize n%6=N at b6⊢
 refine Zi (1+N) (fun i s=>∃tm y X ls,s=⟨tm,y,[]⟩∧ls.length=i∧Mw h z a e ls [] X .nils y∧tm.E 14=.ii (n:Int)∧tm.E 15=.ptr a 0∧tm.E 125=v125∧tm.E 133=.ii ((1+N:Nat):Int)∧tm.E 134=.ii (i:Int)) ?_ ?_ (i:=0) (Nat.zero_le _)
  ⟨_,_,.nils,[],rfl,rfl,k0,ygf,ygg,ygd,ygb,ygm⟩<;>clear t14 t15 t125
 ·rintro i s hi ⟨tm,y,X,ls,rfl,hls,k,t14,t15,t125,t133,t134⟩
  have hi':(i:Int)<((1+N:Nat):Int):=by omega
  have n3:(3:Int)≠0:=by omega
  have n4:(4:Int)≠0:=by omega
  have v1:wr .i64 ((i:Int)+1)=(i:Int)+1:=ZD ygc ygc
  have ni:(i:Int)+1≠0:=by omega
  obtain⟨A,hA⟩:∃A:Int,max (-1) (wr .i64 (wr .i64 ((i:Int)-1)-(wr .i64 ((n:Int).tdiv ((i:Int)+1))).tmod 3))=A:=⟨_,rfl⟩
  obtain⟨B,hB⟩:∃B:Int,(wr .i64 ((n:Int)+(i:Int))).tmod 4=B:=⟨_,rfl⟩
  have lk:=k.lt
  have sC:=(H.Sub.refl k.s.wf).add (.bk [.ii A,.ii B])
  simp(disch:=omega)only[go_sem,t14,t15,t125,t133,t134,hi',Za k.ga,v1,YO .i64 ni,ZY .i64 n3,ZY .i64 n4,hA,hB]
  refine(k.ox.mono sC).app1 (r:=ZO ⟨A,B⟩) hw rfl ygc (Zk.new _ rfl rfl (by simp[ZO]) (by simp[ZO]) ygw) rfl yge yge fun y1 o1 k1 n1=>?_
  have ga1:=k1.2 _ _ (sC.get k.ga) ((k.ox.mono sC).ne (sC.get k.ga))
  have l1:=k1.1
  rw[H.next_add] at l1 n1 o1
  obtain⟨X1,eX1⟩:∃X1:V,.sl (y.next+1) 0 ((ls.map ZO).length+1) (.slk 0 0)=X1:=⟨_,rfl⟩
  have nX1:∀c,Zs X1 c→c=y.next+1:=by rintro c ⟨_,_,_,e⟩;rw[←eX1] at e;cases e;rfl
  simp(disch:=omega)only[go_sem,t14,t15,t125,t133,t134,Za k.ga,Za ga1,ga1,Ze]
  rw[eX1] at o1⊢
  have s2:=o1.1.set (b:=a) h0 ygc hw (.bk [.ii e,X1,.nils])
  refine⟨_,_,X1,ls++[⟨A,B⟩],rfl,by simp[hls],⟨s2,by rw[H.next_set];omega,get_set_same rfl,?_,Zr.nil s2 4,fun c hc=>by have:=nX1 c hc;omega,fun c hc=>(ZE hc).elim,fun c _ hc=>(ZE hc).elim⟩,ygf,ygg,ygd,(by simp[Zn,Zd,t133]<;>rfl),ygb⟩
  rw[List.map_append]
  exact o1.keep (Zq.set _ _ _) s2 fun c hc e=>by have:=nX1 c hc;omega
 ·rintro s ⟨tm,y,X,ls,rfl,hls,k,t14,t15,t125,t133,t134⟩
  simp(disch:=omega)only[go_sem,t133,t134,Int.lt_irrefl]
  exact⟨_,_,X,ls,rfl,hls,k,ygf,ygg,ygd⟩
set_option maxRecDepth 8000 in
set_option maxHeartbeats 8000000 in
theorem weighs_ev {h z z':H}(hw:h.wf){a n:Nat}(hn:n<120)(h0:h.next≤a)(la:a<z.next){e:Int}{ls:List Lt}(hl:0<ls.length)(hl2:ls.length≤6){X:V}(k0:Mw h z a e ls [] X .nils z'){v125:V}
  (tm:Go.Ab.T V) (t14:tm.E 14=.ii (n:Int)) (t15:tm.E 15=.ptr a 0) (t125:tm.E 125=v125):
  W fnG Zm 385 3 none (Yw [true,true,false,true,true,true,true,true,false,true,true,true,true,false] c3.body) ⟨tm,z',[]⟩ fun x1 s=>x1=.nrm∧∃tm' y Y ws,s=⟨tm',y,[]⟩∧ws.length≤5∧Mw h z a e ls ws X Y y∧
   tm'.E 14=.ii (n:Int)∧tm'.E 15=.ptr a 0∧tm'.E 125=v125:=by
 simp only[Yw,c3]
 have n2:(2:Int)≠0:=by omega
 have n5:(5:Int)≠0:=by omega
 have n3:(3:Int)≠0:=by omega
 have n29:(29:Int)≠0:=by omega
 have v2:wr .i64 ((n:Int).tdiv 2)=((n/2:Nat):Int):=by
  rw[show(n:Int).tdiv 2=((n/2:Nat):Int) from rfl,ZD ygc ygc]
 have q5:((n/2:Nat):Int).tmod 5=((n/2%5:Nat):Int):=rfl
 have b5:n/2%5<5:=Nat.mod_lt _ ygc
 simp(disch:=omega)only[go_sem,t14,YO .i64 n2,ZY .i64 n5,v2,q5]
 generalize n/2%5=N at b5⊢
 refine Zi N (fun i s=>∃tm y Y ws,s=⟨tm,y,[]⟩∧ws.length=i∧Mw h z a e ls ws X Y y∧tm.E 14=.ii (n:Int)∧tm.E 15=.ptr a 0∧tm.E 125=v125∧tm.E 159=.ii (N:Int)∧tm.E 160=.ii (i:Int)) ?_ ?_ (i:=0) (Nat.zero_le _)
  ⟨_,_,.nils,[],rfl,rfl,k0,ygf,ygg,ygd,ygb,ygm⟩<;>clear t14 t15 t125
 ·rintro i s hi ⟨tm,y,Y,ws,rfl,hws,k,t14,t15,t125,t159,t160⟩
  have hi':(i:Int)<(N:Int):=by omega
  have v1:wr .i64 ((i:Int)+1)=(i:Int)+1:=ZD ygc ygc
  have w2:wr .i64 ((i:Int)+2)=(i:Int)+2:=ZD ygc ygc
  have ni:(i:Int)+1≠0:=by omega
  have ni2:(i:Int)+2≠0:=by omega
  have lk:=k.lt
  have hX:=k.ox.sl yge
  have hlen:=hX.lenE
  have nl:(ls.length:Int)≠0:=by omega
  obtain⟨D,hD⟩:∃D:Int,wr .i64 ((wr .i64 ((n:Int).tdiv ((i:Int)+2))).tmod 3*20)=D:=⟨_,rfl⟩
  obtain⟨A,hA⟩:∃A:Int,(wr .i64 ((n:Int).tdiv ((i:Int)+1))).tmod (ls.length:Int)=A:=⟨_,rfl⟩
  obtain⟨B,hB⟩:∃B:Int,wr .i64 (4+(wr .i64 ((n:Int)*wr .i64 ((i:Int)+3))).tmod 29)=B:=⟨_,rfl⟩
  obtain⟨E,hE⟩:∃E:Int,wr .i64 (D+wr .i64 ((n:Int).tmod 2*20))=E:=⟨_,rfl⟩
  have sC:=(H.Sub.refl k.s.wf).add (.bk [.ii A,.ii B,.ii D,.ii E])
  simp(disch:=omega)only[go_sem,t14,t15,t125,t159,t160,hi',Za k.ga,v1,w2,YO .i64 ni,YO .i64 ni2,ZY .i64 n3,ZY .i64 n2,ZY .i64 n29,hlen,ZY .i64 nl,hD,hA,hB,hE]
  refine(k.oy.mono sC).app1 (r:=Zy ⟨A,B,D,E⟩) hw rfl ygc (Zk.new _ rfl rfl (by simp[Zy]) (by simp[Zy]) ygw) rfl yge yge fun y1 o1 k1 n1=>?_
  have ga1:=k1.2 _ _ (sC.get k.ga) ((k.oy.mono sC).ne (sC.get k.ga))
  have ox1:=(k.ox.mono sC).keep k1 o1.1 fun c hc hx=>k.xy c hc hx
  have l1:=k1.1
  rw[H.next_add] at l1 n1 o1
  obtain⟨Y1,eY1⟩:∃Y1:V,.sl (y.next+1) 0 ((ws.map Zy).length+1) (.slk 0 0)=Y1:=⟨_,rfl⟩
  have nY1:∀c,Zs Y1 c→c=y.next+1:=by rintro c ⟨_,_,_,e⟩;rw[←eY1] at e;cases e;rfl
  simp(disch:=omega)only[go_sem,t14,t15,t125,t159,t160,Za k.ga,Za ga1,ga1,Ze]
  rw[eY1] at o1⊢
  have s2:=o1.1.set (b:=a) h0 ygc hw (.bk [.ii e,X,Y1])
  refine⟨_,_,Y1,ws++[⟨A,B,D,E⟩],rfl,by simp[hws],⟨s2,by rw[H.next_set];omega,get_set_same rfl,ox1.keep (Zq.set _ _ _) s2 fun c hc e=>by have:=k.nX c hc;omega,?_,k.nX,fun c hc=>by have:=nY1 c hc;omega,fun c hx hc=>by have:=nY1 c hc;have:=(k.ox.blk hx).2.1;omega⟩,ygf,ygg,ygd,(by simp[Zn,Zd,t159]<;>rfl),ygb⟩
  rw[List.map_append]
  exact o1.keep (Zq.set _ _ _) s2 fun c hc e=>by have:=nY1 c hc;omega
 ·rintro s ⟨tm,y,Y,ws,rfl,hws,k,t14,t15,t125,t159,t160⟩
  simp(disch:=omega)only[go_sem,t159,t160,Int.lt_irrefl]
  exact⟨_,_,Y,ws,rfl,by omega,k,ygf,ygg,ygd⟩
end Go.Ab.Tryz
namespace Go.Ab.Tryz
open Go.Ab.Silk
noncomputable def slcHi (h:H)(sz:Nat)(x k:V):Option V:=XP .nil h sz x none (some (.c k)) none
theorem q_slc_hi (tm:Go.Ab.T V)(h:H)(sz:Nat)(x:V)(y:Opd):XP tm h sz x none (some y) none=slcHi h sz x (y.ev tm):=rfl
theorem W_split {Fn:Nat→Option FD}{fast:Nat→Option (List V→H→Option (V × H))}{N:Nat}{fn:FuncId}{ro:Option Nat}{A P:C}{s:St}{R:X→St→Prop}(J:St→Prop)(h:W Fn fast N fn ro A s (fun x s'=>x=.nrm∧J s'))(k:∀s',J s'→W Fn fast N fn ro P s' R):W Fn fast N fn ro (A.seq P) s R:=by
 rw[W_seq]
 exact h.mono fun x s' ⟨hx,hj⟩=>by subst hx;exact k s' hj
set_option maxRecDepth 8000 in
set_option maxHeartbeats 8000000 in
theorem dryL_ev {z:H}{n lot:Nat}{x v15 v125:V}{l:List (List Int)}(ax:Zk z x 2 (l.map (List.map iv)))(hl:l.length≤12)(tm:Go.Ab.T V)(t14:tm.E 14=.ii (n:Int))(t15:tm.E 15=v15)(t19:tm.E 19=.ii (lot:Int))(t20:tm.E 20=x)(t22:tm.E 22=.ii 7)(t125:tm.E 125=v125):
  W fnG Zm 385 3 none (Yw [true,true,false,true,true,true,true,true,false,true,true,true,true,true,true,true,true,false] c3.body) ⟨tm,z,[]⟩ fun x1 s=>x1=.nrm∧∃(tm':Go.Ab.T V) (d:Int),s=⟨tm',z,[]⟩∧
   tm'.E 14=.ii (n:Int)∧tm'.E 15=v15∧tm'.E 19=.ii (lot:Int)∧tm'.E 22=.ii d∧tm'.E 125=v125:=by
 simp only[Yw,c3]
 have hlen:=ax.lenE
 have n3:(3:Int)≠0:=by omega
 by_cases hi:lot<l.length
 ·have hi':(lot:Int)<(l.length:Int):=by omega
  obtain⟨b,o,c,cs,_,e2,e3,_,e5,_⟩:=ax.at hi
  have hr:(l[lot].map iv).length=2:=ax.1 _ (List.mem_map.2 ⟨_,List.getElem_mem hi,rfl⟩)
  have h0:nth (o+lot*2) cs=some (.ii (l[lot].getD 0 0)):=by
   have:=e5 0 ygc
   rw[Nat.add_zero] at this
   rw[this]
   match h:l[lot],hr with
   |[p,q],_=>rfl
  simp(disch:=omega)only[go_sem,t14,t15,t19,t20,t22,t125,hlen,hi',e3 (Zb lot),e2,h0,ZY .i64 n3]
  exact⟨_,_,rfl,ygf,ygg,ygh,ygb,ygd⟩
 ·have hi':¬(lot:Int)<(l.length:Int):=by omega
  simp(disch:=omega)only[go_sem,t14,t15,t19,t20,t22,t125,hlen,hi']
  exact⟨_,_,rfl,ygf,ygg,ygh,ygj,ygd⟩
set_option maxRecDepth 8000 in
set_option maxHeartbeats 8000000 in
theorem incW_ev {h z:H}(hw:h.wf){n:Nat}{x v15 v19 v22 v125:V}{ws:List Int}(ox:ZK h z x 1 (ws.map encI))(hl:ws.length≤12)(tm:Go.Ab.T V)(t14:tm.E 14=.ii (n:Int))(t15:tm.E 15=v15)(t19:tm.E 19=v19)(t22:tm.E 22=v22)(t23:tm.E 23=x)(t125:tm.E 125=v125):
  W fnG Zm 385 3 none (Yw [true,true,false,true,true,true,true,true,false,true,true,true,true,true,true,true,true,true,true,false] c3.body) ⟨tm,z,[]⟩ fun x1 s=>x1=.nrm∧∃(tm':Go.Ab.T V) (y:H) (ws':List Int),s=⟨tm',y,[]⟩∧h.Sub y∧ws'.length≤12∧ZK h y x 1 (ws'.map encI)∧
   tm'.E 14=.ii (n:Int)∧tm'.E 15=v15∧tm'.E 19=v19∧tm'.E 22=v22∧tm'.E 23=x∧tm'.E 125=v125:=by
 simp only[Yw,c3]
 have hlen:=(ox.sl yge).lenE
 have n4:(4:Int)≠0:=by omega
 by_cases hi:1<ws.length
 ·have hi':(1:Int)<(ws.length:Int):=by omega
  by_cases h4:(n:Int).tmod 4=0
  ·obtain⟨v,hv⟩:∃v:Int,wr .i64 (ws[1]+1)=v:=⟨_,rfl⟩
   obtain⟨b,y,_,hput,oy,ky,ny,hq,cs,hcs,hnth⟩:=ox.putAt hw (k:=1) (j:=0) (pre:=[]) (post:=[]) (old:=.ii ws[1]) (v:=.ii v) (row:=encI ws[1]) (by rw[List.getElem?_map,List.getElem?_eq_getElem hi];rfl) rfl rfl rfl
   have hq1:YI 1 x (.ii 1)=some (.ptr b (1*1)):=hq (Zb 1)
   simp only[Nat.reduceMul,Nat.reduceAdd] at hput hq1 hnth
   have e:(ws.map encI).set 1 ([]++ .ii v::[])=(ws.set 1 v).map encI:=by rw[List.map_set];rfl
   rw[e] at oy
   simp(disch:=omega)only[go_sem,t14,t15,t19,t22,t23,t125,hlen,hi',ZY .i64 n4,h4,hq1,hcs,hnth,hv,hput]
   exact⟨_,_,ws.set 1 v,rfl,oy.1,by simpa using hl,oy,ygf,ygg,ygh,ygj,ygl,ygd⟩
  ·simp(disch:=omega)only[go_sem,t14,t15,t19,t22,t23,t125,hlen,hi',ZY .i64 n4,h4]
   exact⟨_,_,ws,rfl,ox.1,hl,ox,ygf,ygg,ygh,ygj,ygl,ygd⟩
 ·have hi':¬(1:Int)<(ws.length:Int):=by omega
  simp(disch:=omega)only[go_sem,t14,t15,t19,t22,t23,t125,hlen,hi']
  exact⟨_,_,ws,rfl,ox.1,hl,ox,ygf,ygg,ygh,ygj,ygl,ygd⟩
set_option maxRecDepth 8000 in
set_option maxHeartbeats 8000000 in
theorem addP_ev {h z:H}(hw:h.wf){n b:Nat}{e plot:Int}{A B v15 v19 v22 v23 v125:V}{la lb':List Int}(oa:ZK h z A 1 (la.map encI))(ob:ZK h z B 1 (lb'.map encI))(ha:la.length≤1000)(hb:lb'.length≤1000)(ab:∀c,Zs A c→¬Zs B c)(gb:z.get b=some (.bk [.ii plot,A,B]))(h0:h.next≤b)(nA:∀c,Zs A c→c<b)(nB:∀c,Zs B c→c<b)
  (tm:Go.Ab.T V) (t14:tm.E 14=.ii (n:Int)) (t15:tm.E 15=v15) (t19:tm.E 19=v19) (t22:tm.E 22=v22) (t23:tm.E 23=v23) (t25:tm.E 25=.ptr b 0) (t26:tm.E 26=.ii e) (t125:tm.E 125=v125):
  W fnG Zm 385 3 none (Yw [true,true,false,true,true,true,true,true,false,true,true,true,true,true,true,true,true,true,true,true,true,false] c3.body) ⟨tm,z,[]⟩ fun x1 s=>x1=.nrm∧∃(tm':Go.Ab.T V) (y:H) (A' B':V) (p q:List Int),s=⟨tm',y,[]⟩∧h.Sub y∧Zk y A' 1 (p.map encI)∧Zk y B' 1 (q.map encI)∧y.cells b=some [.ii plot,A',B']∧
   tm'.E 14=.ii (n:Int)∧tm'.E 15=v15∧tm'.E 19=v19∧tm'.E 22=v22∧tm'.E 23=v23∧tm'.E 25=.ptr b 0∧tm'.E 125=v125:=by
 simp only[Yw,c3]
 have n3:(3:Int)≠0:=by omega
 have lb:=H.lt_next oa.1.wf gb
 refine W_split (fun s=>∃(tm:Go.Ab.T V) (bv:Bool),s=⟨tm,z,[]⟩∧tm.E 14=.ii (n:Int)∧tm.E 15=v15∧tm.E 19=v19∧tm.E 22=v22∧tm.E 23=v23∧tm.E 25=.ptr b 0∧tm.E 125=v125∧tm.E 250=.bool bv) ?_ ?_
 ·by_cases he:e=0
  ·simp(disch:=omega)only[go_sem,t14,t26,he,ne_eq,not_true_eq_false,ZY .i64 n3]
   exact⟨_,_,rfl,ygf,ygg,ygh,ygj,ygl,ygB,ygd,ygb⟩
  ·simp(disch:=omega)only[go_sem,t14,t26,he,ne_eq,not_false_eq_true]
   exact⟨_,_,rfl,ygf,ygg,ygh,ygj,ygl,ygB,ygd,ygb⟩
 clear t14 t15 t19 t22 t23 t25 t26 t125
 rintro s ⟨tm,bv,rfl,t14,t15,t19,t22,t23,t25,t125,t250⟩
 cases bv with
 |false=>
  simp(disch:=omega)only[go_sem,t250]
  exact⟨_,_,A,B,la,lb',rfl,oa.1,oa.sl yge,ob.sl yge,Za gb,t14,t15,t19,t22,t23,t25,t125⟩
 |true=>
  obtain⟨C,hC⟩:∃C:Int,(n:Int).tmod 3=C:=⟨_,rfl⟩
  obtain⟨D,hD⟩:∃D:Int,(wr .i64 ((n:Int).tdiv 3)).tmod 3=D:=⟨_,rfl⟩
  have sC:=(H.Sub.refl oa.1.wf).add (.bk [.ii C])
  simp(disch:=omega)only[go_sem,t250,t14,t25,Za gb,ZY .i64 n3,YO .i64 n3,hC]
  refine(oa.mono sC).app1 (r:=encI C) hw rfl ygc (Zk.new _ rfl rfl ygn ygn ygw) rfl yge yge fun A1 y1 o1 nA1 k1=>?_
  have gb1:=k1.2 _ _ (sC.get gb) fun hc=>by have:=nA b hc;omega
  have ob1:=(ob.mono sC).keep k1 o1.1 fun c hc hx=>ab c hx hc
  have l1:=k1.1
  rw[H.next_add] at l1 nA1
  have sD:=(H.Sub.refl o1.1.wf).add (.bk [.ii D])
  simp(disch:=omega)only[go_sem,t14,t25,Za gb,Za gb1,ZY .i64 n3,YO .i64 n3,hC,hD]
  refine(ob1.mono sD).app1 (r:=encI D) hw rfl ygc (Zk.new _ rfl rfl ygn ygn ygw) rfl yge yge fun B2 y2 o2 nB2 k2=>?_
  have gb2:=k2.2 _ _ (sD.get gb1) fun hc=>by have:=nB b hc;omega
  have oa2:=(o1.mono sD).keep k2 o2.1 fun c hc hx=>by
   have:=nB c hx
   rcases nA1 c hc with h1|h1
   ·exact ab c h1 hx
   ·omega
  have l2:=k2.1
  rw[H.next_add] at l2 nB2
  have A1o:=o1.one
  have B2o:=o2.one
  simp(disch:=omega)only[go_sem,t14,t25,Za gb,Za gb1,Za gb2,gb2,A1o,B2o,cells_one A1o,cells_one B2o]
  have s3:=o2.1.set (b:=b) h0 ygc hw (.bk [.ii plot,A1,B2])
  refine⟨_,_,A1,B2,la++[C],lb'++[D],rfl,s3,?_,?_,Za (get_set_same rfl),ygf,ygg,ygh,ygj,ygl,ygB,ygd⟩
  ·rw[List.map_append]
   refine(oa2.keep (Zq.set _ _ _) s3 fun c hc e=>?_).sl ygq
   rcases nA1 c hc with h1|h1
   ·have:=nA c h1;omega
   ·omega
  ·rw[List.map_append]
   refine(o2.keep (Zq.set _ _ _) s3 fun c hc e=>?_).sl ygq
   rcases nB2 c hc with h1|h1
   ·have:=nB c h1;omega
   ·omega
set_option maxRecDepth 8000 in
set_option maxHeartbeats 8000000 in
theorem askT_ev {z:H}(hw:z.wf){n a b:Nat}{plot lot dry:Int}{m:Ml}{X Y K A B v125:V}{ws la lb:List Int}(ga:z.cells a=some [.ii m.errs,X,Y])(hm:ZF z (.agg [.ii m.errs,X,Y]) m)(gb:z.cells b=some [.ii plot,A,B])(aK:Zk z K 1 (ws.map encI))(aA:Zk z A 1 (la.map encI))(aB:Zk z B 1 (lb.map encI))
  (tm:Go.Ab.T V) (t14:tm.E 14=.ii (n:Int)) (t15:tm.E 15=.ptr a 0) (t19:tm.E 19=.ii lot) (t22:tm.E 22=.ii dry) (t23:tm.E 23=K) (t25:tm.E 25=.ptr b 0) (t125:tm.E 125=v125):
  W fnG Zm 385 3 none (Yw [true,true,false,true,true,true,true,true,false,true,true,true,true,true,true,true,true,true,true,true,true,true] c3.body) ⟨tm,z,[]⟩ fun x1 s=>x1=.nrm∧∃(tm':Go.Ab.T V) (y:H),s=⟨tm',y,[]⟩∧z.Sub y∧tm'.E 125=v125:=by
 simp only[Yw,c3]
 have n4:(4:Int)≠0:=by omega
 have n5:(5:Int)≠0:=by omega
 have q4:(n:Int).tmod 4=((n%4:Nat):Int):=rfl
 have b4:n%4<4:=Nat.mod_lt _ ygc
 obtain⟨F,hF⟩:∃F:Int,(n:Int).tmod 5=F:=⟨_,rfl⟩
 generalize n%4=r at q4 b4
 obtain⟨zE,hzE⟩:∃zE,((((z.add (.bk [.ii 0])).add (.bk [.ii 2,.ii 1])).add (.bk [.ii 0,.ii 1,.ii 0])).add (.bk [.nils,.sl z.next 0 1 (.fix 1),.sl (z.next+1) 0 2 (.fix 2),.sl (z.next+1+1) 0 3 (.fix 3)])).add (.bk [.ii 0,.ii 3,.ii 1])=zE:=⟨_,rfl⟩
 have sE:z.Sub zE:=by rw[←hzE];exact yga
 have g0:zE.get z.next=some (.bk [.ii 0]):=by rw[←hzE];simp -implicitDefEqProofs(disch:=first|omega|simp only[nZ]<;>omega|fail)only[go_sem]
 have g1:zE.get (z.next+1)=some (.bk [.ii 2,.ii 1]):=by rw[←hzE];simp -implicitDefEqProofs(disch:=first|omega|simp only[nZ]<;>omega|fail)only[go_sem]
 have g2:zE.get (z.next+1+1)=some (.bk [.ii 0,.ii 1,.ii 0]):=by rw[←hzE];simp -implicitDefEqProofs(disch:=first|omega|simp only[nZ]<;>omega|fail)only[go_sem]
 have g3:zE.get (z.next+1+1+1)=some (.bk [.nils,.sl z.next 0 1 (.fix 1),.sl (z.next+1) 0 2 (.fix 2),.sl (z.next+1+1) 0 3 (.fix 3)]):=by rw[←hzE];simp -implicitDefEqProofs(disch:=first|omega|simp only[nZ]<;>omega|fail)only[go_sem]
 have g4:zE.get (z.next+1+1+1+1)=some (.bk [.ii 0,.ii 3,.ii 1]):=by rw[←hzE];simp -implicitDefEqProofs(disch:=first|omega|simp only[nZ]<;>omega|fail)only[go_sem]
 obtain⟨I,il,hI,aI⟩:∃(I:V) (il:List Int),nth r [.nils,.sl z.next 0 1 (.fix 1),.sl (z.next+1) 0 2 (.fix 2),.sl (z.next+1+1) 0 3 (.fix 3)]=some I∧Zk zE I 1 (il.map encI):=by
  match r,b4 with
  |0,_=>exact⟨_,[],rfl,⟨by simp,by simp,.inl ⟨rfl,rfl⟩⟩⟩
  |1,_=>exact⟨_,[0],rfl,Zk.blk _ g0 rfl rfl ygn ygw⟩
  |2,_=>exact⟨_,[2,1],rfl,Zk.blk _ g1 rfl rfl ygn ygw⟩
  |3,_=>exact⟨_,[0,1,0],rfl,Zk.blk _ g2 rfl rfl ygn ygw⟩
 have aZ:Zk zE (.sl (z.next+1+1+1+1) 0 r (.fix 3)) 1 ((([0,3,1]:List Int).take r).map encI):=by
  have:=Zk.pre (c:=.fix 3) (n:=r) (rows:=([0,3,1]:List Int).map encI) (sz:=1) g4 (by simp;omega) ygn ygw
  rwa[←List.map_take] at this
 have iP:∀b:Nat,YI 1 (.sl b 0 4 (.fix 4)) (.ii (r:Int))=some (.ptr b r):=fun b=>by rw[Zz (Zb r) b4];simp
 have sP:∀(h:H) (b:Nat),slcHi h 1 (.sl b 0 3 (.fix 3)) (.ii (r:Int))=some (.sl b 0 r (.fix 3)):=fun h b=>by
  match r,b4 with
  |0,_=>rfl
  |1,_=>rfl
  |2,_=>rfl
  |3,_=>rfl
 have hm0:=hm
 obtain⟨_,_,eq,aX,aY⟩:=hm0
 cases eq
 have X1:=aX.one
 have Y1:=aY.one
 have A1:=aA.one
 have B1:=aB.one
 simp -implicitDefEqProofs(disch:=first|omega|simp only[nZ]<;>omega|fail)only[go_sem,t14,t15,t19,t22,t23,t25,t125,ga,gb,q4,ZY .i64 n4,ZY .i64 n5,hF,iP,hI,q_slc_hi,sP,X1,Y1,A1,B1,cells_one X1,cells_one Y1,cells_one A1,cells_one B1]
 rw[hzE]
 have E:∀Q,(∀h',zE.Sub h'→Q (.bool true) h')→Ev fnG Zm (.fn 6 [] []) [.agg [.ii m.errs,X,Y],.ii lot,.ii (r:Int),.ii dry,K,.agg [.ii plot,A,B],I,.agg [.ii F,.ii (n:Int),.ii 1,.ii (r:Int)],.sl (z.next+1+1+1+1) 0 r (.fix 3)] zE Q:=
  fun Q q=>asked_ev sE.wf (hm.mono sE) lot (r:Int) dry plot (aK.mono sE) (aA.mono sE) (aB.mono sE) aI ⟨F,(n:Int),1,(r:Int)⟩ aZ Q q
 refine E _ fun h' sh=>?_
 have ga':=(sE.trans sh).cells ga
 have gb':=(sE.trans sh).cells gb
 have gaE:=sE.cells ga
 have gbE:=sE.cells gb
 simp(disch:=omega)only[go_sem,t14,t15,t19,t22,t23,t25,t125,ga,gb,ga',gb',gaE,gbE,Za g3,sh.cells (Za g3),hI,evQ_slc,q_slc_hi,sP,X1,Y1,A1,B1,cells_one X1,cells_one Y1,cells_one A1,cells_one B1,Bool.not_true]
 exact⟨_,_,rfl,sE.trans sh,ygd⟩
end Go.Ab.Tryz
namespace Go.Ab.Tryz
open Go.Ab.Silk
set_option maxRecDepth 8000 in
set_option maxHeartbeats 8000000 in
theorem second_ev {h:H}(hw:h.wf)(tm:Go.Ab.T V):
  W fnG Zm 385 3 none (Yw [true,true,false] c3.body) ⟨tm,h,[]⟩ fun x1 s=>x1=.nrm∧∃tm' z',s=⟨tm',z',[]⟩∧h.Sub z':=by
 obtain⟨R1,hR1⟩:∃R,Yw [true,true,false,true,true,true,true,true,false,true,true,true,false] c3.body=R:=⟨_,rfl⟩
 obtain⟨R2,hR2⟩:∃R,Yw [true,true,false,true,true,true,true,true,false,true,true,true,true,false] c3.body=R:=⟨_,rfl⟩
 obtain⟨R3,hR3⟩:∃R,Yw [true,true,false,true,true,true,true,true,false,true,true,true,true,true,true,true,true,false] c3.body=R:=⟨_,rfl⟩
 obtain⟨R4,hR4⟩:∃R,Yw [true,true,false,true,true,true,true,true,false,true,true,true,true,true,true,true,true,true,true,false] c3.body=R:=⟨_,rfl⟩
 obtain⟨R5,hR5⟩:∃R,Yw [true,true,false,true,true,true,true,true,false,true,true,true,true,true,true,true,true,true,true,true,true,false] c3.body=R:=⟨_,rfl⟩
 obtain⟨R6,hR6⟩:∃R,Yw [true,true,false,true,true,true,true,true,false,true,true,true,true,true,true,true,true,true,true,true,true,true] c3.body=R:=⟨_,rfl⟩
 have r1:= @lots_ev
 have r2:= @weighs_ev
 have r3:= @dryL_ev
 have r4:= @incW_ev
 have r5:= @addP_ev
 have r6:= @askT_ev
 rw[hR1] at r1
 rw[hR2] at r2
 rw[hR3] at r3
 rw[hR4] at r4
 rw[hR5] at r5
 rw[hR6] at r6
 simp only[Yw,c3] at hR1 hR2 hR3 hR4 hR5 hR6
 simp only[Yw,c3]
 rw[hR1,hR2,hR3,hR4,hR5,hR6]
 clear hR1 hR2 hR3 hR4 hR5 hR6
 simp(disch:=omega)only[go_sem]
 refine Zi 120 (fun n s=>∃tm z,s=⟨tm,z,[]⟩∧h.Sub z∧tm.E 125=.ii (n:Int)) ?_ ?_ (i:=0) (Nat.zero_le _) ⟨_,_,rfl,H.Sub.refl hw,ygm⟩
 ·rintro n s hn ⟨tm,z,rfl,sz,t125⟩
  have hn':(n:Int)<120:=by omega
  have n3:(3:Int)≠0:=by omega
  obtain⟨e,he⟩:∃e:Int,(n:Int).tmod 3=e:=⟨_,rfl⟩
  simp(disch:=omega)only[go_sem,t125,hn',ZY .i64 n3,he]
  have s1:=(H.Sub.refl sz.wf).add (.bk [.ii e,.nils,.nils])
  have l1:(z.add (.bk [.ii e,.nils,.nils])).next=z.next+1:=H.next_add _ _
  have k0:Mw z (z.add (.bk [.ii e,.nils,.nils])) z.next e [] [] .nils .nils (z.add (.bk [.ii e,.nils,.nils])):=⟨s1,Nat.le_refl _,Zo rfl,Zr.nil s1 2,Zr.nil s1 4,fun c hc=>(ZE hc).elim,fun c hc=>(ZE hc).elim,fun c hc=>(ZE hc).elim⟩
  refine(r1 sz.wf hn (Nat.le_refl _) ygc k0 _ (v125:=.ii (n:Int)) ygb ygb ygd).mono fun x1 s hx1=>?_
  clear t125
  obtain⟨rfl,tm,y,X,ls,rfl,hls,k,t14,t15,t125⟩:=hx1
  have b6:n%6<6:=Nat.mod_lt _ ygc
  simp(disch:=omega)only[go_sem]
  refine(r2 sz.wf hn (Nat.le_refl _) ygc ygc ygc k _ (v125:=.ii (n:Int)) t14 t15 t125).mono fun x1 s hx1=>?_
  clear k t14 t15 t125
  obtain⟨rfl,tm,y,Y,ws,rfl,hws,k,t14,t15,t125⟩:=hx1
  have aX:=k.ox.sl yge
  have aY:=k.oy.sl yge
  have X1:=aX.one
  have Y1:=aY.one
  have hlen:=aX.lenE
  have nl:(ls.length:Int)≠0:=by omega
  have hm:ZF y (.agg [.ii e,X,Y]) ⟨e,ls,ws⟩:=⟨X,Y,rfl,aX,aY⟩
  have q0:(n:Int).tmod (ls.length:Int)=((n%ls.length:Nat):Int):=rfl
  have gy:=Za k.ga
  have wy:=k.s.wf
  have szy:=sz.trans k.s
  simp(disch:=omega)only[go_sem,t14,t15,t125,gy,hlen,ZY .i64 nl,q0,X1,Y1,cells_one X1,cells_one Y1]
  generalize n%ls.length=lot
  refine(Bounds_own wy hm).mono fun u h2 hu=>?_
  obtain⟨s2,L,l,e2,rfl,oL,hl,_⟩:=hu
  simp(disch:=omega)only[go_sem,t14,t15,t125]
  refine(r3 (oL.sl yge) hl _ (v15:=.ptr z.next 0) (v125:=.ii (n:Int)) ygf ygg ygb ygb ygb ygd).mono fun x1 s hx1=>?_
  clear t14 t15 t125
  obtain⟨rfl,tm,d,rfl,t14,t15,t19,t22,t125⟩:=hx1
  have gy2:=s2.cells gy
  simp(disch:=omega)only[go_sem,t14,t15,t19,t22,t125,gy2,X1,Y1,cells_one X1,cells_one Y1]
  refine(Weights_own s2.wf (hm.mono s2) lot d).mono fun u h3 hu=>?_
  obtain⟨s3,K,kw,e3,rfl,oK,hk,_⟩:=hu
  simp(disch:=omega)only[go_sem,t14,t15,t19,t22,t125]
  refine(r4 s2.wf oK.c hk _ (v15:=.ptr z.next 0) (v19:=.ii (lot:Int)) (v22:=.ii d) (v125:=.ii (n:Int)) ygf ygg ygh ygj ygb ygd).mono fun x1 s hx1=>?_
  clear t14 t15 t19 t22 t125 oK hk s3
  obtain⟨rfl,tm,h4,kw,rfl,s4,hk,oK,t14,t15,t19,t22,t23,t125⟩:=hx1
  have sy4:=s2.trans s4
  have gy4:=sy4.cells gy
  have aK:=oK.sl yge
  simp(disch:=omega)only[go_sem,t14,t15,t19,t22,t23,t125,gy4,X1,Y1,cells_one X1,cells_one Y1]
  refine(Prove_own s4.wf (hm.mono sy4)).mono fun u h5 hu=>?_
  obtain⟨s5,plot,A,B,low,high,e5,rfl,oA,oB,⟨ha,hb,ab⟩,_⟩:=hu
  have A1:=oA.one
  have B1:=oB.one
  have sA:=(H.Sub.refl s5.wf).add (.bk [.ii plot,A,B])
  simp(disch:=omega)only[go_sem,t14,t15,t19,t22,t23,t125,A1,B1,cells_one A1,cells_one B1]
  refine(r5 s4.wf (oA.mono sA) (oB.mono sA) ha hb ab (Zo rfl) s5.next (fun c hc=>(oA.blk hc).2.1) (fun c hc=>(oB.blk hc).2.1) _ (v15:=.ptr z.next 0) (v19:=.ii (lot:Int)) (v22:=.ii d) (v23:=K) (v125:=.ii (n:Int)) ygf ygg ygh ygj ygl ygb ygb ygd).mono fun x1 s hx1=>?_
  clear t14 t15 t19 t22 t23 t125
  obtain⟨rfl,tm,h6,A',B',p,q,rfl,s6,aA,aB,g6,t14,t15,t19,t22,t23,t25,t125⟩:=hx1
  have sy6:=sy4.trans s6
  simp(disch:=omega)only[go_sem]
  refine(r6 (m:=⟨e,ls,ws⟩) s6.wf (sy6.cells gy) (hm.mono sy6) g6 (aK.mono s6) aA aB _ (v125:=.ii (n:Int)) t14 t15 t19 t22 t23 t25 t125).mono fun x1 s hx1=>?_
  clear t14 t15 t19 t22 t23 t25 t125
  obtain⟨rfl,tm,h7,rfl,s7,t125⟩:=hx1
  simp(disch:=omega)only[go_sem,t125,Ze]
  exact⟨_,_,rfl,szy.trans (sy6.trans s7),ygb⟩
 ·rintro s ⟨tm,z,rfl,sz,t125⟩
  have t125:tm.E 125=.ii 120:=t125
  simp(disch:=omega)only[go_sem,t125,Int.lt_irrefl]
  exact⟨_,_,rfl,sz⟩
end Go.Ab.Tryz
namespace Go.Ab.Tryz
open Go.Ab.Silk
set_option maxRecDepth 8000 in
set_option maxHeartbeats 8000000 in
theorem third_ev {h:H}(hw:h.wf)(tm:Go.Ab.T V):
  W fnG Zm 385 3 none (Yw [true,true,true,false] c3.body) ⟨tm,h,[]⟩ fun x1 s=>x1=.nrm∧∃tm' z',s=⟨tm',z',[]⟩∧h.Sub z':=by
 obtain⟨R1,hR1⟩:∃R,Yw [true,true,true,false,true,true,true,true,true,false,true,true,true,false] c3.body=R:=⟨_,rfl⟩
 obtain⟨R2,hR2⟩:∃R,Yw [true,true,true,false,true,true,true,true,true,false,true,true,true,true,true,true,true,true,true,false,true,true] c3.body=R:=⟨_,rfl⟩
 have r1:= @grow_ev
 have r2:= @five_ev
 rw[hR1] at r1
 rw[hR2] at r2
 simp only[Yw,c3] at hR1 hR2
 simp only[Yw,c3]
 rw[hR1,hR2]
 clear hR1 hR2
 simp(disch:=omega)only[go_sem]
 refine Zi 15 (fun n s=>∃tm z,s=⟨tm,z,[]⟩∧h.Sub z∧tm.E 295=.ii (n:Int)) ?_ ?_ (i:=0) (Nat.zero_le _) ⟨_,_,rfl,H.Sub.refl hw,ygm⟩
 ·rintro n s hn ⟨tm,z,rfl,sz,t295⟩
  have hn':(n:Int)<15:=by omega
  simp(disch:=omega)only[go_sem,t295,hn']
  refine Tree_ev sz.wf (n:=1) ygc _ fun z0 k0 nz=>?_
  simp -implicitDefEqProofs(disch:=first|omega|simp only[nZ]<;>omega|fail)only[go_sem,t295,nz]
  generalize hz:H.set (H.set _ _ _) _ _=zE
  have g1:z0.get (z.next+1)=some (.bk trW):=k0.2.2.2 1 _ rfl
  have g2:z0.get (z.next+2)=some (.bk trL):=k0.2.2.2 2 _ rfl
  have s0:=k0.1
  have wz:=sz.wf
  have sE:z.Sub zE:=by rw[←hz];exact yga
  have nE:zE.next=z.next+5:=by rw[←hz];simp(disch:=omega)only[go_sem,nz]
  have gE1:zE.get (z.next+1)=some (.bk trW):=by rw[←hz];simp -implicitDefEqProofs(disch:=first|omega|simp only[nZ]<;>omega|fail)only[go_sem,nz,g1]
  have gE2:zE.get (z.next+2)=some (.bk trL):=by rw[←hz];simp -implicitDefEqProofs(disch:=first|omega|simp only[nZ]<;>omega|fail)only[go_sem,nz,g2]
  have gE3:zE.get (z.next+3)=some (.bk [.ii 0,.nils,.nils]):=by rw[←hz];simp(disch:=omega)only[go_sem,nz]
  have gE4:zE.get (z.next+3+1)=some (.bk [.ii 2,.sl (z.next+2) 0 6 (.fix 6),.sl (z.next+1) 0 1 (.fix 5)]):=by rw[←hz];simp(disch:=omega)only[go_sem,nz]
  have k:Gw z zE (z.next+3) (z.next+3+1) (z.next+2) (z.next+1) 0 .nils (.sl (z.next+1) 0 1 (.fix 5)) zE:=⟨sE,Nat.le_refl _,gE3,gE4,gE2,Zr.nil sE 2,⟨sE,by simp[Zy],.inr (.inr ⟨z.next+1,5,_,rfl,by omega,by omega,gE1,rfl,by simp[wsN]⟩)⟩,fun c hc=>(ZE hc).elim,fun c hc=>by obtain⟨_,_,_,e⟩:=hc;cases e;exact .inl rfl,fun c hc=>(ZE hc).elim⟩
  clear hz
  refine(r1 wz sE.wf hn ygc ygc ygc ygc ygc ygc ygc ygc ygc ygc ygc ygc k _ (v295:=.ii (n:Int)) ygb ygb ygb ygi).mono fun x1 s hx1=>?_
  clear t295
  obtain⟨rfl,tm,y,X,Y,rfl,k,t27,t28,t29,t295⟩:=hx1
  have X1:=ZK.one k.ox.c
  have Y1:=k.oy.one
  have sA:=(H.Sub.refl k.s.wf).add (.bk [.ii 0,X,.nils,.ii 2,.sl (z.next+2) 0 6 (.fix 6),Y])
  have gA:(y.add (.bk [.ii 0,X,.nils,.ii 2,.sl (z.next+2) 0 6 (.fix 6),Y])).cells y.next=some [.ii 0,X,.nils,.ii 2,.sl (z.next+2) 0 6 (.fix 6),Y]:=Zh rfl
  simp(disch:=omega)only[go_sem,t27,t28,t29,t295,Za k.ga,Za k.gb,X1,Y1,cells_one X1,cells_one Y1]
  have aX:=(k.ox.sl ygr).mono sA
  have aY:=(k.oy.sl ygs).mono sA
  have aL:Zk (y.add (.bk [.ii 0,X,.nils,.ii 2,.sl (z.next+2) 0 6 (.fix 6),Y])) (.sl (z.next+2) 0 6 (.fix 6)) 2 (trLs.map ZO):=(Zk.blk _ k.gl rfl rfl (by simp[trLs,ZO]) (by simp[trLs])).mono sA
  have sy:=k.s.trans sA
  generalize y.add (.bk [.ii 0,X,.nils,.ii 2,.sl (z.next+2) 0 6 (.fix 6),Y])=yA at sA gA aX aY aL sy⊢
  refine Zi 2 (fun i s=>∃tm y2,s=⟨tm,y2,[]⟩∧yA.Sub y2∧tm.E 27=.ii (n:Int)∧tm.E 295=.ii (n:Int)∧tm.E 329=.sl y.next 0 2 (.fix 2)∧tm.E 330=.ii 2∧tm.E 331=.ii (i:Int)) ?_ ?_ (i:=0) (Nat.zero_le _)
   ⟨_,_,rfl,H.Sub.refl sy.wf,ygk,ygi,ygb,ygb,ygm⟩<;>clear t27 t28 t29 t295
  ·rintro i s hi ⟨tm,y2,rfl,s2,t27,t295,t329,t330,t331⟩
   have hi':(i:Int)<2:=by omega
   obtain⟨L',Z',m,hm,hget,ok⟩:∃L' Z' m,ZF yA (.agg [.ii m.errs,L',Z']) m∧WQ (i*3) 3 [.ii 0,X,.nils,.ii 2,.sl (z.next+2) 0 6 (.fix 6),Y]=some [.ii m.errs,L',Z']∧nth i [V.bool (decide ((0:Int)<(n:Int)∧(n:Int)<13)),.bool (decide ((n:Int)<10))]=some (.bool (decide (check m=0))):=by
    match i,hi with
    |0,_=>exact⟨X,.nils,⟨0,lsN n,[]⟩,⟨_,_,rfl,aX,⟨by simp,by simp,.inl ⟨rfl,rfl⟩⟩⟩,rfl,by rw[←ok_lots n hn];rfl⟩
    |1,_=>exact⟨.sl (z.next+2) 0 6 (.fix 6),Y,⟨2,trLs,wsN n⟩,⟨_,_,rfl,aL,aY⟩,rfl,by rw[←ok_wgs n hn];rfl⟩
   have hm1:L'.one=true∧Z'.one=true:=by
    obtain⟨_,_,e,q1,q2⟩:=hm
    cases e
    exact⟨q1.one,q2.one⟩
   have iP:YI 3 (.sl y.next 0 2 (.fix 2)) (.ii (i:Int))=some (.ptr y.next (i*3)):=by rw[Zz (Zb i) hi];simp
   have sB:=(H.Sub.refl s2.wf).add (.bk [.ii m.errs,L',Z'])
   have gB:(y2.add (.bk [.ii m.errs,L',Z'])).cells y2.next=some [.ii m.errs,L',Z']:=Zh rfl
   simp(disch:=omega)only[go_sem,t27,t295,t329,t330,t331,hi',iP,s2.cells gA,hget,hm1.1,hm1.2,cells_one hm1.1,cells_one hm1.2]
   refine(r2 sB.wf hi hn gB (hm.mono (s2.trans sB)) ok _ (v28:=.nils) (v29:=.nils) (v295:=.ii (n:Int)) (v329:=.sl y.next 0 2 (.fix 2)) (v330:=.ii 2) (v331:=.ii (i:Int)) ygk ygb ygb ygi ygt ygu ygx).mono fun x1 s hx1=>?_
   clear t27 t295 t329 t330 t331
   obtain⟨rfl,tm,y3,rfl,s3,t27,t295,t329,t330,t331⟩:=hx1
   simp(disch:=omega)only[go_sem,t331,Ze]
   exact⟨_,_,rfl,s2.trans (sB.trans s3),ygk,ygi,ygt,ygu,ygb⟩
  ·rintro s ⟨tm,y2,rfl,s2,t27,t295,t329,t330,t331⟩
   have t331:tm.E 331=.ii 2:=t331
   simp(disch:=omega)only[go_sem,t295,t330,t331,Int.lt_irrefl,Ze]
   exact⟨_,_,rfl,sz.trans (sy.trans s2),ygb⟩
 ·rintro s ⟨tm,z,rfl,sz,t295⟩
  have t295:tm.E 295=.ii 15:=t295
  simp(disch:=omega)only[go_sem,t295,Int.lt_irrefl]
  exact⟨_,_,rfl,sz⟩
end Go.Ab.Tryz
