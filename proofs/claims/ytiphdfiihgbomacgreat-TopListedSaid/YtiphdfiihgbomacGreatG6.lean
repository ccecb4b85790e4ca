/- Prices of general rules: slices.Delete, Dup. Sortings into sets of which any two go together: the first one that is found, and that no fewer sets do. Plain. Slices of our own that are cut short and grow again; lists of them. Prices of general rules: contracts of the small functions. Prices of general rules: the rules that count, and the price. Prices of general rules: the price of a piece. Prices of general rules: a list is right; the price of a piece. Prices of general rules: a loop over all pieces. Prices of general rules: where two lists differ. -/
import Derived.Test.YtiphdfiihgbomacGreatG2
import Derived.Test.YtiphdfiihgbomacGreatAc8
import Derived.Test.YtiphdfiihgbomacGreatPa5
import Derived.Test.YtiphdfiihgbomacGreatG5
set_option linter.unusedSimpArgs false
set_option linter.unusedVariables false
namespace Go.Ab
def upto (p:Nat):List Int:=(List.range p).map fun i:Nat=>(i:Int)
end Go.Ab
namespace Go.Ab
def CutO (F:Nat→Prop)(h:H)(x:V)(sz:Nat)(rows:List (List V)):Prop:=
 (∀r∈rows,r.length=sz)∧((x=.nils∧rows=[])∨(∃b rest j,x=.sl b 0 rows.length (.slk 0 0)∧F b∧b<h.next∧h.get b=some (.cells (.gr sz) (rows.flatten++rest))∧rest.length=j*sz)∨
  ∃b c rest,x=.sl b 0 rows.length (.fix c)∧F b∧b<h.next∧h.get b=some (.cells .rw (rows.flatten++rest))∧rows.length*sz+rest.length=c*sz∧rows.length≤c)
theorem OwnC.cutO {h0 h:H}{x:V}{sz:Nat}{rows:List (List V)}(a:OwnC h0 h x sz rows):CutO (fun b=>h0.next≤b) h x sz rows:=by
 refine⟨a.2.1,?_⟩
 rcases a.2.2 with a2|⟨b,e,l1,l2,hb⟩|⟨b,c,rest,e,l1,l2,hb,k⟩
 ·exact .inl a2
 ·exact .inr (.inl ⟨b,[],0,e,l1,l2,by rw[List.append_nil];exact hb,by simp⟩)
 ·exact .inr (.inr ⟨b,c,rest,e,l1,l2,hb,k⟩)
theorem CutO.sl {F:Nat→Prop}{h:H}{x:V}{sz:Nat}{rows:List (List V)}(a:CutO F h x sz rows)(hl:rows.length≤9223372036854775807):SlAt h x sz rows:=by
 obtain⟨a1,a2⟩:=a
 refine⟨a1,hl,?_⟩
 rcases a2 with a2|⟨b,rest,j,e,_,_,hb,_⟩|⟨b,c,rest,e,_,_,hb,_⟩
 ·exact .inl a2
 ·refine .inr ⟨b,0,_,_,e,.inr (cells_of hb),getN_eq.2 ⟨?_,?_⟩⟩
  ·rw[List.drop_zero,←flatten_len a1,List.take_left'];rfl
  ·rw[List.length_append,flatten_len a1];omega
 ·refine .inr ⟨b,0,_,_,e,.inr (cells_of hb),getN_eq.2 ⟨?_,?_⟩⟩
  ·rw[List.drop_zero,←flatten_len a1,List.take_left'];rfl
  ·rw[List.length_append,flatten_len a1];omega
theorem CutO.keep {F:Nat→Prop}{h h':H}{S:Nat→Prop}{x:V}{sz:Nat}{rows:List (List V)}(a:CutO F h x sz rows)(k:Keeps S h h')(n:∀b,blkOf x b→¬S b):CutO F h' x sz rows:=by
 obtain⟨a1,a2⟩:=a
 refine⟨a1,?_⟩
 rcases a2 with a2|⟨b,rest,j,e,l1,l2,hb,r⟩|⟨b,c,rest,e,l1,l2,hb,r⟩
 ·exact .inl a2
 ·exact .inr (.inl ⟨b,rest,j,e,l1,Nat.lt_of_lt_of_le l2 k.1,k.2 b _ hb (n b ⟨_,_,_,e⟩),r⟩)
 ·exact .inr (.inr ⟨b,c,rest,e,l1,Nat.lt_of_lt_of_le l2 k.1,k.2 b _ hb (n b ⟨_,_,_,e⟩),r⟩)
theorem CutO.mono {F:Nat→Prop}{h h':H}{x:V}{sz:Nat}{rows:List (List V)}(a:CutO F h x sz rows)(s:h.Sub h'):CutO F h' x sz rows:=a.keep (Keeps.of s fun _=>False) fun _ _=>id
theorem CutO.blk {F:Nat→Prop}{h:H}{x:V}{sz:Nat}{rows:List (List V)}(a:CutO F h x sz rows){b:Nat}(e:blkOf x b):F b∧b<h.next∧∃k cs,h.get b=some (.cells k cs)∧(k=.rw∨k=.gr sz):=by
 obtain⟨o,n,c,rfl⟩:=e
 rcases a.2 with⟨e,_⟩|⟨b',rest,j,e,l1,l2,hb,_⟩|⟨b',c,rest,e,l1,l2,hb,_⟩
 ·cases e
 ·cases e;exact⟨l1,l2,_,_,hb,.inr rfl⟩
 ·cases e;exact⟨l1,l2,_,_,hb,.inl rfl⟩
theorem CutO.one {F:Nat→Prop}{h:H}{x:V}{sz:Nat}{rows:List (List V)}(a:CutO F h x sz rows):x.one=true:=by
 rcases a.2 with⟨rfl,_⟩|⟨_,_,_,rfl,_⟩|⟨_,_,_,rfl,_⟩<;>rfl
theorem CutO.up {F F':Nat→Prop}{h:H}{x:V}{sz:Nat}{rows:List (List V)}(a:CutO F h x sz rows)(l:∀b,F b→b<h.next→F' b):CutO F' h x sz rows:=by
 obtain⟨a1,a2⟩:=a
 refine⟨a1,?_⟩
 rcases a2 with a2|⟨b,rest,j,e,l1,l2,hb,r⟩|⟨b,c,rest,e,l1,l2,hb,r⟩
 ·exact .inl a2
 ·exact .inr (.inl ⟨b,rest,j,e,l b l1 l2,l2,hb,r⟩)
 ·exact .inr (.inr ⟨b,c,rest,e,l b l1 l2,l2,hb,r⟩)
theorem CutO.app1 {F:Nat→Prop}{h:H}{x y:V}{sz by_:Nat}{rows:List (List V)}{r:List V}{Q:V→H→Prop}(a:CutO F h x sz rows)(hw:h.wf)(hlo:F h.next)(hsz:r.length=sz)(hp:0<sz)
  (hy:SlAt h y sz [r]) (ho:allOne r=true) (h1:(rows.length+1)*by_≤1099511627776) (h2:rows.length+1≤1099511627776)
  (q:∀x' h',CutO F h' x' sz (rows++[r])→(∀b,blkOf x' b→blkOf x b∨h.next≤b)→Keeps (blkOf x) h h'→h'.wf→Q x' h'):P2 (e_app' h sz by_ x y) Q:=by
 obtain⟨a1,a2⟩:=a
 have hall:∀r'∈rows++[r],r'.length=sz:=fun r' hr=>(List.mem_append.1 hr).elim (a1 r') fun h=>by rw[List.mem_singleton] at h;rw[h];exact hsz
 obtain⟨he,hl⟩:=hy.elems
 rw[e_app_eq,he,hl]
 simp only[ob_some,List.length_singleton,List.flatten_cons,List.flatten_nil,List.append_nil]
 obtain⟨v,vs,hv⟩:∃v vs,r=v::vs:=by
  cases r with
  |nil=>simp at hsz;omega
  |cons v vs=>exact⟨v,vs,rfl⟩
 have kadd:∀cs,Keeps (blkOf x) h (h.add cs):=fun cs=>⟨by rw[H.next_add];omega,fun c y hc _=>by rw[get_add_old (hw c y hc)];exact hc⟩
 have wadd:∀cs,(h.add cs).wf:=fun cs=>((H.Sub.refl hw).add cs).wf
 rcases a2 with⟨rfl,rfl⟩|⟨b,rest,j,rfl,l1,l2,hb,hr⟩|⟨b,c,rest,rfl,l1,l2,hb,hc,hlc⟩
 ·rw[e_app_nils,room_ok (by simpa using h1) (by simp),grown_eq,P2_some]
  exact q _ _ ⟨hall,.inr (.inl ⟨h.next,[],0,by simp,hlo,by rw[H.next_add];omega,by rw[get_add_new rfl];simp,by simp⟩)⟩ (fun b' ⟨_,_,_,e⟩=>by cases e;exact .inr (Nat.le_refl _)) (kadd _) (wadd _)
 ·cases j with
  |zero=>
   have hrest:rest=[]:=List.length_eq_zero_iff.1 (by rw[hr];simp)
   subst hrest
   rw[List.append_nil] at hb
   rw[e_app_slk hp hb (flatten_len a1) ho h1 h2,grownO_eq,P2_some]
   have hbn:h.next≠b:=by omega
   have wS:=H.wf_set (wadd (.cells (.gr sz) (rows.flatten++r))) (.old h.next 0 rows.flatten) (show(h.add (.cells (.gr sz) (rows.flatten++r))).get b=some (.cells (.gr sz) rows.flatten) by rw[get_add_old l2];exact hb)
   exact q _ _ ⟨hall,.inr (.inl ⟨h.next,[],0,by simp,hlo,by rw[H.next_set,H.next_add];omega,by rw[get_set_other hbn,get_add_new rfl];simp,by simp⟩)⟩ (fun b' ⟨_,_,_,e⟩=>by cases e;exact .inr (Nat.le_refl _))
    ⟨by rw[H.next_set,H.next_add];omega,fun c y hc hx=>by
     have hne:c≠b:=fun e=>hx ⟨_,_,_,by rw[e]⟩
     rw[get_set_other hne,get_add_old (hw c y hc)];exact hc⟩ wS
  |succ j=>
   have hlr:sz≤rest.length:=by rw[hr,Nat.add_mul];omega
   have hpn:putN (0+rows.length*sz) r (rows.flatten++rest)=some ((rows++[r]).flatten++rest.drop sz):=by
    have:=putN_app (pre:=rows.flatten) (new:=r) (old:=rest.take sz) (rest:=rest.drop sz) (by rw[List.length_take];omega)
    rw[List.append_assoc,List.take_append_drop,flatten_len a1] at this
    rw[Nat.zero_add,this];simp
   have e1:Nat.beq sz sz=true:=by simp
   have e3:Nat.beq 0 (0*sz)=true:=by simp
   have e4:Nat.ble (0+(rows.length+(0+1))*sz) (rows.flatten++rest).length=true:=by
    rw[Nat.ble_eq,List.length_append,flatten_len a1,Nat.add_mul];omega
   have eA:e_app h sz by_ (.sl b 0 rows.length (.slk 0 0)) (0+1) r=withV (.sl b 0 (rows.length+(0+1)) (.slk 0 0)) (h.put b (0+rows.length*sz) r):=by
    simp only[e_app,appSlk,hb,lenN_eq,e1,e3,e4,og_true]
   have eA':e_app h sz by_ (.sl b 0 rows.length (.slk 0 0)) 1 r=withV (.sl b 0 (rows.length+1) (.slk 0 0)) (h.put b (0+rows.length*sz) r):=eA
   rw[eA']
   rw[hv] at hpn ho⊢
   rw[H.put_gr ho hb hpn,withV_some,P2_some,←hv]
   refine q _ _ ⟨hall,.inr (.inl ⟨b,rest.drop sz,j,by simp,l1,by rw[H.next_set];exact l2,by rw[get_set_same rfl],?_⟩)⟩ (fun b' ⟨_,_,_,e⟩=>by cases e;exact .inl ⟨_,_,_,rfl⟩) ?_ (H.wf_set hw _ hb)
   ·rw[List.length_drop,hr,Nat.add_mul];omega
   ·exact(Keeps.set h b _).mono fun c e=>by subst e;exact⟨_,_,_,rfl⟩
 ·by_cases hr:rows.length+1≤c
  ·rw[e_app_fix (by omega)]
   have hlr:sz≤rest.length:=by
    have:=Nat.mul_le_mul_right sz hr;rw[Nat.add_mul] at this;omega
   have hpn:putN (0+rows.length*sz) r (rows.flatten++rest)=some ((rows++[r]).flatten++rest.drop sz):=by
    have:=putN_app (pre:=rows.flatten) (new:=r) (old:=rest.take sz) (rest:=rest.drop sz) (by rw[List.length_take];omega)
    rw[List.append_assoc,List.take_append_drop,flatten_len a1] at this
    rw[Nat.zero_add,this];simp
   rw[hv] at hpn ho⊢
   rw[H.put_rw ho hb hpn,withV_some,P2_some,←hv]
   refine q _ _ ⟨hall,.inr (.inr ⟨b,c,rest.drop sz,by simp,l1,by rw[H.next_set];exact l2,by rw[get_set_same rfl],?_,by simpa using hr⟩)⟩ (fun b' ⟨_,_,_,e⟩=>by cases e;exact .inl ⟨_,_,_,rfl⟩) ?_ (H.wf_set hw _ hb)
   ·rw[List.length_append,List.length_singleton,List.length_drop,Nat.add_mul];omega
   ·exact(Keeps.set h b _).mono fun c e=>by subst e;exact⟨_,_,_,rfl⟩
  ·have hce:c=rows.length:=by omega
   have hel:elems h sz (.sl b 0 rows.length (.fix c))=some rows.flatten:=by
    have o:CutO F h (.sl b 0 rows.length (.fix c)) sz rows:=⟨a1,.inr (.inr ⟨b,c,rest,rfl,l1,l2,hb,hc,hlc⟩)⟩
    exact(o.sl (by omega)).elems.1
   rw[e_app_full (by omega) hel (by omega) (by omega),grown_eq,P2_some]
   exact q _ _ ⟨hall,.inr (.inl ⟨h.next,[],0,by simp,hlo,by rw[H.next_add];omega,by rw[get_add_new rfl];simp,by simp⟩)⟩ (fun b' ⟨_,_,_,e⟩=>by cases e;exact .inr (Nat.le_refl _)) (kadd _) (wadd _)
noncomputable def slcTo (h:H)(sz:Nat)(x k:V):Option V:=q_slc .nil h sz x none (some (.c k)) none
theorem q_slc_to (tm:T V)(h:H)(sz:Nat)(x:V)(y:Opd):q_slc tm h sz x none (some y) none=slcTo h sz x (y.ev tm):=rfl
theorem subO_to {b o sz n c k:Nat}{tm:T V}{x:Opd}{kd:IntKind}(hx:x.ev tm=.int kd (k:Int))(hk:k≤n)(hc:n≤c):subO b o sz (bnd3 tm n c none (some x) none)=some (.sl b (bsel (Nat.beq c 0) o (o+0*sz)) k (.fix c)):=by
 have e1:Nat.ble 0 k=true:=by simp
 have e2:Nat.ble k c=true:=by simp;omega
 have e3:Nat.ble c c=true:=by simp
 simp only[bnd3,natO,hx,natk_cst,bnds,e1,e2,e3,og_true,subO,sub,Nat.sub_zero]
namespace Tryz
end Tryz
end Go.Ab
namespace Go.Ab.Tryz
theorem indexFuncRule_ev {α:Type}{enc:α→List V}{l:List α}{p:α→Bool}{h:H}{x f:V}(hw:h.wf)(hx:SlAt h x 4 (l.map enc))(hp:∀a∈l,PureA h f [.agg (enc a)] (.bool (p a))):
  E (.fn 76 [] []) [x,f] h fun v h'=>v=.int .i64 (fidx p l 0)∧h.Sub h':=by
 have hb:=hx.boundE
 refine Ev_body (fd:=c76) rfl rfl rfl ?_
 simp -implicitDefEqProofs(maxSteps:=999999)(disch:=first|with_reducible rfl|omega|(simp only[nA,nS,nD]<;>omega)|fail)only[c76,go_sem,hx.lenE]
 refine W_count l.length (fun i s=>∃tm h',s=⟨tm,h',[]⟩∧h.Sub h'∧(Opd.t 0).ev tm=x∧(Opd.t 1).ev tm=f∧(Opd.t 7).ev tm=.int .i64 (l.length:Int)∧(Opd.t 8).ev tm=.int .i64 (i:Int)∧fidx p l 0=fidx p (l.drop i) i)
  ?_ ?_ (i:=0) (Nat.zero_le _) ⟨_,_,rfl,H.Sub.refl hw,(by simp[ev_c,ev_put]<;>rfl),(by simp[ev_c,ev_put]<;>rfl),(by simp[ev_c,ev_put]<;>rfl),(by simp only[ev_put];rfl),rfl⟩
 ·rintro i s hi ⟨tm,h',rfl,hs,e0,e1,e7,e8,e9⟩
  have hi':(i:Int)<(l.length:Int):=by omega
  obtain⟨b,o,c,cs,rfl,hc,hq,hg,hn,hn0⟩:=(hx.mono hs).at hi
  simp -implicitDefEqProofs(maxSteps:=999999)(disch:=first|with_reducible rfl|omega|(simp only[nA,nS,nD]<;>omega)|fail)only[go_sem,e0,e1,e7,e8,hi',hq (nat_cst i),hc,hg]
  refine(hp _ (List.getElem_mem hi)).use hs fun h2 hs2=>?_
  cases hpr:p l[i] with
  |true=>
   simp -implicitDefEqProofs(maxSteps:=999999)(disch:=first|with_reducible rfl|omega|(simp only[nA,nS,nD]<;>omega)|fail)only[go_sem,e0,e1,e7,e8]
   exact⟨by rw[e9,fidx_hit hi hpr],hs.trans hs2⟩
  |false=>
   simp -implicitDefEqProofs(maxSteps:=999999)(disch:=first|with_reducible rfl|omega|(simp only[nA,nS,nD]<;>omega)|fail)only[go_sem,e0,e1,e7,e8,wr_succ]
   exact⟨_,_,rfl,hs.trans hs2,(by simp[ev_c,ev_put,e0]<;>rfl),(by simp[ev_c,ev_put,e1]<;>rfl),(by simp[ev_c,ev_put,e7]<;>rfl),(by simp[ev_c,ev_put]<;>rfl),by rw[e9,fidx_miss hi hpr]⟩
 ·rintro s ⟨tm,h',rfl,hs,e0,e1,e7,e8,e9⟩
  simp -implicitDefEqProofs(maxSteps:=999999)(disch:=first|with_reducible rfl|omega|(simp only[nA,nS,nD]<;>omega)|fail)only[go_sem,e0,e1,e7,e8,Int.lt_irrefl]
  exact⟨by rw[e9];simp[fidx],hs⟩
theorem containsFuncRule_ev {α:Type}{enc:α→List V}{l:List α}{p:α→Bool}{h:H}{x f:V}(hw:h.wf)(hx:SlAt h x 4 (l.map enc))(hp:∀a∈l,PureA h f [.agg (enc a)] (.bool (p a))):
  E (.fn 55 [] []) [x,f] h fun v h'=>v=.bool (l.any p)∧h.Sub h':=by
 refine Ev_body (fd:=c55) rfl rfl rfl ?_
 simp -implicitDefEqProofs(maxSteps:=999999)(disch:=first|with_reducible rfl|omega|(simp only[nA,nS,nD]<;>omega)|fail)only[c55,go_sem]
 refine(indexFuncRule_ev hw hx hp).mono fun v h' hv=>?_
 obtain⟨rfl,hs⟩:=hv
 simp -implicitDefEqProofs(maxSteps:=999999)(disch:=first|with_reducible rfl|omega|(simp only[nA,nS,nD]<;>omega)|fail)only[go_sem]
 exact⟨by rw[fidx_any],hs⟩
theorem everyRule_ev {α:Type}{enc:α→List V}{l:List α}{p:α→Bool}{h:H}{x:V}{g:FuncId}{u w:List V}(hw:h.wf)(hx:SlAt h x 4 (l.map enc))(hp:∀a∈l,PureA h (.fn g u w) [.agg (enc a)] (.bool (p a))):
  E (.fn 39 [] []) [x,.fn g u w] h fun v h'=>v=.bool (l.all p)∧h.Sub h':=by
 refine Ev_body (fd:=c39) rfl rfl rfl ?_
 simp -implicitDefEqProofs(maxSteps:=999999)(disch:=first|with_reducible rfl|omega|(simp only[nA,nS,nD]<;>omega)|fail)only[c39,go_sem]
 have hs1:h.Sub (h.add (.cells .rw [.fn g u w])):=(H.Sub.refl hw).add _
 refine(containsFuncRule_ev (p:=fun a=> !p a) hs1.wf (hx.mono hs1) fun a ha h2 hs2=>?_).mono fun v h' hv=>?_
 ·have hc:h2.cells h.next=some [.fn g u w]:=hs2.cells (cells_add_new rfl)
  have hl:h.next<h2.next:=by have:=hs2.next;rw[H.next_add] at this;omega
  refine Ev_body (fd:=c56) rfl rfl rfl ?_
  simp -implicitDefEqProofs(maxSteps:=999999)(disch:=first|with_reducible rfl|omega|(simp only[nA,nS,nD]<;>omega)|fail)only[c56,go_sem,hc,getN_full (hx.1 _ (List.mem_map_of_mem ha))]
  refine((hp a ha).mono hs1).use (hs2.add _) fun h3 hs3=>?_
  simp -implicitDefEqProofs(maxSteps:=999999)(disch:=first|with_reducible rfl|omega|(simp only[nA,nS,nD]<;>omega)|fail)only[go_sem]
  exact(H.Sub.refl hs2.wf).add _ |>.trans hs3
 ·obtain⟨rfl,hs⟩:=hv
  simp -implicitDefEqProofs(maxSteps:=999999)(disch:=first|with_reducible rfl|omega|(simp only[nA,nS,nD]<;>omega)|fail)only[go_sem]
  exact⟨by rw[any_not],hs1.trans hs⟩
structure Ru where
 b:Int
 s:Int
 e:Int
 p:Int
def encR4 (r:Ru):List V:=[.int .i64 r.b,.int .i64 r.s,.int .i64 r.e,.int .i64 r.p]
structure Pc where
 b:Nat
 s:Nat
 e:Nat
def encPc (p:Pc):List V:=[.int .i64 (p.b:Int),.int .i64 (p.s:Int),.int .i64 (p.e:Int)]
structure RuOk (r:Ru):Prop where
 b: -1≤r.b∧r.b≤3
 s: -1≤r.s∧r.s≤4
 e: -1≤r.e∧r.e≤2
 p:0≤r.p∧r.p≤500
structure PcOk (p:Pc):Prop where
 b:p.b<4
 s:p.s<5
 e:p.e<3
def n1 (x:Int)(y:Nat):Bool:=decide (x= -1)||decide (x=(y:Int))
def holdsR (r:Ru)(p:Pc):Bool:=n1 r.b p.b&&n1 r.s p.s&&n1 r.e p.e
def m1 (x:Int):Int:=if x= -1 then 0 else 1
def manyR (r:Ru):Int:=m1 r.b+m1 r.s+m1 r.e
theorem pin_ev (n lo hi:Int)(h:H)(Q:V→H→Prop):Ev fnG fastA (.fn 35 [] []) [.int .i64 n,.int .i64 lo,.int .i64 hi] h Q=Q (.bool (inB n lo hi)) h:=by
 refine Ev.det (Ev_body (fd:=c35) rfl rfl rfl ?_) Q
 by_cases c:lo≤n
 ·simp -implicitDefEqProofs(maxSteps:=999999)(disch:=first|with_reducible rfl|omega|(simp only[nA,nS,nD]<;>omega)|fail)only[c35,go_sem,c,inB]
 ·simp -implicitDefEqProofs(maxSteps:=999999)(disch:=first|with_reducible rfl|omega|(simp only[nA,nS,nD]<;>omega)|fail)only[c35,go_sem,c,inB,false_and]
theorem names_ev {h:H}(hw:h.wf)(r:Ru)(Q:V→H→Prop)(q:∀h',h.Sub h'→Q (.agg [.int .i64 r.b,.int .i64 r.s,.int .i64 r.e]) h'):Ev fnG fastA (.fn 41 [] []) [.agg (encR4 r)] h Q:=by
 refine Ev_body (fd:=c41) rfl rfl rfl ?_
 simp -implicitDefEqProofs(maxSteps:=999999)(disch:=first|with_reducible rfl|omega|(simp only[nA,nS,nD]<;>omega)|fail)only[c41,go_sem,encR4]
 exact q _ (by repeat(first|assumption|exact H.Sub.refl (by assumption)|refine H.Sub.add ?_ _|refine H.Sub.set ?_ (by first|omega|(simp only[H.next_add,H.next_set,H.next_del]<;>omega)) (by first|omega|(simp only[H.next_add,H.next_set,H.next_del]<;>omega)) (by assumption) _))
theorem has_ev {h:H}(hw:h.wf)(p:Pc)(Q:V→H→Prop)(q:∀h',h.Sub h'→Q (.agg (encPc p)) h'):Ev fnG fastA (.fn 75 [] []) [.agg (encPc p)] h Q:=by
 refine Ev_body (fd:=c75) rfl rfl rfl ?_
 simp only[encPc] at q⊢
 simp -implicitDefEqProofs(maxSteps:=999999)(disch:=first|with_reducible rfl|omega|(simp only[nA,nS,nD]<;>omega)|fail)only[c75,go_sem]
 exact q _ (by repeat(first|assumption|exact H.Sub.refl (by assumption)|refine H.Sub.add ?_ _|refine H.Sub.set ?_ (by first|omega|(simp only[H.next_add,H.next_set,H.next_del]<;>omega)) (by first|omega|(simp only[H.next_add,H.next_set,H.next_del]<;>omega)) (by assumption) _))
theorem isP_ev {h:H}(hw:h.wf){p:Pc}(k:PcOk p)(Q:V→H→Prop)(q:∀h',h.Sub h'→Q (.bool true) h'):Ev fnG fastA (.fn 24 [] []) [.agg (encPc p)] h Q:=by
 have k1:=k.b;have k2:=k.s;have k3:=k.e
 have i1:inB (p.b:Int) 0 3=true:=decide_eq_true (by omega)
 have i2:inB (p.s:Int) 0 4=true:=decide_eq_true (by omega)
 have i3:inB (p.e:Int) 0 2=true:=decide_eq_true (by omega)
 refine Ev_body (fd:=c24) rfl rfl rfl ?_
 simp -implicitDefEqProofs(maxSteps:=999999)(disch:=first|with_reducible rfl|omega|(simp only[nA,nS,nD]<;>omega)|fail)only[c24,go_sem,encPc,pin_ev,i1,i2,i3]
 exact q _ (by repeat(first|assumption|exact H.Sub.refl (by assumption)|refine H.Sub.add ?_ _|refine H.Sub.set ?_ (by first|omega|(simp only[H.next_add,H.next_set,H.next_del]<;>omega)) (by first|omega|(simp only[H.next_add,H.next_set,H.next_del]<;>omega)) (by assumption) _))
theorem allowed_pure {h:H}(hw:h.wf){r:Ru}(k:RuOk r):PureA h (.fn 40 [] []) [.agg (encR4 r)] (.bool true):=by
 have i1:inB r.b (-1) 3=true:=decide_eq_true k.b
 have i2:inB r.s (-1) 4=true:=decide_eq_true k.s
 have i3:inB r.e (-1) 2=true:=decide_eq_true k.e
 have i4:inB r.p 0 500=true:=decide_eq_true k.p
 refine fun h1 s1=>?_
 have hw1:=s1.wf
 refine Ev_body (fd:=c40) rfl rfl rfl ?_
 simp -implicitDefEqProofs(maxSteps:=999999)(disch:=first|with_reducible rfl|omega|(simp only[nA,nS,nD]<;>omega)|fail)only[c40,go_sem,pin_ev,encR4,i1,i2,i3,i4]
 exact(H.Sub.refl hw1).add _
def nmI (r:Ru)(i:Nat):Int:=[r.b,r.s,r.e].getD i 0
def hsI (p:Pc)(i:Nat):Int:=[(p.b:Int),(p.s:Int),(p.e:Int)].getD i 0
theorem nm_idx (r:Ru){i:Nat}(hi:i<3):q_idx false 3 1 (.agg [.int .i64 r.b,.int .i64 r.s,.int .i64 r.e]) (.int .i64 (i:Int))=some (.int .i64 (nmI r i)):=by
 rcases(by omega:i=0∨i=1∨i=2) with rfl|rfl|rfl<;>rfl
theorem hs_nth (p:Pc){i:Nat}(hi:i<3):nth i (encPc p)=some (.int .i64 (hsI p i)):=by
 rcases(by omega:i=0∨i=1∨i=2) with rfl|rfl|rfl<;>rfl
def manyTo (r:Ru):Nat→Int
 |0=>0
 |i+1=>manyTo r i+m1 (nmI r i)
theorem manyTo3 (r:Ru):manyTo r 3=manyR r:=by simp[manyTo,manyR,nmI]
theorem m1_bd (x:Int):0≤m1 x∧m1 x≤1:=by unfold m1;split<;>omega
theorem manyTo_bd (r:Ru):∀i,0≤manyTo r i∧manyTo r i≤(i:Int)
 |0=>by simp[manyTo]
 |i+1=>by have:=manyTo_bd r i;have:=m1_bd (nmI r i);simp only[manyTo];omega
set_option maxHeartbeats 2000000 in
theorem many_ev {h:H}(hw:h.wf)(r:Ru)(Q:V→H→Prop)(q:∀h',h.Sub h'→Q (.int .i64 (manyR r)) h'):Ev fnG fastA (.fn 53 [] []) [.agg (encR4 r)] h Q:=by
 refine Ev_body (fd:=c53) rfl rfl rfl ?_
 have s1:=(H.Sub.refl hw).add (.cells .rw (encR4 r))
 have hc:(h.add (.cells .rw (encR4 r))).cells h.next=some (encR4 r):=cells_add_new rfl
 simp only[encR4] at s1 hc
 simp -implicitDefEqProofs(maxSteps:=999999)(disch:=first|with_reducible rfl|omega|(simp only[nA,nS,nD]<;>omega)|fail)only[c53,go_sem,encR4]
 have e0:[V.int .i64 r.b,.int .i64 r.s,.int .i64 r.e,.int .i64 r.p]=encR4 r:=rfl
 rw[e0] at s1⊢
 refine names_ev s1.wf r _ fun h2 s2=>?_
 simp -implicitDefEqProofs(maxSteps:=999999)(disch:=first|with_reducible rfl|omega|(simp only[nA,nS,nD]<;>omega)|fail)only[go_sem]
 refine W_count 3 (fun i st=>∃tm h',st=⟨tm,h',[]⟩∧h.Sub h'∧(Opd.t 7).ev tm=.agg [.int .i64 r.b,.int .i64 r.s,.int .i64 r.e]∧(Opd.t 8).ev tm=.int .i64 (i:Int)∧(Opd.t 3).ev tm=.int .i64 (manyTo r i)) ?_ ?_ (i:=0) (Nat.zero_le _)
  ⟨_,_,rfl,s1.trans s2,(by simp[ev_c,ev_put]<;>rfl),(by simp only[ev_put];rfl),(by simp[ev_c,ev_put,manyTo]<;>rfl)⟩
 ·rintro i st hi ⟨tm,h',rfl,sh,t7,t8,t3⟩
  have hi':(i:Int)<3:=by omega
  have bd:=manyTo_bd r i
  by_cases hm:nmI r i= -1
  ·have em:manyTo r (i+1)=manyTo r i:=by simp[manyTo,m1,hm]
   simp -implicitDefEqProofs(maxSteps:=999999)(disch:=first|with_reducible rfl|omega|(simp only[nA,nS,nD]<;>omega)|fail)only[go_sem,t3,t7,t8,nm_idx r hi,hi',hm,ne_eq,not_true_eq_false,wr_succ]
   exact⟨_,_,rfl,sh,(by simp[ev_c,ev_put,t7]<;>rfl),(by simp[ev_c,ev_put]<;>rfl),by rw[em];exact(by simp[ev_c,ev_put,t3]<;>rfl)⟩
  ·have em:manyTo r (i+1)=manyTo r i+1:=by simp[manyTo,m1,hm]
   have ww:wr .i64 (manyTo r i+1)=manyTo r i+1:=wr_in (by omega) (by omega)
   simp -implicitDefEqProofs(maxSteps:=999999)(disch:=first|with_reducible rfl|omega|(simp only[nA,nS,nD]<;>omega)|fail)only[go_sem,t3,t7,t8,nm_idx r hi,hi',hm,ne_eq,not_false_eq_true,wr_succ,ww]
   exact⟨_,_,rfl,sh,(by simp[ev_c,ev_put,t7]<;>rfl),(by simp[ev_c,ev_put]<;>rfl),by rw[em];exact(by simp[ev_c,ev_put]<;>rfl)⟩
 ·rintro st ⟨tm,h',rfl,sh,t7,t8,t3⟩
  have t8:(Opd.t 8).ev tm=.int .i64 3:=t8
  rw[manyTo3] at t3
  simp -implicitDefEqProofs(maxSteps:=999999)(disch:=first|with_reducible rfl|omega|(simp only[nA,nS,nD]<;>omega)|fail)only[go_sem,t3,t7,t8,Int.lt_irrefl]
  exact q _ sh
def holdTo (r:Ru)(p:Pc):Nat→Bool
 |0=>true
 |i+1=>holdTo r p i&&(decide (nmI r i= -1)||decide (nmI r i=hsI p i))
theorem holdTo3 (r:Ru)(p:Pc):holdTo r p 3=holdsR r p:=by simp[holdTo,holdsR,nmI,hsI,n1]
theorem holdTo_no {r:Ru}{p:Pc}{i:Nat}(h:holdTo r p i=false):∀k,holdTo r p (i+k)=false
 |0=>h
 |k+1=>by show(holdTo r p (i+k)&&_)=false;rw[holdTo_no h k];rfl
set_option maxHeartbeats 2000000 in
theorem holds_ev {h:H}(hw:h.wf)(r:Ru)(p:Pc)(Q:V→H→Prop)(q:∀h',h.Sub h'→Q (.bool (holdsR r p)) h'):Ev fnG fastA (.fn 52 [] []) [.agg (encR4 r),.agg (encPc p)] h Q:=by
 refine Ev_body (fd:=c52) rfl rfl rfl ?_
 obtain⟨z,hz⟩:∃z,(h.add (.cells .rw (encR4 r))).add (.cells .rw (encPc p))=z:=⟨_,rfl⟩
 have s1:h.Sub z:=by rw[←hz];exact(by repeat(first|assumption|exact H.Sub.refl (by assumption)|refine H.Sub.add ?_ _|refine H.Sub.set ?_ (by first|omega|(simp only[H.next_add,H.next_set,H.next_del]<;>omega)) (by first|omega|(simp only[H.next_add,H.next_set,H.next_del]<;>omega)) (by assumption) _))
 have g1:z.cells h.next=some (encR4 r):=by rw[←hz];simp -implicitDefEqProofs(maxSteps:=999999)(disch:=first|with_reducible rfl|omega|(simp only[nA,nS,nD]<;>omega)|fail)only[go_sem]
 have g2:z.cells (h.next+1)=some (encPc p):=by rw[←hz];simp -implicitDefEqProofs(maxSteps:=999999)(disch:=first|with_reducible rfl|omega|(simp only[nA,nS,nD]<;>omega)|fail)only[go_sem]
 simp only[encR4,encPc] at hz g1 g2
 simp -implicitDefEqProofs(maxSteps:=999999)(disch:=first|with_reducible rfl|omega|(simp only[nA,nS,nD]<;>omega)|fail)only[c52,go_sem,encR4,encPc]
 rw[hz]
 refine has_ev s1.wf p _ fun h2 s2=>?_
 have s3:=(H.Sub.refl s2.wf).add (.cells .rw (encPc p))
 have g3:(h2.add (.cells .rw (encPc p))).cells h2.next=some (encPc p):=cells_add_new rfl
 have g13:=(s2.trans s3).cells g1
 simp only[encPc] at s3 g13
 simp -implicitDefEqProofs(maxSteps:=999999)(disch:=first|with_reducible rfl|omega|(simp only[nA,nS,nD]<;>omega)|fail)only[go_sem,g13,encPc]
 generalize hy:h2.add _=h3 at s3 g13⊢
 simp only[encPc] at g3
 rw[hy] at g3
 have e0:[V.int .i64 r.b,.int .i64 r.s,.int .i64 r.e,.int .i64 r.p]=encR4 r:=rfl
 rw[e0]
 refine names_ev s3.wf r _ fun h4 s4=>?_
 simp -implicitDefEqProofs(maxSteps:=999999)(disch:=first|with_reducible rfl|omega|(simp only[nA,nS,nD]<;>omega)|fail)only[go_sem]
 have sA:=(s1.trans s2).trans (s3.trans s4)
 have g4:=s4.cells g3
 refine W_count 3 (fun i st=>∃tm,st=⟨tm,h4,[]⟩∧holdTo r p i=true∧(Opd.t 5).ev tm=.ptr h2.next 0∧(Opd.t 11).ev tm=.agg [.int .i64 r.b,.int .i64 r.s,.int .i64 r.e]∧(Opd.t 12).ev tm=.int .i64 (i:Int)) ?_ ?_ (i:=0) (Nat.zero_le _)
  ⟨_,rfl,rfl,(by simp[ev_c,ev_put]<;>rfl),(by simp[ev_c,ev_put]<;>rfl),(by simp only[ev_put];rfl)⟩
 ·rintro i st hi ⟨tm,rfl,hsp,t5,t11,t12⟩
  have hi':(i:Int)<3:=by omega
  have iA:q_iaa 3 1 (.ptr h2.next 0) (.int .i64 (i:Int))=some (.ptr h2.next i):=by rcases(by omega:i=0∨i=1∨i=2) with rfl|rfl|rfl<;>rfl
  have hn:=hs_nth p hi
  simp only[encPc] at hn
  by_cases hm:nmI r i= -1
  ·have eh:holdTo r p (i+1)=true:=by simp[holdTo,hsp,hm]
   simp -implicitDefEqProofs(maxSteps:=999999)(disch:=first|with_reducible rfl|omega|(simp only[nA,nS,nD]<;>omega)|fail)only[go_sem,t5,t11,t12,nm_idx r hi,hi',hm,ne_eq,not_true_eq_false,wr_succ]
   exact⟨_,rfl,eh,(by simp[ev_c,ev_put,t5]<;>rfl),(by simp[ev_c,ev_put,t11]<;>rfl),(by simp[ev_c,ev_put]<;>rfl)⟩
  ·by_cases hv:nmI r i=hsI p i
   ·have eh:holdTo r p (i+1)=true:=by simp[holdTo,hsp,hv]
    rw[hv] at hm
    simp -implicitDefEqProofs(maxSteps:=999999)(disch:=first|with_reducible rfl|omega|(simp only[nA,nS,nD]<;>omega)|fail)only[go_sem,t5,t11,t12,nm_idx r hi,hi',hv,hm,iA,g4,hn,ne_eq,not_true_eq_false,not_false_eq_true,wr_succ]
    exact⟨_,rfl,eh,(by simp[ev_c,ev_put,t5]<;>rfl),(by simp[ev_c,ev_put,t11]<;>rfl),(by simp[ev_c,ev_put]<;>rfl)⟩
   ·have eh:holdTo r p (i+1)=false:=by simp[holdTo,hm,hv]
    simp -implicitDefEqProofs(maxSteps:=999999)(disch:=first|with_reducible rfl|omega|(simp only[nA,nS,nD]<;>omega)|fail)only[go_sem,t5,t11,t12,nm_idx r hi,hi',hm,hv,iA,g4,hn,ne_eq,not_false_eq_true]
    have e3:holdsR r p=false:=by
     have:=holdTo_no eh (2-i)
     rw[show i+1+(2-i)=3 by omega,holdTo3] at this
     exact this
    have:=q h4 sA
    rw[e3] at this;exact this
 ·rintro st ⟨tm,rfl,hsp,t5,t11,t12⟩
  have t12:(Opd.t 12).ev tm=.int .i64 3:=t12
  rw[holdTo3] at hsp
  simp -implicitDefEqProofs(maxSteps:=999999)(disch:=first|with_reducible rfl|omega|(simp only[nA,nS,nD]<;>omega)|fail)only[go_sem,t5,t11,t12,Int.lt_irrefl]
  have:=q h4 sA
  rw[hsp] at this;exact this
end Go.Ab.Tryz
namespace Go.Ab.Tryz
theorem pgreatest_ev {h:H}{x:V}{l:List Int}(hx:SlAt h x 1 (l.map encI))(Q:V→H→Prop):Ev fnG fastA (.fn 54 [] []) [x] h Q=Q (.int .i64 (l.foldl max 0)) h:=by
 have hb:=hx.boundE
 refine Ev.det (Ev_body (fd:=c54) rfl rfl rfl ?_) Q
 simp -implicitDefEqProofs(maxSteps:=999999)(disch:=first|with_reducible rfl|omega|(simp only[nA,nS,nD]<;>omega)|fail)only[c54,go_sem,hx.lenE]
 refine W_count l.length (fun i s=>∃tm,s=⟨tm,h,[]⟩∧(Opd.t 3).ev tm=.int .i64 ((l.take i).foldl max 0)∧(Opd.t 6).ev tm=x∧(Opd.t 7).ev tm=.int .i64 (l.length:Int)∧(Opd.t 8).ev tm=.int .i64 (i:Int))
  ?_ ?_ (i:=0) (Nat.zero_le _) ⟨_,rfl,(by simp[ev_c,ev_put]<;>rfl),(by simp[ev_c,ev_put]<;>rfl),(by simp[ev_c,ev_put]<;>rfl),(by simp[ev_c,ev_put]<;>rfl)⟩
 ·rintro i s hi ⟨tm,rfl,t3,t6,t7,t8⟩
  have hi':(i:Int)<(l.length:Int):=by omega
  obtain⟨b,o,c,cs,rfl,hc,hq,hg,hn,hn0⟩:=hx.at hi
  have e1:(l.take (i+1)).foldl max 0=max ((l.take i).foldl max 0) l[i]:=by
   rw[List.take_succ_eq_append_getElem hi,List.foldl_append];rfl
  simp -implicitDefEqProofs(maxSteps:=999999)(disch:=first|with_reducible rfl|omega|(simp only[nA,nS,nD]<;>omega)|fail)only[go_sem,t3,t6,t7,t8,hi',hq (nat_cst i),hc,hn0 (by omega),encI,wr_succ]
  exact⟨_,rfl,by rw[e1];exact(by simp[ev_c,ev_put]<;>rfl),(by simp[ev_c,ev_put,t6]<;>rfl),(by simp[ev_c,ev_put,t7]<;>rfl),(by simp[ev_c,ev_put]<;>rfl)⟩
 ·rintro s ⟨tm,rfl,t3,t6,t7,t8⟩
  rw[List.take_length] at t3
  simp -implicitDefEqProofs(maxSteps:=999999)(disch:=first|with_reducible rfl|omega|(simp only[nA,nS,nD]<;>omega)|fail)only[go_sem,t3,t6,t7,t8,Int.lt_irrefl]
def heldL (l:List Ru)(p:Pc):List Int:=(l.filter fun r=>holdsR r p).map manyR
theorem heldL_app (l:List Ru)(r:Ru)(p:Pc):heldL (l++[r]) p=heldL l p++(if holdsR r p then[manyR r] else[]):=by
 by_cases h:holdsR r p=true
 ·simp[heldL,List.filter_append,h]
 ·simp[heldL,List.filter_append,h]
theorem heldL_le (l:List Ru)(p:Pc):(heldL l p).length≤l.length:=by simp only[heldL,List.length_map];exact List.length_filter_le _ _
def mostR (l:List Ru)(p:Pc):Int:=(heldL l p).foldl max 0
def cnts (l:List Ru)(p:Pc)(r:Ru):Bool:=holdsR r p&&decide (manyR r=mostR l p)
def cntI (l:List Ru)(p:Pc):Nat→List Int
 |0=>[]
 |i+1=>cntI l p i++(if(l[i]?).any (cnts l p) then[(i:Int)] else[])
theorem cntI_le (l:List Ru)(p:Pc):∀i,(cntI l p i).length≤i
 |0=>by simp[cntI]
 |i+1=>by
  have:=cntI_le l p i
  simp only[cntI,List.length_append]
  split<;>simp<;>omega
theorem cntI_mem {l:List Ru}{p:Pc}{a:Int}:∀{i:Nat},a∈cntI l p i→∃(k:Nat) (hk:k<l.length),k<i∧a=(k:Int)∧cnts l p l[k]=true
 |0,h=>by simp[cntI] at h
 |i+1,h=>by
  simp only[cntI,List.mem_append] at h
  rcases h with h|h
  ·obtain⟨k,hk,h1,h2,h3⟩:=cntI_mem h
   exact⟨k,hk,by omega,h2,h3⟩
  ·split at h
   ·rename_i hc
    rw[List.mem_singleton] at h
    cases hg:l[i]? with
    |none=>rw[hg] at hc;simp at hc
    |some r=>
     obtain⟨hk,e⟩:=List.getElem?_eq_some_iff.1 hg
     rw[hg] at hc
     exact⟨i,hk,by omega,h,by rw[e];simpa using hc⟩
   ·simp at h
theorem cntI_has {l:List Ru}{p:Pc}:∀{i k:Nat} (hk:k<l.length),k<i→cnts l p l[k]=true→(k:Int)∈cntI l p i
 |0,k,hk,h,_=>by omega
 |i+1,k,hk,h,hc=>by
  simp only[cntI,List.mem_append]
  by_cases e:k=i
  ·subst e
   right
   rw[List.getElem?_eq_getElem hk,Option.any_some,hc]
   simp
  ·exact .inl (cntI_has hk (by omega) hc)
def psL (l:List Ru)(p:Pc):List Int:=(l.filter (cnts l p)).map Ru.p
def prL (l:List Ru)(p:Pc):Int × Int:=match psL l p with
 |[]=>(0,6)
 |x::t=>if t.all fun y=>decide (y=x) then(x,0) else(0,7)
theorem cnt_ps (l:List Ru)(p:Pc):∀i,i≤l.length→(cntI l p i).map (fun a=>(l.map Ru.p).getD a.toNat 0)=((l.take i).filter (cnts l p)).map Ru.p
 |0,_=>by simp[cntI]
 |i+1,h=>by
  have hi:i<l.length:=by omega
  have ih:=cnt_ps l p i (by omega)
  rw[List.take_succ_eq_append_getElem hi,List.filter_append,List.map_append,←ih]
  simp only[cntI,List.getElem?_eq_getElem hi,Option.any_some,List.map_append]
  congr 1
  by_cases hc:cnts l p l[i]=true
  ·simp[hc,hi]
  ·simp[hc]
set_option maxHeartbeats 4000000 in
theorem counts_ev {h:H}{x:V}{sh:List Ru}(hw:h.wf)(hx:SlAt h x 4 (sh.map encR4))(hl:sh.length≤100)(p:Pc)(Q:V→H→Prop)(q:∀y h',h.Sub h'→SlAt h' y 1 ((cntI sh p sh.length).map encI)→Q y h'):
  Ev fnG fastA (.fn 33 [] []) [x,.agg (encPc p)] h Q:=by
 refine Ev_body (fd:=c33) rfl rfl rfl ?_
 have hlen:=hx.lenE
 have s0:=(H.Sub.refl hw).add (.cells .rw (encPc p))
 have g0:(h.add (.cells .rw (encPc p))).cells h.next=some (encPc p):=cells_add_new rfl
 have l0:(h.add (.cells .rw (encPc p))).next=h.next+1:=H.next_add _ _
 have e1:[V.int .i64 (p.b:Int),.int .i64 (p.s:Int),.int .i64 (p.e:Int)]=encPc p:=rfl
 simp only[encPc] at s0 g0 l0
 simp -implicitDefEqProofs(maxSteps:=999999)(disch:=first|with_reducible rfl|omega|(simp only[nA,nS,nD]<;>omega)|fail)only[c33,go_sem,hlen,encPc]
 generalize h.add _=h0 at s0 g0 l0⊢
 refine W_count sh.length (fun i s=>∃tm h' Y,s=⟨tm,h',[]⟩∧OwnSl h0 h' Y 1 ((heldL (sh.take i) p).map encI)∧(Opd.t 0).ev tm=x∧(Opd.t 3).ev tm=.ptr h.next 0∧(Opd.t 5).ev tm=Y∧(Opd.t 12).ev tm=x∧(Opd.t 13).ev tm=.int .i64 (sh.length:Int)∧(Opd.t 14).ev tm=.int .i64 (i:Int))
  ?_ ?_ (i:=0) (Nat.zero_le _) ⟨_,_,.nils,rfl,OwnSl.nil (H.Sub.refl s0.wf) 1,(by simp[ev_c,ev_put]<;>rfl),(by simp[ev_c,ev_put]<;>rfl),(by simp[ev_c,ev_put]<;>rfl),(by simp[ev_c,ev_put]<;>rfl),(by simp[ev_c,ev_put]<;>rfl),(by simp only[ev_put];rfl)⟩
 ·rintro i s hi ⟨tm,h',Y,rfl,oY,t0,t3,t5,t12,t13,t14⟩
  have hi':(i:Int)<(sh.length:Int):=by omega
  have s1:=oY.1
  obtain⟨b2,o2,c2,cs2,_,hc2,hq2,hg2,_,_⟩:=(hx.mono (s0.trans s1)).at hi
  have sA:=(H.Sub.refl s1.wf).add (.cells .rw (encR4 sh[i]))
  have gA:(h'.add (.cells .rw (encR4 sh[i]))).cells h'.next=some (encR4 sh[i]):=cells_add_new rfl
  simp only[encR4] at hg2 sA gA
  simp -implicitDefEqProofs(maxSteps:=999999)(disch:=first|with_reducible rfl|omega|(simp only[nA,nS,nD]<;>omega)|fail)only[go_sem,t0,t3,t5,t12,t13,t14,hi',hq2 (nat_cst i),hc2,hg2,(s1.trans sA).cells g0]
  generalize hz:h'.add _=hA at sA gA⊢
  clear hz
  have e0:[V.int .i64 sh[i].b,.int .i64 sh[i].s,.int .i64 sh[i].e,.int .i64 sh[i].p]=encR4 sh[i]:=rfl
  rw[e0] at gA
  rw[e0,e1]
  have et:heldL (sh.take (i+1)) p=heldL (sh.take i) p++(if holdsR sh[i] p then[manyR sh[i]] else[]):=by rw[List.take_succ_eq_append_getElem hi,heldL_app]
  refine holds_ev sA.wf sh[i] p _ fun h2 s2=>?_
  by_cases hp:holdsR sh[i] p=true
  ·have g2:=s2.cells gA
   rw[if_pos hp] at et
   rw[hp]
   simp only[encR4] at g2
   simp -implicitDefEqProofs(maxSteps:=999999)(disch:=first|with_reducible rfl|omega|(simp only[nA,nS,nD]<;>omega)|fail)only[go_sem,t0,t3,t5,t12,t13,t14,g2]
   rw[e0]
   refine many_ev s2.wf sh[i] _ fun h3 s3=>?_
   have sB:=(H.Sub.refl s3.wf).add (.cells .rw [.int .i64 (manyR sh[i])])
   have hle:=heldL_le (sh.take i) p
   rw[List.length_take] at hle
   simp -implicitDefEqProofs(maxSteps:=999999)(disch:=first|with_reducible rfl|omega|(simp only[nA,nS,nD]<;>omega)|fail)only[go_sem,t0,t3,t5,t12,t13,t14]
   refine(oY.mono (((sA.trans s2).trans s3).trans sB)).app1 (by_:=8) (r:=encI (manyR sh[i])) s0.wf rfl (by omega) own1_lit rfl (by rw[List.length_map];omega) (by rw[List.length_map];omega) fun h4 o4 k4 n4=>?_
   rw[H.next_add] at o4
   simp -implicitDefEqProofs(maxSteps:=999999)(disch:=first|with_reducible rfl|omega|(simp only[nA,nS,nD]<;>omega)|fail)only[go_sem,t0,t3,t5,t12,t13,t14,wr_succ]
   exact⟨_,_,_,rfl,by rw[et,List.map_append];exact o4,(by simp[ev_c,ev_put,t0]<;>rfl),(by simp[ev_c,ev_put,t3]<;>rfl),(by simp[ev_c,ev_put]<;>rfl),(by simp[ev_c,ev_put,t12]<;>rfl),(by simp[ev_c,ev_put,t13]<;>rfl),(by simp[ev_c,ev_put]<;>rfl)⟩
  ·rw[if_neg hp,List.append_nil] at et
   rw[Bool.not_eq_true] at hp
   rw[hp]
   simp -implicitDefEqProofs(maxSteps:=999999)(disch:=first|with_reducible rfl|omega|(simp only[nA,nS,nD]<;>omega)|fail)only[go_sem,t0,t3,t5,t12,t13,t14,wr_succ]
   exact⟨_,_,Y,rfl,by rw[et];exact oY.mono (sA.trans s2),(by simp[ev_c,ev_put,t0]<;>rfl),(by simp[ev_c,ev_put,t3]<;>rfl),(by simp[ev_c,ev_put,t5]<;>rfl),(by simp[ev_c,ev_put,t12]<;>rfl),(by simp[ev_c,ev_put,t13]<;>rfl),(by simp[ev_c,ev_put]<;>rfl)⟩
 ·rintro s ⟨tm,h',Y,rfl,oY,t0,t3,t5,t12,t13,t14⟩
  have s1:=oY.1
  rw[List.take_length] at oY
  have hle:=heldL_le sh p
  have aY:=oY.sl (by rw[List.length_map];omega)
  simp -implicitDefEqProofs(maxSteps:=999999)(disch:=first|with_reducible rfl|omega|(simp only[nA,nS,nD]<;>omega)|fail)only[go_sem,t0,t3,t5,t12,t13,t14,Int.lt_irrefl,pgreatest_ev aY,hlen]
  obtain⟨M,hM⟩:∃M,(heldL sh p).foldl max 0=M:=⟨_,rfl⟩
  have hM':mostR sh p=M:=hM
  rw[hM]
  refine W_count sh.length (fun i s=>∃tm h2 Z,s=⟨tm,h2,[]⟩∧OwnSl h' h2 Z 1 ((cntI sh p i).map encI)∧(Opd.t 3).ev tm=.ptr h.next 0∧(Opd.t 8).ev tm=.int .i64 M∧(Opd.t 9).ev tm=Z∧(Opd.t 29).ev tm=x∧(Opd.t 30).ev tm=.int .i64 (sh.length:Int)∧(Opd.t 31).ev tm=.int .i64 (i:Int))
   ?_ ?_ (i:=0) (Nat.zero_le _) ⟨_,_,.nils,rfl,OwnSl.nil (H.Sub.refl s1.wf) 1,(by simp[ev_c,ev_put,t3]<;>rfl),(by simp[ev_c,ev_put]<;>rfl),(by simp[ev_c,ev_put]<;>rfl),(by simp[ev_c,ev_put]<;>rfl),(by simp[ev_c,ev_put]<;>rfl),(by simp only[ev_put];rfl)⟩<;>clear t0 t3 t5 t12 t13 t14
  ·rintro i s hi ⟨tm,h2,Z,rfl,oZ,t3,t8,t9,t29,t30,t31⟩
   have hi':(i:Int)<(sh.length:Int):=by omega
   have s2:=oZ.1
   have s02:=s1.trans s2
   obtain⟨b2,o2,c2,cs2,_,hc2,hq2,hg2,_,_⟩:=(hx.mono (s0.trans s02)).at hi
   have sA:=(H.Sub.refl s2.wf).add (.cells .rw (encR4 sh[i]))
   have gA:(h2.add (.cells .rw (encR4 sh[i]))).cells h2.next=some (encR4 sh[i]):=cells_add_new rfl
   simp only[encR4] at hg2 sA gA
   simp -implicitDefEqProofs(maxSteps:=999999)(disch:=first|with_reducible rfl|omega|(simp only[nA,nS,nD]<;>omega)|fail)only[go_sem,t3,t8,t9,t29,t30,t31,hi',hq2 (nat_cst i),hc2,hg2,(s02.trans sA).cells g0]
   generalize hz:h2.add _=hA at sA gA⊢
   clear hz
   have e0:[V.int .i64 sh[i].b,.int .i64 sh[i].s,.int .i64 sh[i].e,.int .i64 sh[i].p]=encR4 sh[i]:=rfl
   rw[e0] at gA
   rw[e0,e1]
   have et:cntI sh p (i+1)=cntI sh p i++(if cnts sh p sh[i] then[(i:Int)] else[]):=by
    simp only[cntI,List.getElem?_eq_getElem hi,Option.any_some]
   simp only[cnts,hM'] at et
   refine holds_ev sA.wf sh[i] p _ fun h3 s3=>?_
   by_cases hp:holdsR sh[i] p=true
   ·have g3:=s3.cells gA
    rw[hp,Bool.true_and] at et
    rw[hp]
    simp only[encR4] at g3
    simp -implicitDefEqProofs(maxSteps:=999999)(disch:=first|with_reducible rfl|omega|(simp only[nA,nS,nD]<;>omega)|fail)only[go_sem,t3,t8,t9,t29,t30,t31,g3]
    rw[e0]
    refine many_ev s3.wf sh[i] _ fun h4 s4=>?_
    by_cases hm:manyR sh[i]=M
    ·have sB:=(H.Sub.refl s4.wf).add (.cells .rw [.int .i64 (i:Int)])
     have hle2:=cntI_le sh p i
     rw[decide_eq_true hm,if_pos rfl] at et
     simp -implicitDefEqProofs(maxSteps:=999999)(disch:=first|with_reducible rfl|omega|(simp only[nA,nS,nD]<;>omega)|fail)only[go_sem,t3,t8,t9,t29,t30,t31,hm]
     refine(oZ.mono (((sA.trans s3).trans s4).trans sB)).app1 (by_:=8) (r:=encI (i:Int)) s1.wf rfl (by omega) own1_lit rfl (by rw[List.length_map];omega) (by rw[List.length_map];omega) fun h5 o5 k5 n5=>?_
     rw[H.next_add] at o5
     simp -implicitDefEqProofs(maxSteps:=999999)(disch:=first|with_reducible rfl|omega|(simp only[nA,nS,nD]<;>omega)|fail)only[go_sem,t3,t8,t9,t29,t30,t31,wr_succ]
     exact⟨_,_,_,rfl,by rw[et,List.map_append];exact o5,(by simp[ev_c,ev_put,t3]<;>rfl),(by simp[ev_c,ev_put,t8]<;>rfl),(by simp[ev_c,ev_put]<;>rfl),(by simp[ev_c,ev_put,t29]<;>rfl),(by simp[ev_c,ev_put,t30]<;>rfl),(by simp[ev_c,ev_put]<;>rfl)⟩
    ·rw[decide_eq_false hm,if_neg (by simp),List.append_nil] at et
     simp -implicitDefEqProofs(maxSteps:=999999)(disch:=first|with_reducible rfl|omega|(simp only[nA,nS,nD]<;>omega)|fail)only[go_sem,t3,t8,t9,t29,t30,t31,hm,wr_succ]
     exact⟨_,_,Z,rfl,by rw[et];exact oZ.mono ((sA.trans s3).trans s4),(by simp[ev_c,ev_put,t3]<;>rfl),(by simp[ev_c,ev_put,t8]<;>rfl),(by simp[ev_c,ev_put,t9]<;>rfl),(by simp[ev_c,ev_put,t29]<;>rfl),(by simp[ev_c,ev_put,t30]<;>rfl),(by simp[ev_c,ev_put]<;>rfl)⟩
   ·rw[Bool.not_eq_true] at hp
    rw[hp,Bool.false_and,if_neg (by simp),List.append_nil] at et
    rw[hp]
    simp -implicitDefEqProofs(maxSteps:=999999)(disch:=first|with_reducible rfl|omega|(simp only[nA,nS,nD]<;>omega)|fail)only[go_sem,t3,t8,t9,t29,t30,t31,wr_succ]
    exact⟨_,_,Z,rfl,by rw[et];exact oZ.mono (sA.trans s3),(by simp[ev_c,ev_put,t3]<;>rfl),(by simp[ev_c,ev_put,t8]<;>rfl),(by simp[ev_c,ev_put,t9]<;>rfl),(by simp[ev_c,ev_put,t29]<;>rfl),(by simp[ev_c,ev_put,t30]<;>rfl),(by simp[ev_c,ev_put]<;>rfl)⟩
  ·rintro s ⟨tm,h2,Z,rfl,oZ,t3,t8,t9,t29,t30,t31⟩
   have hle2:=cntI_le sh p sh.length
   simp -implicitDefEqProofs(maxSteps:=999999)(disch:=first|with_reducible rfl|omega|(simp only[nA,nS,nD]<;>omega)|fail)only[go_sem,t3,t8,t9,t29,t30,t31,Int.lt_irrefl]
   exact q _ _ (s0.trans (s1.trans oZ.1)) (oZ.sl (by rw[List.length_map];omega))
end Go.Ab.Tryz
namespace Go.Ab
def keysL (ps:List Int):List Int:=ps.foldl (fun K p=>if p∈K then K else K++[p]) []
theorem keysL_snoc (ps:List Int)(a:Int):keysL (ps++[a])=if a∈keysL ps then keysL ps else keysL ps++[a]:=by
 simp only[keysL,List.foldl_append,List.foldl_cons,List.foldl_nil]
 try(congr 1)
theorem keysL_spec:∀ps:List Int,(∀a,a∈keysL ps↔a∈ps)∧(keysL ps).Nodup:=fun ps=>by
 have key:∀(n:Nat) (ps:List Int),ps.length=n→(∀a,a∈keysL ps↔a∈ps)∧(keysL ps).Nodup:=by
  intro n
  induction n with
  |zero=>intro ps h;have:ps=[]:=List.eq_nil_of_length_eq_zero h;subst this;simp[keysL]
  |succ n ih=>
   intro ps h
   have hne:ps≠[]:=by intro e;subst e;simp at h
   obtain⟨qs,x,rfl⟩:∃qs x,ps=qs++[x]:=⟨ps.dropLast,ps.getLast hne,(List.dropLast_concat_getLast hne).symm⟩
   obtain⟨h1,h2⟩:=ih qs (by simpa using h)
   rw[keysL_snoc]
   split
   ·rename_i hx
    refine⟨fun a=>?_,h2⟩
    rw[h1 a,List.mem_append,List.mem_singleton]
    constructor
    ·exact .inl
    ·rintro(h|rfl)
     ·exact h
     ·exact(h1 a).1 hx
   ·rename_i hx
    refine⟨fun a=>?_,?_⟩
    ·rw[List.mem_append,List.mem_append,h1 a]
    ·rw[List.nodup_append]
     exact⟨h2,by simp,fun a ha b hb=>by rw[List.mem_singleton] at hb;subst hb;intro e;subst e;exact hx ha⟩
 exact key ps.length ps rfl
theorem keysL_one {x:Int}{t:List Int}:(keysL (x::t)).length=1↔∀y∈t,y=x:=by
 obtain⟨h1,h2⟩:=keysL_spec (x::t)
 constructor
 ·intro hl y hy
  obtain⟨k,hk⟩:∃k,keysL (x::t)=[k]:=by
   match hh:keysL (x::t) with
   |[]=>rw[hh] at hl;simp at hl
   |[k]=>exact⟨k,rfl⟩
   |_::_::_=>rw[hh] at hl;simp at hl
  have e1:=(h1 x).2 (by simp)
  have e2:=(h1 y).2 (by simp[hy])
  rw[hk,List.mem_singleton] at e1 e2
  rw[e1,e2]
 ·intro h
  have hx:x∈keysL (x::t):=(h1 x).2 (by simp)
  match hh:keysL (x::t) with
  |[]=>rw[hh] at hx;simp at hx
  |[k]=>rfl
  |a::b::l=>
   exfalso
   rw[hh] at h1 h2
   have ea:a=x:=by
    have:=(h1 a).1 (by simp)
    rcases List.mem_cons.1 this with e|e
    ·exact e
    ·exact h a e
   have eb:b=x:=by
    have:=(h1 b).1 (by simp)
    rcases List.mem_cons.1 this with e|e
    ·exact e
    ·exact h b e
   rw[ea,eb] at h2
   simp at h2
theorem lkA_some {k:Int}{v:V}:∀{m:List (Int × V)},lkA k m=some v→∃e∈m,e.2=v
 |[],h=>by simp[lkA] at h
 |e::m,h=>by
  simp only[lkA] at h
  split at h
  ·cases h;exact⟨e,by simp,rfl⟩
  ·obtain⟨e',h1,h2⟩:=lkA_some h;exact⟨e',by simp[h1],h2⟩
theorem putA_keys {k:Int}{x:V}:∀{m:List (Int × V)},(putA k x m).map Prod.fst=if k∈m.map Prod.fst then m.map Prod.fst else m.map Prod.fst++[k]
 |[]=>by simp[putA]
 |e::m=>by
  have ih:= @putA_keys k x m
  obtain⟨a,b⟩:=e
  simp only[putA]
  split
  ·rename_i h
   have h:k=a:=by simpa using h
   subst h;simp
  ·rename_i h
   have h:¬k=a:=by simpa using h
   simp only[List.map_cons,ih,List.mem_cons]
   by_cases hm:k∈m.map Prod.fst
   ·simp[hm]
   ·simp[hm,h]
theorem putA_vals {k:Int}{x:V}{P:V→Prop}(hx:P x):∀{m:List (Int × V)},(∀e∈m,P e.2)→∀e∈putA k x m,P e.2
 |[],_,e,h=>by simp only[putA,List.mem_singleton] at h;subst h;exact hx
 |a::m,hm,e,h=>by
  simp only[putA] at h
  split at h
  ·rcases List.mem_cons.1 h with rfl|h
   ·exact hx
   ·exact hm e (by simp[h])
  ·rcases List.mem_cons.1 h with rfl|h
   ·exact hm _ (by simp)
   ·exact putA_vals hx (fun e he=>hm e (by simp[he])) e h
namespace Tryz
theorem pieceC (p:Pc):[V.int .i64 (p.b:Int),.int .i64 (p.s:Int),.int .i64 (p.e:Int)]=encPc p:=rfl
set_option maxHeartbeats 4000000 in
theorem priced_ev {h:H}{x:V}{sh:List Ru}(hw:h.wf)(hx:SlAt h x 4 (sh.map encR4))(hl:sh.length≤100)(p:Pc)(Q:V→H→Prop)(q:∀h',h.Sub h'→Q (.tup [.int .i64 (prL sh p).1,.int .i64 (prL sh p).2]) h'):
  Ev fnG fastA (.fn 25 [] []) [x,.agg (encPc p)] h Q:=by
 refine Ev_body (fd:=c25) rfl rfl rfl ?_
 have s0:h.Sub ((h.add (.cells .rw (encPc p))).add (.map [])):=(by repeat(first|assumption|exact H.Sub.refl (by assumption)|refine H.Sub.add ?_ _|refine H.Sub.set ?_ (by first|omega|(simp only[H.next_add,H.next_set,H.next_del]<;>omega)) (by first|omega|(simp only[H.next_add,H.next_set,H.next_del]<;>omega)) (by assumption) _))
 have g0:((h.add (.cells .rw (encPc p))).add (.map [])).cells h.next=some (encPc p):=by simp -implicitDefEqProofs(maxSteps:=999999)(disch:=first|with_reducible rfl|omega|(simp only[nA,nS,nD]<;>omega)|fail)only[go_sem]
 have gm:((h.add (.cells .rw (encPc p))).add (.map [])).get (h.next+1)=some (.map []):=by simp -implicitDefEqProofs(maxSteps:=999999)(disch:=first|with_reducible rfl|omega|(simp only[nA,nS,nD]<;>omega)|fail)only[go_sem]
 have l0:((h.add (.cells .rw (encPc p))).add (.map [])).next=h.next+2:=by simp only[H.next_add]
 simp only[encPc] at s0 g0 gm l0
 simp -implicitDefEqProofs(maxSteps:=999999)(disch:=first|with_reducible rfl|omega|(simp only[nA,nS,nD]<;>omega)|fail)only[c25,go_sem,encPc]
 generalize H.add (H.add _ _) _=h0 at s0 g0 gm l0⊢
 rw[pieceC]
 refine counts_ev s0.wf (hx.mono s0) hl p _ fun y h1 s1 ay=>?_
 have gm1:=s1.get gm
 have hy:=ay.lenE
 have hcl:=cntI_le sh p sh.length
 have hps:(cntI sh p sh.length).map (fun a=>(sh.map Ru.p).getD a.toNat 0)=psL sh p:=by
  have:=cnt_ps sh p sh.length (Nat.le_refl _)
  rw[List.take_length] at this
  exact this
 have hbd:∀a∈cntI sh p sh.length,∃(k:Nat) (hk:k<sh.length),a=(k:Int):=fun a ha=>by
  obtain⟨k,hk,_,e,_⟩:=cntI_mem ha
  exact⟨k,hk,e⟩
 obtain⟨cs,hcs⟩:∃cs,cntI sh p sh.length=cs:=⟨_,rfl⟩
 rw[hcs] at ay hy hcl hps hbd
 have hpl:(psL sh p).length=cs.length:=by rw[←hps,List.length_map]
 have w1:=s1.wf
 have lm:h0.next≤h1.next:=s1.next
 simp -implicitDefEqProofs(maxSteps:=999999)(disch:=first|with_reducible rfl|omega|(simp only[nA,nS,nD]<;>omega)|fail)only[go_sem,hy]
 refine W_count cs.length (fun i s=>∃(tm:Go.Ab.T V) (h2:H) (m:List (Int × V)),s=⟨tm,h2,[]⟩∧h.Sub h2∧Keeps (fun c=>c=h.next+1) h1 h2∧h2.get (h.next+1)=some (.map (encA m))∧m.map Prod.fst=keysL ((psL sh p).take i)∧(∀e∈m,∃n,e.2=.int .i64 n)∧(Opd.t 0).ev tm=x∧(Opd.t 6).ev tm=.map (h.next+1)∧(Opd.t 7).ev tm=.int .i64 (((psL sh p).take i).getLastD 0)∧(Opd.t 13).ev tm=y∧(Opd.t 14).ev tm=.int .i64 (cs.length:Int)∧(Opd.t 15).ev tm=.int .i64 (i:Int)) ?_ ?_ (i:=0) (Nat.zero_le _)
  ⟨_,_,[],rfl,s0.trans s1,Keeps.refl _ _,gm1,by simp[keysL],by simp,(by simp[ev_c,ev_put]<;>rfl),(by simp[ev_c,ev_put]<;>rfl),(by simp[ev_c,ev_put]<;>rfl),(by simp[ev_c,ev_put]<;>rfl),(by simp[ev_c,ev_put]<;>rfl),(by simp only[ev_put];rfl)⟩
 ·rintro i s hi ⟨tm,h2,m,rfl,s2,k2,g2,hk,hv,t0,t6,t7,t13,t14,t15⟩
  have hi':(i:Int)<(cs.length:Int):=by omega
  have ay2:=SlAt_keep ay k2 fun b hb e=>by
   subst e
   obtain⟨o,n,c,e⟩:=hb
   subst e
   rcases ay.2.2 with⟨e,_⟩|⟨b',o',c',cs',e,e2,_⟩
   ·cases e
   ·cases e
    have hne:(cs.map encI)≠[]:=by intro e;rw[List.map_eq_nil_iff] at e;rw[e] at hi;simp at hi
    obtain⟨kd,hkd⟩:=H.cells_eq (e2.resolve_left hne)
    rw[gm1] at hkd
    cases hkd
  obtain⟨k,hkl,ek⟩:=hbd _ (List.getElem_mem hi)
  obtain⟨b1,o1,c1',cs1,_,hc1,hq1,_,_,hn1⟩:=ay2.at hi
  obtain⟨b2,o2,c2',cs2,_,hc2,hq2,_,hn2,_⟩:=(hx.mono s2).at hkl
  have v1:nth (o1+i*1) cs1=some (.int .i64 (k:Int)):=by rw[hn1 (by omega),ek];rfl
  have v2:nth (o2+k*4+3) cs2=some (.int .i64 sh[k].p):=by rw[hn2 3 (by omega)];rfl
  have hpi:i<(psL sh p).length:=by omega
  have epi:(psL sh p)[i]=sh[k].p:=by
   have:(cs.map (fun a=>(sh.map Ru.p).getD a.toNat 0))[i]'(by rw[List.length_map];exact hi)=(psL sh p)[i]:=by congr 1
   rw[←this,List.getElem_map,ek,Int.toNat_natCast,List.getD_eq_getElem?_getD,List.getElem?_eq_getElem (by rw[List.length_map];exact hkl)]
   simp
  obtain⟨n,hn⟩:∃n,found (.int .i64 0) false (lkA sh[k].p m)=.int .i64 n:=by
   cases hl:lkA sh[k].p m with
   |none=>exact⟨0,rfl⟩
   |some v=>
    obtain⟨e,he,e2⟩:=lkA_some hl
    obtain⟨n,hn⟩:=hv e he
    exact⟨n,by rw[←hn,e2];rfl⟩
  have lt:=H.lt_next s2.wf g2
  have et:(psL sh p).take (i+1)=(psL sh p).take i++[sh[k].p]:=by rw[List.take_succ_eq_append_getElem hpi,epi]
  simp -implicitDefEqProofs(maxSteps:=999999)(disch:=first|with_reducible rfl|omega|(simp only[nA,nS,nD]<;>omega)|fail)only[go_sem,t0,t6,t13,t14,t15,hi',hq1 (nat_cst i),hc1,v1,hq2 (nat_cst k),hc2,v2,g2,hn,wr_succ]
  exact⟨_,_,_,rfl,s2.set (by omega) lt hw _,(k2.trans (Keeps.set _ _ _)).mono (fun c hc=>hc.elim id id),get_set_same rfl,by rw[et,keysL_snoc,putA_keys,hk],putA_vals (P:=fun v=>∃n,v=.int .i64 n) ⟨_,rfl⟩ hv,(by simp[ev_c,ev_put,t0]<;>rfl),(by simp[ev_c,ev_put,t6]<;>rfl),by rw[et,List.getLastD_concat];exact(by simp[ev_c,ev_put]<;>rfl),(by simp[ev_c,ev_put,t13]<;>rfl),(by simp[ev_c,ev_put,t14]<;>rfl),(by simp[ev_c,ev_put]<;>rfl)⟩
 ·rintro s ⟨tm,h2,m,rfl,s2,k2,g2,hk,hv,t0,t6,t7,t13,t14,t15⟩
  rw[List.take_of_length_le (by omega)] at hk t7
  have hml:m.length=(keysL (psL sh p)).length:=by rw[←hk,List.length_map]
  have ln:q_lnm h2 (.map (h.next+1))=some (.int .i64 (m.length:Int)):=by simp only[q_lnm,g2];simp[encA,lenE_eq]
  have q2:=q h2 s2
  obtain⟨k1,k2'⟩:=keysL_spec (psL sh p)
  unfold prL at q2
  cases hp:psL sh p with
  |nil=>
   rw[hp] at hml q2
   have m0:m.length=0:=by rw[hml];rfl
   rw[m0] at ln
   simp -implicitDefEqProofs(maxSteps:=999999)(disch:=first|with_reducible rfl|omega|(simp only[nA,nS,nD]<;>omega)|fail)only[go_sem,t6,t7,t14,t15,Int.lt_irrefl,ln,show((0:Nat):Int)=0 from rfl]
   exact q2
  |cons a t=>
   rw[hp] at hml q2 t7 k1
   have h0:¬(m.length:Int)=0:=by
    have:a∈keysL (a::t):=(k1 a).2 (by simp)
    have:=List.length_pos_of_mem this
    omega
   by_cases ha:∀y∈t,y=a
   ·have e1:=keysL_one.2 ha
    rw[e1] at hml
    have h1:(m.length:Int)=1:=by omega
    have e2:(t.all fun y=>decide (y=a))=true:=List.all_eq_true.2 fun y hy=>decide_eq_true (ha y hy)
    have e3:(a::t).getLastD 0=a:=by
     rw[List.getLastD_eq_getLast?,List.getLast?_eq_some_getLast (by simp)]
     have:=List.getLast_mem (l:=a::t) (by simp)
     rcases List.mem_cons.1 this with e|e
     ·exact e
     ·exact ha _ e
    rw[h1] at ln h0
    rw[e3] at t7
    simp only[e2,if_true] at q2
    simp -implicitDefEqProofs(maxSteps:=999999)(disch:=first|with_reducible rfl|omega|(simp only[nA,nS,nD]<;>omega)|fail)only[go_sem,t6,t7,t14,t15,Int.lt_irrefl,ln,h0]
    exact q2
   ·have h1:¬(m.length:Int)=1:=fun e=>ha (keysL_one.1 (by omega))
    have e2:(t.all fun y=>decide (y=a))=false:=by
     rw[←Bool.not_eq_true,List.all_eq_true]
     intro h
     exact ha fun y hy=>by simpa using h y hy
    simp only[e2] at q2
    simp -implicitDefEqProofs(maxSteps:=999999)(disch:=first|with_reducible rfl|omega|(simp only[nA,nS,nD]<;>omega)|fail)only[go_sem,t6,t7,t14,t15,Int.lt_irrefl,ln,h0,h1]
    exact q2
end Tryz
end Go.Ab
namespace Go.Ab
theorem CutO.tk {F:Nat→Prop}{h:H}{x:V}{sz:Nat}{rows:List (List V)}(a:CutO F h x sz rows)(hsz:0<sz)(hl:rows.length≤1000000){k:Nat}(hk:k<rows.length):
  ∃y,slcTo h sz x (.int .i64 (k:Int))=some y∧SlAt h y sz (rows.take k):=by
 have hi:∀tm,(Opd.c (.int .i64 (k:Int))).ev tm=.int .i64 (k:Int):=fun _=>rfl
 obtain⟨a1,a2⟩:=a
 have hz:∀r∈rows.take k,r.length=sz:=fun r hr=>a1 r (List.mem_of_mem_take hr)
 have hkl:(rows.take k).length=k:=by rw[List.length_take,Nat.min_eq_left (by omega)]
 have fl:=flatten_len a1
 have ft:=flatten_len hz
 rw[hkl] at ft
 have hfl:rows.flatten=(rows.take k).flatten++(rows.drop k).flatten:=by rw[←List.flatten_append,List.take_append_drop]
 have hsl:∀(b:Nat) (c:Cap) (cs:List V),h.cells b=some (rows.flatten++cs)→SlAt h (.sl b 0 k c) sz (rows.take k):=fun b c cs hc=>⟨hz,by omega,.inr ⟨b,0,c,_,by rw[hkl],.inr hc,getN_eq.2 ⟨by rw[List.drop_zero,hkl,hfl,List.append_assoc,←ft,List.take_left'];rfl,by rw[hkl,List.length_append,fl];have:=Nat.mul_le_mul_right sz (Nat.le_of_lt hk);omega⟩⟩⟩
 rcases a2 with⟨rfl,e⟩|⟨b,rest,j,rfl,l1,l2,hb,hrest⟩|⟨b,c,rest,rfl,l1,l2,hb,hc,hlc⟩
 ·rw[e] at hk;simp at hk
 ·have e1:Nat.ble 0 k=true:=by simp
  have hall:(rows.flatten++rest).length=(rows.length+j)*sz:=by rw[List.length_append,fl,hrest,Nat.add_mul]
  have e2:Nat.ble k (rows.length+j)=true:=by rw[Nat.ble_eq];omega
  have e3:Nat.ble (rows.length+j) (rows.length+j)=true:=by simp
  have e4:Nat.blt 0 (rows.length+k)=true:=by rw[Nat.blt_eq];omega
  have e5:Nat.beq sz sz=true:=by simp
  have e6:Nat.beq 0 (0*sz)=true:=by simp
  have e7:Nat.ble (0+rows.length*sz) (rows.flatten++rest).length=true:=by rw[hall,Nat.ble_eq,Nat.zero_add];exact Nat.mul_le_mul_right _ (by omega)
  have e8:slkRoom h b 0 sz=rows.length+j:=by simp only[slkRoom,hb,lenN_eq,hall,Nat.sub_zero];exact Nat.mul_div_cancel _ hsz
  refine⟨.sl b (0+0*sz) k (.slk (0+0) 0),?_,?_⟩
  ·simp only[slcTo,q_slc,slkOk,hb,e5,e6,lenN_eq,e7,og_true,bnd3,natO,hi,nat_cst,natk_cst,bnds,e1,e2,e3,subS,e4,e8,Nat.sub_zero]
  ·rw[Nat.zero_mul];exact hsl _ _ _ (cells_of hb)
 ·refine⟨.sl b (bsel (Nat.beq c 0) 0 (0+0*sz)) k (.fix c),?_,?_⟩
  ·simp only[slcTo,q_slc]
   rw[subO_to (hi _) (by omega) hlc]
  ·have:bsel (Nat.beq c 0) 0 (0+0*sz)=0:=by cases Nat.beq c 0<;>simp[bsel]
   rw[this]
   exact hsl _ _ _ (cells_of hb)
namespace Tryz
theorem nm_feq (r q:Ru):q_feq false 3 (.agg [.int .i64 r.b,.int .i64 r.s,.int .i64 r.e]) (.agg [.int .i64 q.b,.int .i64 q.s,.int .i64 q.e])=some (.bool (decide ([r.b,r.s,r.e]=[q.b,q.s,q.e]))):=
 q_feq_map (n:=3) [r.b,r.s,r.e] [q.b,q.s,q.e] rfl rfl false
set_option maxHeartbeats 4000000 in
theorem pcheck_ev {F:Nat→Prop}{h:H}{x:V}{sh:List Ru}(hw:h.wf)(cx:CutO F h x 4 (sh.map encR4))(hl:sh.length≤8)(nd:sh.Nodup)(h4:∀s∈sh,RuOk s)(Q:V→H→Prop)(q:∀h',h.Sub h'→Q (.int .i64 0) h'):
  Ev fnG fastA (.fn 23 [] []) [x] h Q:=by
 refine Ev_body (fd:=c23) rfl rfl rfl ?_
 have hx:=cx.sl (by rw[List.length_map];omega)
 have hlen:=hx.lenE
 have n8:¬(8:Int)<(sh.length:Int):=by omega
 simp -implicitDefEqProofs(maxSteps:=999999)(disch:=first|with_reducible rfl|omega|(simp only[nA,nS,nD]<;>omega)|fail)only[c23,go_sem,hlen,n8]
 refine(everyRule_ev (p:=fun _=>true) hw hx fun s hs=>allowed_pure hw (h4 s hs)).mono fun u h1 hu=>?_
 obtain⟨rfl,s1⟩:=hu
 have ea:(sh.all fun _=>true)=true:=List.all_eq_true.2 fun _ _=>rfl
 rw[ea]
 simp -implicitDefEqProofs(maxSteps:=999999)(disch:=first|with_reducible rfl|omega|(simp only[nA,nS,nD]<;>omega)|fail)only[go_sem,hlen]
 refine W_count sh.length (fun i s=>∃tm h',s=⟨tm,h',[]⟩∧h.Sub h'∧(Opd.t 0).ev tm=x∧(Opd.t 15).ev tm=x∧(Opd.t 16).ev tm=.int .i64 (sh.length:Int)∧(Opd.t 17).ev tm=.int .i64 (i:Int)) ?_ ?_ (i:=0) (Nat.zero_le _) ⟨_,_,rfl,s1,(by simp[ev_c,ev_put]<;>rfl),(by simp[ev_c,ev_put]<;>rfl),(by simp[ev_c,ev_put]<;>rfl),(by simp only[ev_put];rfl)⟩
 ·rintro i s hi ⟨tm,h',rfl,s2,t0,t15,t16,t17⟩
  have hi':(i:Int)<(sh.length:Int):=by omega
  obtain⟨b2,o2,c2,cs2,_,hc2,hq2,hg2,_,_⟩:=(hx.mono s2).at hi
  have sA:=(H.Sub.refl s2.wf).add (.cells .rw (encR4 sh[i]))
  have gA:(h'.add (.cells .rw (encR4 sh[i]))).cells h'.next=some (encR4 sh[i]):=cells_add_new rfl
  have lA:(h'.add (.cells .rw (encR4 sh[i]))).next=h'.next+1:=H.next_add _ _
  obtain⟨y,hy,ay⟩:=(cx.mono (s2.trans sA)).tk (by omega) (by rw[List.length_map];omega) (k:=i) (by rw[List.length_map];exact hi)
  rw[←List.map_take] at ay
  have hyl:=ay.lenE
  have hti:(sh.take i).length=i:=by rw[List.length_take];omega
  rw[hti] at hyl
  simp only[encR4] at hg2 sA gA lA hy ay
  simp -implicitDefEqProofs(maxSteps:=999999)(disch:=first|with_reducible rfl|omega|(simp only[nA,nS,nD]<;>omega)|fail)only[go_sem,t0,t15,t16,t17,hi',hq2 (nat_cst i),hc2,hg2,q_slc_to,hy,hyl]
  generalize hz:h'.add _=hA at sA gA lA ay⊢
  clear hz
  have sAA:=s2.trans sA
  refine W_count i (fun j s=>∃tm h3,s=⟨tm,h3,[]⟩∧hA.Sub h3∧(Opd.t 0).ev tm=x∧(Opd.t 4).ev tm=.ptr h'.next 0∧(Opd.t 15).ev tm=x∧(Opd.t 16).ev tm=.int .i64 (sh.length:Int)∧(Opd.t 17).ev tm=.int .i64 (i:Int)∧(Opd.t 24).ev tm=y∧(Opd.t 25).ev tm=.int .i64 (i:Int)∧(Opd.t 26).ev tm=.int .i64 (j:Int)) ?_ ?_ (i:=0) (Nat.zero_le _)
   ⟨_,_,rfl,H.Sub.refl sAA.wf,(by simp[ev_c,ev_put,t0]<;>rfl),(by simp[ev_c,ev_put]<;>rfl),(by simp[ev_c,ev_put,t15]<;>rfl),(by simp[ev_c,ev_put,t16]<;>rfl),(by simp[ev_c,ev_put,t17]<;>rfl),(by simp[ev_c,ev_put]<;>rfl),(by simp[ev_c,ev_put]<;>rfl),(by simp only[ev_put];rfl)⟩<;>clear t0 t15 t16 t17
  ·rintro j s hj ⟨tm,h3,rfl,s3,t0,t4,t15,t16,t17,t24,t25,t26⟩
   have hj':(j:Int)<(i:Int):=by omega
   have hjl:j<(sh.take i).length:=by omega
   obtain⟨b4,o4,c4',cs4,_,hc4,hq4,hg4,_,_⟩:=(ay.mono s3).at hjl
   obtain⟨sj,hsj⟩:∃sj,(sh.take i)[j]=sj:=⟨_,rfl⟩
   obtain⟨si,hsi⟩:∃si,sh[i]=si:=⟨_,rfl⟩
   have hne:¬si=sj:=by
    rw[List.getElem_take] at hsj
    have:=List.pairwise_iff_getElem.1 nd j i (by omega) hi hj
    rw[hsj,hsi] at this
    exact fun e=>this e.symm
   have sB:=(H.Sub.refl s3.wf).add (.cells .rw (encR4 sj))
   have gB:(h3.add (.cells .rw (encR4 sj))).cells h3.next=some (encR4 sj):=cells_add_new rfl
   have gA3:=s3.cells gA
   rw[hsj] at hg4
   rw[hsi] at gA gA3
   simp only[encR4] at hg4 sB gB gA3
   have gAB:=sB.cells gA3
   simp -implicitDefEqProofs(maxSteps:=999999)(disch:=first|with_reducible rfl|omega|(simp only[nA,nS,nD]<;>omega)|fail)only[go_sem,t0,t4,t15,t16,t17,t24,t25,t26,hj',hq4 (nat_cst j),hc4,hg4,gA3,gAB]
   generalize hz:h3.add _=hB at sB gB gAB⊢
   clear hz
   refine names_ev sB.wf si _ fun h5 s5=>?_
   have gA5:=s5.cells gAB
   have gB5:=s5.cells gB
   simp -implicitDefEqProofs(maxSteps:=999999)(disch:=first|with_reducible rfl|omega|(simp only[nA,nS,nD]<;>omega)|fail)only[go_sem,t0,t4,t15,t16,t17,t24,t25,t26,gAB,gB,gA5,gB5]
   refine names_ev s5.wf sj _ fun h6 s6=>?_
   have gA6:=s6.cells gA5
   have gB6:=s6.cells gB5
   by_cases hnm:[si.b,si.s,si.e]=[sj.b,sj.s,sj.e]
   ·have hpr:¬si.p=sj.p:=fun e=>hne (by
     cases si;cases sj
     simp only[List.cons.injEq,and_true] at hnm e
     obtain⟨h1,h2,h3⟩:=hnm
     subst h1;subst h2;subst h3;subst e;rfl)
    have fq:=nm_feq si sj
    rw[decide_eq_true hnm] at fq
    simp -implicitDefEqProofs(maxSteps:=999999)(disch:=first|with_reducible rfl|omega|(simp only[nA,nS,nD]<;>omega)|fail)only[go_sem,t0,t4,t15,t16,t17,t24,t25,t26,gAB,gB,gA5,gB5,gA6,gB6,fq,hpr,wr_succ]
    exact⟨_,_,rfl,s3.trans (sB.trans (s5.trans s6)),(by simp[ev_c,ev_put,t0]<;>rfl),(by simp[ev_c,ev_put,t4]<;>rfl),(by simp[ev_c,ev_put,t15]<;>rfl),(by simp[ev_c,ev_put,t16]<;>rfl),(by simp[ev_c,ev_put,t17]<;>rfl),(by simp[ev_c,ev_put,t24]<;>rfl),(by simp[ev_c,ev_put,t25]<;>rfl),(by simp[ev_c,ev_put]<;>rfl)⟩
   ·have fq:=nm_feq si sj
    rw[decide_eq_false hnm] at fq
    simp -implicitDefEqProofs(maxSteps:=999999)(disch:=first|with_reducible rfl|omega|(simp only[nA,nS,nD]<;>omega)|fail)only[go_sem,t0,t4,t15,t16,t17,t24,t25,t26,gAB,gB,gA5,gB5,gA6,gB6,fq,wr_succ]
    exact⟨_,_,rfl,s3.trans (sB.trans (s5.trans s6)),(by simp[ev_c,ev_put,t0]<;>rfl),(by simp[ev_c,ev_put,t4]<;>rfl),(by simp[ev_c,ev_put,t15]<;>rfl),(by simp[ev_c,ev_put,t16]<;>rfl),(by simp[ev_c,ev_put,t17]<;>rfl),(by simp[ev_c,ev_put,t24]<;>rfl),(by simp[ev_c,ev_put,t25]<;>rfl),(by simp[ev_c,ev_put]<;>rfl)⟩
  ·rintro s ⟨tm,h3,rfl,s3,t0,t4,t15,t16,t17,t24,t25,t26⟩
   simp -implicitDefEqProofs(maxSteps:=999999)(disch:=first|with_reducible rfl|omega|(simp only[nA,nS,nD]<;>omega)|fail)only[go_sem,t0,t15,t16,t17,t25,t26,Int.lt_irrefl,wr_succ]
   exact⟨_,_,rfl,sAA.trans s3,(by simp[ev_c,ev_put,t0]<;>rfl),(by simp[ev_c,ev_put,t15]<;>rfl),(by simp[ev_c,ev_put,t16]<;>rfl),(by simp[ev_c,ev_put]<;>rfl)⟩
 ·rintro s ⟨tm,h',rfl,s2,t0,t15,t16,t17⟩
  simp -implicitDefEqProofs(maxSteps:=999999)(disch:=first|with_reducible rfl|omega|(simp only[nA,nS,nD]<;>omega)|fail)only[go_sem,t16,t17,Int.lt_irrefl]
  exact q _ s2
theorem price_ev {F:Nat→Prop}{h:H}{x:V}{sh:List Ru}(hw:h.wf)(cx:CutO F h x 4 (sh.map encR4))(hl:sh.length≤8)(nd:sh.Nodup)(h4:∀s∈sh,RuOk s){p:Pc}(kp:PcOk p)(Q:V→H→Prop)(q:∀h',h.Sub h'→Q (.tup [.int .i64 (prL sh p).1,.int .i64 (prL sh p).2]) h'):
  Ev fnG fastA (.fn 10 [] []) [x,.agg (encPc p)] h Q:=by
 refine Ev_body (fd:=c10) rfl rfl rfl ?_
 have s0:=(H.Sub.refl hw).add (.cells .rw (encPc p))
 have g0:(h.add (.cells .rw (encPc p))).cells h.next=some (encPc p):=cells_add_new rfl
 simp only[encPc] at s0 g0
 simp -implicitDefEqProofs(maxSteps:=999999)(disch:=first|with_reducible rfl|omega|(simp only[nA,nS,nD]<;>omega)|fail)only[c10,go_sem,encPc]
 generalize h.add _=h0 at s0 g0⊢
 refine pcheck_ev s0.wf (cx.mono s0) hl nd h4 _ fun h1 s1=>?_
 simp -implicitDefEqProofs(maxSteps:=999999)(disch:=first|with_reducible rfl|omega|(simp only[nA,nS,nD]<;>omega)|fail)only[go_sem,s1.cells g0,ne_eq,not_true_eq_false]
 rw[pieceC]
 refine isP_ev s1.wf kp _ fun h2 s2=>?_
 have s12:=s1.trans s2
 simp -implicitDefEqProofs(maxSteps:=999999)(disch:=first|with_reducible rfl|omega|(simp only[nA,nS,nD]<;>omega)|fail)only[go_sem,s12.cells g0]
 have hx:=cx.sl (by rw[List.length_map];omega)
 rw[pieceC]
 refine priced_ev s2.wf (hx.mono (s0.trans s12)) (by omega) p _ fun h3 s3=>?_
 simp -implicitDefEqProofs(maxSteps:=999999)(disch:=first|with_reducible rfl|omega|(simp only[nA,nS,nD]<;>omega)|fail)only[go_sem]
 exact q _ (s0.trans (s12.trans s3))
end Tryz
end Go.Ab
namespace Go.Ab.Tryz
theorem pieces_ev (h:H)(Q:V→H→Prop)(q:Q (.fn 51 [] []) h):Ev fnG fastA (.fn 32 [] []) [] h Q:=by
 refine Ev_body (fd:=c32) rfl rfl rfl ?_
 simp -implicitDefEqProofs(maxSteps:=999999)(disch:=first|with_reducible rfl|omega|(simp only[nA,nS,nD]<;>omega)|fail)only[c32,go_sem]
 exact q
def pcN (k:Nat):Pc:=⟨k/15,k/3%5,k%3⟩
theorem pcN_at {b s e:Nat}(hs:s<5)(he:e<3):pcN (b*15+s*3+e)=⟨b,s,e⟩:=by
 have h1:(b*15+s*3+e)/15=b:=by omega
 have h2:(b*15+s*3+e)/3%5=s:=by omega
 have h3:(b*15+s*3+e)%3=e:=by omega
 simp only[pcN,h1,h2,h3]
theorem pcN_of {p:Pc}(k:PcOk p):∃n,n<60∧pcN n=p:=by
 have k1:=k.b;have k2:=k.s;have k3:=k.e
 exact⟨p.b*15+p.s*3+p.e,by omega,pcN_at k2 k3⟩
set_option maxHeartbeats 4000000 in
theorem pieces1_gen {y:V}{ok:Nat→Prop}{I:Nat→H→Prop}{S:Nat→H→Prop}(hr:∀(k:Nat) h,k<60→I k h→Ev fnG fastA y [.agg (encPc (pcN k))] h fun u h'=>(ok k∧u=.bool true∧I (k+1) h')∨(¬ok k∧u=.bool false∧S k h')){h:H}(hI:I 0 h):
  Ev fnG fastA (.fn 51 [] []) [y] h fun _ h'=>((∀k:Nat,k<60→ok k)∧I 60 h')∨∃k:Nat,k<60∧¬ok k∧S k h':=by
 refine Ev.gen fun Q q=>?_
 refine Ev_body (fd:=c51) rfl rfl rfl ?_
 simp -implicitDefEqProofs(maxSteps:=999999)(disch:=first|with_reducible rfl|omega|(simp only[nA,nS,nD]<;>omega)|fail)only[c51,go_sem]
 refine W_count 4 (fun b s=>∃tm h',s=⟨tm,h',[]⟩∧I (b*15) h'∧(∀k:Nat,k<b*15→ok k)∧(Opd.t 0).ev tm=y∧(Opd.t 5).ev tm=.int .i64 (b:Int)) ?_ ?_ (i:=0) (Nat.zero_le _) ⟨_,_,rfl,hI,fun k h=>by omega,(by simp[ev_c,ev_put]<;>rfl),(by simp only[ev_put];rfl)⟩
 ·rintro b s hb ⟨tm,h',rfl,hI,hok,t0,t5⟩
  have hb':(b:Int)<4:=by omega
  simp -implicitDefEqProofs(maxSteps:=999999)(disch:=first|with_reducible rfl|omega|(simp only[nA,nS,nD]<;>omega)|fail)only[go_sem,t0,t5,hb']
  refine W_count 5 (fun p s=>∃tm h',s=⟨tm,h',[]⟩∧I (b*15+p*3) h'∧(∀k:Nat,k<b*15+p*3→ok k)∧(Opd.t 0).ev tm=y∧(Opd.t 2).ev tm=.int .i64 (b:Int)∧(Opd.t 5).ev tm=.int .i64 (b:Int)∧(Opd.t 8).ev tm=.int .i64 (p:Int)) ?_ ?_ (i:=0) (Nat.zero_le _) ⟨_,_,rfl,by rw[Nat.zero_mul,Nat.add_zero];exact hI,fun k h=>hok k (by omega),(by simp[ev_c,ev_put,t0]<;>rfl),(by simp[ev_c,ev_put]<;>rfl),(by simp[ev_c,ev_put,t5]<;>rfl),(by simp only[ev_put];rfl)⟩<;>clear t0 t5 hI hok h'
  ·rintro p s hp ⟨tm,h',rfl,hI,hok,t0,t2,t5,t8⟩
   have hp':(p:Int)<5:=by omega
   simp -implicitDefEqProofs(maxSteps:=999999)(disch:=first|with_reducible rfl|omega|(simp only[nA,nS,nD]<;>omega)|fail)only[go_sem,t0,t2,t5,t8,hp']
   refine W_count 3 (fun e s=>∃tm h',s=⟨tm,h',[]⟩∧I (b*15+p*3+e) h'∧(∀k:Nat,k<b*15+p*3+e→ok k)∧(Opd.t 0).ev tm=y∧(Opd.t 2).ev tm=.int .i64 (b:Int)∧(Opd.t 3).ev tm=.int .i64 (p:Int)∧(Opd.t 5).ev tm=.int .i64 (b:Int)∧(Opd.t 8).ev tm=.int .i64 (p:Int)∧(Opd.t 11).ev tm=.int .i64 (e:Int)) ?_ ?_ (i:=0) (Nat.zero_le _) ⟨_,_,rfl,hI,hok,(by simp[ev_c,ev_put,t0]<;>rfl),(by simp[ev_c,ev_put,t2]<;>rfl),(by simp[ev_c,ev_put]<;>rfl),(by simp[ev_c,ev_put,t5]<;>rfl),(by simp[ev_c,ev_put,t8]<;>rfl),(by simp only[ev_put];rfl)⟩<;>clear t0 t2 t5 t8 hI hok h'
   ·rintro e s he ⟨tm,h',rfl,hI,hok,t0,t2,t3,t5,t8,t11⟩
    have he':(e:Int)<3:=by omega
    simp -implicitDefEqProofs(maxSteps:=999999)(disch:=first|with_reducible rfl|omega|(simp only[nA,nS,nD]<;>omega)|fail)only[go_sem,t0,t2,t3,t5,t8,t11,he']
    have hrk:=hr _ h' (by omega) hI
    rw[pcN_at hp he] at hrk
    refine hrk.mono fun u h2 hu=>?_
    rcases hu with⟨h1,rfl,hI2⟩|⟨h1,rfl,hS⟩
    ·simp -implicitDefEqProofs(maxSteps:=999999)(disch:=first|with_reducible rfl|omega|(simp only[nA,nS,nD]<;>omega)|fail)only[go_sem,t0,t2,t3,t5,t8,t11,wr_succ]
     exact⟨_,_,rfl,hI2,fun k hk=>by
      rcases Nat.lt_or_ge k (b*15+p*3+e) with h|h
      ·exact hok k h
      ·have:k=b*15+p*3+e:=by omega
       rw[this];exact h1,(by simp[ev_c,ev_put,t0]<;>rfl),(by simp[ev_c,ev_put,t2]<;>rfl),(by simp[ev_c,ev_put,t3]<;>rfl),(by simp[ev_c,ev_put,t5]<;>rfl),(by simp[ev_c,ev_put,t8]<;>rfl),(by simp[ev_c,ev_put]<;>rfl)⟩
    ·simp -implicitDefEqProofs(maxSteps:=999999)(disch:=first|with_reducible rfl|omega|(simp only[nA,nS,nD]<;>omega)|fail)only[go_sem,t0,t2,t3,t5,t8,t11]
     exact q _ _ (.inr ⟨_,by omega,h1,hS⟩)
   ·rintro s ⟨tm,h',rfl,hI,hok,t0,t2,t3,t5,t8,t11⟩
    have t11:(Opd.t 11).ev tm=.int .i64 3:=t11
    simp -implicitDefEqProofs(maxSteps:=999999)(disch:=first|with_reducible rfl|omega|(simp only[nA,nS,nD]<;>omega)|fail)only[go_sem,t0,t2,t3,t5,t8,t11,Int.lt_irrefl,wr_succ]
    have en:b*15+(p+1)*3=b*15+p*3+3:=by omega
    exact⟨_,_,rfl,by rw[en];exact hI,fun k hk=>hok k (by omega),(by simp[ev_c,ev_put,t0]<;>rfl),(by simp[ev_c,ev_put,t2]<;>rfl),(by simp[ev_c,ev_put,t5]<;>rfl),(by simp[ev_c,ev_put]<;>rfl)⟩
  ·rintro s ⟨tm,h',rfl,hI,hok,t0,t2,t5,t8⟩
   have t8:(Opd.t 8).ev tm=.int .i64 5:=t8
   simp -implicitDefEqProofs(maxSteps:=999999)(disch:=first|with_reducible rfl|omega|(simp only[nA,nS,nD]<;>omega)|fail)only[go_sem,t0,t2,t5,t8,Int.lt_irrefl,wr_succ]
   have en:(b+1)*15=b*15+5*3:=by omega
   exact⟨_,_,rfl,by rw[en];exact hI,fun k hk=>hok k (by omega),(by simp[ev_c,ev_put,t0]<;>rfl),(by simp[ev_c,ev_put]<;>rfl)⟩
 ·rintro s ⟨tm,h',rfl,hI,hok,t0,t5⟩
  have t5:(Opd.t 5).ev tm=.int .i64 4:=t5
  simp -implicitDefEqProofs(maxSteps:=999999)(disch:=first|with_reducible rfl|omega|(simp only[nA,nS,nD]<;>omega)|fail)only[go_sem,t0,t5,Int.lt_irrefl]
  exact q _ _ (.inl ⟨fun k hk=>hok k (by omega),hI⟩)
end Go.Ab.Tryz
namespace Go.Ab.Tryz
set_option maxHeartbeats 4000000 in
theorem differ_ev {h:H}{x y:V}{A B:List Ru}(hw:h.wf)(hx:SlAt h x 4 (A.map encR4))(hy:SlAt h y 4 (B.map encR4))(hA:A.length≤100)(hB:B.length≤100)(Q:V→H→Prop)
  (q1:(∀k:Nat,k<60→prL A (pcN k)=prL B (pcN k))→∀h',h.Sub h'→Q (.tup [.agg [.int .i64 0,.int .i64 0,.int .i64 0],.int .i64 6]) h')
  (q2:∀k:Nat,k<60→prL A (pcN k)≠prL B (pcN k)→∀h',h.Sub h'→Q (.tup [.agg (encPc (pcN k)),.int .i64 0]) h'):
  Ev fnG fastA (.fn 36 [] []) [x,y] h Q:=by
 refine Ev_body (fd:=c36) rfl rfl rfl ?_
 have x1:=hx.one
 have y1:=hy.one
 obtain⟨h6,hz⟩:∃z,(((h.add (.cells .rw [x])).add (.cells .rw [y])).add (.cells .rw [.int .i64 0,.int .i64 0,.int .i64 0])).add (.cells .rw [.int .i64 0])=z:=⟨_,rfl⟩
 have s6:h.Sub h6:=by rw[←hz];exact(by repeat(first|assumption|exact H.Sub.refl (by assumption)|refine H.Sub.add ?_ _|refine H.Sub.set ?_ (by first|omega|(simp only[H.next_add,H.next_set,H.next_del]<;>omega)) (by first|omega|(simp only[H.next_add,H.next_set,H.next_del]<;>omega)) (by assumption) _))
 have g0:h6.get h.next=some (.cells .rw [x]):=by rw[←hz];simp -implicitDefEqProofs(maxSteps:=999999)(disch:=first|with_reducible rfl|omega|(simp only[nA,nS,nD]<;>omega)|fail)only[go_sem]
 have g1:h6.get (h.next+1)=some (.cells .rw [y]):=by rw[←hz];simp -implicitDefEqProofs(maxSteps:=999999)(disch:=first|with_reducible rfl|omega|(simp only[nA,nS,nD]<;>omega)|fail)only[go_sem]
 have g2:h6.get (h.next+1+1)=some (.cells .rw [.int .i64 0,.int .i64 0,.int .i64 0]):=by rw[←hz];simp -implicitDefEqProofs(maxSteps:=999999)(disch:=first|with_reducible rfl|omega|(simp only[nA,nS,nD]<;>omega)|fail)only[go_sem]
 have g3:h6.get (h.next+1+1+1)=some (.cells .rw [.int .i64 0]):=by rw[←hz];simp -implicitDefEqProofs(maxSteps:=999999)(disch:=first|with_reducible rfl|omega|(simp only[nA,nS,nD]<;>omega)|fail)only[go_sem]
 have l6:h6.next=h.next+4:=by rw[←hz];simp only[H.next_add]
 simp -implicitDefEqProofs(maxSteps:=999999)(disch:=first|with_reducible rfl|omega|(simp only[nA,nS,nD]<;>omega)|fail)only[c36,go_sem,x1,y1,cells_one x1,cells_one y1]
 rw[hz]
 clear hz
 refine pieces_ev _ _ ?_
 simp -implicitDefEqProofs(maxSteps:=999999)(disch:=first|with_reducible rfl|omega|(simp only[nA,nS,nD]<;>omega)|fail)only[go_sem]
 refine W_gen (P:=fun tm=>(Opd.t 2).ev tm=.ptr h.next 0∧(Opd.t 3).ev tm=.ptr (h.next+1) 0∧(Opd.t 4).ev tm=.ptr (h.next+1+1) 0∧(Opd.t 5).ev tm=.ptr (h.next+1+1+1) 0∧(Opd.t 11).ev tm=.fn 51 [] []) ⟨(by simp[ev_c,ev_put]<;>rfl),(by simp[ev_c,ev_put]<;>rfl),(by simp[ev_c,ev_put]<;>rfl),(by simp[ev_c,ev_put]<;>rfl),(by simp[ev_c,ev_put]<;>rfl)⟩ fun tm ⟨t2,t3,t4,t5,t11⟩=>?_
 refine W_rf t11 ?_
 generalize hr:LoopR.mk _ _ _ _ _ _ _ _ _=r0
 have fB:=congrArg LoopR.body hr
 have fA:=congrArg LoopR.assign hr
 have fN:=congrArg LoopR.n hr
 have fF:=congrArg LoopR.fn hr
 have fP:=congrArg LoopR.ps hr
 have fT:=congrArg LoopR.tm hr
 dsimp only at fB fA fN fF fP fT
 have hrs:r0.st=.ready:=by rw[←hr]
 have hrp:r0.pend=none:=by rw[←hr]
 have w6:=s6.wf
 have s6B:h6.Sub (h6.add .dfr):=(H.Sub.refl w6).add _
 have lB:(h6.add .dfr).next=h6.next+1:=H.next_add _ _
 have gB:(h6.add .dfr).get h6.next=some .dfr:=get_add_new rfl
 obtain⟨I,hI⟩:∃I:H→Prop,∀z,I z↔(h6.add .dfr).Sub z∧z.get (h6.next+1)=some (.loop r0):=⟨_,fun _=>Iff.rfl⟩
 obtain⟨S,hS⟩:∃S:Nat→H→Prop,∀k z,S k z↔h.Sub z∧z.get (h.next+1+1)=some (.cells .rw (encPc (pcN k)))∧z.get (h.next+1+1+1)=some (.cells .rw [.int .i64 0])∧z.get h6.next=some .dfr∧h6.next+1<z.next∧∃r,z.get (h6.next+1)=some (.loop r)∧r.st=.done∧r.pend=some .ret:=⟨_,fun _ _=>Iff.rfl⟩
 have hI0:I ((h6.add .dfr).add (.loop r0)):=(hI _).2 ⟨(H.Sub.refl (H.wf_add w6 _)).add _,get_add_new (by rw[lB])⟩
 refine(pieces1_gen (y:=.yld (h6.next+1)) (ok:=fun k=>prL A (pcN k)=prL B (pcN k)) (I:=fun _=>I) (S:=S) (fun k z hk hIz=>?_) hI0).mono fun u h7 hu=>?_
 ·obtain⟨sx,gx⟩:=(hI _).1 hIz
  have lx:=sx.next
  have gxd:=sx.get gB
  have wx:=sx.wf
  have hlx:=wx _ _ gx
  refine Ev.gen fun Q2 q2=>?_
  refine Ev_yld (tm:=tm.put (some (.agg (encPc (pcN k)))) 12) gx (by rw[←fP,←fT];rfl) ?_
  obtain⟨p,hp⟩:∃p,pcN k=p:=⟨_,rfl⟩
  rw[hp]
  simp only[encPc]
  rw[←fA,←fN,←fF]
  have sx2:z.Sub (z.add (.cells .rw [.int .i64 (p.b:Int),.int .i64 (p.s:Int),.int .i64 (p.e:Int)])):=(H.Sub.refl wx).add _
  have gw:(z.add (.cells .rw [.int .i64 (p.b:Int),.int .i64 (p.s:Int),.int .i64 (p.e:Int)])).cells z.next=some [.int .i64 (p.b:Int),.int .i64 (p.s:Int),.int .i64 (p.e:Int)]:=cells_add_new rfl
  have lw:(z.add (.cells .rw [.int .i64 (p.b:Int),.int .i64 (p.s:Int),.int .i64 (p.e:Int)])).next=z.next+1:=H.next_add _ _
  simp -implicitDefEqProofs(maxSteps:=999999)(disch:=first|with_reducible rfl|omega|(simp only[nA,nS,nD]<;>omega)|fail)only[go_sem,t2,t3,t4,t5]
  unfold Kasg
  refine⟨rfl,r0,sx2.get gx,hrs,?_⟩
  obtain⟨rb,hrb⟩:∃rb:LoopR,rb={r0 with st:=.busy}:=⟨_,rfl⟩
  have hrb1:({rb with st:=.ready,pend:=none}:LoopR)=r0:=by rw[hrb];exact rLoop hrs hrp
  rw[←hrb,←fB,←fN,←fF]
  generalize z.add (.cells .rw [.int .i64 (p.b:Int),.int .i64 (p.s:Int),.int .i64 (p.e:Int)])=hy1 at sx2 gw lw⊢
  have sB3:(h6.add .dfr).Sub (hy1.set (h6.next+1) (.loop rb)):=(sx.trans sx2).set (by omega) (by omega) (H.wf_add w6 _) _
  have gl3:(hy1.set (h6.next+1) (.loop rb)).get (h6.next+1)=some (.loop rb):=get_set_same rfl
  have cw:(hy1.set (h6.next+1) (.loop rb)).cells z.next=some [.int .i64 (p.b:Int),.int .i64 (p.s:Int),.int .i64 (p.e:Int)]:=by rw[cells_set_other (by omega)];exact gw
  have l3:(hy1.set (h6.next+1) (.loop rb)).next=z.next+1:=by rw[H.next_set];exact lw
  generalize hy1.set (h6.next+1) (.loop rb)=h3 at sB3 gl3 cw l3⊢
  have s63:=s6B.trans sB3
  have c0:=cells_of (s63.get g0)
  simp -implicitDefEqProofs(maxSteps:=999999)(disch:=first|with_reducible rfl|omega|(simp only[nA,nS,nD]<;>omega)|fail)only[go_sem,t2,t3,t4,t5,c0,cw]
  rw[pieceC]
  refine priced_ev sB3.wf (hx.mono (s6.trans s63)) hA p _ fun h4 s4=>?_
  have c1:=cells_of ((s63.trans s4).get g1)
  have cw4:=s4.cells cw
  simp -implicitDefEqProofs(maxSteps:=999999)(disch:=first|with_reducible rfl|omega|(simp only[nA,nS,nD]<;>omega)|fail)only[go_sem,t2,t3,t4,t5,c1,cw4]
  rw[pieceC]
  refine priced_ev s4.wf (hy.mono ((s6.trans s63).trans s4)) hB p _ fun h5 s5=>?_
  have s35:=s4.trans s5
  have l5:=s35.next
  have fin:I (h5.set (h6.next+1) (.loop {rb with st:=.ready,pend:=none})):=(hI _).2 ⟨(sB3.trans s35).set (by omega) (by omega) (H.wf_add w6 _) _,by rw[get_set_same rfl,hrb1]⟩
  have cw5:=s5.cells cw4
  have r4y:=(s63.trans s35).get g2
  have r5y:=(s63.trans s35).get g3
  have gd5:=(sB3.trans s35).get gB
  have gl5:=s35.get gl3
  have bad:¬prL A p=prL B p→∀tm':Go.Ab.T V,Kround (h6.next+1) Q2 .ret ⟨tm',(h5.set (h.next+1+1) (.cells .rw [.int .i64 (p.b:Int),.int .i64 (p.s:Int),.int .i64 (p.e:Int)])).set (h.next+1+1+1) (.cells .rw [.int .i64 0]),[]⟩:=fun hne tm'=>by
   unfold Kround
   refine⟨rb,by rw[get_set_other (by omega),get_set_other (by omega)];exact gl5,q2 _ _ (.inr ⟨by rw[hp];exact hne,rfl,(hS _ _).2 ⟨?_,?_,?_,?_,?_,_,get_set_same rfl,rfl,rfl⟩⟩)⟩
   ·exact((((s6.trans s63).trans s35).set (by omega) (by omega) hw _).set (by omega) (by rw[H.next_set];omega) hw _).set (by omega) (by simp only[H.next_set];omega) hw _
   ·rw[get_set_other (by omega),get_set_other (by omega),get_set_same rfl,hp];rfl
   ·rw[get_set_other (by omega),get_set_same rfl]
   ·rw[get_set_other (by omega),get_set_other (by omega),get_set_other (by omega)];exact gd5
   ·simp only[H.next_set];omega
  have e5:prL A p=((prL A p).1,(prL A p).2):=rfl
  have e6:prL B p=((prL B p).1,(prL B p).2):=rfl
  generalize(prL A p).1=a1 at e5⊢
  generalize(prL A p).2=a2 at e5⊢
  generalize(prL B p).1=b1 at e6⊢
  generalize(prL B p).2=b2 at e6⊢
  by_cases ea:a1=b1
  ·by_cases eb:a2=b2
   ·have hne:prL A p=prL B p:=by rw[e5,e6,ea,eb]
    simp -implicitDefEqProofs(maxSteps:=999999)(disch:=first|with_reducible rfl|omega|(simp only[nA,nS,nD]<;>omega)|fail)only[go_sem,t2,t3,t4,t5,ea,eb,ne_eq,not_true_eq_false]
    unfold Kround
    exact⟨rb,gl5,q2 _ _ (.inl ⟨by rw[hp];exact hne,rfl,fin⟩)⟩
   ·have hne:¬prL A p=prL B p:=by rw[e5,e6];intro e;exact eb (Prod.mk.inj e).2
    simp -implicitDefEqProofs(maxSteps:=999999)(disch:=first|with_reducible rfl|omega|(simp only[nA,nS,nD]<;>omega)|fail)only[go_sem,t2,t3,t4,t5,ea,eb,ne_eq,not_true_eq_false,not_false_eq_true,cw5,r4y,r5y]
    exact bad hne _
  ·have hne:¬prL A p=prL B p:=by rw[e5,e6];intro e;exact ea (Prod.mk.inj e).1
   simp -implicitDefEqProofs(maxSteps:=999999)(disch:=first|with_reducible rfl|omega|(simp only[nA,nS,nD]<;>omega)|fail)only[go_sem,t2,t3,t4,t5,ea,ne_eq,not_true_eq_false,not_false_eq_true,cw5,r4y,r5y]
   exact bad hne _
 ·rcases hu with⟨hall,hI7⟩|⟨k,hk,hne,hS7⟩
  ·obtain⟨s7,g7⟩:=(hI _).1 hI7
   have l7:=s7.next
   have lt7:=s7.wf _ _ g7
   have gd7:=s7.get gB
   have r7:=(s6B.trans s7).get g2
   have r8:=(s6B.trans s7).get g3
   refine⟨r0,g7,by rw[hrs];simp,?_⟩
   rw[hrp]
   have s77:h.Sub (h7.set (h6.next+1) (.loop {r0 with st:=.exhausted})):=((s6.trans s6B).trans s7).set (by omega) (by omega) hw _
   have r77:(h7.set (h6.next+1) (.loop {r0 with st:=.exhausted})).get (h.next+1+1)=some (.cells .rw [.int .i64 0,.int .i64 0,.int .i64 0]):=by rw[get_set_other (by omega)];exact r7
   have r88:(h7.set (h6.next+1) (.loop {r0 with st:=.exhausted})).get (h.next+1+1+1)=some (.cells .rw [.int .i64 0]):=by rw[get_set_other (by omega)];exact r8
   have d77:(h7.set (h6.next+1) (.loop {r0 with st:=.exhausted})).get h6.next=some .dfr:=by rw[get_set_other (by omega)];exact gd7
   have l77:(h7.set (h6.next+1) (.loop {r0 with st:=.exhausted})).next=h7.next:=H.next_set _ _ _
   rw[hrp] at s77 r77 r88 d77 l77
   generalize h7.set (h6.next+1) _=h8 at s77 r77 r88 d77 l77⊢
   have d8:((h8.set (h.next+1+1) (.cells .rw [.int .i64 0,.int .i64 0,.int .i64 0])).set (h.next+1+1+1) (.cells .rw [.int .i64 6])).get h6.next=some .dfr:=by rw[get_set_other (by omega),get_set_other (by omega)];exact d77
   simp -implicitDefEqProofs(maxSteps:=999999)(disch:=first|with_reducible rfl|omega|(simp only[nA,nS,nD]<;>omega)|fail)only[go_sem,t2,t3,t4,t5,r77,r88,cells_of r77,cells_of r88,Kfin_ret1 _ _ _ d8]
   exact q1 hall _ (H.Sub.del (b:=h6.next) ((s77.set (b:=h.next+1+1) (by omega) (by omega) hw _).set (b:=h.next+1+1+1) (by omega) (by rw[H.next_set];omega) hw _) (by omega) hw)
  ·obtain⟨s7,r7,r8,d7,l7,r,g7,hst,hpd⟩:=(hS _ _).1 hS7
   refine⟨r,g7,by rw[hst];simp,?_⟩
   rw[hpd]
   have s77:h.Sub (h7.set (h6.next+1) (.loop {r with st:=.exhausted})):=s7.set (by omega) (by omega) hw _
   have r77:(h7.set (h6.next+1) (.loop {r with st:=.exhausted})).get (h.next+1+1)=some (.cells .rw (encPc (pcN k))):=by rw[get_set_other (by omega)];exact r7
   have r88:(h7.set (h6.next+1) (.loop {r with st:=.exhausted})).get (h.next+1+1+1)=some (.cells .rw [.int .i64 0]):=by rw[get_set_other (by omega)];exact r8
   have d77:(h7.set (h6.next+1) (.loop {r with st:=.exhausted})).get h6.next=some .dfr:=by rw[get_set_other (by omega)];exact d7
   rw[hpd] at s77 r77 r88 d77
   generalize h7.set (h6.next+1) _=h8 at s77 r77 r88 d77⊢
   have q2':=q2 k hk hne
   simp only[encPc] at r77 q2'
   simp -implicitDefEqProofs(maxSteps:=999999)(disch:=first|with_reducible rfl|omega|(simp only[nA,nS,nD]<;>omega)|fail)only[go_sem,t2,t3,t4,t5,r77,r88,cells_of r77,cells_of r88,Kfin_ret1 _ _ _ d77]
   exact q2' _ (H.Sub.del (b:=h6.next) s77 (by omega) hw)
end Go.Ab.Tryz
namespace Go.Ab
noncomputable def slcM (h:H)(sz:Nat)(x lo hi mx:V):Option V:=q_slc .nil h sz x (some (.c lo)) (some (.c hi)) (some (.c mx))
theorem q_slc_m (tm:T V)(h:H)(sz:Nat)(x:V)(lo hi mx:Opd):q_slc tm h sz x (some lo) (some hi) (some mx)=slcM h sz x (lo.ev tm) (hi.ev tm) (mx.ev tm):=rfl
noncomputable def slcB (h:H)(sz:Nat)(x lo hi:V):Option V:=q_slc .nil h sz x (some (.c lo)) (some (.c hi)) none
theorem q_slc_b (tm:T V)(h:H)(sz:Nat)(x:V)(lo hi:Opd):q_slc tm h sz x (some lo) (some hi) none=slcB h sz x (lo.ev tm) (hi.ev tm):=rfl
noncomputable def slcF (h:H)(sz:Nat)(x k:V):Option V:=q_slc .nil h sz x (some (.c k)) none none
theorem q_slc_f (tm:T V)(h:H)(sz:Nat)(x:V)(y:Opd):q_slc tm h sz x (some y) none none=slcF h sz x (y.ev tm):=rfl
namespace Tryz
set_option maxHeartbeats 2000000 in
theorem delRule_ev {h:H}{b:Nat}{R:List (List V)}{k:Nat}(hw:h.wf)(hz:∀r∈R,r.length=4)(ho:allOne R.flatten=true)(hb:h.get b=some (.cells (.gr 4) R.flatten))(hk:k<R.length)(hl:R.length≤1000)(Q:V→H→Prop)
  (q:∀h',Keeps (fun c=>c=b) h h'→h'.wf→h'.get b=some (.cells (.gr 4) ((R.eraseIdx k).flatten++[.int .i64 0,.int .i64 0,.int .i64 0,.int .i64 0]))→Q (.sl b 0 (R.eraseIdx k).length (.slk 0 0)) h'):Ev fnG fastA (.fn 17 [] []) [.sl b 0 R.length (.slk 0 0),.int .i64 (k:Int),.int .i64 ((k+1:Nat):Int)] h Q:=by
 have lb:=hw _ _ hb
 have hel:(R.eraseIdx k).length=R.length-1:=List.length_eraseIdx_of_lt hk
 have her:R.eraseIdx k=R.take k++R.drop (k+1):=List.eraseIdx_eq_take_drop_succ R k
 have hzE:∀r∈R.eraseIdx k,r.length=4:=fun r hr=>hz r (List.mem_of_mem_eraseIdx hr)
 have hi:∀(n:Nat) tm,(Opd.c (.int .i64 (n:Int))).ev tm=.int .i64 (n:Int):=fun _ _=>rfl
 have lF:=flatten_len hz
 have lE:=flatten_len hzE
 rw[hel] at lE
 have b1:Nat.ble k (k+1)=true:=by simp
 have b2:Nat.ble (k+1) R.length=true:=by simp;omega
 have b3:Nat.ble R.length R.length=true:=by simp
 have b4:Nat.blt 0 R.length=true:=by rw[Nat.blt_eq];omega
 have b5:Nat.beq 4 4=true:=rfl
 have b6:Nat.beq 0 (0*4)=true:=rfl
 have b7:Nat.ble 0 k=true:=by simp
 have b8:Nat.ble k R.length=true:=by simp;omega
 have b9:Nat.blt 0 (R.length+k)=true:=by rw[Nat.blt_eq];omega
 have b10:Nat.blt 0 (R.length+R.length)=true:=by rw[Nat.blt_eq];omega
 have ok:slkOk h b 0 0 R.length 4=true:=by
  have:Nat.ble (0+R.length*4) R.flatten.length=true:=by rw[lF];simp
  simp only[slkOk,hb,b5,b6,lenN_eq,this]
 have rm:slkRoom h b 0 4=R.length:=by simp only[slkRoom,hb,lenN_eq,lF];omega
 have e1:slcM h 4 (.sl b 0 R.length (.slk 0 0)) (.int .i64 (k:Int)) (.int .i64 ((k+1:Nat):Int)) (.int .i64 (R.length:Int))=some (sub b 0 4 (k,k+1,R.length)):=by
  simp only[slcM,q_slc,ok,og_true,b4,bnd3,natO,hi,natk_cst,bnds,b1,b2,b3,subO]
 have e2:slcTo h 4 (.sl b 0 R.length (.slk 0 0)) (.int .i64 (k:Int))=some (.sl b 0 k (.slk 0 0)):=by
  simp only[slcTo,q_slc,ok,og_true,rm,bnd3,natO,hi,natk_cst,bnds,b3,b7,b8,subS,b9,Nat.sub_zero,Nat.zero_mul,Nat.add_zero]
 have e3:slcF h 4 (.sl b 0 R.length (.slk 0 0)) (.int .i64 ((k+1:Nat):Int))=some (.sl b ((k+1)*4) (R.length-(k+1)) (.slk (k+1) 0)):=by
  simp only[slcF,q_slc,ok,og_true,rm,bnd3,natO,hi,natk_cst,bnds,b3,b2,subS,b10,Nat.zero_add]
 have hne:¬(k:Int)=((k+1:Nat):Int):=by omega
 have split:R.flatten=(R.take k).flatten++R[k]++(R.drop (k+1)).flatten:=by
  have h1:R.take k++R[k]::R.drop (k+1)=R:=by rw[←List.drop_eq_getElem_cons hk,List.take_append_drop]
  have:=congrArg List.flatten h1
  rw[List.flatten_append,List.flatten_cons,←List.append_assoc] at this
  exact this.symm
 have lT:(R.take k).flatten.length=k*4:=by rw[flatten_len fun r hr=>hz r (List.mem_of_mem_take hr),List.length_take,Nat.min_eq_left (by omega)]
 have lD:(R.drop (k+1)).flatten.length=(R.length-(k+1))*4:=by rw[flatten_len fun r hr=>hz r (List.mem_of_mem_drop hr),List.length_drop]
 have lk:R[k].length=4:=hz _ (List.getElem_mem hk)
 refine Ev_body (fd:=c17) rfl rfl rfl ?_
 have key:∃h2,e_app' h 4 32 (.sl b 0 k (.slk 0 0)) (.sl b ((k+1)*4) (R.length-(k+1)) (.slk (k+1) 0))=some (.sl b 0 (R.length-1) (.slk 0 0),h2)∧Keeps (fun c=>c=b) h h2∧h2.wf∧∃y:List V,y.length=4∧h2.get b=some (.cells (.gr 4) ((R.eraseIdx k).flatten++y)):=by
  rw[e_app_eq]
  cases hn:R.length-(k+1) with
  |zero=>
   have hk1:k=R.length-1:=by omega
   have hok:slkOk h b 0 0 k 4=true:=by
    have:Nat.ble (0+k*4) R.flatten.length=true:=by rw[lF];simp;omega
    simp only[slkOk,hb,b5,b6,lenN_eq,this]
   refine⟨h,?_,Keeps.refl _ _,hw,R[k],lk,?_⟩
   ·simp only[elems,ob_some,lenV_sl,e_app,hok,og_true]
    rw[hk1]
   ·rw[hb,her]
    have hd:R.drop (k+1)=[]:=List.drop_eq_nil_of_le (by omega)
    rw[split,hd];simp
  |succ j=>
   have hget:getN ((k+1)*4) ((j+1)*4) R.flatten=some (R.drop (k+1)).flatten:=getN_eq.2 ⟨by
    rw[split,List.drop_append_of_le_length (by rw[List.length_append,lT,lk];omega)]
    have:((R.take k).flatten++R[k]).drop ((k+1)*4)=[]:=List.drop_eq_nil_of_le (by rw[List.length_append,lT,lk];omega)
    rw[this,List.nil_append,List.take_of_length_le (by rw[lD,hn];exact Nat.le_refl _)],by rw[lF];omega⟩
   have f1:Nat.ble (0+(k+(j+1))*4) R.flatten.length=true:=by rw[lF,Nat.ble_eq];omega
   have hone:allOne (R.drop (k+1)).flatten=true:=by
    rw[allOne_eq] at ho⊢
    intro v hv;exact ho v (by rw[split];simp only[List.mem_append];exact .inr hv)
   obtain⟨v,vs,hv⟩:∃v vs,(R.drop (k+1)).flatten=v::vs:=by
    cases e:(R.drop (k+1)).flatten with
    |nil=>have:=congrArg List.length e;rw[lD,hn] at this;simp at this
    |cons v vs=>exact⟨v,vs,rfl⟩
   have hp:putN (0+k*4) (R.drop (k+1)).flatten R.flatten=some ((R.eraseIdx k).flatten++(R[k]++(R.drop (k+1)).flatten).drop ((j+1)*4)):=by
    have h0:R[k]++(R.drop (k+1)).flatten=(R[k]++(R.drop (k+1)).flatten).take ((j+1)*4)++(R[k]++(R.drop (k+1)).flatten).drop ((j+1)*4):=(List.take_append_drop _ _).symm
    have:=putN_app (pre:=(R.take k).flatten) (new:=(R.drop (k+1)).flatten) (old:=(R[k]++(R.drop (k+1)).flatten).take ((j+1)*4)) (rest:=(R[k]++(R.drop (k+1)).flatten).drop ((j+1)*4)) (by rw[lD,hn,List.length_take,List.length_append,lk,lD,hn];omega)
    rw[lT,List.append_assoc,←h0,←List.append_assoc,←split] at this
    rw[Nat.zero_add,this,her,List.flatten_append]
   have hp2:=H.put_gr (h:=h) (b:=b) (by rw[←hv];exact hone) hb (by rw[←hv];exact hp)
   rw[←hv] at hp2
   refine⟨_,?_,Keeps.set h b _,H.wf_set hw _ hb,(R[k]++(R.drop (k+1)).flatten).drop ((j+1)*4),by rw[List.length_drop,List.length_append,lk,lD,hn];omega,get_set_same rfl⟩
   simp only[elems,cells_of hb,hget,ob_some,lenV_sl,e_app,appSlk,hb,b5,b6,og_true,lenN_eq,f1,hp2,withV_some]
   rw[show k+(j+1)=R.length-1 by omega]
 obtain⟨h2,ka,k2,w2,y,ly,g2⟩:=key
 have lm2:((R.eraseIdx k).flatten++y).length=R.length*4:=by rw[List.length_append,lE,ly];omega
 have ok2:slkOk h2 b 0 0 (R.length-1) 4=true:=by
  have:Nat.ble (0+(R.length-1)*4) ((R.eraseIdx k).flatten++y).length=true:=by rw[lm2,Nat.ble_eq];omega
  simp only[slkOk,g2,b5,b6,lenN_eq,this]
 have rm2:slkRoom h2 b 0 4=R.length:=by simp only[slkRoom,g2,lenN_eq,lm2];omega
 have d1:Nat.ble (R.length-1) R.length=true:=by simp
 have d2:Nat.blt 0 (R.length-1+R.length)=true:=by rw[Nat.blt_eq];omega
 have e4:slcB h2 4 (.sl b 0 (R.length-1) (.slk 0 0)) (.int .i64 ((R.length-1:Nat):Int)) (.int .i64 (R.length:Int))=some (.sl b ((R.length-1)*4) 1 (.slk (R.length-1) 0)):=by
  simp only[slcB,q_slc,ok2,og_true,rm2,bnd3,natO,hi,natk_cst,bnds,d1,b3,subS,d2,Nat.zero_add]
  rw[show R.length-(R.length-1)=1 by omega]
 have hp3:putN ((R.length-1)*4) [.int .i64 0,.int .i64 0,.int .i64 0,.int .i64 0] ((R.eraseIdx k).flatten++y)=some ((R.eraseIdx k).flatten++[.int .i64 0,.int .i64 0,.int .i64 0,.int .i64 0]):=by
  have:=putN_app (pre:=(R.eraseIdx k).flatten) (new:=[V.int .i64 0,.int .i64 0,.int .i64 0,.int .i64 0]) (old:=y) (rest:=[]) (by rw[ly];rfl)
  rw[lE] at this
  simpa using this
 have e5:e_clr h2 [.int .i64 0,.int .i64 0,.int .i64 0,.int .i64 0] (.sl b ((R.length-1)*4) 1 (.slk (R.length-1) 0))=some (.und,h2.set b (.cells (.gr 4) ((R.eraseIdx k).flatten++[.int .i64 0,.int .i64 0,.int .i64 0,.int .i64 0]))):=by
  have hr:repN 1 [V.int .i64 0,.int .i64 0,.int .i64 0,.int .i64 0]=[.int .i64 0,.int .i64 0,.int .i64 0,.int .i64 0]:=rfl
  rw[e_clr_sl,hr,H.put_gr (by rfl) g2 hp3,withV_some]
 simp -implicitDefEqProofs(maxSteps:=999999)(disch:=first|with_reducible rfl|omega|(simp only[nA,nS,nD]<;>omega)|fail)only[c17,go_sem,q_slc_m,q_slc_to,q_slc_f,q_slc_b,e1,hne,e2,e3,ka,e4,e5,evQ_slc]
 rw[←hel]
 exact q _ ((k2.trans (Keeps.set h2 b _)).mono fun c h=>h.elim id id) (H.wf_set w2 _ g2) (get_set_same rfl)
set_option maxHeartbeats 2000000 in
theorem delRuleF_ev {h:H}{b:Nat}{R:List (List V)}{k:Nat}(hw:h.wf)(hz:∀r∈R,r.length=4)(ho:allOne R.flatten=true)(hb:h.get b=some (.cells .rw R.flatten))(hk:k<R.length)(hl:R.length≤1000)(Q:V→H→Prop)
  (q:∀h',Keeps (fun c=>c=b) h h'→h'.wf→h'.get b=some (.cells .rw ((R.eraseIdx k).flatten++[.int .i64 0,.int .i64 0,.int .i64 0,.int .i64 0]))→Q (.sl b 0 (R.eraseIdx k).length (.fix R.length)) h'):Ev fnG fastA (.fn 17 [] []) [.sl b 0 R.length (.fix R.length),.int .i64 (k:Int),.int .i64 ((k+1:Nat):Int)] h Q:=by
 have lb:=hw _ _ hb
 have hel:(R.eraseIdx k).length=R.length-1:=List.length_eraseIdx_of_lt hk
 have her:R.eraseIdx k=R.take k++R.drop (k+1):=List.eraseIdx_eq_take_drop_succ R k
 have hzE:∀r∈R.eraseIdx k,r.length=4:=fun r hr=>hz r (List.mem_of_mem_eraseIdx hr)
 have hi:∀(n:Nat) tm,(Opd.c (.int .i64 (n:Int))).ev tm=.int .i64 (n:Int):=fun _ _=>rfl
 have lF:=flatten_len hz
 have lE:=flatten_len hzE
 rw[hel] at lE
 have b1:Nat.ble k (k+1)=true:=by simp
 have b2:Nat.ble (k+1) R.length=true:=by simp;omega
 have b3:Nat.ble R.length R.length=true:=by simp
 have b4:Nat.blt 0 R.length=true:=by rw[Nat.blt_eq];omega
 have b5:Nat.beq 4 4=true:=rfl
 have b6:Nat.beq 0 (0*4)=true:=rfl
 have b7:Nat.ble 0 k=true:=by simp
 have b8:Nat.ble k R.length=true:=by simp;omega
 have b9:Nat.blt 0 (R.length+k)=true:=by rw[Nat.blt_eq];omega
 have b10:Nat.blt 0 (R.length+R.length)=true:=by rw[Nat.blt_eq];omega
 have n0:Nat.beq R.length 0=false:=by cases hb:Nat.beq R.length 0 with
  |false=>rfl
  |true=>have:=Nat.eq_of_beq_eq_true hb;omega
 have e1:slcM h 4 (.sl b 0 R.length (.fix R.length)) (.int .i64 (k:Int)) (.int .i64 ((k+1:Nat):Int)) (.int .i64 (R.length:Int))=some (sub b 0 4 (k,k+1,R.length)):=by
  simp only[slcM,q_slc,og_true,bnd3,natO,hi,natk_cst,bnds,b1,b2,b3,subO]
 have e2:slcTo h 4 (.sl b 0 R.length (.fix R.length)) (.int .i64 (k:Int))=some (.sl b 0 k (.fix R.length)):=by
  simp only[slcTo,q_slc,og_true,bnd3,natO,hi,natk_cst,bnds,b3,b7,b8,subO,sub,n0,bsel,Nat.sub_zero,Nat.zero_mul,Nat.add_zero]
 have e3:slcF h 4 (.sl b 0 R.length (.fix R.length)) (.int .i64 ((k+1:Nat):Int))=some (.sl b (bsel (Nat.beq R.length (k+1)) 0 ((k+1)*4)) (R.length-(k+1)) (.fix (R.length-(k+1)))):=by
  simp only[slcF,q_slc,og_true,bnd3,natO,hi,natk_cst,bnds,b3,b2,subO,sub,Nat.zero_add]
 have hne:¬(k:Int)=((k+1:Nat):Int):=by omega
 have split:R.flatten=(R.take k).flatten++R[k]++(R.drop (k+1)).flatten:=by
  have h1:R.take k++R[k]::R.drop (k+1)=R:=by rw[←List.drop_eq_getElem_cons hk,List.take_append_drop]
  have:=congrArg List.flatten h1
  rw[List.flatten_append,List.flatten_cons,←List.append_assoc] at this
  exact this.symm
 have lT:(R.take k).flatten.length=k*4:=by rw[flatten_len fun r hr=>hz r (List.mem_of_mem_take hr),List.length_take,Nat.min_eq_left (by omega)]
 have lD:(R.drop (k+1)).flatten.length=(R.length-(k+1))*4:=by rw[flatten_len fun r hr=>hz r (List.mem_of_mem_drop hr),List.length_drop]
 have lk:R[k].length=4:=hz _ (List.getElem_mem hk)
 refine Ev_body (fd:=c17) rfl rfl rfl ?_
 have key:∃h2,e_app' h 4 32 (.sl b 0 k (.fix R.length)) (.sl b (bsel (Nat.beq R.length (k+1)) 0 ((k+1)*4)) (R.length-(k+1)) (.fix (R.length-(k+1))))=some (.sl b 0 (R.length-1) (.fix R.length),h2)∧Keeps (fun c=>c=b) h h2∧h2.wf∧∃y:List V,y.length=4∧h2.get b=some (.cells .rw ((R.eraseIdx k).flatten++y)):=by
  rw[e_app_eq]
  cases hn:R.length-(k+1) with
  |zero=>
   have hk1:k=R.length-1:=by omega
   refine⟨h,?_,Keeps.refl _ _,hw,R[k],lk,?_⟩
   ·simp only[elems_0,ob_some,lenV_sl,e_app_fix0,b8,og_true]
    rw[←hk1]
   ·rw[hb,her]
    have hd:R.drop (k+1)=[]:=List.drop_eq_nil_of_le (by omega)
    rw[split,hd];simp
  |succ j=>
   have hget:getN ((k+1)*4) ((j+1)*4) R.flatten=some (R.drop (k+1)).flatten:=getN_eq.2 ⟨by
    rw[split,List.drop_append_of_le_length (by rw[List.length_append,lT,lk];omega)]
    have:((R.take k).flatten++R[k]).drop ((k+1)*4)=[]:=List.drop_eq_nil_of_le (by rw[List.length_append,lT,lk];omega)
    rw[this,List.nil_append,List.take_of_length_le (by rw[lD,hn];exact Nat.le_refl _)],by rw[lF];omega⟩
   have nk:Nat.beq R.length (k+1)=false:=by cases hb:Nat.beq R.length (k+1) with
    |false=>rfl
    |true=>have:=Nat.eq_of_beq_eq_true hb;omega
   have hone:allOne (R.drop (k+1)).flatten=true:=by
    rw[allOne_eq] at ho⊢
    intro v hv;exact ho v (by rw[split];simp only[List.mem_append];exact .inr hv)
   obtain⟨v,vs,hv⟩:∃v vs,(R.drop (k+1)).flatten=v::vs:=by
    cases e:(R.drop (k+1)).flatten with
    |nil=>have:=congrArg List.length e;rw[lD,hn] at this;simp at this
    |cons v vs=>exact⟨v,vs,rfl⟩
   have hp:putN (0+k*4) (R.drop (k+1)).flatten R.flatten=some ((R.eraseIdx k).flatten++(R[k]++(R.drop (k+1)).flatten).drop ((j+1)*4)):=by
    have h0:R[k]++(R.drop (k+1)).flatten=(R[k]++(R.drop (k+1)).flatten).take ((j+1)*4)++(R[k]++(R.drop (k+1)).flatten).drop ((j+1)*4):=(List.take_append_drop _ _).symm
    have:=putN_app (pre:=(R.take k).flatten) (new:=(R.drop (k+1)).flatten) (old:=(R[k]++(R.drop (k+1)).flatten).take ((j+1)*4)) (rest:=(R[k]++(R.drop (k+1)).flatten).drop ((j+1)*4)) (by rw[lD,hn,List.length_take,List.length_append,lk,lD,hn];omega)
    rw[lT,List.append_assoc,←h0,←List.append_assoc,←split] at this
    rw[Nat.zero_add,this,her,List.flatten_append]
   have hp2:=H.put_rw (h:=h) (b:=b) (by rw[←hv];exact hone) hb (by rw[←hv];exact hp)
   rw[←hv] at hp2
   refine⟨_,?_,Keeps.set h b _,H.wf_set hw _ hb,(R[k]++(R.drop (k+1)).flatten).drop ((j+1)*4),by rw[List.length_drop,List.length_append,lk,lD,hn];omega,get_set_same rfl⟩
   simp only[nk,bsel,elems,cells_of hb,hget,ob_some,lenV_sl]
   rw[e_app_fix (by omega),hp2,withV_some]
   rw[show k+(j+1)=R.length-1 by omega]
 obtain⟨h2,ka,k2,w2,y,ly,g2⟩:=key
 have lm2:((R.eraseIdx k).flatten++y).length=R.length*4:=by rw[List.length_append,lE,ly];omega
 have d1:Nat.ble (R.length-1) R.length=true:=by simp
 have d2:Nat.blt 0 (R.length-1+R.length)=true:=by rw[Nat.blt_eq];omega
 have e4:slcB h2 4 (.sl b 0 (R.length-1) (.fix R.length)) (.int .i64 ((R.length-1:Nat):Int)) (.int .i64 (R.length:Int))=some (.sl b ((R.length-1)*4) 1 (.fix 1)):=by
  have n1:Nat.beq R.length (R.length-1)=false:=by cases hb:Nat.beq R.length (R.length-1) with
   |false=>rfl
   |true=>have:=Nat.eq_of_beq_eq_true hb;omega
  simp only[slcB,q_slc,og_true,bnd3,natO,hi,natk_cst,bnds,d1,b3,subO,sub,n1,bsel,Nat.zero_add]
  rw[show R.length-(R.length-1)=1 by omega]
 have hp3:putN ((R.length-1)*4) [.int .i64 0,.int .i64 0,.int .i64 0,.int .i64 0] ((R.eraseIdx k).flatten++y)=some ((R.eraseIdx k).flatten++[.int .i64 0,.int .i64 0,.int .i64 0,.int .i64 0]):=by
  have:=putN_app (pre:=(R.eraseIdx k).flatten) (new:=[V.int .i64 0,.int .i64 0,.int .i64 0,.int .i64 0]) (old:=y) (rest:=[]) (by rw[ly];rfl)
  rw[lE] at this
  simpa using this
 have e5:e_clr h2 [.int .i64 0,.int .i64 0,.int .i64 0,.int .i64 0] (.sl b ((R.length-1)*4) 1 (.fix 1))=some (.und,h2.set b (.cells .rw ((R.eraseIdx k).flatten++[.int .i64 0,.int .i64 0,.int .i64 0,.int .i64 0]))):=by
  have hr:repN 1 [V.int .i64 0,.int .i64 0,.int .i64 0,.int .i64 0]=[.int .i64 0,.int .i64 0,.int .i64 0,.int .i64 0]:=rfl
  rw[e_clr_sl,hr,H.put_rw (by rfl) g2 hp3,withV_some]
 simp -implicitDefEqProofs(maxSteps:=999999)(disch:=first|with_reducible rfl|omega|(simp only[nA,nS,nD]<;>omega)|fail)only[c17,go_sem,q_slc_m,q_slc_to,q_slc_f,q_slc_b,e1,hne,e2,e3,ka,e4,e5,evQ_slc]
 rw[←hel]
 exact q _ ((k2.trans (Keeps.set h2 b _)).mono fun c h=>h.elim id id) (H.wf_set w2 _ g2) (get_set_same rfl)
theorem cloneRule_ev {h:H}{x:V}{rows:List (List V)}(hw:h.wf)(hx:SlAt h x 4 rows)(h0:0<rows.length)(hl:rows.length≤1000)(Q:V→H→Prop)(q:∀b h',h.Sub h'→h.next≤b→h'.get b=some (.cells (.gr 4) rows.flatten)→Q (.sl b 0 rows.length (.slk 0 0)) h'):Ev fnG fastA (.fn 37 [] []) [x] h Q:=by
 refine Ev_body (fd:=c37) rfl rfl rfl ?_
 rcases hx.2.2 with⟨rfl,e⟩|⟨b,o,c,cs,rfl,_⟩
 ·rw[e] at h0;simp at h0
 ·simp -implicitDefEqProofs(maxSteps:=999999)(disch:=first|with_reducible rfl|omega|(simp only[nA,nS,nD]<;>omega)|fail)only[c37,go_sem]
  have s1:h.Sub (h.add (.cells .rw [])):=(H.Sub.refl hw).add _
  have hx1:=(hx.mono s1).elems
  obtain⟨k,hk⟩:∃k,rows.length=k+1:=⟨rows.length-1,by omega⟩
  rw[e_app_eq,hx1.1,hx1.2]
  simp only[ob_some]
  rw[hk,e_app_full (by omega) (elems_0 _ _ _ _ _) (by simp only[Nat.zero_add];omega) (by omega),grown_eq,P2_some]
  simp -implicitDefEqProofs(maxSteps:=999999)(disch:=first|with_reducible rfl|omega|(simp only[nA,nS,nD]<;>omega)|fail)only[go_sem]
  have:=q (h.next+1) ((h.add (.cells .rw [])).add (.cells (.gr 4) rows.flatten)) (s1.add _) (by omega) (get_add_new (by rw[H.next_add]))
  rw[hk] at this
  simpa using this
theorem dupRule_ev {h:H}{x:V}{l:List Ru}(hw:h.wf)(hx:SlAt h x 4 (l.map encR4))(hl:l.length≤1000)(Q:V→H→Prop)(q:Q (.sl h.next 0 l.length (.fix l.length)) (h.add (.cells .rw (l.map encR4).flatten))):Ev fnG fastA (.fn 13 [] []) [x] h Q:=by
 have hlen:=hx.lenE
 refine Ev_body (fd:=c13) rfl rfl rfl ?_
 simp -implicitDefEqProofs(maxSteps:=999999)(disch:=first|with_reducible rfl|omega|(simp only[nA,nS,nD]<;>omega)|fail)only[c13,go_sem,hlen]
 have rl:(l.map encR4).length=l.length:=List.length_map _
 have ho:allOne (l.map encR4).flatten=true:=by
  rw[allOne_eq]
  intro v hv
  obtain⟨r,hr,hv⟩:=List.mem_flatten.1 hv
  obtain⟨s,_,rfl⟩:=List.mem_map.1 hr
  simp only[encR4,List.mem_cons,List.not_mem_nil,or_false] at hv
  rcases hv with rfl|rfl|rfl|rfl<;>rfl
 have dc:=dup_core (by_:=32) (z:=[V.int .i64 0,.int .i64 0,.int .i64 0,.int .i64 0]) hx hw rfl (by omega) ho
 rw[rl] at dc
 have am:a_msl h 32 [V.int .i64 0,.int .i64 0,.int .i64 0,.int .i64 0] (.int .i64 0) (.int .i64 (l.length:Int))=_:=a_msl_0n (by omega) (by omega)
 rw[am]
 simp -implicitDefEqProofs(maxSteps:=999999)(disch:=first|with_reducible rfl|omega|(simp only[nA,nS,nD]<;>omega)|fail)only[go_sem,dc]
 exact q
end Tryz
end Go.Ab
