/- What operations give, continued: parts, appends, maps, rows of a typed list. -/
import Derived.Test.YtiphdfiihgbomabGreatAbZ
set_option linter.unusedSimpArgs false
set_option linter.unusedVariables false
namespace Go.Ab
@[congr] theorem ob_congr {α β:Type} {o o':Option α} {f:α→Option β} (e:o=o'):ob o f=ob o' f:=by rw[e]
@[congr] theorem og_congr {α:Type} {b b':Bool} {x:Option α} (e:b=b'):og b x=og b' x:=by rw[e]
theorem fillN_nil (tm:T V)(z:List V):fillN tm [] z=some z:=rfl
theorem fillN_cons (tm:T V)(o n:Nat)(x:Opd)(ps:List (Nat × Nat × Opd))(z:List V):
  fillN tm ((o,n,x)::ps) z=og (decide (lenN (x.ev tm).cells=n)) (ob (putN o (x.ev tm).cells z) fun z'=>fillN tm ps z'):=by
 simp only[fillN]
 by_cases e:lenN (x.ev tm).cells=n
 ·have hb:Nat.beq (lenN (x.ev tm).cells) n=true:=by simp[e]
  rw[decide_eq_true e,og_true]
  simp only[hb]
  cases putN o (x.ev tm).cells z<;>rfl
 ·have:Nat.beq (lenN (x.ev tm).cells) n=false:=by
   cases hb:Nat.beq (lenN (x.ev tm).cells) n with
   |false=>rfl
   |true=>exact absurd (Nat.eq_of_beq_eq_true hb) e
  simp[this,e]
theorem a_bsl_some (h:H)(n:Nat)(cs:List V):a_bsl h n (some cs)=some (.sl h.next 0 n (.fix n),h.add (.cells .rw cs)):=rfl
def elC (o:Option (List V))(k n:Nat):Option (List V):=match o with|some cs=>getN k n cs|none=>none
theorem elC_some (cs:List V)(k n:Nat):elC (some cs) k n=getN k n cs:=rfl
theorem elems_nils (h:H)(sz:Nat):elems h sz .nils=some []:=rfl
theorem elems_0 (h:H)(sz b o:Nat)(c:Cap):elems h sz (.sl b o 0 c)=some []:=rfl
theorem elems_s (h:H)(sz b o n:Nat)(c:Cap):elems h sz (.sl b o (n+1) c)=elC (h.cells b) o ((n+1)*sz):=by
 simp only[elems,elC];cases h.cells b<;>rfl
theorem lenV_nils:lenV .nils=some 0:=rfl
theorem lenV_sl (b o n:Nat)(c:Cap):lenV (.sl b o n c)=some n:=rfl
theorem e_app_eq (h:H)(sz by_:Nat)(x y:V):e_app' h sz by_ x y=ob (elems h sz y) fun new=>ob (lenV y) fun k=>e_app h sz by_ x k new:=by
 simp only[e_app']
 cases elems h sz y with
 |none=>rfl
 |some new=>simp only[ob_some];cases lenV y<;>simp[lf_eq]
theorem room_ok {α:Type}{k by_:Nat}{r:Option α}(h1:k*by_≤1099511627776)(h2:k≤1099511627776):room k by_ r=r:=by
 have e1:Nat.ble (k*by_) 1099511627776=true:=by simpa using h1
 have e2:Nat.ble k 1099511627776=true:=by simpa using h2
 simp[room,e1,e2]
theorem e_app_nils (h:H)(sz by_ k:Nat)(new:List V):e_app h sz by_ .nils (k+1) new=room (k+1) by_ (some (grown h sz (k+1) new)):=rfl
theorem e_app_fix0 (h:H)(sz by_ b o n c:Nat)(new:List V):e_app h sz by_ (.sl b o n (.fix c)) 0 new=og (Nat.ble n c) (some (.sl b o n (.fix c),h)):=rfl
theorem e_app_full {h:H}{sz by_ b o n c k:Nat}{old new:List V}(hk:c<n+(k+1))(ho:elems h sz (.sl b o n (.fix c))=some old)(h1:(n+(k+1))*by_≤1099511627776)(h2:n+(k+1)≤1099511627776):
  e_app h sz by_ (.sl b o n (.fix c)) (k+1) new=some (grown h sz (n+(k+1)) (old++new)):=by
 have e:Nat.ble (n+(k+1)) c=false:=by
  cases hb:Nat.ble (n+(k+1)) c with
  |false=>rfl
  |true=>have:=Nat.le_of_ble_eq_true hb;omega
 simp only[e_app,appFix,e,ho,room_ok h1 h2,appN_eq]
theorem e_app_fix {h:H}{sz by_ b o n c k:Nat}{new:List V}(hk:n+(k+1)≤c):
  e_app h sz by_ (.sl b o n (.fix c)) (k+1) new=withV (.sl b o (n+(k+1)) (.fix c)) (h.put b (o+n*sz) new):=by
 have e:Nat.ble (n+(k+1)) c=true:=by simpa using hk
 simp only[e_app,appFix,e]
theorem grown_eq (h:H)(sz k:Nat)(cs:List V):grown h sz k cs=(.sl h.next 0 k (.slk 0 0),h.add (.cells (.gr sz) cs)):=rfl
theorem grownO_eq (h:H)(b o sz k:Nat)(old cs:List V):grownO h b o sz k old cs=(.sl h.next 0 k (.slk 0 0),(h.add (.cells (.gr sz) cs)).set b (.old h.next o old)):=rfl
theorem e_app_slk {h:H}{sz by_ b n k:Nat}{cs new:List V}(h0:0<sz)(hb:h.get b=some (.cells (.gr sz) cs))(hl:cs.length=n*sz)(ho:allOne new=true)(h1:(n+(k+1))*by_≤1099511627776)(h2:n+(k+1)≤1099511627776):
  e_app h sz by_ (.sl b 0 n (.slk 0 0)) (k+1) new=some (grownO h b 0 sz (n+(k+1)) cs (cs++new)):=by
 have e1:Nat.beq sz sz=true:=by simp
 have e2:Nat.beq (n*sz) (n*sz)=true:=by simp
 have e3:Nat.beq 0 0=true:=rfl
 have e4:Nat.ble ((n+(k+1))*sz) (n*sz)=false:=by
  cases hb:Nat.ble ((n+(k+1))*sz) (n*sz) with
  |false=>rfl
  |true=>
   have:=Nat.le_of_ble_eq_true hb
   rw[Nat.add_mul,Nat.add_mul] at this;omega
 simp only[e_app,appSlk,hb,lenN_eq,hl,ho,room_ok h1 h2,Nat.zero_mul,Nat.zero_add,dropN,appN_eq,e1,e2,e3,e4,og_true]
theorem evQ_ld (tm:T V)(h:H)(ag:Bool)(n:Nat)(x:Opd):evQ tm h (.ld ag n x)=q_ld h ag n (x.ev tm):=rfl
theorem evQ_lks (tm:T V)(h:H)(n:Nat)(z:V)(x i:Opd)(ok:Bool):evQ tm h (.lks n z x i ok)=q_lks h n z (x.ev tm) (i.ev tm) ok:=rfl
theorem evQ_lkp (tm:T V)(h:H)(fl:Option Nat)(z:V)(x i:Opd)(ok:Bool):evQ tm h (.lkp fl z x i ok)=q_lkp h z (x.ev tm) (i.ev tm) ok:=rfl
theorem evQ_lnm (tm:T V)(h:H)(x:Opd):evQ tm h (.lnm x)=q_lnm h (x.ev tm):=rfl
theorem evQ_slc (tm:T V)(h:H)(sz:Nat)(x:Opd)(lo hi mx:Option Opd):evQ tm h (.slc sz x lo hi mx)=q_slc tm h sz (x.ev tm) lo hi mx:=rfl
theorem get_del_other {h:H}{b c:Nat}(e:b≠c):(h.del c).get b=h.get b:=by rw[H.get_del,upd,if_neg e]
theorem cells_del_other {h:H}{b c:Nat}(e:b≠c):(h.del c).cells b=h.cells b:=by unfold H.cells;rw[get_del_other e]
theorem addG_eq (i:I)(g:H)(gs:List H):addG i g gs=if 2≤i.kind then gs++[g] else gs:=by
 unfold addG
 by_cases e:2≤i.kind
 ·have:Nat.ble 2 i.kind=true:=by simpa using e
  rw[this,if_pos e]
 ·have:Nat.ble 2 i.kind=false:=by
   cases hb:Nat.ble 2 i.kind with
   |false=>rfl
   |true=>exact absurd (Nat.le_of_ble_eq_true hb) e
  rw[this,if_neg e]
theorem nowG_eq (i:I)(g h:H):nowG i g h=h:=rfl
theorem evV_fn {Fn:Nat→Option FD}{fast:Nat→Option (List V→H→Option (V × H))}(n:Nat)(f:FuncId)(x y args:List V)(h:H):evV Fn fast n (.fn f x y) args h=evV Fn fast n (.fn f [] []) (appN x (appN args y)) h:=by
 cases n with
 |zero=>rfl
 |succ n=>simp only[evV,appN_eq,List.nil_append,List.append_nil]
theorem Ev_fn {Fn:Nat→Option FD}{fast:Nat→Option (List V→H→Option (V × H))}(f:FuncId)(x y args:List V)(h:H)(Q:V→H→Prop):Ev Fn fast (.fn f x y) args h Q=Ev Fn fast (.fn f [] []) (appN x (appN args y)) h Q:=by
 unfold Ev;simp only[evV_fn _ f x y]
theorem one_int (k:IntKind)(n:Int):V.one (.int k n)=true:=rfl
theorem cells_int (k:IntKind)(n:Int):V.cells (.int k n)=[.int k n]:=rfl
theorem one_bool (b:Bool):V.one (.bool b)=true:=rfl
theorem cells_bool (b:Bool):V.cells (.bool b)=[.bool b]:=rfl
theorem one_ptr (b o:Nat):V.one (.ptr b o)=true:=rfl
theorem cells_ptr (b o:Nat):V.cells (.ptr b o)=[.ptr b o]:=rfl
theorem one_nilp:V.one (.nilp)=true:=rfl
theorem cells_nilp:V.cells (.nilp)=[.nilp]:=rfl
theorem one_sl (b o n:Nat)(c:Cap):V.one (.sl b o n c)=true:=rfl
theorem cells_sl (b o n:Nat)(c:Cap):V.cells (.sl b o n c)=[.sl b o n c]:=rfl
theorem one_nils:V.one (.nils)=true:=rfl
theorem cells_nils:V.cells (.nils)=[.nils]:=rfl
theorem one_map (b:Nat):V.one (.map b)=true:=rfl
theorem cells_map (b:Nat):V.cells (.map b)=[.map b]:=rfl
theorem one_nilm:V.one (.nilm)=true:=rfl
theorem cells_nilm:V.cells (.nilm)=[.nilm]:=rfl
theorem one_fn (f:FuncId)(x y:List V):V.one (.fn f x y)=true:=rfl
theorem cells_fn (f:FuncId)(x y:List V):V.cells (.fn f x y)=[.fn f x y]:=rfl
theorem one_nilf:V.one (.nilf)=true:=rfl
theorem cells_nilf:V.cells (.nilf)=[.nilf]:=rfl
theorem one_agg (cs:List V):V.one (.agg cs)=false:=rfl
theorem cells_agg (cs:List V):V.cells (.agg cs)=cs:=rfl
theorem cells_one {v:V}(h:v.one=true):v.cells=[v]:=by cases v<;>first|rfl|cases h
def iv (n:Int):V:=.int .i64 n
theorem sameInts_map:∀(l r:List Int),l.length=r.length→sameInts (l.map iv) (r.map iv)=some (decide (l=r))
 |[],[],_=>rfl
 |a::l,b::r,h=>by
  have ih:=sameInts_map l r (by simpa using h)
  simp only[List.map_cons,iv,sameInts,keq_self,ieq_eq]
  have e:sameInts (l.map iv) (r.map iv)=some (decide (l=r)):=ih
  by_cases hab:a=b
  ·subst hab;simp[e]
  ·have:(a==b)=false:=by simpa using hab
   simp[this,e,hab]
theorem q_feq_map {n:Nat}(l r:List Int)(hl:l.length=n)(hr:r.length=n)(ng:Bool)(hn:Nat.blt n 1000=true:=by rfl):q_feq ng n (.agg (l.map iv)) (.agg (r.map iv))=some (.bool (ngB ng (decide (l=r)))):=by
 have:Nat.beq (lenN (l.map iv)) n=true:=by simp[lenN_eq,hl]
 simp only[q_feq,hn,this,sameInts_map l r (by omega)]
def lkA (i:Int):List (Int × V)→Option V
 |[]=>none
 |p::l=>if i=p.1 then some p.2 else lkA i l
def putA (i:Int)(x:V):List (Int × V)→List (Int × V)
 |[]=>[(i,x)]
 |p::l=>if i=p.1 then(i,x)::l else p::putA i x l
def encA (l:List (Int × V)):List (V × V):=l.map fun p=>(.int .i64 p.1,p.2)
theorem findK_A (i:Int):∀(l:List (Int × V)),findK (.int .i64 i) (encA l)=some (lkA i l)
 |[]=>rfl
 |p::l=>by
  have ih:=findK_A i l
  simp only[encA,List.map_cons,findK,keyEq,keq_self,ieq_eq,lkA]
  simp only[encA] at ih
  by_cases h:i=p.1
  ·simp[h]
  ·have:(i==p.1)=false:=by simpa using h
   simp[this,h,ih]
theorem putK_A (i:Int)(x:V):∀(l:List (Int × V)),putK (.int .i64 i) x (encA l)=some (encA (putA i x l))
 |[]=>rfl
 |p::l=>by
  have ih:=putK_A i x l
  simp only[encA,List.map_cons,putK,keyEq,keq_self,ieq_eq,putA]
  simp only[encA] at ih
  by_cases h:i=p.1
  ·simp[h]
  ·have:(i==p.1)=false:=by simpa using h
   simp[this,h,ih]
theorem lkA_putA (i j:Int)(x:V):∀(l:List (Int × V)),lkA j (putA i x l)=if j=i then some x else lkA j l
 |[]=>by simp[putA,lkA]
 |p::l=>by
  have ih:=lkA_putA i j x l
  simp only[putA]
  by_cases h:i=p.1
  ·simp only[if_pos h,lkA]
   by_cases h2:j=i
   ·simp[h2]
   ·have:¬j=p.1:=by rw[←h];exact h2
    simp[h2,this]
  ·simp only[if_neg h,lkA,ih]
   by_cases h2:j=p.1
   ·have:¬j=i:=by rw[h2];exact fun e=>h e.symm
    simp[h2,this]
    intro e;exact absurd e.symm h
   ·simp[h2]
def lkC (o:Option Blk)(z k:V)(ok:Bool):Option V:=match o with
 |some (.map es)=>(match findK k es with|some r=>some (found z ok r)|none=>none)
 |_=>none
theorem lkC_map (l:List (Int × V))(z:V)(i:Int)(ok:Bool):lkC (some (.map (encA l))) z (.int .i64 i) ok=some (found z ok (lkA i l)):=by
 simp only[lkC,findK_A]
theorem q_lkp_map (h:H)(z:V)(b:Nat)(k:V)(ok:Bool):q_lkp h z (.map b) k ok=lkC (h.get b) z k ok:=by
 simp only[q_lkp,mapOf,lkC]
 cases h.get b with
 |none=>rfl
 |some x=>
  cases x<;>rfl
noncomputable def muC (o:Option Blk)(h:H)(b:Nat)(k x:V):Option (V × H):=match o with
 |some (.map es)=>(match putK k x es with|some es'=>some (.und,h.set b (.map es'))|none=>none)
 |_=>none
theorem muC_map (l:List (Int × V))(h:H)(b:Nat)(i:Int)(x:V):muC (some (.map (encA l))) h b (.int .i64 i) x=some (.und,h.set b (.map (encA (putA i x l)))):=by
 simp only[muC,putK_A]
theorem e_mup_map (h:H)(b:Nat)(k x:V):e_mup h (.map b) k x=muC (h.get b) h b k x:=by
 simp only[e_mup,muC]
 cases h.get b with
 |none=>rfl
 |some y=>
  cases y<;>rfl
theorem getN_full {l:List V}{n:Nat}(h:l.length=n):getN 0 n l=some l:=getN_eq.2 ⟨by rw[List.drop_zero,←h,List.take_length],by omega⟩
theorem SlAt.one {h:H}{x:V}{sz:Nat}{rows:List (List V)}(a:SlAt h x sz rows):x.one=true:=by
 rcases a.2.2 with⟨rfl,_⟩|⟨_,_,_,_,rfl,_⟩<;>rfl
theorem SlAt.lenE {α:Type}{enc:α→List V}{l:List α}{h:H}{x:V}{sz:Nat}(a:SlAt h x sz (l.map enc)):q_len x=some (.int .i64 (l.length:Int)):=by rw[a.len,List.length_map]
theorem SlAt.boundE {α:Type}{enc:α→List V}{l:List α}{h:H}{x:V}{sz:Nat}(a:SlAt h x sz (l.map enc)):l.length≤9223372036854775807:=by have:=a.bound;rwa[List.length_map] at this
theorem SlAt.at {α:Type}{enc:α→List V}{l:List α}{h:H}{x:V}{sz:Nat}(a:SlAt h x sz (l.map enc)){k:Nat}(hk:k<l.length):
  ∃b o c cs,x=.sl b o l.length c∧h.cells b=some cs∧(∀{i:V},nat? i=some k→q_iad sz x i=some (.ptr b (o+k*sz)))∧getN (o+k*sz) sz cs=some (enc l[k])∧
   (∀j,j<sz→nth (o+k*sz+j) cs=(enc l[k])[j]?)∧(0<sz→nth (o+k*sz) cs=(enc l[k])[0]?):=by
 suffices hh:∃b o c cs,x=.sl b o l.length c∧h.cells b=some cs∧(∀{i:V},nat? i=some k→q_iad sz x i=some (.ptr b (o+k*sz)))∧getN (o+k*sz) sz cs=some (enc l[k])∧
   (∀j,j<sz→nth (o+k*sz+j) cs=(enc l[k])[j]?) by
  obtain⟨b,o,c,cs,a1,a2,a3,a4,a5⟩:=hh
  exact⟨b,o,c,cs,a1,a2,a3,a4,a5,fun h0=>a5 0 h0⟩
 obtain⟨b,o,n,c,cs,e1,e2,e3,e4,e5,e6⟩:=a.row (k:=k) (by simpa using hk)
 have hn:n=l.length:=by
  rcases a.2.2 with⟨e,_⟩|⟨b',o',c',cs',e',_⟩
  ·rw[e] at e1;cases e1
  ·rw[e'] at e1;cases e1;simp
 subst hn
 refine⟨b,o,c,cs,e1,e3,e4,by rw[e5];simp,fun j hj=>?_⟩
 rw[e6 j hj]
 simp only[List.getElem_map]
 rw[List.getElem?_eq_getElem]
theorem SlAt.new {h:H}{b n:Nat}{k:Kd}{c:Cap}{cs:List V}{sz:Nat}(rows:List (List V))(e:b=h.next)(hn:n=rows.length)(hc:cs=rows.flatten)(hsz:∀r∈rows,r.length=sz)(hl:rows.length≤9223372036854775807):
  SlAt (h.add (.cells k cs)) (.sl b 0 n c) sz rows:=by
 subst hn;subst hc
 refine⟨hsz,hl,.inr ⟨b,0,c,_,rfl,.inr (cells_add_new e),getN_eq.2 ⟨?_,?_⟩⟩⟩
 ·rw[List.drop_zero,←flatten_len hsz,List.take_length]
 ·rw[flatten_len hsz];omega
def OwnSl (h0 h:H)(x:V)(sz:Nat)(rows:List (List V)):Prop:=
 h0.Sub h∧(∀r∈rows,r.length=sz)∧((x=.nils∧rows=[])∨∃b,x=.sl b 0 rows.length (.slk 0 0)∧h0.next≤b∧b<h.next∧h.get b=some (.cells (.gr sz) rows.flatten))
theorem OwnSl.sl {h0 h:H}{x:V}{sz:Nat}{rows:List (List V)}(a:OwnSl h0 h x sz rows)(hl:rows.length≤9223372036854775807):SlAt h x sz rows:=by
 obtain⟨_,a1,a2⟩:=a
 refine⟨a1,hl,?_⟩
 rcases a2 with a2|⟨b,e,_,_,hb⟩
 ·exact .inl a2
 ·refine .inr ⟨b,0,_,_,e,.inr (cells_of hb),getN_eq.2 ⟨?_,?_⟩⟩
  ·rw[List.drop_zero,←flatten_len a1,List.take_length]
  ·rw[flatten_len a1];omega
theorem OwnSl.nil {h0 h:H}(hs:h0.Sub h)(sz:Nat):OwnSl h0 h .nils sz []:=⟨hs,by simp,.inl ⟨rfl,rfl⟩⟩
theorem OwnSl.mono {h0 h h':H}{x:V}{sz:Nat}{rows:List (List V)}(a:OwnSl h0 h x sz rows)(hs:h.Sub h'):OwnSl h0 h' x sz rows:=by
 obtain⟨a0,a1,a2⟩:=a
 refine⟨a0.trans hs,a1,?_⟩
 rcases a2 with a2|⟨b,e,l1,l2,hb⟩
 ·exact .inl a2
 ·exact .inr ⟨b,e,l1,Nat.lt_of_lt_of_le l2 hs.next,hs.get hb⟩
def Keeps (S:Nat→Prop)(h h':H):Prop:=h.next≤h'.next∧∀c y,h.get c=some y→¬S c→h'.get c=some y
def blkOf (x:V)(b:Nat):Prop:=∃o n c,x=.sl b o n c
theorem Keeps.refl (S:Nat→Prop)(h:H):Keeps S h h:=⟨Nat.le_refl _,fun _ _ e _=>e⟩
theorem Keeps.of {h h':H}(hs:h.Sub h')(S:Nat→Prop):Keeps S h h':=⟨hs.next,fun _ _ e _=>hs.get e⟩
theorem Keeps.trans {S T:Nat→Prop}{h h' h'':H}(a:Keeps S h h')(b:Keeps T h' h''):Keeps (fun c=>S c∨T c) h h'':=
 ⟨Nat.le_trans a.1 b.1,fun c y e n=>b.2 c y (a.2 c y e fun s=>n (.inl s)) fun s=>n (.inr s)⟩
theorem Keeps.mono {S T:Nat→Prop}{h h':H}(a:Keeps S h h')(hst:∀c,S c→T c):Keeps T h h':=⟨a.1,fun c y e n=>a.2 c y e fun s=>n (hst c s)⟩
theorem Keeps.set (h:H)(b:Nat)(x:Blk):Keeps (fun c=>c=b) h (h.set b x):=⟨by rw[H.next_set];exact Nat.le_refl _,fun c y e n=>by rw[get_set_other n];exact e⟩
theorem Keeps.cells {S:Nat→Prop}{h h':H}(a:Keeps S h h'){b:Nat}{cs:List V}(e:h.cells b=some cs)(n:¬S b):h'.cells b=some cs:=by
 obtain⟨k,hk⟩:=H.cells_eq e
 exact H.cells_get (a.2 b _ hk n)
theorem OwnSl.keep {h0 h h':H}{S:Nat→Prop}{x:V}{sz:Nat}{rows:List (List V)}(a:OwnSl h0 h x sz rows)(k:Keeps S h h')(hs:h0.Sub h')(n:∀b,blkOf x b→¬S b):OwnSl h0 h' x sz rows:=by
 obtain⟨_,a1,a2⟩:=a
 refine⟨hs,a1,?_⟩
 rcases a2 with a2|⟨b,e,l1,l2,hb⟩
 ·exact .inl a2
 ·exact .inr ⟨b,e,l1,Nat.lt_of_lt_of_le l2 k.1,k.2 b _ hb (n b ⟨_,_,_,e⟩)⟩
theorem OwnSl.blk {h0 h:H}{x:V}{sz:Nat}{rows:List (List V)}(a:OwnSl h0 h x sz rows){b:Nat}(e:blkOf x b):h0.next≤b∧b<h.next∧h.get b=some (.cells (.gr sz) rows.flatten):=by
 obtain⟨o,n,c,rfl⟩:=e
 rcases a.2.2 with⟨e,_⟩|⟨b',e,l1,l2,hb⟩
 ·cases e
 ·cases e;exact⟨l1,l2,hb⟩
theorem OwnSl.app {h0 h:H}{x y:V}{sz by_:Nat}{rows new:List (List V)}{Q:V→H→Prop}(a:OwnSl h0 h x sz rows)(hw0:h0.wf)(hn:new≠[])(hsz:∀r∈new,r.length=sz)
  (he:elems h sz y=some new.flatten) (hl:lenV y=some new.length) (ho:allOne new.flatten=true) (h1:(rows.length+new.length)*by_≤1099511627776) (h2:rows.length+new.length≤1099511627776)
  (q:∀h',OwnSl h0 h' (.sl h.next 0 (rows.length+new.length) (.slk 0 0)) sz (rows++new)→Keeps (blkOf x) h h'→h'.next=h.next+1→Q (.sl h.next 0 (rows.length+new.length) (.slk 0 0)) h') (h00:0<sz:=by omega):P2 (e_app' h sz by_ x y) Q:=by
 obtain⟨a0,a1,a2⟩:=a
 obtain⟨k,hk⟩:∃k,new.length=k+1:=⟨new.length-1,by have:=List.length_pos_iff.2 hn;omega⟩
 have hall:∀r∈rows++new,r.length=sz:=fun r hr=>(List.mem_append.1 hr).elim (a1 r) (hsz r)
 rw[e_app_eq,he,hl]
 simp only[ob_some]
 rcases a2 with⟨rfl,rfl⟩|⟨b,rfl,l1,l2,hb⟩
 ·rw[hk,e_app_nils,room_ok (by rw[←hk];simpa using h1) (by rw[←hk];simpa using h2),grown_eq,←hk]
  have q':=q (h.add (.cells (.gr sz) new.flatten)) ⟨a0.add _,hall,.inr ⟨h.next,by simp,a0.next,by rw[H.next_add];omega,by rw[get_add_new rfl];simp⟩⟩
   ⟨by rw[H.next_add];omega,fun c y hc _=>by rw[get_add_old (a0.wf c y hc)];exact hc⟩ (by rw[H.next_add])
  simp only[List.length_nil,Nat.zero_add] at q'
  exact q'
 ·rw[hk,e_app_slk h00 hb (flatten_len a1) ho (by rw[←hk];exact h1) (by rw[←hk];exact h2),grownO_eq,←hk]
  have hbn:h.next≠b:=by omega
  have q':=q ((h.add (.cells (.gr sz) (rows.flatten++new.flatten))).set b (.old h.next 0 rows.flatten)) ⟨(a0.add _).set l1 (by rw[H.next_add];omega) hw0 _,hall,.inr ⟨h.next,by rw[List.length_append],a0.next,by rw[H.next_set,H.next_add];omega,
    by rw[get_set_other hbn,get_add_new rfl,List.flatten_append]⟩⟩
   ⟨by rw[H.next_set,H.next_add];omega,fun c y hc hx=>by
    have hne:c≠b:=fun e=>hx ⟨_,_,_,by rw[e]⟩
    rw[get_set_other hne,get_add_old (a0.wf c y hc)];exact hc⟩ (by rw[H.next_set,H.next_add])
  exact q'
end Go.Ab
