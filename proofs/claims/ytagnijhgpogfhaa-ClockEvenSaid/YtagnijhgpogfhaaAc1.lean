/- What operations give, continued: parts, appends, maps, rows of a typed list. -/
import Derived.Test.YtagnijhgpogfhaaAbZ
set_option linter.unusedSimpArgs false
set_option linter.unusedVariables false
namespace Go.Ab
@[congr] theorem ob_congr {α β:Type} {o o':Option α} {f:α→Option β} (e:o=o'):ob o f=ob o' f:=by rw[e]
@[congr] theorem og_congr {α:Type} {b b':Bool} {x:Option α} (e:b=b'):og b x=og b' x:=by rw[e]
theorem fillN_nil (tm:T V)(z:List V):fillN tm [] z=some z:=rfl
theorem fillN_cons (tm:T V)(o n:Nat)(x:Opd)(ps:List (Nat × Nat × Opd))(z:List V):
  fillN tm ((o,n,x)::ps) z=og (decide (lenN (x.ev tm).cells=n)) (ob (putN o (x.ev tm).cells z) fun z'=>fillN tm ps z'):=by
 simp only[fillN]
 by_cases e:lenN (x.ev tm).cells=n
 ·have hb:Nat.beq (lenN (x.ev tm).cells) n=true:=by simp[e]
  rw[decide_eq_true e,og_true]
  simp only[hb]
  cases putN o (x.ev tm).cells z<;>rfl
 ·have:Nat.beq (lenN (x.ev tm).cells) n=false:=by
   cases hb:Nat.beq (lenN (x.ev tm).cells) n with
   |false=>rfl
   |true=>exact absurd (Nat.eq_of_beq_eq_true hb) e
  simp[this,e]
theorem a_bsl_some (h:H)(n:Nat)(cs:List V):a_bsl h n (some cs)=some (.sl h.next 0 n (.fix n),h.add (.cells .rw cs)):=rfl
def elC (o:Option (List V))(k n:Nat):Option (List V):=match o with|some cs=>getN k n cs|none=>none
theorem elC_some (cs:List V)(k n:Nat):elC (some cs) k n=getN k n cs:=rfl
theorem elems_nils (h:H)(sz:Nat):elems h sz .nils=some []:=rfl
theorem elems_s (h:H)(sz b o n:Nat)(c:Cap):elems h sz (.sl b o (n+1) c)=elC (h.cells b) o ((n+1)*sz):=by
 simp only[elems,elC];cases h.cells b<;>rfl
theorem lenV_nils:lenV .nils=some 0:=rfl
theorem lenV_sl (b o n:Nat)(c:Cap):lenV (.sl b o n c)=some n:=rfl
theorem evQ_ld (tm:T V)(h:H)(ag:Bool)(n:Nat)(x:Opd):evQ tm h (.ld ag n x)=q_ld h ag n (x.ev tm):=rfl
theorem evQ_lks (tm:T V)(h:H)(n:Nat)(z:V)(x i:Opd)(ok:Bool):evQ tm h (.lks n z x i ok)=q_lks h n z (x.ev tm) (i.ev tm) ok:=rfl
theorem evQ_lkp (tm:T V)(h:H)(fl:Option Nat)(z:V)(x i:Opd)(ok:Bool):evQ tm h (.lkp fl z x i ok)=q_lkp h z (x.ev tm) (i.ev tm) ok:=rfl
theorem evQ_lnm (tm:T V)(h:H)(x:Opd):evQ tm h (.lnm x)=q_lnm h (x.ev tm):=rfl
theorem get_del_other {h:H}{b c:Nat}(e:b≠c):(h.del c).get b=h.get b:=by rw[H.get_del,upd,if_neg e]
theorem cells_del_other {h:H}{b c:Nat}(e:b≠c):(h.del c).cells b=h.cells b:=by unfold H.cells;rw[get_del_other e]
theorem addG_eq (i:I)(g:H)(gs:List H):addG i g gs=if 2≤i.kind then gs++[g] else gs:=by
 unfold addG
 by_cases e:2≤i.kind
 ·have:Nat.ble 2 i.kind=true:=by simpa using e
  rw[this,if_pos e]
 ·have:Nat.ble 2 i.kind=false:=by
   cases hb:Nat.ble 2 i.kind with
   |false=>rfl
   |true=>exact absurd (Nat.le_of_ble_eq_true hb) e
  rw[this,if_neg e]
theorem nowG_eq (i:I)(g h:H):nowG i g h=h:=rfl
theorem one_int (k:IntKind)(n:Int):V.one (.int k n)=true:=rfl
theorem cells_int (k:IntKind)(n:Int):V.cells (.int k n)=[.int k n]:=rfl
theorem one_bool (b:Bool):V.one (.bool b)=true:=rfl
theorem cells_bool (b:Bool):V.cells (.bool b)=[.bool b]:=rfl
theorem one_ptr (b o:Nat):V.one (.ptr b o)=true:=rfl
theorem cells_ptr (b o:Nat):V.cells (.ptr b o)=[.ptr b o]:=rfl
theorem one_nilp:V.one (.nilp)=true:=rfl
theorem cells_nilp:V.cells (.nilp)=[.nilp]:=rfl
theorem one_sl (b o n:Nat)(c:Cap):V.one (.sl b o n c)=true:=rfl
theorem cells_sl (b o n:Nat)(c:Cap):V.cells (.sl b o n c)=[.sl b o n c]:=rfl
theorem one_nils:V.one (.nils)=true:=rfl
theorem cells_nils:V.cells (.nils)=[.nils]:=rfl
theorem one_map (b:Nat):V.one (.map b)=true:=rfl
theorem cells_map (b:Nat):V.cells (.map b)=[.map b]:=rfl
theorem one_nilm:V.one (.nilm)=true:=rfl
theorem cells_nilm:V.cells (.nilm)=[.nilm]:=rfl
theorem one_fn (f:FuncId)(x y:List V):V.one (.fn f x y)=true:=rfl
theorem cells_fn (f:FuncId)(x y:List V):V.cells (.fn f x y)=[.fn f x y]:=rfl
theorem one_nilf:V.one (.nilf)=true:=rfl
theorem cells_nilf:V.cells (.nilf)=[.nilf]:=rfl
theorem one_agg (cs:List V):V.one (.agg cs)=false:=rfl
theorem cells_agg (cs:List V):V.cells (.agg cs)=cs:=rfl
def iv (n:Int):V:=.int .i64 n
theorem sameInts_map:∀(l r:List Int),l.length=r.length→sameInts (l.map iv) (r.map iv)=some (decide (l=r))
 |[],[],_=>rfl
 |a::l,b::r,h=>by
  have ih:=sameInts_map l r (by simpa using h)
  simp only[List.map_cons,iv,sameInts,keq_self,ieq_eq]
  have e:sameInts (l.map iv) (r.map iv)=some (decide (l=r)):=ih
  by_cases hab:a=b
  ·subst hab;simp[e]
  ·have:(a==b)=false:=by simpa using hab
   simp[this,e,hab]
theorem q_feq_map {n:Nat}(l r:List Int)(hl:l.length=n)(hr:r.length=n)(ng:Bool):q_feq ng n (.agg (l.map iv)) (.agg (r.map iv))=some (.bool (ngB ng (decide (l=r)))):=by
 have:Nat.beq (lenN (l.map iv)) n=true:=by simp[lenN_eq,hl]
 simp only[q_feq,this,sameInts_map l r (by omega)]
def lkA (i:Int):List (Int × V)→Option V
 |[]=>none
 |p::l=>if i=p.1 then some p.2 else lkA i l
def putA (i:Int)(x:V):List (Int × V)→List (Int × V)
 |[]=>[(i,x)]
 |p::l=>if i=p.1 then(i,x)::l else p::putA i x l
def encA (l:List (Int × V)):List (V × V):=l.map fun p=>(.int .i64 p.1,p.2)
theorem findK_A (i:Int):∀(l:List (Int × V)),findK (.int .i64 i) (encA l)=some (lkA i l)
 |[]=>rfl
 |p::l=>by
  have ih:=findK_A i l
  simp only[encA,List.map_cons,findK,keyEq,keq_self,ieq_eq,lkA]
  simp only[encA] at ih
  by_cases h:i=p.1
  ·simp[h]
  ·have:(i==p.1)=false:=by simpa using h
   simp[this,h,ih]
theorem putK_A (i:Int)(x:V):∀(l:List (Int × V)),putK (.int .i64 i) x (encA l)=some (encA (putA i x l))
 |[]=>rfl
 |p::l=>by
  have ih:=putK_A i x l
  simp only[encA,List.map_cons,putK,keyEq,keq_self,ieq_eq,putA]
  simp only[encA] at ih
  by_cases h:i=p.1
  ·simp[h]
  ·have:(i==p.1)=false:=by simpa using h
   simp[this,h,ih]
def lkC (o:Option Blk)(z k:V)(ok:Bool):Option V:=match o with
 |some (.map es)=>(match findK k es with|some r=>some (found z ok r)|none=>none)
 |_=>none
theorem lkC_map (l:List (Int × V))(z:V)(i:Int)(ok:Bool):lkC (some (.map (encA l))) z (.int .i64 i) ok=some (found z ok (lkA i l)):=by
 simp only[lkC,findK_A]
theorem q_lkp_map (h:H)(z:V)(b:Nat)(k:V)(ok:Bool):q_lkp h z (.map b) k ok=lkC (h.get b) z k ok:=by
 simp only[q_lkp,mapOf,lkC]
 cases h.get b with
 |none=>rfl
 |some x=>
  cases x<;>rfl
noncomputable def muC (o:Option Blk)(h:H)(b:Nat)(k x:V):Option (V × H):=match o with
 |some (.map es)=>(match putK k x es with|some es'=>some (.und,h.set b (.map es'))|none=>none)
 |_=>none
theorem muC_map (l:List (Int × V))(h:H)(b:Nat)(i:Int)(x:V):muC (some (.map (encA l))) h b (.int .i64 i) x=some (.und,h.set b (.map (encA (putA i x l)))):=by
 simp only[muC,putK_A]
theorem e_mup_map (h:H)(b:Nat)(k x:V):e_mup h (.map b) k x=muC (h.get b) h b k x:=by
 simp only[e_mup,muC]
 cases h.get b with
 |none=>rfl
 |some y=>
  cases y<;>rfl
theorem getN_full {l:List V}{n:Nat}(h:l.length=n):getN 0 n l=some l:=getN_eq.2 ⟨by rw[List.drop_zero,←h,List.take_length],by omega⟩
theorem SlAt.one {h:H}{x:V}{sz:Nat}{rows:List (List V)}(a:SlAt h x sz rows):x.one=true:=by
 rcases a.2.2 with⟨rfl,_⟩|⟨_,_,_,_,rfl,_⟩<;>rfl
theorem SlAt.lenE {α:Type}{enc:α→List V}{l:List α}{h:H}{x:V}{sz:Nat}(a:SlAt h x sz (l.map enc)):q_len x=some (.int .i64 (l.length:Int)):=by rw[a.len,List.length_map]
theorem SlAt.boundE {α:Type}{enc:α→List V}{l:List α}{h:H}{x:V}{sz:Nat}(a:SlAt h x sz (l.map enc)):l.length≤9223372036854775807:=by have:=a.bound;rwa[List.length_map] at this
theorem SlAt.at {α:Type}{enc:α→List V}{l:List α}{h:H}{x:V}{sz:Nat}(a:SlAt h x sz (l.map enc)){k:Nat}(hk:k<l.length):
  ∃b o c cs,x=.sl b o l.length c∧h.cells b=some cs∧(∀{i:V},nat? i=some k→q_iad sz x i=some (.ptr b (o+k*sz)))∧getN (o+k*sz) sz cs=some (enc l[k])∧
   (∀j,j<sz→nth (o+k*sz+j) cs=(enc l[k])[j]?)∧(0<sz→nth (o+k*sz) cs=(enc l[k])[0]?):=by
 suffices hh:∃b o c cs,x=.sl b o l.length c∧h.cells b=some cs∧(∀{i:V},nat? i=some k→q_iad sz x i=some (.ptr b (o+k*sz)))∧getN (o+k*sz) sz cs=some (enc l[k])∧
   (∀j,j<sz→nth (o+k*sz+j) cs=(enc l[k])[j]?) by
  obtain⟨b,o,c,cs,a1,a2,a3,a4,a5⟩:=hh
  exact⟨b,o,c,cs,a1,a2,a3,a4,a5,fun h0=>a5 0 h0⟩
 obtain⟨b,o,n,c,cs,e1,e2,e3,e4,e5,e6⟩:=a.row (k:=k) (by simpa using hk)
 have hn:n=l.length:=by
  rcases a.2.2 with⟨e,_⟩|⟨b',o',c',cs',e',_⟩
  ·rw[e] at e1;cases e1
  ·rw[e'] at e1;cases e1;simp
 subst hn
 refine⟨b,o,c,cs,e1,e3,e4,by rw[e5];simp,fun j hj=>?_⟩
 rw[e6 j hj]
 simp only[List.getElem_map]
 rw[List.getElem?_eq_getElem]
theorem SlAt.new {h:H}{b n:Nat}{k:Kd}{c:Cap}{cs:List V}{sz:Nat}(rows:List (List V))(e:b=h.next)(hn:n=rows.length)(hc:cs=rows.flatten)(hsz:∀r∈rows,r.length=sz)(hl:rows.length≤9223372036854775807):
  SlAt (h.add (.cells k cs)) (.sl b 0 n c) sz rows:=by
 subst hn;subst hc
 refine⟨hsz,hl,.inr ⟨b,0,c,_,rfl,.inr (cells_add_new e),getN_eq.2 ⟨?_,?_⟩⟩⟩
 ·rw[List.drop_zero,←flatten_len hsz,List.take_length]
 ·rw[flatten_len hsz];omega
end Go.Ab
