/- Operations that lay a new block are sound. -/
import Derived.Test.YtiphdfiihgbomabGreatAb9
set_option linter.unusedSimpArgs false
set_option linter.unusedVariables false
namespace Go.Ab
def upd (g:Nat→Option Blk)(b:Nat)(x:Option Blk):Nat→Option Blk:=fun c=>if c=b then x else g c
theorem upd_same {g:Nat→Option Blk}{b:Nat}{x:Option Blk}:upd g b x b=x:=by simp[upd]
theorem upd_ne {g:Nat→Option Blk}{b c:Nat}{x:Option Blk}(h:c≠b):upd g b x c=g c:=by simp[upd,h]
def Phi.set (φ:Phi)(b B o c:Nat):Phi:=⟨fun x=>if x=b then B else φ.blk x,fun x=>if x=b then o else φ.off x,fun x=>if x=b then c else φ.cap x⟩
def grow (p:Nat→Prop)(n m:Nat):Nat→Prop:=fun b=>p b∨(n≤b∧b<m)
theorem grow_self {p:Nat→Prop}{n:Nat}:grow p n n=p:=by
 funext b;simp only[grow];apply propext;constructor
 ·rintro(h|h)
  ·exact h
  ·omega
 ·exact fun h=>.inl h
theorem grow_left {p:Nat→Prop}{n m:Nat}{b:Nat}(h:p b):grow p n m b:=.inl h
theorem grow_new {p:Nat→Prop}{n:Nat}:grow p n (n+1) n:=.inr ⟨Nat.le_refl _,Nat.lt_succ_self _⟩
theorem grow_one {p:Nat→Prop}{n b:Nat}(h:grow p n (n+1) b)(hb:b≠n):p b:=by
 rcases h with h|h
 ·exact h
 ·omega
theorem Phi.set_agree {φ:Phi}{p:Nat→Prop}{b B o c:Nat}(hb:¬p b):φ.agree (φ.set b B o c) p:=by
 intro x hx
 have:x≠b:=fun e=>hb (e▸hx)
 simp[Phi.set,this]
theorem H.get_add (h:H)(x:Blk):(h.add x).get=upd h.get h.next (some x):=by
 funext c;simp only[H.get,H.add_eq,upd,T.get_put_eq]
theorem H.get_set (h:H)(b:Nat)(x:Blk):(h.set b x).get=upd h.get b (some x):=by
 funext c;simp only[H.get,H.set_eq,upd,T.get_put_eq]
theorem H.get_del (h:H)(b:Nat):(h.del b).get=upd h.get b none:=by
 funext c;simp only[H.get,H.del_eq,upd,T.get_put_eq]
theorem H.next_add (h:H)(x:Blk):(h.add x).next=h.next+1:=by simp[H.add_eq]
theorem H.next_set (h:H)(b:Nat)(x:Blk):(h.set b x).next=h.next:=by simp[H.set_eq]
theorem H.next_del (h:H)(b:Nat):(h.del b).next=h.next:=by simp[H.del_eq]
section
variable {P:Program} {Ty:Nat→Option TD} {φ:Phi} {p:Nat→Prop} {w w':World} {g g':Nat→Option Blk}
theorem Rep.none (hR:Rep Ty φ g p w){b:Nat}(hb:¬p b):g b=none:=by
 cases h:g b with
 |none=>rfl
 |some x=>exact absurd (hR.sc b x h).1 hb
theorem Rep.lt (hR:Rep Ty φ g p w){b:Nat}{x:Blk}(hb:g b=some x):φ.blk b<w.heap.size:=by
 obtain⟨o,ho,_⟩:=hR.blk b x hb
 exact(Array.getElem?_eq_some_iff.1 ho).1
theorem Rep.subset (hR:Rep Ty φ g p w)(h:∀b x,g' b=some x→g b=some x):Rep Ty φ g' p w:=
 ⟨fun b x hb=>hR.blk b x (h b x hb),fun b c x y hb hc=>hR.inj b c x y (h b x hb) (h c y hc),fun b x hb=>hR.sc b x (h b x hb)⟩
theorem Ext.subset (h:∀b x,g' b=some x→g b=some x):Ext φ p g w φ p g' w:=
 ⟨φ.agree_refl p,fun _ h=>h,Nat.le_refl _,fun _ _ _=>rfl,fun b x hb=>.inr ⟨b,x,h b x hb,.refl,rfl⟩,rfl,rfl⟩
theorem Rep.heap (hR:Rep Ty φ g p w)(h:w'.heap=w.heap):Rep Ty φ g p w':=
 ⟨fun b x hb=>by rw[h];exact hR.blk b x hb,hR.inj,hR.sc⟩
theorem Ext.heap (h:w'.heap=w.heap)(hv:w'.os=w.os∧w'.output=w.output:=by exact⟨rfl,rfl⟩):Ext φ p g w φ p g w':=
 ⟨φ.agree_refl p,fun _ h=>h,by rw[h];exact Nat.le_refl _,fun _ _ _=>by rw[h],fun b x hb=>.inr ⟨b,x,hb,.refl,rfl⟩,hv⟩
theorem rep_new (hR:Rep Ty φ g p w){b:Nat}(hb:¬p b){x:Blk}{o:Obj}{c:Nat}(hw:w'.heap=w.heap.push o)
  (hx:blkIs Ty (φ.set b w.heap.size 0 c) b x o) (hs:x.sc (grow p b (b+1))) (hv:w'.os=w.os∧w'.output=w.output:=by exact⟨rfl,rfl⟩):
  Rep Ty (φ.set b w.heap.size 0 c) (upd g b (some x)) (grow p b (b+1)) w'∧Ext φ p g w (φ.set b w.heap.size 0 c) (grow p b (b+1)) (upd g b (some x)) w':=by
 have hblk:∀d,d≠b→(φ.set b w.heap.size 0 c).blk d=φ.blk d:=fun d hd=>by simp[Phi.set,hd]
 have hbb:(φ.set b w.heap.size 0 c).blk b=w.heap.size:=by simp[Phi.set]
 have hold:∀B,B<w.heap.size→w'.heap[B]? =w.heap[B]? :=fun B hB=>by
  rw[hw,Array.getElem?_push];have:B≠w.heap.size:=by omega
  simp[this]
 refine⟨⟨fun d y hd=>?_,fun d e y z hd he hy hne=>?_,fun d y hd=>?_⟩,⟨Phi.set_agree hb,fun _ h=>.inl h,by rw[hw];simp,fun B hB _=>hold B hB,fun d y hd=>?_,hv⟩⟩
 ·by_cases hdb:d=b
  ·subst hdb
   rw[upd_same] at hd;cases hd
   exact⟨o,by rw[hbb,hw];simp,hx⟩
  ·rw[upd_ne hdb] at hd
   obtain⟨o',ho',hi⟩:=hR.blk d y hd
   refine⟨o',?_,hi.agree (Phi.set_agree hb) (hR.sc d y hd).1 (hR.sc d y hd).2⟩
   rw[hblk d hdb,hold _ (hR.lt hd),ho']
 ·by_cases hdb:d=b
  ·subst hdb
   have heb:e≠d:=Ne.symm hne
   rw[upd_ne heb] at he
   rw[hbb,hblk e heb]
   have:=hR.lt he
   exact .inl (by omega)
  ·rw[upd_ne hdb] at hd
   rw[hblk d hdb]
   by_cases heb:e=b
   ·subst heb
    rw[hbb]
    have:=hR.lt hd
    exact .inl (by omega)
   ·rw[upd_ne heb] at he
    rw[hblk e heb]
    exact(hR.inj d e y z hd he hy hne).imp id fun h=>Blk.dup_agree h (Phi.set_agree hb) (hR.sc e z he).1 (hR.sc e z he).2
 ·by_cases hdb:d=b
  ·subst hdb
   rw[upd_same] at hd;cases hd
   exact⟨grow_new,hs⟩
  ·rw[upd_ne hdb] at hd
   exact⟨.inl (hR.sc d y hd).1,Blk.sc_mono (fun _ h=>.inl h) (hR.sc d y hd).2⟩
 ·by_cases hdb:d=b
  ·subst hdb;exact .inl (by rw[hbb];exact Nat.le_refl _)
  ·rw[upd_ne hdb] at hd
   exact .inr ⟨d,y,hd,.refl,(hblk d hdb).symm⟩
theorem rep_put (hR:Rep Ty φ g p w){b:Nat}{x y:Blk}(hb:g b=some x)(hx:x.rw=true){o:Obj}(hw:w'.heap.size=w.heap.size)
  (hat:w'.heap[φ.blk b]? =some o) (hother:∀B,B≠φ.blk b→w'.heap[B]? =w.heap[B]?) (ho:blkIs Ty φ b y o) (hs:y.sc p) (hv:w'.os=w.os∧w'.output=w.output:=by exact⟨rfl,rfl⟩):
  Rep Ty φ (upd g b (some y)) p w'∧Ext φ p g w φ p (upd g b (some y)) w':=by
 refine⟨⟨fun d z hd=>?_,fun d e z z' hd he hz hne=>?_,fun d z hd=>?_⟩,⟨φ.agree_refl p,fun _ h=>h,by rw[hw];exact Nat.le_refl _,fun B hB hne=>hother B (fun e=>hne b x hb hx e.symm),fun d z hd=>?_,hv⟩⟩
 ·by_cases hdb:d=b
  ·subst hdb
   rw[upd_same] at hd;cases hd
   exact⟨o,hat,ho⟩
  ·rw[upd_ne hdb] at hd
   obtain⟨o',ho',hi⟩:=hR.blk d z hd
   rcases hR.inj b d x z hb hd hx (Ne.symm hdb) with hne|hdup
   ·exact⟨o',by rw[hother _ (Ne.symm hne),ho'],hi⟩
   ·have hlt:=hR.lt hd
    rw[←hw] at hlt
    exact⟨_,Array.getElem?_eq_getElem hlt,Blk.dup_is hdup⟩
 ·by_cases hdb:d=b
  ·subst hdb
   rw[upd_ne (Ne.symm hne)] at he
   exact hR.inj d e x z' hb he hx hne
  ·rw[upd_ne hdb] at hd
   by_cases heb:e=b
   ·subst heb;exact(hR.inj d e z x hd hb hz hne).imp id fun h=>by have:=Blk.dup_old h;rw[Blk.rw_old hx] at this;cases this
   ·rw[upd_ne heb] at he;exact hR.inj d e z z' hd he hz hne
 ·by_cases hdb:d=b
  ·subst hdb
   rw[upd_same] at hd;cases hd
   exact⟨(hR.sc d x hb).1,hs⟩
  ·rw[upd_ne hdb] at hd;exact hR.sc d z hd
 ·by_cases hdb:d=b
  ·subst hdb;exact .inr ⟨d,x,hb,.ofRw hx,rfl⟩
  ·rw[upd_ne hdb] at hd;exact .inr ⟨d,z,hd,.refl,rfl⟩
theorem rep_move (hR:Rep Ty φ g p w){b n:Nat}{x y:Blk}(hb:g b=some x)(hx:x.rw=true)(hn:¬p n){o:Obj}{off cap:Nat}(hw:w'.heap.size=w.heap.size)
  (hat:w'.heap[φ.blk b]? =some o) (hother:∀B,B≠φ.blk b→w'.heap[B]? =w.heap[B]?) (ho:blkIs Ty (φ.set n (φ.blk b) off cap) n y o) (hs:y.sc (grow p n (n+1))) (hv:w'.os=w.os∧w'.output=w.output:=by exact⟨rfl,rfl⟩):
  Rep Ty (φ.set n (φ.blk b) off cap) (upd (upd g b none) n (some y)) (grow p n (n+1)) w'∧
   Ext φ p g w (φ.set n (φ.blk b) off cap) (grow p n (n+1)) (upd (upd g b none) n (some y)) w':=by
 have hblk:∀d,d≠n→(φ.set n (φ.blk b) off cap).blk d=φ.blk d:=fun d hd=>by simp[Phi.set,hd]
 have hnn:(φ.set n (φ.blk b) off cap).blk n=φ.blk b:=by simp[Phi.set]
 have old:∀d z,d≠n→upd (upd g b none) n (some y) d=some z→d≠b∧g d=some z:=by
  intro d z hd h
  rw[upd_ne hd] at h
  by_cases hdb:d=b
  ·subst hdb;rw[upd_same] at h;cases h
  ·rw[upd_ne hdb] at h;exact⟨hdb,h⟩
 refine⟨⟨fun d z hd=>?_,fun d e z z' hd he hz hne=>?_,fun d z hd=>?_⟩,⟨Phi.set_agree hn,fun _ h=>.inl h,by rw[hw];exact Nat.le_refl _,fun B hB hne=>hother B (fun e=>hne b x hb hx e.symm),fun d z hd=>?_,hv⟩⟩
 ·by_cases hdn:d=n
  ·subst hdn
   rw[upd_same] at hd;cases hd
   exact⟨o,by rw[hnn];exact hat,ho⟩
  ·obtain⟨hdb,hd⟩:=old d z hdn hd
   obtain⟨o',ho',hi⟩:=hR.blk d z hd
   rcases hR.inj b d x z hb hd hx (Ne.symm hdb) with hne|hdup
   ·refine⟨o',?_,hi.agree (Phi.set_agree hn) (hR.sc d z hd).1 (hR.sc d z hd).2⟩
    rw[hblk d hdn,hother _ (Ne.symm hne),ho']
   ·have hlt:=hR.lt hd
    rw[←hw,←hblk d hdn] at hlt
    exact⟨_,Array.getElem?_eq_getElem hlt,Blk.dup_is (Blk.dup_agree hdup (Phi.set_agree hn) (hR.sc d z hd).1 (hR.sc d z hd).2)⟩
 ·by_cases hdn:d=n
  ·subst hdn
   obtain⟨heb,he⟩:=old e z' (Ne.symm hne) he
   rw[hnn,hblk e (Ne.symm hne)]
   exact(hR.inj b e x z' hb he hx (Ne.symm heb)).imp id fun h=>Blk.dup_agree h (Phi.set_agree hn) (hR.sc e z' he).1 (hR.sc e z' he).2
  ·obtain⟨hdb,hd'⟩:=old d z hdn hd
   rw[hblk d hdn]
   by_cases hen:e=n
   ·subst hen;rw[hnn];exact(hR.inj d b z x hd' hb hz hdb).imp id fun h=>by have:=Blk.dup_old h;rw[Blk.rw_old hx] at this;cases this
   ·obtain⟨heb,he⟩:=old e z' hen he
    rw[hblk e hen]
    exact(hR.inj d e z z' hd' he hz hne).imp id fun h=>Blk.dup_agree h (Phi.set_agree hn) (hR.sc e z' he).1 (hR.sc e z' he).2
 ·by_cases hdn:d=n
  ·subst hdn
   rw[upd_same] at hd;cases hd
   exact⟨grow_new,hs⟩
  ·obtain⟨hdb,hd⟩:=old d z hdn hd
   exact⟨.inl (hR.sc d z hd).1,Blk.sc_mono (fun _ h=>.inl h) (hR.sc d z hd).2⟩
 ·by_cases hdn:d=n
  ·subst hdn
   exact .inr ⟨b,x,hb,.ofRw hx,hnn.symm⟩
  ·obtain⟨hdb,hd⟩:=old d z hdn hd
   exact .inr ⟨d,z,hd,.refl,(hblk d hdn).symm⟩
theorem rep_old (hR:Rep Ty φ g p w){b n o:Nat}{k:Kd}{cs:List V}(hb:g b=some (.cells k cs))(hk:k.isRw=true)(hn:p n):
  Rep Ty φ (upd g b (some (.old n o (cs.drop o)))) p w∧Ext φ p g w φ p (upd g b (some (.old n o (cs.drop o)))) w:=by
 have hx:(Blk.cells k cs).rw=true:=hk
 have hsc:(Blk.old n o (cs.drop o)).sc p:=⟨hn,scL_iff.2 fun z hz=>scL_iff.1 (hR.sc b _ hb).2 z (List.mem_of_mem_drop hz)⟩
 refine⟨⟨fun d z hd=>?_,fun d e z z' hd he hz hne=>?_,fun d z hd=>?_⟩,⟨φ.agree_refl p,fun _ h=>h,Nat.le_refl _,fun _ _ _=>rfl,fun d z hd=>?_,rfl,rfl⟩⟩
 ·by_cases hdb:d=b
  ·subst hdb
   rw[upd_same] at hd;cases hd
   obtain⟨ob,ho,C,e,fz,rfl,_,_,hC,_⟩:=hR.blk d _ hb
   refine⟨_,ho,.inr ⟨C,e,fz,rfl,fun i v hi=>?_⟩⟩
   rw[List.getElem?_drop] at hi
   rw[Nat.add_assoc];exact hC _ v hi
  ·rw[upd_ne hdb] at hd;exact hR.blk d z hd
 ·by_cases hdb:d=b
  ·subst hdb
   rw[upd_same] at hd;cases hd;cases hz
  ·rw[upd_ne hdb] at hd
   by_cases heb:e=b
   ·subst heb
    exact .inl ((hR.inj d e z _ hd hb hz hne).resolve_right fun h=>h.elim)
   ·rw[upd_ne heb] at he;exact hR.inj d e z z' hd he hz hne
 ·by_cases hdb:d=b
  ·subst hdb
   rw[upd_same] at hd;cases hd
   exact⟨(hR.sc d _ hb).1,hsc⟩
  ·rw[upd_ne hdb] at hd;exact hR.sc d z hd
 ·by_cases hdb:d=b
  ·subst hdb
   rw[upd_same] at hd;cases hd
   exact .inr ⟨d,_,hb,.ofRw hx,rfl⟩
  ·rw[upd_ne hdb] at hd;exact .inr ⟨d,z,hd,.refl,rfl⟩
theorem rep_alias {φ0:Phi}{p0:Nat→Prop}{g0:Nat→Option Blk}{w0:World}(hR:Rep Ty φ g p w)(hE:Ext φ0 p0 g0 w0 φ p g w){b n o s:Nat}{x0:Blk}{cs cs':List V}(hb0:g0 b=some x0)(hx0:x0.rw=true)(hp0:p0 b)(hb:g b=none)(hpb:p b)(hn:g n=some (.cells (.gr s) cs'))
  (e0:φ.blk b=φ0.blk b) (e1:φ.blk b=φ.blk n) (e2:φ.off n=φ.off b+o) (hs:scL p cs):
  Rep Ty φ (upd g b (some (.old n o cs))) p w∧Ext φ0 p0 g0 w0 φ p (upd g b (some (.old n o cs))) w:=by
 refine⟨⟨fun d z hd=>?_,fun d e z z' hd he hz hne=>?_,fun d z hd=>?_⟩,⟨hE.agree,hE.mono,hE.size,hE.kept,fun d z hd=>?_,hE.env⟩⟩
 ·by_cases hdb:d=b
  ·subst hdb
   rw[upd_same] at hd;cases hd
   obtain⟨ob,ho,_⟩:=hR.blk n _ hn
   exact⟨ob,by rw[e1];exact ho,.inl ⟨e1,e2⟩⟩
  ·rw[upd_ne hdb] at hd;exact hR.blk d z hd
 ·by_cases hdb:d=b
  ·subst hdb
   rw[upd_same] at hd;cases hd;cases hz
  ·rw[upd_ne hdb] at hd
   by_cases heb:e=b
   ·subst heb
    rw[upd_same] at he;cases he
    exact .inr ⟨e1,e2⟩
   ·rw[upd_ne heb] at he;exact hR.inj d e z z' hd he hz hne
 ·by_cases hdb:d=b
  ·subst hdb
   rw[upd_same] at hd;cases hd
   exact⟨hpb,(hR.sc n _ hn).1,hs⟩
  ·rw[upd_ne hdb] at hd;exact hR.sc d z hd
 ·by_cases hdb:d=b
  ·subst hdb
   rw[upd_same] at hd;cases hd
   exact .inr ⟨d,x0,hb0,.ofRw hx0,e0.symm⟩
  ·rw[upd_ne hdb] at hd;exact hE.new d z hd
theorem repN_length (n:Nat)(z:List V):(repN n z).length=n*z.length:=by
 induction n with
 |zero=>simp[repN]
 |succ n ih=>simp[repN,appN_eq,ih,Nat.succ_mul,Nat.add_comm]
theorem repN_get {z:List V}(h0:0<z.length)(n i:Nat)(hi:i<n*z.length):(repN n z)[i]? =z[i%z.length]? :=by
 induction n generalizing i with
 |zero=>simp at hi
 |succ n ih=>
  simp only[repN,appN_eq]
  by_cases h:i<z.length
  ·rw[List.getElem?_append_left h,Nat.mod_eq_of_lt h]
  ·rw[List.getElem?_append_right (by omega),ih (i-z.length) (by rw[Nat.succ_mul] at hi;omega)]
   rw[←Nat.mod_eq_sub_mod (by omega)]
theorem repN_row {d:TD}{i:TypeInfo}{u:TypeDesc}{t:TypeId}(hi:TyIs P t d i u)(φ:Phi)(n k:Nat)(hk:k=n*d.size)(h0:0<d.size):
  (Array.range k).map (fun j=>(zeroOf d).cells[j%(zeroOf d).cells.size]!)=((repN n d.z).map (conc φ)).toArray:=by
 subst hk
 rw[zeroOf_cells hi φ]
 apply Array.ext
 ·simp[repN_length,hi.len]
 ·intro j h1 h2
  have hj:j<n*d.z.length:=by rw[hi.len];simpa using h1
  have h3:=repN_get (by rw[hi.len];exact h0) n j hj
  have hm:j%d.z.length<d.z.length:=Nat.mod_lt _ (by rw[hi.len];exact h0)
  have h4:j<(repN n d.z).length:=by rw[repN_length];exact hj
  simp only[Array.getElem_map,Array.getElem_range,List.getElem_toArray,List.getElem_map,List.size_toArray,List.length_map]
  rw[getElem!_pos _ _ (by simpa using hm)]
  simp only[List.getElem_toArray,List.getElem_map]
  rw[List.getElem?_eq_getElem h4,List.getElem?_eq_getElem hm] at h3
  simp only[Option.some.injEq] at h3
  rw[h3]
theorem repN_sc {p:Nat→Prop}{z:List V}(h:scL p z)(n:Nat):scL p (repN n z):=by
 induction n with
 |zero=>trivial
 |succ n ih=>
  simp only[repN,appN_eq]
  rw[scL_iff] at *
  intro v hv
  rcases List.mem_append.1 hv with h1|h1
  ·exact h v h1
  ·exact ih v h1
theorem row_is {φ:Phi}{b:Nat}{cs:List V}{t:TypeId}{c:Nat}:blkIs Ty (φ.set b w.heap.size 0 c) b (.cells .rw cs) (.cells (cs.map (conc (φ.set b w.heap.size 0 c))).toArray t (0,0)):=by
 refine⟨_,_,_,rfl,fun _=>rfl,?_,fun i v hi=>?_,fun sz hk=>by cases hk⟩
 ·simp[Phi.set]
 ·simp[Phi.set,hi]
theorem map_conc_set {φ:Phi}{p:Nat→Prop}{b B o c:Nat}(hb:¬p b){l:List V}(hl:scL p l):l.map (conc φ)=l.map (conc (φ.set b B o c)):=
 map_conc_agree (Phi.set_agree hb) l hl
end
end Go.Ab
