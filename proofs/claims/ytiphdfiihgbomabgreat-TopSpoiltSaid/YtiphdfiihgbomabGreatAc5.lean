/- What a slice of rows that comes in is, as our machine sees it. -/
import Derived.Test.YtiphdfiihgbomabGreatAc3
import Derived.Test.YtiphdfiihgbomabGreatAc1
import Derived.ChangeArms
import Derived.DataReads
import Derived.WideShapes
import Derived.WideKeyArgs
set_option linter.unusedSimpArgs false
set_option linter.unusedVariables false
namespace Go.Ab
section
variable {H':Type} {enc:TypeId × Value→H'} {P:Program} {w:World} {base:Nat} {spare:Nat→Bool} {held:Bool}
theorem exists_list {ρ:Type}{n:Nat}{p:Nat→ρ→Prop}(h:∀i,i<n→∃r,p i r):∃l:List ρ,l.length=n∧∀i (hi:i<l.length),p i l[i]:=by
 induction n with
 |zero=>exact⟨[],rfl,fun i hi=>by simp at hi⟩
 |succ n ih=>
  obtain⟨l,h1,h2⟩:=ih fun i hi=>h i (by omega)
  obtain⟨r,hr⟩:=h n (by omega)
  refine⟨l++[r],by simp[h1],fun i hi=>?_⟩
  by_cases e:i<l.length
  ·rw[List.getElem_append_left e];exact h2 i e
  ·have:i=n:=by simp at hi;omega
   subst this
   rw[List.getElem_append_right (by omega)]
   simpa using hr
theorem slice_rows {ρ:Type}{rv:ρ→List Value}{t e:TypeId}{k fuel:Nat}{cs:List Value}{x:DataW H' × List MemPlace}(ht:P.underlying t=some (.slice e))(hk:P.cellsOf e=k)
  (hrow:∀n cs x,DataW.trod enc P w base spare held n e cs=some x→∃r,cs=rv r) (h:DataW.trod enc P w base spare held fuel t cs=some x):
  cs=[.slice none 0 0]∨∃(a:Addr) (len cap:Nat) (rows:List ρ),cs=[.slice (some a) len cap]∧rows.length=len∧len≤maxLen∧∀i (hi:i<rows.length) j,j<k→w.cell? ((a.add (i*k)).add j)=(rv rows[i])[j]? :=by
 rcases DataW.trod_slice ht h with⟨h1,_⟩|⟨a,len,cap,elems,rest,n,_,h1,_,_,h2,h3,h4,h5,_⟩
 ·exact .inl h1
 ·right
  obtain⟨rows,r1,r2⟩:=exists_list (n:=len) (p:=fun i r=>∀j,j<k→w.cell? ((a.add (i*k)).add j)=(rv r)[j]?) fun i hi=>by
   have h6:=h5 i hi
   rw[List.getElem?_eq_getElem (by omega),Option.bind_eq_some_iff] at h6
   obtain⟨row,h7,h8⟩:=h6
   obtain⟨r,rfl⟩:=hrow _ _ _ h8
   obtain⟨_,_,h9⟩:=World.cells?_some h7
   rw[hk] at h9
   exact⟨r,h9⟩
  exact⟨a,len,cap,rows,h1,r1,by omega,r2⟩
theorem flat_at {ρ:Type}{ev:ρ→List V}{k:Nat}(hk:∀r,(ev r).length=k):∀(rows:List ρ) (i j:Nat) (hi:i<rows.length),j<k→(rows.map ev).flatten[i*k+j]? =(ev rows[i])[j]? :=by
 intro rows i j hi hj
 have e:=flatten_drop (rows:=rows.map ev) (sz:=k) i (by simp[hk])
 have e2:=congrArg (fun l=>l[j]?) e
 simp only[List.getElem?_drop] at e2
 rw[e2,←List.map_drop,List.drop_eq_getElem_cons hi,List.map_cons,List.flatten_cons,List.getElem?_append_left (by rw[hk];exact hj)]
theorem rows_is {ρ:Type}{ev:ρ→List V}{rv:ρ→List Value}{k b off:Nat}{φ:Phi}{q:Nat}{rows:List ρ}(hk:∀r,(ev r).length=k)(h0:0<k)(hconc:∀r,(ev r).map (conc φ)=rv r)
  (hcell:∀i (hi:i<rows.length) j,j<k→w.cell? ⟨b,off+(i*k+j),none⟩=(rv rows[i])[j]?) (hne:rows≠[]) (hb:φ.blk q=b) (ho:φ.off q=off):
  ∃o,w.heap[φ.blk q]? =some o∧rowIs φ q .ro (rows.map ev).flatten o:=by
 have hpos:=List.length_pos_iff.2 hne
 have hv:∀i (hi:i<rows.length) j (hj:j<k),∃C e fz,w.heap[b]? =some (.cells C e fz)∧C[off+(i*k+j)]? =(rv rows[i])[j]? ∧∃v,(rv rows[i])[j]? =some v:=by
  intro i hi j hj
  have h1:=hcell i hi j hj
  have hl:((rv rows[i])[j]?).isSome:=by
   rw[←hconc,List.getElem?_map]
   rw[List.getElem?_eq_getElem (by rw[hk];exact hj)];rfl
  obtain⟨v,hv⟩:=Option.isSome_iff_exists.1 hl
  unfold World.cell? at h1
  split at h1
  ·rename_i C e fz he
   simp only[Option.isSome_none,Bool.false_eq_true, ↓reduceIte] at h1
   exact⟨C,e,fz,he,h1,v,hv⟩
  ·rw[hv] at h1;cases h1
 obtain⟨C,e,fz,hC,_,_⟩:=hv 0 hpos 0 h0
 have hall:∀i (hi:i<rows.length) j (hj:j<k),C[off+(i*k+j)]? =(rv rows[i])[j]? ∧∃v,(rv rows[i])[j]? =some v:=by
  intro i hi j hj
  obtain⟨C',e',fz',hC',h1,h2⟩:=hv i hi j hj
  rw[hC] at hC';cases hC'
  exact⟨h1,h2⟩
 refine⟨_,by rw[hb];exact hC,C,e,fz,rfl,fun h=>(by cases h),?_,fun i v hi=>?_,fun sz h=>(by cases h)⟩
 ·have hl:=flatten_len (rows:=rows.map ev) (sz:=k) (by simp[hk])
  rw[List.length_map] at hl
  obtain⟨h1,v,h2⟩:=hall (rows.length-1) (by omega) (k-1) (by omega)
  rw[h2] at h1
  have:=(Array.getElem?_eq_some_iff.1 h1).1
  have e2:rows.length*k=(rows.length-1)*k+k:=by
   have:rows.length=(rows.length-1)+1:=by omega
   rw[this,Nat.add_mul];simp
  rw[ho,hl];omega
 ·have hl:=flatten_len (rows:=rows.map ev) (sz:=k) (by simp[hk])
  rw[List.length_map] at hl
  have hlt:=(List.getElem?_eq_some_iff.1 hi).1
  rw[hl] at hlt
  have hq:i/k<rows.length:=(Nat.div_lt_iff_lt_mul h0).2 hlt
  have hr:i%k<k:=Nat.mod_lt _ h0
  have hi2:i=i/k*k+i%k:=by rw[Nat.mul_comm];exact(Nat.div_add_mod i k).symm
  obtain⟨h1,_⟩:=hall (i/k) hq (i%k) hr
  have hf:=flat_at hk rows (i/k) (i%k) hq hr
  rw[←hi2] at hf h1
  rw[hi] at hf
  rw[ho,h1,←hconc,List.getElem?_map,←hf];rfl
end
end Go.Ab
