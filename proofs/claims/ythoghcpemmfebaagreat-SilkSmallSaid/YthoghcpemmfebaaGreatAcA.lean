import Derived.Test.YthoghcpemmfebaaGreatAbT
import Derived.Test.YthoghcpemmfebaaGreatAbC
import Derived.Shelf.Sort.Plain
import Derived.Shelf.Slices.In.SortNone
set_option linter.unusedSimpArgs false
set_option linter.unusedVariables false
namespace Go.Ab
open Go.Sort Go.Proofs Go.Shelf
def insI (x:Int):List Int→List Int
 |[]=>[x]
 |y::l=>match ilt y x with|true=>y::insI x l|false=>x::y::l
def Wn:List Int→List Int
 |[]=>[]
 |x::l=>insI x (Wn l)
theorem insI_perm (x:Int):∀l:List Int,(insI x l).Perm (x::l)
 |[]=>List.Perm.refl _
 |y::l=>by
  simp only[insI]
  split
  ·exact((insI_perm x l).cons y).trans (List.Perm.swap x y l)
  ·exact List.Perm.refl _
theorem sortI_perm:∀l:List Int,(Wn l).Perm l
 |[]=>List.Perm.refl _
 |x::l=>(insI_perm x (Wn l)).trans ((sortI_perm l).cons x)
theorem insI_sorted (x:Int):∀{l:List Int},l.Pairwise (· ≤ ·)→(insI x l).Pairwise (· ≤ ·)
 |[],_=>by simp[insI]
 |y::l,h=>by
  obtain⟨h1,h2⟩:=List.pairwise_cons.1 h
  simp only[insI,Vy]
  by_cases hxy:y<x
  ·simp only[hxy,decide_true]
   refine List.pairwise_cons.2 ⟨fun z hz=>?_,insI_sorted x h2⟩
   have:=(insI_perm x l).mem_iff.1 hz
   simp only[List.mem_cons] at this
   rcases this with rfl|hz
   ·omega
   ·exact h1 z hz
  ·simp only[hxy,decide_false]
   refine List.pairwise_cons.2 ⟨fun z hz=>?_,h⟩
   simp only[List.mem_cons] at hz
   rcases hz with rfl|hz
   ·omega
   ·have:=h1 z hz;omega
theorem sortI_sorted:∀l:List Int,(Wn l).Pairwise (· ≤ ·)
 |[]=>List.Pairwise.nil
 |x::l=>insI_sorted x (sortI_sorted l)
theorem sorted_unique:∀{l r:List Int},l.Perm r→l.Pairwise (· ≤ ·)→r.Pairwise (· ≤ ·)→l=r
 |[],r,h,_,_=>by rw[h.symm.eq_nil]
 |x::l,[],h,_,_=>by have:=h.eq_nil;cases this
 |x::l,y::r,h,h1,h2=>by
  obtain⟨a1,a2⟩:=List.pairwise_cons.1 h1
  obtain⟨b1,b2⟩:=List.pairwise_cons.1 h2
  have e1:x∈y::r:=h.mem_iff.1 (by simp)
  have e2:y∈x::l:=h.mem_iff.2 (by simp)
  have:x=y:=by
   simp only[List.mem_cons] at e1 e2
   rcases e1 with rfl|e1
   ·rfl
   ·rcases e2 with e2|e2
    ·exact e2.symm
    ·have:=b1 x e1;have:=a1 y e2;omega
  subst this
  rw[sorted_unique ((List.perm_cons x).1 h) a2 b2]
theorem sortI_merge (l:List Int):(l.mergeSort fun x y=>decide (x≤y))=Wn l:=by
 refine sorted_unique ((List.mergeSort_perm l _).trans (sortI_perm l).symm) ?_ (sortI_sorted l)
 have:=List.pairwise_mergeSort (le:=fun(x y:Int)=>decide (x≤y)) (fun a b c h1 h2=>by simp at h1 h2⊢;omega) (fun a b=>by simp;omega) l
 exact this.imp fun h=>by simpa using h
def intsOf:List V→Option (List Int)
 |[]=>some []
 |v::l=>match v with
  |.int k n=>(match keq k .i64 with
   |true=>(match intsOf l with|some r=>some (n::r)|none=>none)
   |false=>none)
  |_=>none
theorem intsOf_eq:∀{l:List V} {r:List Int},intsOf l=some r→l=r.map (V.int .i64)
 |[],r,h=>by simp only[intsOf,Option.some.injEq] at h;subst h;rfl
 |v::l,r,h=>by
  simp only[intsOf] at h
  split at h
  ·split at h
   ·rename_i k n hk
    split at h
    ·rename_i r' hr
     cases h
     rw[WP.1 hk,intsOf_eq hr];rfl
    ·cases h
   ·cases h
  ·cases h
noncomputable def sortF:List V→H→Option (V × H)
 |[x],h=>match x with
  |.nils=>some (.tup [],h)
  |.sl b o n _=>og (Nat.blt 0 n) (og (Nat.blt n 4611686018427387904) (match h.cells b with
   |some cs=>(match WQ o n cs with
    |some vs=>(match intsOf vs with
     |some zs=>XC (.tup []) (h.put b o ((Wn zs).map (V.int .i64)))
     |none=>none)
    |none=>none)
   |none=>none))
  |_=>none
 |_,_=>none
section
variable {P:Program} {Ty:Nat→Option TD}
theorem callsIn_wide_of {L:List FuncId}{n m:Nat}{f:FuncId}{args:Array Value}{w:World}{R:Ending→World→Prop}{F:Fence}(hF:W0 F)
  (h:∀D:Nat,CallsIn (Fence.list L (some D)) n P f args w R):CallsIn F m P f args w R:=
 ⟨hF.fn f,fun cs _=>
  let⟨e,w',fr,r,s,x⟩:=(h (cs.length+1+n)).2 cs (fun _ hd=>by cases hd;exact Nat.le_refl _)
  ⟨e,w',fr,r,ComesIn.mono (fun _ hm g hg=>let⟨a,_,_,_⟩:=hm g hg;⟨fun _=>a rfl,.inl (hF.fn _),fun k _=>hF.fn k,hF.room _⟩) s,x⟩⟩
theorem Rep.over {φ:Phi}{g:Nat→Option Blk}{p:Nat→Prop}{w w':World}(hR:Rep Ty φ g p w)(h:∀B,B<w.heap.size→w'.heap[B]? =w.heap[B]?):Rep Ty φ g p w':=
 ⟨fun b x hb=>by rw[h _ (hR.lt hb)];exact hR.blk b x hb,hR.inj,hR.sc⟩
theorem put_cells {h h':H}{b o:Nat}{v:V}{vs:List V}(hp:h.put b o (v::vs)=some h'):∃k cs cs',k.isRw=true∧h.get b=some (.cells k cs)∧Yl o (v::vs) cs=some cs'∧Z5 (v::vs)=true∧h'=h.set b (.cells k cs'):=by
 unfold H.put at hp
 split at hp
 ·rename_i e;cases e
 ·rename_i e
  cases e
  split at hp
  ·rename_i h1
   split at hp
   ·rename_i cs hb
    unfold V2 at hp
    split at hp
    ·rename_i cs' hq;cases hp;exact⟨.rw,cs,cs',rfl,hb,hq,h1,rfl⟩
    ·cases hp
   ·rename_i s cs hb
    unfold V2 at hp
    split at hp
    ·rename_i cs' hq;cases hp;exact⟨.gr s,cs,cs',rfl,hb,hq,h1,rfl⟩
    ·cases hp
   ·cases hp
  ·cases hp
theorem sortF_ok {ρ:Ren}(Ly:Lays.n189 P ρ){args:List V}{h h':H}{v:V}(hs:sortF args h=some (v,h')):Y6 P Ty (ρ.f 189) args h v h':=by
 unfold sortF at hs
 split at hs
 ·rename_i x
  split at hs
  ·cases hs
   refine⟨H.le_refl _,fun{F n φ p w} hF hfr hR ha hwf=>?_⟩
   refine callsIn_wide_of hF fun D=>(AnyS.slices_Sort_int_none_in Ly D none 0 w).mono fun e w' he=>?_
   obtain⟨rfl,rfl⟩:=he
   exact⟨φ,rfl,Done.refl hR,trivial⟩
  ·rename_i b o n c
   simp only[Y9] at hs
   obtain⟨hn0,hn1,hs⟩:=hs
   have hn0:0<n:=by simpa using hn0
   have hn1:n<4611686018427387904:=by simpa using hn1
   split at hs
   ·rename_i cs hcs
    split at hs
    ·rename_i vs hvs
     split at hs
     ·rename_i zs hzs
      have hzv:=intsOf_eq hzs
      have hgn:=Z9.1 hvs
      have hlen:zs.length=n:=by
       have:vs.length=n:=by rw[hgn.1,List.length_take,List.length_drop];omega
       rw[hzv,List.length_map] at this;exact this
      have hsl:(Wn zs).length=n:=by rw[(sortI_perm zs).length_eq,hlen]
      obtain⟨s0,sr,hsr⟩:∃s0 sr,Wn zs=s0::sr:=by
       cases hq:Wn zs with
       |nil=>rw[hq] at hsl;simp at hsl;omega
       |cons a l=>exact⟨a,l,rfl⟩
      cases hput:h.put b o ((Wn zs).map (V.int .i64)) with
      |none=>rw[hput] at hs;cases hs
      |some h1=>
       rw[hput] at hs
       simp only[XC,Option.some.injEq,Prod.mk.injEq] at hs
       obtain⟨rfl,rfl⟩:=hs
       have hput0:=hput
       rw[hsr] at hput
       obtain⟨k,cs1,cs',hk,hb,hp,ho,rfl⟩:=put_cells hput
       have:cs1=cs:=by unfold H.cells at hcs;rw[hb] at hcs;exact Option.some.inj hcs
       subst this
       have hp:Yl o ((Wn zs).map (V.int .i64)) cs1=some cs':=by rw[hsr];exact hp
       refine⟨H.le_set hb,fun{F m φ p w} hF hfr hR ha hwf=>?_⟩
       rw[H.next_set] at hfr
       obtain⟨C,e,fz,hat,hfz,hl,hc,hg⟩:=hR.row hb
       have:=hfz hk;subst this
       have hvcs:∀j (hj:j<zs.length),cs1[o+j]? =some (.int .i64 zs[j]):=fun j hj=>by
        have e1:vs[j]? =some (.int .i64 zs[j]):=by rw[hzv,List.getElem?_map,List.getElem?_eq_getElem hj];rfl
        rw[hgn.1,List.getElem?_take_of_lt (by omega),List.getElem?_drop] at e1
        exact e1
       have hH:Holds (Value.int .i64) w (φ.blk b) (φ.off b+o) zs.toArray:=by
        intro j hj
        have hj':j<zs.length:=by simpa using hj
        have h2:=hc _ _ (hvcs j hj')
        rw[←Nat.add_assoc] at h2
        refine⟨?_,?_⟩
        ·simp only[World.cell?,hat,h2,Zc]
         rw[getElem!_pos _ j hj];simp
        ·simp[World.frozen?,hat]
       have hblk:φ.blk b<w.heap.size:=(Array.getElem?_eq_some_iff.1 hat).1
       obtain⟨r1,r2,r3,r4⟩:=row_write (φ:=φ) hl hc (vs:=(Wn zs).map (V.int .i64)) (by rw[hsr];simp) hp
       have harg:([V.sl b o n c].map (Zc φ)).toArray= #[.slice (some ⟨φ.blk b,φ.off b+o,none⟩) zs.length (match c with|.fix c=>c|.slk a _=>φ.cap b-a)]:=by
        cases c with
        |fix c=>simp[Zc,Phi.at,hlen]
        |slk a q=>simp[Zc,Phi.at,hlen];intro h0;omega
       rw[harg]
       refine callsIn_wide_of hF fun D=>(AnyS.slices_Sort_int_in Ly D (φ.blk b) (φ.off b+o) _ zs w hH hblk (by omega)).mono fun e' w' he=>?_
       obtain⟨rfl,dn,os,rfl⟩:=he
       rw[sortI_merge]
       refine⟨φ,rfl,?_,trivial⟩
       unfold Done
       rw[H.next_set,ZM,H.get_set]
       let C':Array Value:=putCells (Value.int .i64) (φ.off b+o) (Wn zs).toArray C
       have hC':C'=(C.toList.take (φ.off b+o)++((Wn zs).map (V.int .i64)).map (Zc φ)++C.toList.drop (φ.off b+o+((Wn zs).map (V.int .i64)).length)).toArray:=by
        apply Array.ext_getElem?
        intro q
        have hCs:C.toList.length=C.size:=rfl
        have t1:min (φ.off b+o) C.size=φ.off b+o:=by simp only[List.length_map] at r1;omega
        simp only[C',putCells,Array.getElem?_mapIdx,List.getElem?_toArray,List.size_toArray,hsl]
        simp only[List.length_map,hsl] at r1⊢
        by_cases h1:q<φ.off b+o
        ·rw[List.append_assoc,List.getElem?_append_left (by simp;omega),List.getElem?_take_of_lt h1]
         cases hq:C[q]? with
         |none=>simp[hq]
         |some y=>simp[hq];omega
        ·by_cases h2:q<φ.off b+o+n
         ·rw[List.getElem?_append_left (by simp[hsl];omega),List.getElem?_append_right (by simp;omega)]
          simp only[List.length_take,hCs,t1]
          have hq:q<C.size:=by omega
          rw[Array.getElem?_eq_getElem hq]
          have hj:q-(φ.off b+o)<(Wn zs).length:=by omega
          simp only[Option.map_some]
          rw[if_pos ⟨by omega,by omega⟩,getElem!_pos _ _ (by simpa using hj)]
          simp[Zc,hj]
         ·rw[List.getElem?_append_right (by simp[hsl];omega),List.getElem?_drop]
          simp only[List.length_append,List.length_take,List.length_map,hCs,t1,hsl]
          rw[show φ.off b+o+n+(q-(φ.off b+o+n))=q by omega]
          cases hq:C[q]? with
          |none=>simp[hq]
          |some y=>simp[hq];omega
       let w1:World:=putRow (Value.int .i64) (Sort.ahead w dn) (φ.blk b) (φ.off b+o) (Wn zs).toArray
       have hw1:w1.heap=w.heap.modify (φ.blk b) (onCells (putCells (Value.int .i64) (φ.off b+o) (Wn zs).toArray)):=rfl
       have hat1:w1.heap[φ.blk b]? =some (.cells C' e (0,0)):=by
        rw[hw1,Array.getElem?_modify,if_pos rfl,hat];rfl
       have key:=WY (w':=w1) hR hb (y:=.cells k cs') (by simpa[Blk.rw] using hk) (o:=.cells C' e (0,0)) (by rw[hw1];simp) hat1 (fun B hB=>by rw[hw1,Array.getElem?_modify,if_neg (Ne.symm hB)])
        (by
         rw[hC']
         refine⟨_,_,_,rfl,fun _=>rfl,?_,r4,fun sz hsz=>?_⟩
         ·rw[r3,r2];exact hl
         ·rw[r3,r2];exact hg sz hsz) (putN_sc hp (Z0.2 fun v hv=>by obtain⟨q,_,rfl⟩:=List.mem_map.1 hv;trivial) (hR.sc b _ hb).2)
       have hgrow:∀B,B<w1.heap.size→(Go.Sort.grow w1 os).heap[B]? =w1.heap[B]? :=fun B hB=>by
        show(w1.heap++os)[B]? =_
        rw[Array.getElem?_append_left hB]
       have hsz:w1.heap.size=w.heap.size:=by rw[hw1];simp
       refine⟨key.1.over hgrow,⟨key.2.agree,key.2.mono,?_,fun B hB hne=>?_,fun d z hd=>key.2.new d z hd,key.2.env⟩⟩
       ·show w.heap.size≤(w1.heap++os).size
        rw[Array.size_append,hsz];omega
       ·rw[hgrow B (by rw[hsz];exact hB)];exact key.2.kept B hB hne
     ·cases hs
    ·cases hs
   ·cases hs
  ·cases hs
 ·cases hs
end
end Go.Ab
