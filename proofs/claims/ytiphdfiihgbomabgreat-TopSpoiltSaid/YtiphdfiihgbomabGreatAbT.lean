/- Calls that are run ahead, one by one, and then looked up. -/
import Derived.Test.YtiphdfiihgbomabGreatAbS
import Derived.Test.YtiphdfiihgbomabGreatAbK
set_option linter.unusedSimpArgs false
set_option linter.unusedVariables false
namespace Go.Ab
noncomputable section
def kdEq:Kd→Kd→Bool
 |.ro,.ro=>true
 |.rw,.rw=>true
 |.gr a,.gr b=>Nat.beq a b
 |_,_=>false
theorem kdEq_eq {a b:Kd}(h:kdEq a b=true):a=b:=by
 cases a<;>cases b<;>simp only[kdEq,Bool.false_eq_true] at h
 ·rfl
 ·rfl
 ·rw[Nat.eq_of_beq_eq_true h]
def esEq:List (V × V)→List (V × V)→Bool
 |[],[]=>true
 |a::l,b::r=>match vbeq a.1 b.1 with
  |true=>match vbeq a.2 b.2 with
   |true=>esEq l r
   |false=>false
  |false=>false
 |_,_=>false
theorem esEq_eq:∀{l r:List (V × V)},esEq l r=true→l=r
 |[],[],_=>rfl
 |[],_::_,h=>by cases h
 |_::_,[],h=>by cases h
 |a::l,b::r,h=>by
  simp only[esEq] at h
  split at h
  ·rename_i h1
   split at h
   ·rename_i h2
    rw[Prod.ext (vbeq_eq _ _ h1) (vbeq_eq _ _ h2),esEq_eq h]
   ·cases h
  ·cases h
def bbeq:Blk→Blk→Bool
 |.cells k cs,.cells j ds=>match kdEq k j with|true=>vbeqL cs ds|false=>false
 |.map es,.map fs=>esEq es fs
 |_,_=>false
theorem bbeq_eq {a b:Blk}(h:bbeq a b=true):a=b:=by
 cases a<;>cases b<;>simp only[bbeq,Bool.false_eq_true] at h
 ·split at h
  ·rename_i h1;rw[kdEq_eq h1,vbeqL_eq _ _ h]
  ·cases h
 ·rw[esEq_eq h]
abbrev Bs:=List (Nat × Blk)
def hasB (h:H):Bs→Bool
 |[]=>true
 |e::l=>match h.get e.1 with
  |some y=>match bbeq y e.2 with
   |true=>hasB h l
   |false=>false
  |none=>false
def putB:Bs→T Blk→T Blk
 |[],t=>t
 |e::l,t=>putB l ((t.putF (some e.2) e.1).forceR fun t=>t)
def inB (b:Nat):Bs→Bool
 |[]=>false
 |e::l=>match Nat.beq b e.1 with|true=>true|false=>inB b l
structure Ent where
 n:Nat
 args:List V
 bs:Bs
 v:V
 n':Nat
 bs':Bs
def Ent.h (e:Ent):H:=⟨e.n,putB e.bs .nil⟩
def allLt (n:Nat):Bs→Bool
 |[]=>true
 |e::l=>match Nat.blt e.1 n with|true=>allLt n l|false=>false
def allIn (r:Bs):Bs→Bool
 |[]=>true
 |e::l=>match inB e.1 r with|true=>allIn r l|false=>false
def newOk (n:Nat)(r:Bs):Bs→Bool
 |[]=>true
 |e::l=>match inB e.1 r with
  |true=>newOk n r l
  |false=>match Nat.ble n e.1 with|true=>newOk n r l|false=>false
def Ent.ok (e:Ent):Bool:=match allLt e.n e.bs with
 |true=>match allIn e.bs' e.bs with
  |true=>newOk e.n e.bs e.bs'
  |false=>false
 |false=>false
def Ent.is (e:Ent):Option (V × H)→Bool
 |some (v,h)=>match vbeq v e.v with
  |true=>match Nat.beq h.next e.n' with
   |true=>hasB h e.bs'
   |false=>false
  |false=>false
 |none=>false
def look (args:List V)(h:H):List Ent→Option (V × H)
 |[]=>none
 |e::l=>match Nat.beq h.next e.n with
  |true=>match vbeqL args e.args with
   |true=>match hasB h e.bs with
    |true=>some (e.v,⟨e.n',putB e.bs' h.m⟩)
    |false=>none
   |false=>none
  |false=>look args h l
def lookF (f:Nat):List (Nat × List Ent)→Option (List V→H→Option (V × H))
 |[]=>none
 |e::l=>match Nat.beq f e.1 with
  |true=>some fun args h=>look args h e.2
  |false=>lookF f l
theorem hasB_get {h:H}:∀{l:Bs},hasB h l=true→∀e∈l,h.get e.1=some e.2
 |x::l,hh,e,he=>by
  simp only[hasB] at hh
  split at hh
  ·rename_i y hy
   split at hh
   ·rename_i hb
    simp only[List.mem_cons] at he
    rcases he with rfl|he
    ·rw[hy,bbeq_eq hb]
    ·exact hasB_get hh e he
   ·cases hh
  ·cases hh
theorem putB_get:∀(l:Bs) (t:T Blk) (b:Nat) (x:Blk),(putB l t).get b=some x→(∃e∈l,e.1=b∧e.2=x)∨(inB b l=false∧t.get b=some x)
 |[],t,b,x,h=>.inr ⟨rfl,h⟩
 |e::l,t,b,x,h=>by
  simp only[putB,T.forceR_eq,T.putF_eq] at h
  rcases putB_get l _ b x h with⟨e',h1,h2⟩|⟨h1,h2⟩
  ·exact .inl ⟨e',by simp[h1],h2⟩
  ·rw[T.get_put_eq] at h2
   by_cases hb:b=e.1
   ·rw[if_pos hb] at h2
    exact .inl ⟨e,by simp,hb.symm,by simpa using h2⟩
   ·rw[if_neg hb] at h2
    refine .inr ⟨?_,h2⟩
    have:Nat.beq b e.1=false:=by
     cases hq:Nat.beq b e.1 with
     |false=>rfl
     |true=>exact absurd (Nat.eq_of_beq_eq_true hq) hb
    simp[inB,this,h1]
theorem inB_mem {b:Nat}:∀{l:Bs},inB b l=true→∃e∈l,e.1=b
 |e::l,h=>by
  simp only[inB] at h
  split at h
  ·rename_i hb;exact⟨e,by simp,(Nat.eq_of_beq_eq_true hb).symm⟩
  ·obtain⟨e',h1,h2⟩:=inB_mem h;exact⟨e',by simp[h1],h2⟩
theorem mem_inB {e:Nat × Blk}:∀{l:Bs},e∈l→inB e.1 l=true
 |x::l,h=>by
  simp only[List.mem_cons] at h
  simp only[inB]
  split
  ·rfl
  ·rename_i hb
   rcases h with rfl|h
   ·simp at hb
   ·exact mem_inB h
theorem putB_in:∀(l:Bs) (t:T Blk) (b:Nat),inB b l=true→∃x,(putB l t).get b=some x
 |e::l,t,b,h=>by
  simp only[putB,T.forceR_eq,T.putF_eq]
  cases h2:inB b l with
  |true=>exact putB_in l _ b h2
  |false=>
   simp only[inB,h2] at h
   split at h
   ·rename_i hb
    have hb:=Nat.eq_of_beq_eq_true hb
    have key:∀(l:Bs) (t:T Blk),inB b l=false→(putB l t).get b=t.get b:=by
     intro l
     induction l with
     |nil=>intro t _;rfl
     |cons e l ih=>
      intro t hl
      simp only[inB] at hl
      split at hl
      ·cases hl
      ·rename_i hne
       simp only[putB,T.forceR_eq,T.putF_eq]
       rw[ih _ hl,T.get_put_eq,if_neg (fun e'=>by rw[e'] at hne;simp at hne)]
    exact⟨e.2,by rw[key l _ h2,T.get_put_eq,if_pos hb]⟩
   ·cases h
theorem allLt_mem {n:Nat}:∀{l:Bs},allLt n l=true→∀e∈l,e.1<n
 |x::l,h,e,he=>by
  simp only[allLt] at h
  split at h
  ·rename_i hb
   simp only[List.mem_cons] at he
   rcases he with rfl|he
   ·simpa using hb
   ·exact allLt_mem h e he
  ·cases h
theorem allIn_mem {r:Bs}:∀{l:Bs},allIn r l=true→∀e∈l,inB e.1 r=true
 |x::l,h,e,he=>by
  simp only[allIn] at h
  split at h
  ·rename_i hb
   simp only[List.mem_cons] at he
   rcases he with rfl|he
   ·exact hb
   ·exact allIn_mem h e he
  ·cases h
theorem newOk_mem {n:Nat}{r:Bs}:∀{l:Bs},newOk n r l=true→∀e∈l,inB e.1 r=true∨n≤e.1
 |x::l,h,e,he=>by
  simp only[newOk] at h
  simp only[List.mem_cons] at he
  split at h
  ·rename_i hb
   rcases he with rfl|he
   ·exact .inl hb
   ·exact newOk_mem h e he
  ·split at h
   ·rename_i hb
    rcases he with rfl|he
    ·exact .inr (Nat.le_of_ble_eq_true hb)
    ·exact newOk_mem h e he
   ·cases h
section
variable {P:Program} {Ty:Nat→Option TD}
theorem spec_of_run {K:Kall}(hK:KOk P Ty K){f:FuncId}(hc:Callable P f){args:List V}{h h':H}{v:V}(hr:K (.fn f [] []) args h=some (v,h')):SpecOk P Ty f args h v h':=by
 refine⟨hK.le _ _ _ _ _ hr,fun{F n φ p w} hF hfr hR ha hwf=>?_⟩
 obtain⟨nx,h1,h2,_⟩:=hK.run hr (F:=F) (n:=n) hF hfr hR ⟨trivial,trivial⟩ ha hwf
 have h3:(do let d ←Deferred.ofValue (conc φ (.fn f [] [])) (args.map (conc φ)).toArray;invoke d.target d.args:Sem Next).run P w=.ok (.enter f (args.map (conc φ)).toArray) w:=by
  simp only[conc,concs,Deferred.ofValue,Sem.run_bind,Sem.run_pure,Result.andThen_ok,invoke]
  have:(#[]:Array Value)++(args.map (conc φ)).toArray++ #[]=(args.map (conc φ)).toArray:=by simp
  rw[this]
  exact run_callFunc hc _ w
 rw[h3] at h1
 cases h1
 exact h2
theorem ent_spec {K:Kall}(hK:KOk P Ty K){f:FuncId}(hc:Callable P f){e:Ent}(hok:e.ok=true)(hr:e.is (K (.fn f [] []) e.args e.h)=true){args:List V}{h:H}
  (hn:h.next=e.n) (ha:args=e.args) (hb:hasB h e.bs=true):SpecOk P Ty f args h e.v ⟨e.n',putB e.bs' h.m⟩:=by
 subst ha
 unfold Ent.is at hr
 split at hr
 ·rename_i v h1 e1
  split at hr
  ·rename_i hv
   split at hr
   ·rename_i hnx
    have hv:=vbeq_eq _ _ hv;subst hv
    have hnx:=Nat.eq_of_beq_eq_true hnx
    have hspec:=spec_of_run hK hc e1
    unfold Ent.ok at hok
    split at hok
    ·rename_i k1
     split at hok
     ·rename_i k2
      have g1:=allLt_mem k1
      have g2:=allIn_mem k2
      have g3:=newOk_mem hok
      have hget:∀b x,e.h.get b=some x→∃q∈e.bs,q.1=b∧q.2=x:=by
       intro b x hx
       rcases putB_get e.bs .nil b x hx with h|⟨_,h⟩
       ·exact h
       ·rw[T.get_nil] at h;cases h
      refine SpecOk.frame hspec (fun b x hx=>?_) hn hnx.symm (fun b x hx=>?_) (fun hwf b x hx=>?_)
      ·obtain⟨q,q1,q2,_⟩:=hget b x hx
       rw[←q2];exact g1 q q1
      ·obtain⟨q,q1,q2,q3⟩:=hget b x hx
       rw[←q2,←q3];exact hasB_get hb q q1
      ·rcases putB_get e.bs' h.m b x hx with⟨q,q1,q2,q3⟩|⟨q1,q2⟩
       ·right
        refine⟨?_,by rw[←q2,←q3];exact hasB_get hr q q1⟩
        rcases g3 q q1 with h2|h2
        ·right
         obtain⟨y,hy⟩:=putB_in e.bs .nil q.1 h2
         rw[←q2]
         have:e.h.get q.1=some y:=hy
         rw[this];rfl
        ·left
         cases hg:h.get b with
         |none=>rfl
         |some y=>have:=hwf b y hg;omega
       ·left
        refine⟨?_,q2⟩
        cases hg:e.h.get b with
        |none=>rfl
        |some y=>
         obtain⟨r,r1,r2,_⟩:=hget b y hg
         have:=g2 r r1
         rw[r2,q1] at this;cases this
     ·cases hok
    ·cases hok
   ·cases hr
  ·cases hr
 ·cases hr
theorem callable_of {Fn:Nat→Option FD}(h:FnOk P Ty Fn){f:FuncId}{fd:FD}(hf:Fn f=some fd):Callable P f:=by
 obtain⟨fn,h1,h2,h3,_⟩:=h.is f fd hf
 obtain⟨b,b1,_⟩:=fd_spec h3
 exact⟨fn,h1,h2,by simp[b1]⟩
def T.map {α β:Type}(g:α→β):T α→T β
 |.nil=>.nil
 |.node v l r=>.node (v.map g) (T.map g l) (T.map g r)
theorem T.get_map {α β:Type}(g:α→β):∀(t:T α) (k:Nat),(T.map g t).get k=(t.get k).map g
 |.nil,k=>by rw[T.map,T.get_nil,T.get_nil];rfl
 |.node v l r,k=>by
  cases k with
  |zero=>rw[T.map,T.get_1,T.get_1]
  |succ j=>
   rw[T.map,T.get_2,T.get_2,bsel_beq,bsel_beq]
   by_cases e:j%2=0
   ·rw[if_pos e,if_pos e];exact T.get_map g l _
   ·rw[if_neg e,if_neg e];exact T.get_map g r _
structure EntOk (P:Program)(Ty:Nat→Option TD)(f:FuncId)(e:Ent):Prop where
 is:∀{args:List V} {h:H},h.next=e.n→args=e.args→hasB h e.bs=true→SpecOk P Ty f args h e.v ⟨e.n',putB e.bs' h.m⟩
theorem look_ok {f:FuncId}:∀{l:List Ent},(∀e∈l,EntOk P Ty f e)→∀{args:List V} {h h':H} {v:V},look args h l=some (v,h')→SpecOk P Ty f args h v h'
 |e::l,hl,args,h,h',v,hk=>by
  simp only[look] at hk
  split at hk
  ·rename_i h1
   split at hk
   ·rename_i h2
    split at hk
    ·rename_i h3
     cases hk
     exact(hl e (by simp)).is (Nat.eq_of_beq_eq_true h1) (vbeqL_eq _ _ h2) h3
    ·cases hk
   ·cases hk
  ·exact look_ok (fun e he=>hl e (by simp[he])) hk
theorem lookF_ok:∀{l:List (Nat × List Ent)},(∀q∈l,Callable P q.1∧∀e∈q.2,EntOk P Ty q.1 e)→FastOk P Ty fun f=>lookF f l
 |[],_=>⟨fun f g h=>by cases h⟩
 |q::l,hl=>by
  refine⟨fun f g h=>?_⟩
  simp only[lookF] at h
  split at h
  ·rename_i h1
   cases h
   have:=Nat.eq_of_beq_eq_true h1;subst this
   obtain⟨a1,a2⟩:=hl q (by simp)
   exact⟨a1,fun args h v h' e=>look_ok a2 e⟩
  ·exact(lookF_ok fun q hq=>hl q (by simp[hq])).is f g h
end
end
end Go.Ab
