/- The run of the abstract machine: drawn regions, statements, functions; and how the model's code is turned into ours. -/
import Derived.Test.YtiphdfiihgbomabGreatAb2
set_option linter.unusedSimpArgs false
set_option linter.unusedVariables false
namespace Go.Ab
noncomputable section
structure Rec where
 o:O
 tm:T V
 h:H
 v:V
 h':H
 w:Bool
def runT (K:Kall):List O→T V→H→Option (List Rec × T V × H)
 |[],tm,h=>some ([],tm,h)
 |o::l,tm,h=>match want tm o.gd with
  |true=>match evI K tm h o.i with
   |some (v,h')=>match runT K l (putD tm o.dst v) h' with
    |some (rs,r)=>some (⟨o,tm,h,v,h',true⟩::rs,r)
    |none=>none
   |none=>none
  |false=>match runT K l (putD tm o.dst .und) h with
   |some (rs,r)=>some (⟨o,tm,h,.und,h,false⟩::rs,r)
   |none=>none
def stages (g:H):List Rec→List H
 |[]=>[g]
 |r::l=>match Nat.ble 2 r.o.i.kind with
  |true=>g::stages r.h' l
  |false=>stages r.h' l
def seen (i:I)(tm:T V)(v:V):Nat→List H→Bool
 |0,_=>true
 |_+1,[]=>false
 |n+1,g::gs=>match evQ tm g i with
  |some u=>match vbeq u v with
   |true=>seen i tm v n gs
   |false=>false
  |none=>false
def dropH:Nat→List H→List H
 |0,l=>l
 |_+1,[]=>[]
 |n+1,_::l=>dropH n l
def seenAll (gs:List H):List Rec→Bool
 |[]=>true
 |r::l=>match r.w with
  |true=>match r.o.win with
   |some (p,q)=>match seen r.o.i r.tm r.v (q+1-p) (dropH p gs) with
    |true=>seenAll gs l
    |false=>false
   |none=>seenAll gs l
  |false=>seenAll gs l
def evD (K:Kall)(l:List O)(tm:T V)(h:H):Option (T V × H):=
 match runT K l tm h with
 |some (rs,r)=>match seenAll (stages h rs) rs with
  |true=>some r
  |false=>none
 |none=>none
structure St where
 tm:T V
 h:H
 df:List Nat
def iter (f:St→Option (X × St)):Nat→St→Option (X × St)
 |0,_=>none
 |n+1,s=>match f s with
  |some (x,s')=>match x with
   |.nrm=>iter f n s'
   |.ext id=>some (.ext id,s')
   |.ret=>some (.ret,s')
  |none=>none
def evC (K:Kall)(N:Nat)(fn:FuncId)(ro:Option Nat)(fuel:Nat):C→St→Option (X × St)
 |.skip,s=>some (.nrm,s)
 |.ops l,s=>match evOps K l s.tm s.h with
  |some (tm,h)=>some (.nrm,⟨tm,h,s.df⟩)
  |none=>none
 |.dops l,s=>match evD K l s.tm s.h with
  |some (tm,h)=>some (.nrm,⟨tm,h,s.df⟩)
  |none=>none
 |.seq a b,s=>match evC K N fn ro fuel a s with
  |some (x,s')=>match x with
   |.nrm=>evC K N fn ro fuel b s'
   |.ext id=>some (.ext id,s')
   |.ret=>some (.ret,s')
  |none=>none
 |.cond x a b,s=>match x.ev s.tm with
  |.bool t=>match t with
   |true=>evC K N fn ro fuel a s
   |false=>evC K N fn ro fuel b s
  |_=>none
 |.block id a,s=>match evC K N fn ro fuel a s with
  |some (x,s')=>match x with
   |.nrm=>some (.nrm,s')
   |.ext j=>match Nat.beq j id with
    |true=>some (.nrm,s')
    |false=>some (.ext j,s')
   |.ret=>some (.ret,s')
  |none=>none
 |.loop a,s=>iter (evC K N fn ro fuel a) fuel s
 |.rf f ps assign body,s=>
  let st0:=match f.ev s.tm with
   |.fn _ _ _=>(match ro with
    |none=>some (s.h.next,s.h.add .dfr,s.h.next::s.df)
    |some l=>match s.h.get l with
     |some (.loop r)=>some (r.dfr,s.h,s.df)
     |_=>none)
   |_=>none
  match st0 with
  |some (d,h1,df)=>
   match K (f.ev s.tm) [.yld h1.next] (h1.add (.loop ⟨fn,s.tm,N,ps,assign,body,.ready,none,d⟩)) with
   |some (_,h3)=>match h3.get h1.next with
    |some (.loop r)=>match r.st with
     |.busy=>none
     |_=>match r.pend with
      |none=>some (.nrm,⟨s.tm,h3.set h1.next (.loop {r with st:=.exhausted}),df⟩)
      |some x=>match x with
       |.nrm=>none
       |.ext id=>some (.ext id,⟨s.tm,h3.set h1.next (.loop {r with st:=.exhausted}),df⟩)
       |.ret=>some (.ret,⟨s.tm,h3.set h1.next (.loop {r with st:=.exhausted}),df⟩)
    |_=>none
   |none=>none
  |none=>none
 |.exit id,s=>some (.ext id,s)
 |.scope a,s=>evC K N fn ro fuel a s
 |.ret,s=>some (.ret,s)
inductive Rs where
 |tmp (t:Nat)
 |cell (a:Nat) (ag:Bool) (n:Nat)
structure FD where
 ntmps:Nat
 res:List Rs
 body:C
def tm0:Nat→List V→T V→T V
 |_,[],t=>t
 |k,v::l,t=>tm0 (k+1) l (t.put (some v) k)
def marks:List Nat→H→Option H
 |[],h=>some h
 |d::ds,h=>match h.get d with
  |some .dfr=>marks ds (h.del d)
  |_=>none
def rsV (tm:T V)(h:H):Rs→Option V
 |.tmp t=>some ((Opd.t t).ev tm)
 |.cell a ag n=>evQ tm h (.ld ag n (.t a))
def rsL (tm:T V)(h:H):List Rs→Option (List V)
 |[]=>some []
 |r::l=>match rsV tm h r with
  |some v=>match rsL tm h l with
   |some vs=>some (v::vs)
   |none=>none
  |none=>none
def resV (tm:T V)(h:H)(l:List Rs):Option V:=
 match rsL tm h l with
 |some vs=>match vs with
  |[v]=>some v
  |_=>some (.tup vs)
 |none=>none
def bindP:List Nat→List V→T V→Option (T V)
 |[],[],t=>some t
 |p::ps,v::vs,t=>bindP ps vs (t.put (some v) p)
 |_,_,_=>none
def opsLt (N:Nat):List O→Bool
 |[]=>true
 |o::l=>match o.dst with
  |none=>opsLt N l
  |some d=>match Nat.blt d N with|true=>opsLt N l|false=>false
def numsLt (N:Nat):List Nat→Bool
 |[]=>true
 |d::l=>match Nat.blt d N with|true=>numsLt N l|false=>false
def C.lt (N:Nat):C→Bool
 |.ops l=>opsLt N l
 |.dops l=>opsLt N l
 |.seq a b=>match a.lt N with|true=>b.lt N|false=>false
 |.cond _ a b=>match a.lt N with|true=>b.lt N|false=>false
 |.block _ a=>a.lt N
 |.loop a=>a.lt N
 |.rf _ ps a b=>match numsLt N ps with|true=>(match a.lt N with|true=>b.lt N|false=>false)|false=>false
 |.scope a=>a.lt N
 |_=>true
def evV (Fn:Nat→Option FD)(fast:Nat→Option (List V→H→Option (V × H))):Nat→Kall
 |0,_,_,_=>none
 |n+1,fv,args,h=>match fv with
  |.fn f x y=>match fast f with
   |some g=>g (appN x (appN args y)) h
   |none=>match Fn f with
    |some fd=>
     let as:=appN x (appN args y)
     match Nat.ble (lenN as) fd.ntmps with
     |true=>match evC (evV Fn fast n) fd.ntmps f none n fd.body ⟨tm0 0 as .nil,h,[]⟩ with
      |some (e,s)=>match e with
       |.ext _=>none
       |_=>match marks s.df s.h with
        |some h'=>match resV s.tm h' fd.res with
         |some v=>some (v,h')
         |none=>none
        |none=>none
      |none=>none
     |false=>none
    |none=>none
  |.yld l=>match h.get l with
   |some (.loop r)=>match bindP r.ps args r.tm with
    |some tm=>match evC (evV Fn fast n) r.n r.fn (some l) n r.assign ⟨tm,h,[]⟩ with
     |some (e,s)=>match e with
      |.nrm=>match s.h.get l with
       |some (.loop r1)=>match r1.st with
        |.ready=>match evC (evV Fn fast n) r.n r.fn (some l) n r.body ⟨s.tm,s.h.set l (.loop {r1 with st:=.busy}),s.df⟩ with
         |some (e,s)=>match s.h.get l with
          |some (.loop r2)=>match e with
           |.nrm=>some (.bool true,s.h.set l (.loop {r2 with st:=.ready,pend:=none}))
           |.ext id=>some (.bool false,s.h.set l (.loop {r2 with st:=.done,pend:=some (.ext id)}))
           |.ret=>some (.bool false,s.h.set l (.loop {r2 with st:=.done,pend:=some .ret}))
          |_=>none
         |none=>none
        |_=>none
       |_=>none
      |_=>none
     |none=>none
    |none=>none
   |_=>none
  |_=>none
inductive UD where
 |int (k:IntKind)
 |bool
 |ptr (e:Nat)
 |slice (e:Nat)
 |arr (n e:Nat)
 |map (k e:Nat)
 |struct (fs:List (Nat × Nat))
 |func
structure TD where
 u:UD
 size:Nat
 by_:Nat
 z:List V
def UD.agg:UD→Bool
 |.arr _ _=>true
 |.struct _=>true
 |_=>false
def cstS:Value→Option V
 |.int k n=>some (.int k n)
 |.bool b=>some (.bool b)
 |.pointer none=>some .nilp
 |.slice none n c=>match Nat.beq n 0 with
  |true=>match Nat.beq c 0 with|true=>some .nils|false=>none
  |false=>none
 |.map none=>some .nilm
 |.nilFunc=>some .nilf
 |_=>none
def cstL:List Value→Option (List V)
 |[]=>some []
 |v::l=>match cstS v with
  |some x=>match cstL l with
   |some r=>some (x::r)
   |none=>none
  |none=>none
def cst:Value→Option V
 |.agg cs=>match cstL cs.toList with|some l=>some (.agg l)|none=>none
 |v=>cstS v
def opd:Operand→Option Opd
 |.tmp t=>some (.t t)
 |.const v=>match cst v with|some x=>some (.c x)|none=>none
 |.func f=>some (.c (.fn f [] []))
 |.global _=>none
def opds:List Operand→Option (List Opd)
 |[]=>some []
 |x::l=>match opd x with
  |some y=>match opds l with
   |some r=>some (y::r)
   |none=>none
  |none=>none
def opdO:Option Operand→Option (Option Opd)
 |none=>some none
 |some x=>match opd x with|some y=>some (some y)|none=>none
section
variable (Ty:Nat→Option TD)
def flatF (flat:Nat→Option Nat):List (Nat × Nat)→Nat→Option Nat
 |[],off=>some off
 |(o,t)::l,off=>match Nat.beq o off with
  |true=>match flat t with
   |some k=>flatF flat l (off+k)
   |none=>none
  |false=>none
def flatN:Nat→Nat→Option Nat
 |0,_=>none
 |f+1,t=>match Ty t with
  |some d=>match d.u with
   |.int _=>some 1
   |.arr n e=>match flatN f e with
    |some k=>match Nat.beq (n*k) d.size with|true=>some (n*k)|false=>none
    |none=>none
   |.struct fs=>match flatF (flatN f) fs 0 with
    |some k=>match Nat.beq k d.size with|true=>some k|false=>none
    |none=>none
   |_=>none
  |none=>none
def intT (t:Nat):Bool:=match Ty t with
 |some d=>(match d.u with|.int _=>true|_=>false)
 |none=>false
def boolT (t:Nat):Bool:=match Ty t with
 |some d=>(match d.u with|.bool=>true|_=>false)
 |none=>false
def ibF:List (Nat × Nat)→Nat→Option Nat
 |[],_=>none
 |(o,t)::l,off=>match Nat.beq o off with
  |true=>match boolT Ty t with
   |true=>(match l with|[]=>some (off+1)|_::_=>none)
   |false=>match intT Ty t with|true=>ibF l (off+1)|false=>none
  |false=>none
def ibN (t:Nat):Option Nat:=match Ty t with
 |some d=>(match d.u with
  |.struct fs=>match ibF Ty fs 0 with
   |some k=>match Nat.beq k d.size with|true=>some k|false=>none
   |none=>none
  |_=>none)
 |none=>none
def baN (t:Nat):Option Nat:=match Ty t with
 |some d=>(match d.u with
  |.arr n e=>match boolT Ty e with
   |true=>(match Nat.beq n d.size with|true=>some n|false=>none)
   |false=>none
  |_=>none)
 |none=>none
def flatQ (t:Nat):Option Nat:=match flatN Ty 8 t with
 |some n=>(match Nat.blt n 1000 with|true=>some n|false=>none)
 |none=>(match ibN Ty t with
  |some n=>(match Nat.blt n 1000 with|true=>some (1000+n)|false=>none)
  |none=>(match baN Ty t with|some n=>some (2000+n)|none=>none))
def partsAt (place:Nat→Option (Nat × Nat)):List (Nat × Operand)→Option (List (Nat × Nat × Opd))
 |[]=>some []
 |(i,x)::l=>match place i with
  |some (o,n)=>match opd x with
   |some y=>match partsAt place l with
    |some r=>some ((o,n,y)::r)
    |none=>none
   |none=>none
  |none=>none
def fieldAtN (fs:List (Nat × Nat))(i:Nat):Option (Nat × Nat):=
 match fs[i]? with
 |some (o,t)=>match Ty t with
  |some d=>match d.size with|0=>none|_+1=>some (o,d.size)
  |none=>none
 |none=>none
def isNilC:Operand→Bool
 |.const (.slice none _ _)=>true
 |_=>false
def compCall (b:Builtin)(args:List Operand)(ts:List TypeId):Option I:=
 match b,args,ts with
 |.append,[x,y],[t,t']=>match Ty t,Ty t',opd x,opd y with
  |some d,some d',some x,some y=>match d.u,d'.u with
   |.slice e,.slice e'=>match Ty e,Nat.beq e e' with
    |some de,true=>match de.size with
     |0=>none
     |_+1=>match Nat.ble de.by_ 65536 with|true=>some (.app de.size de.by_ x y)|false=>none
    |_,_=>none
   |_,_=>none
  |_,_,_,_=>none
 |.len,[x],[t]=>match Ty t,opd x with
  |some d,some x=>match d.u with
   |.slice _=>some (.len x)
   |.map _ _=>some (.lnm x)
   |.arr n _=>some (.mv (.c (.int .i64 (.ofNat n))))
   |.ptr e=>match Ty e with
    |some de=>match de.u with
     |.arr n _=>some (.mv (.c (.int .i64 (.ofNat n))))
     |_=>none
    |none=>none
   |_=>none
  |_,_=>none
 |.max,xs,_=>match opds xs with|some l=>some (.mx l)|none=>none
 |.min,xs,_=>match opds xs with|some l=>some (.mn l)|none=>none
 |.copy,[x,y],[t,t']=>match Ty t,Ty t',opd x,opd y with
  |some d,some d',some x,some y=>match d.u,d'.u with
   |.slice e,.slice e'=>match Ty e,Nat.beq e e' with
    |some de,true=>match de.size with
     |0=>none
     |_+1=>some (.cpy de.size x y)
    |_,_=>none
   |_,_=>none
  |_,_,_,_=>none
 |.clear,[x],[t]=>match Ty t,opd x with
  |some d,some x=>match d.u with
   |.slice e=>match Ty e with
    |some de=>match de.size with
     |0=>none
     |_+1=>some (.clr de.size de.z x)
    |none=>none
   |_=>none
  |_,_=>none
 |_,_,_=>none
def compOp:Op→Option I
 |.move x=>match opd x with|some x=>some (.mv x)|none=>none
 |.assign x=>match opd x with|some x=>some (.mv x)|none=>none
 |.pick c x y=>match opd c,opd x,opd y with
  |some c,some x,some y=>some (.pick c x y)
  |_,_,_=>none
 |.alloc e=>match Ty e with
  |some d=>some (.alc d.z)
  |none=>none
 |.box _ x=>match opd x with|some x=>some (.box x)|none=>none
 |.build t ps=>match Ty t with
  |some d=>match d.u with
   |.struct fs=>match fs.all (fun f=>(Ty f.2).isSome) with
    |true=>match partsAt (fieldAtN Ty fs) ps.toList with|some l=>some (.bld d.z l)|none=>none
    |false=>none
   |.arr _ e=>match Ty e with
    |some de=>match de.size with
     |0=>none
     |_+1=>match partsAt (fun i=>some (i*de.size,de.size)) ps.toList with|some l=>some (.bld d.z l)|none=>none
    |none=>none
   |_=>none
  |none=>none
 |.buildSlice t n ps=>match Ty t with
  |some d=>match d.u with
   |.slice e=>match Ty e with
    |some de=>match de.size with
     |0=>none
     |_+1=>match Nat.ble (n*de.size) 65536 with
      |true=>match partsAt (fun i=>some (i*de.size,de.size)) ps.toList with|some l=>some (.bsl n (repN n de.z) l)|none=>none
      |false=>none
    |none=>none
   |_=>none
  |none=>none
 |.load t a=>match Ty t,opd a with
  |some d,some a=>some (.ld d.u.agg d.size a)
  |_,_=>none
 |.store t a x=>match Ty t,opd a,opd x with
  |some d,some a,some x=>match d.size with
   |0=>none
   |_+1=>some (.sto d.size a x)
  |_,_,_=>none
 |.nilCheck x=>match opd x with|some x=>some (.chk x)|none=>none
 |.binOp op t x y _=>match Ty t,opd x,opd y with
  |some d,some x',some y'=>match d.u with
   |.int _=>match op with
    |.shl=>some (.sh .shl x' y')
    |.shr=>some (.sh .shr x' y')
    |.add=>some (.ar .add x' y')
    |.sub=>some (.ar .sub x' y')
    |.mul=>some (.ar .mul x' y')
    |.quo=>some (.ar .quo x' y')
    |.rem=>some (.ar .rem x' y')
    |.eql=>some (.ar .eql x' y')
    |.neq=>some (.ar .neq x' y')
    |.lss=>some (.ar .lss x' y')
    |.leq=>some (.ar .leq x' y')
    |.gtr=>some (.ar .gtr x' y')
    |.geq=>some (.ar .geq x' y')
    |.and=>some (.ar .and x' y')
    |.or=>some (.ar .or x' y')
    |.xor=>some (.ar .xor x' y')
    |_=>none
   |.bool=>match op with
    |.eql=>some (.beq false x' y')
    |.neq=>some (.beq true x' y')
    |_=>none
   |.slice _=>match op with
    |.eql=>match isNilC y with|true=>some (.isn false x')|false=>none
    |.neq=>match isNilC y with|true=>some (.isn true x')|false=>none
    |_=>none
   |.struct _=>match flatQ Ty t,op with
    |some n,.eql=>some (.feq false n x' y')
    |some n,.neq=>some (.feq true n x' y')
    |_,_=>none
   |.arr _ _=>match flatQ Ty t,op with
    |some n,.eql=>some (.feq false n x' y')
    |some n,.neq=>some (.feq true n x' y')
    |_,_=>none
   |_=>none
  |_,_,_=>none
 |.unOp op _ x=>match opd x with
  |some x=>match op with
   |.neg=>some (.neg x)
   |.not=>some (.not x)
   |_=>none
  |none=>none
 |.convert s t x=>match Ty s,Ty t,opd x with
  |some ds,some d,some x=>match ds.u,d.u with
   |.int _,.int k=>some (.cv k x)
   |_,_=>none
  |_,_,_=>none
 |.makeFunc (.func f) a b=>match opds a.toList,opds b.toList with
  |some a,some b=>some (.mkf f a b)
  |_,_=>none
 |.makeMap _ none=>some .mkm
 |.makeSlice t l c=>match Ty t,opd l,opd c with
  |some d,some l,some c=>match d.u with
   |.slice e=>match Ty e with
    |some de=>match de.size with
     |0=>none
     |_+1=>match Nat.ble de.by_ 65536 with|true=>some (.msl de.size de.by_ de.z l c)|false=>none
    |none=>none
   |_=>none
  |_,_,_=>none
 |.slice t x lo hi mx=>match Ty t,opd x,(hi.isSome||mx.isNone) with
  |some d,some x,true=>match opdO lo,opdO hi,opdO mx with
   |some lo,some hi,some mx=>match d.u with
    |.slice e=>match Ty e with
     |some de=>match de.size with
      |0=>none
      |_+1=>some (.slc de.size x lo hi mx)
     |none=>none
    |.arr n e=>match Ty e with
     |some de=>match de.size with
      |0=>none
      |_+1=>some (.sla n de.size x lo hi mx)
     |none=>none
    |_=>none
   |_,_,_=>none
  |_,_,_=>none
 |.fieldAddr t x i=>match Ty t,opd x with
  |some d,some x=>match d.u with
   |.struct fs=>match fieldAtN Ty fs i with
    |some (o,_)=>some (.fad o x)
    |none=>none
   |_=>none
  |_,_=>none
 |.field t x i=>match Ty t,opd x with
  |some d,some x=>match d.u with
   |.struct fs=>match fs[i]? with
    |some (o,ft)=>match Ty ft with
     |some df=>some (.fld df.u.agg df.size o x)
     |none=>none
    |none=>none
   |_=>none
  |_,_=>none
 |.indexAddr t x i=>match Ty t,opd x,opd i with
  |some d,some x,some i=>match d.u with
   |.slice e=>match Ty e with
    |some de=>match de.size with|0=>none|_+1=>some (.iad de.size x i)
    |none=>none
   |.arr n e=>match Ty e with
    |some de=>match de.size with|0=>none|_+1=>some (.iaa n de.size x i)
    |none=>none
   |_=>none
  |_,_,_=>none
 |.index t x i=>match Ty t,opd x,opd i with
  |some d,some x,some i=>match d.u with
   |.arr n e=>match Ty e with
    |some de=>match de.size with|0=>none|_+1=>some (.idx de.u.agg n de.size x i)
    |none=>none
   |_=>none
  |_,_,_=>none
 |.lookup t x i ok=>match Ty t,opd x,opd i with
  |some d,some x,some i=>match d.u with
   |.map k e=>match Ty k,Ty e with
    |some dk,some de=>match mkV de.u.agg de.z with
     |some z=>match dk.u with
      |.int _=>some (.lkp none z x i ok)
      |.struct fs=>match fs.all (fun f=>intT Ty f.2),flatN Ty 2 k with|true,some n=>some (.lks n z x i ok)|_,_=>none
      |_=>none
     |none=>none
    |_,_=>none
   |_=>none
  |_,_,_=>none
 |.mapUpdate t m i x=>match Ty t,opd m,opd i,opd x with
  |some d,some m,some i,some x=>match d.u with
   |.map k _=>match Ty k with
    |some dk=>match dk.u with
     |.int _=>some (.mup none m i x)
     |.struct fs=>match fs.all (fun f=>intT Ty f.2),flatN Ty 2 k with|true,some n=>some (.mus n m i x)|_,_=>none
     |_=>none
    |none=>none
   |_=>none
  |_,_,_,_=>none
 |.insert t m i x=>match Ty t,opd m,opd i,opd x with
  |some d,some m,some i,some x=>match d.u with
   |.map k _=>match Ty k with
    |some dk=>match dk.u with
     |.int _=>some (.mup none m i x)
     |.struct fs=>match fs.all (fun f=>intT Ty f.2),flatN Ty 2 k with|true,some n=>some (.mus n m i x)|_,_=>none
     |_=>none
    |none=>none
   |_=>none
  |_,_,_,_=>none
 |.mapEntry t m i=>match Ty t,opd m,opd i with
  |some d,some m,some i=>match d.u with
   |.map k e=>match Ty k,Ty e with
    |some dk,some de=>match mkV de.u.agg de.z with
     |some z=>match dk.u with
      |.int _=>some (.men z m i)
      |_=>none
     |none=>none
    |_,_=>none
   |_=>none
  |_,_,_=>none
 |.entryStore _ m s x=>match opd m,opd s,opd x with
  |some m,some s,some x=>some (.mst m s x)
  |_,_,_=>none
 |.extract x i=>match opd x with|some x=>some (.ext x i)|none=>none
 |.makeInterface _ _=>some (.not (.c .und))
 |.panic _=>some (.not (.c .und))
 |.call c=>match c.callee with
  |.value f=>match opd f,opds c.args.toList with
   |some f,some l=>some (.call f l)
   |_,_=>none
  |.builtin b=>compCall Ty b c.args.toList c.argTypes.toList
  |.invoke _ _=>none
 |_=>none
def gdOf (ops:List Oper):Option (Nat × Bool)→Option (Option (Nat × Bool))
 |none=>some none
 |some (j,w)=>match ops[j]? with
  |some o=>match o.dst with
   |some d=>some (some (d,w))
   |none=>none
  |none=>none
def compO (ops:List Oper)(o:Oper):Option O:=
 match compOp Ty o.op with
 |some i=>match gdOf ops o.guard with
  |some g=>some ⟨o.dst,g,none,i⟩
  |none=>none
 |none=>none
def compL (ops:List Oper):List Oper→Option (List O)
 |[]=>some []
 |o::l=>match compO Ty ops o with
  |some x=>match compL ops l with
   |some r=>some (x::r)
   |none=>none
  |none=>none
end
def bit (m j:Nat):Bool:=Nat.beq (Nat.land (Nat.shiftRight m j) 1) 1
def maskOf (acc:List Nat):List Edge→Nat
 |[]=>0
 |e::l=>match Region.binds .any e with
  |true=>Nat.lor (Nat.lor (Nat.shiftLeft 1 e.on) (acc.getD e.on 0)) (maskOf acc l)
  |false=>maskOf acc l
def masks:List Oper→List Nat→List Nat
 |[],acc=>acc
 |o::l,acc=>masks l (acc++[maskOf acc o.after.toList])
def backs:Nat→List Nat→Bool
 |_,[]=>true
 |i,m::l=>match Nat.beq (Nat.shiftRight m i) 0 with|true=>backs (i+1) l|false=>false
def Opd.tmps:Opd→List Nat
 |.t n=>[n]
 |.c _=>[]
def opT:Option Opd→List Nat
 |none=>[]
 |some x=>x.tmps
def opsT:List Opd→List Nat
 |[]=>[]
 |x::l=>x.tmps++opsT l
def parT:List (Nat × Nat × Opd)→List Nat
 |[]=>[]
 |(_,_,x)::l=>x.tmps++parT l
def I.tmps:I→List Nat
 |.mv x=>x.tmps
 |.pick c x y=>c.tmps++x.tmps++y.tmps
 |.ld _ _ x=>x.tmps
 |.chk x=>x.tmps
 |.ar _ x y=>x.tmps++y.tmps
 |.sh _ x y=>x.tmps++y.tmps
 |.beq _ x y=>x.tmps++y.tmps
 |.isn _ x=>x.tmps
 |.feq _ _ x y=>x.tmps++y.tmps
 |.neg x=>x.tmps
 |.not x=>x.tmps
 |.cv _ x=>x.tmps
 |.mkf _ x y=>opsT x++opsT y
 |.slc _ x lo hi m2=>x.tmps++opT lo++opT hi++opT m2
 |.sla _ _ x lo hi m2=>x.tmps++opT lo++opT hi++opT m2
 |.fad _ x=>x.tmps
 |.fld _ _ _ x=>x.tmps
 |.iad _ x i=>x.tmps++i.tmps
 |.iaa _ _ x i=>x.tmps++i.tmps
 |.idx _ _ _ x i=>x.tmps++i.tmps
 |.lkp _ _ x i _=>x.tmps++i.tmps
 |.lks _ _ x i _=>x.tmps++i.tmps
 |.ext x _=>x.tmps
 |.len x=>x.tmps
 |.lnm x=>x.tmps
 |.mx l=>opsT l
 |.mn l=>opsT l
 |.bld _ ps=>parT ps
 |.alc _=>[]
 |.box x=>x.tmps
 |.bsl _ _ ps=>parT ps
 |.msl _ _ _ l c=>l.tmps++c.tmps
 |.mkm=>[]
 |.sto _ a x=>a.tmps++x.tmps
 |.mup _ m k x=>m.tmps++k.tmps++x.tmps
 |.mus _ m k x=>m.tmps++k.tmps++x.tmps
 |.men _ m k=>m.tmps++k.tmps
 |.mst m s x=>m.tmps++s.tmps++x.tmps
 |.app _ _ x y=>x.tmps++y.tmps
 |.cpy _ x y=>x.tmps++y.tmps
 |.clr _ _ x=>x.tmps
 |.call f l=>f.tmps++opsT l
def I.reads:I→Bool
 |.ld _ _ _=>true
 |.lkp _ _ _ _ _=>true
 |.lks _ _ _ _ _=>true
 |.lnm _=>true
 |.slc _ _ _ _ _=>true
 |_=>false
def O.reads (o:O):List Nat:=(match o.gd with|none=>[]|some (d,_)=>[d])++o.i.tmps
def O.writes (o:O):List Nat:=match o.dst with|none=>[]|some d=>[d]
def meets:List Nat→List Nat→Bool
 |[],_=>false
 |a::l,r=>match r.any (Nat.beq a) with|true=>true|false=>meets l r
def free (j i:O):Bool:=
 !meets j.writes (i.reads++i.writes)&& !meets i.writes j.reads&&
 (match Nat.ble 2 i.i.kind with|true=>Nat.beq j.i.kind 0|false=>true)
def pairsOK (m:Nat)(i:O):List O→Nat→Bool
 |[],_=>true
 |j::l,k=>match bit m k with
  |true=>pairsOK m i l (k+1)
  |false=>match free j i with|true=>pairsOK m i l (k+1)|false=>false
def dOK:List O→List O→List Nat→Bool
 |_,[],[]=>true
 |done,o::l,m::ms=>match pairsOK m o done 0 with|true=>dOK (done++[o]) l ms|false=>false
 |_,_,_=>false
def winP (m:Nat):List O→Nat→Nat
 |[],_=>0
 |j::l,k=>match Nat.ble 2 j.i.kind with
  |true=>match bit m k with|true=>winP m l (k+1)+1|false=>winP m l (k+1)
  |false=>winP m l (k+1)
def winQ (i:Nat):List O→List Nat→Nat
 |j::l,m::ms=>match Nat.ble 2 j.i.kind with
  |true=>match bit m i with|true=>winQ i l ms|false=>winQ i l ms+1
  |false=>winQ i l ms
 |_,_=>0
def wins (all:List O)(ms:List Nat):List O→List Nat→Nat→List O
 |o::l,m::r,i=>(match o.i.reads with
   |true=>{o with win:=some (winP m all 0,winQ i all ms)}
   |false=>o)::wins all ms l r (i+1)
 |l,_,_=>l
def sw (j k:Nat):Nat:=match Nat.beq k j with
 |true=>j+1
 |false=>match Nat.beq k (j+1) with|true=>j|false=>k
def relE (j:Nat)(e:Edge):Edge:={e with on:=sw j e.on}
def relG (j:Nat):Option (Nat × Bool)→Option (Nat × Bool)
 |some (i,b)=>some (sw j i,b)
 |none=>none
def relO (j:Nat)(o:Oper):Oper:={o with after:=(o.after.toList.map (relE j)).toArray,guard:=relG j o.guard}
def swapL (j:Nat)(l:List Oper):List Oper:=match l.drop j with
 |a::b::r=>(l.take j++b::a::r).map (relO j)
 |_=>l
def isAl:Op→Bool
 |.alloc _=>true
 |.box _ _=>true
 |.buildSlice _ _ _=>true
 |_=>false
def firstAl:List Oper→Nat→Option Nat
 |a::b::l,k=>match isAl a.op with
  |true=>(match isAl b.op with
   |true=>firstAl (b::l) (k+1)
   |false=>(match b.after.toList.any fun e=>Nat.beq e.on k with
    |true=>firstAl (b::l) (k+1)
    |false=>some k))
  |false=>firstAl (b::l) (k+1)
 |_,_=>none
def mend:Nat→List Oper→List Oper
 |0,l=>l
 |f+1,l=>match firstAl l 0 with
  |some k=>mend f (swapL k l)
  |none=>l
section
variable (Ty:Nat→Option TD)
def compD (ops:List Oper):Option (List O):=match compL Ty ops ops with
 |some l=>
  let ms:=masks ops []
  match dOK [] l ms with
  |true=>match backs 0 ms with
   |true=>some (wins l ms l ms 0)
   |false=>none
  |false=>none
 |none=>none
def comp:Code→Option C
 |.skip=>some .skip
 |.region _ ops draw=>match draw with
  |false=>(match compL Ty ops.toList ops.toList with
   |some l=>some (.ops l)
   |none=>none)
  |true=>(match compD Ty ops.toList with
   |some l=>some (.dops l)
   |none=>(match compD Ty (mend 64 ops.toList) with
    |some l=>some (.dops l)
    |none=>none))
 |.seq a b=>match comp a with
  |some x=>match comp b with
   |some y=>some (.seq x y)
   |none=>none
  |none=>none
 |.cond c a b=>match opd c with
  |some x=>match comp a with
   |some y=>match comp b with
    |some z=>some (.cond x y z)
    |none=>none
   |none=>none
  |none=>none
 |.block id a=>match comp a with|some x=>some (.block id x)|none=>none
 |.loop a=>match comp a with|some x=>some (.loop x)|none=>none
 |.rangeFunc f ps a b=>match opd f with
  |some x=>match comp a with
   |some y=>match comp b with
    |some z=>some (.rf x ps.toList y z)
    |none=>none
   |none=>none
  |none=>none
 |.exit id=>some (.exit id)
 |.scope a=>match comp a with|some x=>some (.scope x)|none=>none
 |.label _=>some .skip
 |.ret=>some .ret
 |_=>none
def compRs:ResultVar→Option Rs
 |.tmp t=>some (.tmp t)
 |.cell a t=>match Ty t with|some d=>some (.cell a d.u.agg d.size)|none=>none
def compRL:List ResultVar→Option (List Rs)
 |[]=>some []
 |r::l=>match compRs Ty r with
  |some x=>match compRL l with
   |some y=>some (x::y)
   |none=>none
  |none=>none
def compF (f:Func):Option FD:=
 match f.body with
 |some b=>match comp Ty b with
  |some c=>match compRL Ty f.results.toList with
   |some r=>some ⟨f.ntmps,r,c⟩
   |none=>none
  |none=>none
 |none=>none
end
end
end Go.Ab
