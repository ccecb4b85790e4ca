/- More fuel does no harm. -/
import Derived.Test.YtiphdfiihgbomabGreatAbU
set_option linter.unusedSimpArgs false
set_option linter.unusedVariables false
namespace Go.Ab
def Kmo (K K':Kall):Prop:=∀fv args h r,K fv args h=some r→K' fv args h=some r
section
variable {K K':Kall} (hK:Kmo K K')
include hK
theorem evI_mono {tm:T V}{h:H}{i:I}{r:V × H}(hv:evI K tm h i=some r):evI K' tm h i=some r:=by
 cases i<;>first|exact hv|skip
 exact hK _ _ _ _ hv
theorem evOps_mono:∀{l:List O} {tm:T V} {h:H} {r:T V × H},evOps K l tm h=some r→evOps K' l tm h=some r
 |[],tm,h,r,hv=>hv
 |o::l,tm,h,r,hv=>by
  simp only[evOps] at hv⊢
  cases hw:want tm o.gd with
  |true=>
   simp only[hw] at hv⊢
   cases he:evI K tm h o.i with
   |none=>rw[he] at hv;cases hv
   |some q=>rw[evI_mono hK he];rw[he] at hv;exact evOps_mono hv
  |false=>
   simp only[hw] at hv⊢
   exact evOps_mono hv
theorem runT_mono:∀{l:List O} {tm:T V} {h:H} {r:List Rec × T V × H},runT K l tm h=some r→runT K' l tm h=some r
 |[],tm,h,r,hv=>hv
 |o::l,tm,h,r,hv=>by
  simp only[runT] at hv⊢
  cases hw:want tm o.gd with
  |true=>
   simp only[hw] at hv⊢
   cases he:evI K tm h o.i with
   |none=>rw[he] at hv;cases hv
   |some q=>
    obtain⟨v,h'⟩:=q
    rw[evI_mono hK he];rw[he] at hv
    simp only at hv⊢
    cases hr:runT K l (putD tm o.dst v) h' with
    |none=>rw[hr] at hv;cases hv
    |some x=>rw[runT_mono hr];rw[hr] at hv;exact hv
  |false=>
   simp only[hw] at hv⊢
   cases hr:runT K l (putD tm o.dst .und) h with
   |none=>rw[hr] at hv;cases hv
   |some x=>rw[runT_mono hr];rw[hr] at hv;exact hv
theorem evD_mono {l:List O}{tm:T V}{h:H}{r:T V × H}(hv:evD K l tm h=some r):evD K' l tm h=some r:=by
 unfold evD at hv⊢
 cases hr:runT K l tm h with
 |none=>rw[hr] at hv;cases hv
 |some x=>rw[runT_mono hK hr];rw[hr] at hv;exact hv
omit hK in
theorem iter_mono {f f':St→Option (X × St)}(hf:∀s r,f s=some r→f' s=some r):∀{n m:Nat} {s:St} {r:X × St},n≤m→iter f n s=some r→iter f' m s=some r
 |0,m,s,r,_,hv=>by cases hv
 |n+1,0,s,r,h,_=>by omega
 |n+1,m+1,s,r,h,hv=>by
  simp only[iter] at hv⊢
  cases he:f s with
  |none=>rw[he] at hv;cases hv
  |some x=>
   obtain⟨y,s1⟩:=x
   rw[hf s _ he];rw[he] at hv
   cases y with
   |nrm=>exact iter_mono hf (by omega) hv
   |ext id=>exact hv
   |ret=>exact hv
theorem evC_mono {N:Nat}{fn:FuncId}{ro:Option Nat}{fuel fuel':Nat}(hf:fuel≤fuel'):∀(c:C) (s:St) (r:X × St),evC K N fn ro fuel c s=some r→evC K' N fn ro fuel' c s=some r:=by
 intro c
 induction c with
 |skip=>intro s r h;exact h
 |ops l=>
  intro s r h
  simp only[evC] at h⊢
  cases he:evOps K l s.tm s.h with
  |none=>rw[he] at h;cases h
  |some x=>rw[evOps_mono hK he];rw[he] at h;exact h
 |dops l=>
  intro s r h
  simp only[evC] at h⊢
  cases he:evD K l s.tm s.h with
  |none=>rw[he] at h;cases h
  |some x=>rw[evD_mono hK he];rw[he] at h;exact h
 |seq a b iha ihb=>
  intro s r h
  simp only[evC] at h⊢
  cases he:evC K N fn ro fuel a s with
  |none=>rw[he] at h;cases h
  |some x=>
   obtain⟨y,s1⟩:=x
   rw[iha s _ he];rw[he] at h
   cases y with
   |nrm=>exact ihb _ _ h
   |ext id=>exact h
   |ret=>exact h
 |cond x a b iha ihb=>
  intro s r h
  simp only[evC] at h⊢
  split at h
  ·split at h
   ·exact iha _ _ h
   ·exact ihb _ _ h
  ·cases h
 |block id a iha=>
  intro s r h
  simp only[evC] at h⊢
  cases he:evC K N fn ro fuel a s with
  |none=>rw[he] at h;cases h
  |some x=>rw[iha s _ he];rw[he] at h;exact h
 |loop a iha=>
  intro s r h
  simp only[evC] at h⊢
  exact iter_mono (fun s r=>iha s r) hf h
 |rf f ps a b _ _=>
  intro s r h
  simp only[evC] at h⊢
  split at h
  ·rename_i d h1 df e
   split at h
   ·rename_i u h3 e3
    rw[hK _ _ _ _ e3];exact h
   ·cases h
  ·cases h
 |exit id=>intro s r h;exact h
 |scope a iha=>intro s r h;exact iha s r h
 |ret=>intro s r h;exact h
end
theorem evV_succ {Fn:Nat→Option FD}{fast:Nat→Option (List V→H→Option (V × H))}:∀(n:Nat),Kmo (evV Fn fast n) (evV Fn fast (n+1)):=by
 intro n
 induction n with
 |zero=>intro fv args h r e;cases e
 |succ n ih=>
  intro fv args h r e
  have hc:=fun N fn ro c s r=>evC_mono (N:=N) (fn:=fn) (ro:=ro) ih (Nat.le_succ n) c s r
  unfold evV at e⊢
  split at e
  ·split at e
   ·exact e
   ·split at e
    ·rename_i fd _
     dsimp only at e⊢
     split at e
     ·cases he:evC (evV Fn fast n) fd.ntmps _ none n fd.body _ with
      |none=>rw[he] at e;cases e
      |some x=>rw[hc _ _ _ _ _ _ he];rw[he] at e;exact e
     ·cases e
    ·cases e
  ·rename_i l
   split at e
   ·rename_i rr hl
    split at e
    ·rename_i tm hb
     cases he:evC (evV Fn fast n) rr.n rr.fn (some l) n rr.assign ⟨tm,h,[]⟩ with
     |none=>rw[he] at e;cases e
     |some x=>
      obtain⟨y,s⟩:=x
      rw[hc _ _ _ _ _ _ he];rw[he] at e
      cases y with
      |nrm=>
       simp only at e⊢
       split at e
       ·rename_i r1 hr1
        split at e
        ·cases he2:evC (evV Fn fast n) rr.n rr.fn (some l) n rr.body ⟨s.tm,s.h.set l (.loop {r1 with st:=.busy}),s.df⟩ with
         |none=>rw[he2] at e;cases e
         |some x2=>rw[hc _ _ _ _ _ _ he2];rw[he2] at e;exact e
        ·cases e
       ·cases e
      |ext id=>cases e
      |ret=>cases e
    ·cases e
   ·cases e
  ·cases e
theorem evV_mono {Fn:Nat→Option FD}{fast:Nat→Option (List V→H→Option (V × H))}{n m:Nat}(h:n≤m):Kmo (evV Fn fast n) (evV Fn fast m):=by
 intro fv args hh r e
 induction h with
 |refl=>exact e
 |step _ ih=>exact evV_succ _ _ _ _ _ ih
end Go.Ab
