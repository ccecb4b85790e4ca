/- What every run keeps: ids grow; blocks lie below the next id. -/
import Derived.Test.YtiphdfiihgbomabGreatAbE
set_option linter.unusedSimpArgs false
set_option linter.unusedVariables false
namespace Go.Ab
def H.wf (h:H):Prop:=∀b x,h.get b=some x→b<h.next
def H.le (h h':H):Prop:=h.next≤h'.next∧(h.wf→h'.wf)
theorem H.le_refl (h:H):h.le h:=⟨Nat.le_refl _,id⟩
theorem H.le_trans {h h' h'':H}(a:h.le h')(b:h'.le h''):h.le h'':=⟨Nat.le_trans a.1 b.1,fun x=>b.2 (a.2 x)⟩
theorem H.le_add (h:H)(x:Blk):h.le (h.add x):=by
 refine⟨by rw[H.next_add];omega,fun hw b y hb=>?_⟩
 rw[H.get_add] at hb
 rw[H.next_add]
 by_cases e:b=h.next
 ·omega
 ·rw[upd_ne e] at hb;have:=hw b y hb;omega
theorem H.le_set {h:H}{b:Nat}{x y:Blk}(hb:h.get b=some x):h.le (h.set b y):=by
 refine⟨by rw[H.next_set];omega,fun hw c z hc=>?_⟩
 rw[H.get_set] at hc
 rw[H.next_set]
 by_cases e:c=b
 ·subst e;exact hw c x hb
 ·rw[upd_ne e] at hc;exact hw c z hc
theorem H.le_del (h:H)(b:Nat):h.le (h.del b):=by
 refine⟨by rw[H.next_del];omega,fun hw c z hc=>?_⟩
 rw[H.get_del] at hc
 rw[H.next_del]
 by_cases e:c=b
 ·subst e;rw[upd_same] at hc;cases hc
 ·rw[upd_ne e] at hc;exact hw c z hc
theorem H.le_grownO {h:H}{b:Nat}{x:Blk}(hb:h.get b=some x)(y z:Blk):h.le ((h.add y).set b z):=by
 refine H.le_trans (H.le_add h y) ?_
 by_cases e:b=h.next
 ·exact H.le_set (x:=y) (by rw[H.get_add,e,upd_same])
 ·exact H.le_set (x:=x) (by rw[H.get_add,upd_ne e];exact hb)
theorem setO_le {h h':H}{b:Nat}{x:Blk}(hb:h.get b=some x){k:Kd}{o:Option (List V)}(hp:setO h b k o=some h'):h.le h':=by
 unfold setO at hp
 split at hp
 ·cases hp;exact H.le_set hb
 ·cases hp
theorem put_le {h h':H}{b o:Nat}{vs:List V}(hp:h.put b o vs=some h'):h.le h':=by
 unfold H.put at hp
 split at hp
 ·cases hp;exact H.le_refl _
 ·split at hp
  ·split at hp
   ·rename_i cs hb;exact setO_le hb hp
   ·rename_i s cs hb;exact setO_le hb hp
   ·cases hp
  ·cases hp
theorem withV_le {h h':H}{v u:V}{o:Option H}(hp:withV v o=some (u,h'))(ho:∀x,o=some x→h.le x):h.le h':=by
 unfold withV at hp
 split at hp
 ·cases hp;exact ho _ rfl
 ·cases hp
theorem evA_le {tm:T V}{h h':H}{i:I}{v:V}(hv:evA tm h i=some (v,h')):h.le h':=by
 cases i<;>simp only[evA,reduceCtorEq] at hv
 case alc=>simp only[a_new,Option.some.injEq,Prod.mk.injEq] at hv;rw[←hv.2];exact H.le_add _ _
 case box=>simp only[a_new,Option.some.injEq,Prod.mk.injEq] at hv;rw[←hv.2];exact H.le_add _ _
 case bsl=>
  unfold a_bsl at hv
  split at hv
  ·simp only[Option.some.injEq,Prod.mk.injEq] at hv;rw[←hv.2];exact H.le_add _ _
  ·cases hv
 case msl=>
  unfold a_msl at hv
  split at hv
  ·split at hv
   ·simp only[og_eq,lf_eq,Option.some.injEq,Prod.mk.injEq] at hv
    rw[←hv.2.2.2.2];exact H.le_add _ _
   ·cases hv
  ·cases hv
 case mkm=>simp only[Option.some.injEq,Prod.mk.injEq] at hv;rw[←hv.2];exact H.le_add _ _
theorem evE_le {tm:T V}{h h':H}{i:I}{v:V}(hv:evE tm h i=some (v,h')):h.le h':=by
 cases i<;>simp only[evE,reduceCtorEq] at hv
 case sto=>
  unfold e_sto at hv
  split at hv
  ·split at hv
   ·exact withV_le hv fun x hx=>put_le hx
   ·cases hv
  ·cases hv
 case mup=>
  unfold e_mup at hv
  split at hv
  ·split at hv
   ·rename_i es hb
    split at hv
    ·simp only[Option.some.injEq,Prod.mk.injEq] at hv;rw[←hv.2];exact H.le_set hb
    ·cases hv
   ·cases hv
  ·cases hv
 case mus=>
  unfold e_mus at hv
  simp only[og_eq] at hv
  obtain⟨_,hv⟩:=hv
  split at hv
  ·split at hv
   ·rename_i es hb
    split at hv
    ·simp only[Option.some.injEq,Prod.mk.injEq] at hv;rw[←hv.2];exact H.le_set hb
    ·cases hv
   ·cases hv
  ·cases hv
 case men=>
  unfold e_men at hv
  split at hv
  ·split at hv
   ·rename_i es hb
    split at hv
    ·split at hv<;> · simp only[Option.some.injEq,Prod.mk.injEq] at hv;rw[←hv.2];exact H.le_set hb
    ·cases hv
   ·cases hv
  ·cases hv
 case mst=>
  unfold e_mst at hv
  split at hv
  ·split at hv
   ·rename_i es hb
    split at hv
    ·split at hv
     ·simp only[Option.some.injEq,Prod.mk.injEq] at hv;rw[←hv.2];exact H.le_set hb
     ·cases hv
    ·cases hv
   ·cases hv
  ·cases hv
 case app sz by_ x y=>
  unfold e_app' at hv
  split at hv
  ·rename_i new hel
   split at hv
   ·rename_i k hk
    rw[lf_eq] at hv
    unfold e_app at hv
    split at hv
    ·split at hv
     ·simp only[Option.some.injEq,Prod.mk.injEq] at hv;rw[←hv.2];exact H.le_refl _
     ·split at hv
      ·simp only[og_eq,Option.some.injEq,Prod.mk.injEq] at hv;rw[←hv.2.2];exact H.le_refl _
      ·simp only[og_eq,Option.some.injEq,Prod.mk.injEq] at hv;rw[←hv.2.2];exact H.le_refl _
     ·cases hv
    ·split at hv
     ·simp only[room,grown,og_eq,Option.some.injEq,Prod.mk.injEq] at hv;rw[←hv.2.2.2];exact H.le_add _ _
     ·split at hv
      ·unfold appFix at hv
       split at hv
       ·exact withV_le hv fun x hx=>put_le hx
       ·split at hv
        ·simp only[room,grown,og_eq,Option.some.injEq,Prod.mk.injEq] at hv;rw[←hv.2.2.2];exact H.le_add _ _
        ·cases hv
      ·unfold appSlk at hv
       split at hv
       ·rename_i hbb
        simp only[og_eq] at hv
        obtain⟨_,_,hv⟩:=hv
        split at hv
        ·exact withV_le hv fun x hx=>put_le hx
        ·simp only[room,grownO,og_eq,Option.some.injEq,Prod.mk.injEq] at hv
         rw[←hv.2.2.2.2.2]
         exact H.le_grownO hbb _ _
       ·cases hv
     ·cases hv
   ·cases hv
  ·cases hv
 case cpy=>
  unfold e_cpy at hv
  split at hv
  ·split at hv
   ·split at hv
    ·split at hv
     all_goals
      unfold cpyTo at hv
      split at hv
      ·split at hv
       ·simp only[Option.some.injEq,Prod.mk.injEq] at hv;rw[←hv.2];exact H.le_refl _
       ·exact withV_le hv fun x hx=>put_le hx
       ·cases hv
      ·cases hv
    ·cases hv
   ·cases hv
  ·cases hv
 case clr=>
  unfold e_clr at hv
  split at hv
  ·simp only[Option.some.injEq,Prod.mk.injEq] at hv;rw[←hv.2];exact H.le_refl _
  ·exact withV_le hv fun x hx=>put_le hx
  ·cases hv
def Kle (K:Kall):Prop:=∀fv args h v h',K fv args h=some (v,h')→H.le h h'
section
variable {K:Kall} (hK:Kle K)
include hK
theorem evI_le {tm:T V}{h h':H}{i:I}{v:V}(hv:evI K tm h i=some (v,h')):h.le h':=by
 by_cases h0:i.kind=0
 ·rw[evI_0 h0] at hv
  unfold lq at hv
  split at hv
  ·cases hv;exact H.le_refl _
  ·cases hv
 by_cases h1:i.kind=1
 ·rw[evI_1 h1] at hv;exact evA_le hv
 by_cases h2:i.kind=2
 ·rw[evI_2 h2] at hv;exact evE_le hv
 cases i<;>first|(exact absurd rfl h0)|(exact absurd rfl h1)|(exact absurd rfl h2)|skip
 exact hK _ _ _ _ _ hv
theorem evOps_le:∀{l:List O} {tm tm':T V} {h h':H},evOps K l tm h=some (tm',h')→h.le h'
 |[],tm,tm',h,h',hv=>by cases hv;exact H.le_refl _
 |o::l,tm,tm',h,h',hv=>by
  simp only[evOps] at hv
  split at hv
  ·split at hv
   ·rename_i v h1 e;exact H.le_trans (evI_le hK e) (evOps_le hv)
   ·cases hv
  ·exact evOps_le hv
theorem runT_le:∀{l:List O} {tm tm':T V} {h h':H} {rs:List Rec},runT K l tm h=some (rs,tm',h')→h.le h'
 |[],tm,tm',h,h',rs,hv=>by cases hv;exact H.le_refl _
 |o::l,tm,tm',h,h',rs,hv=>by
  simp only[runT] at hv
  split at hv
  ·split at hv
   ·rename_i v h1 e
    split at hv
    ·rename_i rs1 r e2
     cases hv
     exact H.le_trans (evI_le hK e) (runT_le e2)
    ·cases hv
   ·cases hv
  ·split at hv
   ·rename_i rs1 r e2
    cases hv
    exact runT_le e2
   ·cases hv
theorem evD_le {l:List O}{tm tm':T V}{h h':H}(hv:evD K l tm h=some (tm',h')):h.le h':=by
 unfold evD at hv
 split at hv
 ·rename_i rs r e
  split at hv
  ·cases hv;exact runT_le hK e
  ·cases hv
 ·cases hv
omit hK in
theorem iter_le {f:St→Option (X × St)}(hf:∀s x s',f s=some (x,s')→s.h.le s'.h):∀(n:Nat) (s:St) (x:X) (s':St),iter f n s=some (x,s')→s.h.le s'.h:=by
 intro n
 induction n with
 |zero=>intro s x s' h;cases h
 |succ n ih=>
  intro s x s' h
  simp only[iter] at h
  split at h
  ·rename_i y s1 e
   split at h
   ·exact H.le_trans (hf _ _ _ e) (ih _ _ _ h)
   ·cases h;exact hf _ _ _ e
   ·cases h;exact hf _ _ _ e
  ·cases h
theorem evC_le {N:Nat}{fn:FuncId}{ro:Option Nat}{fuel:Nat}:∀(c:C) (s:St) (x:X) (s':St),evC K N fn ro fuel c s=some (x,s')→s.h.le s'.h:=by
 intro c
 induction c with
 |skip=>intro s x s' h;cases h;exact H.le_refl _
 |ops l=>
  intro s x s' h
  simp only[evC] at h
  split at h
  ·rename_i e;cases h;exact evOps_le hK e
  ·cases h
 |dops l=>
  intro s x s' h
  simp only[evC] at h
  split at h
  ·rename_i e;cases h;exact evD_le hK e
  ·cases h
 |seq a b iha ihb=>
  intro s x s' h
  simp only[evC] at h
  split at h
  ·rename_i y s1 e
   split at h
   ·exact H.le_trans (iha _ _ _ e) (ihb _ _ _ h)
   ·cases h;exact iha _ _ _ e
   ·cases h;exact iha _ _ _ e
  ·cases h
 |cond c a b iha ihb=>
  intro s x s' h
  simp only[evC] at h
  split at h
  ·split at h
   ·exact iha _ _ _ h
   ·exact ihb _ _ _ h
  ·cases h
 |block id a iha=>
  intro s x s' h
  simp only[evC] at h
  split at h
  ·rename_i y s1 e
   split at h
   ·cases h;exact iha _ _ _ e
   ·split at h
    ·cases h;exact iha _ _ _ e
    ·cases h;exact iha _ _ _ e
   ·cases h;exact iha _ _ _ e
  ·cases h
 |loop a iha=>
  intro s x s' h
  simp only[evC] at h
  exact iter_le iha fuel s x s' h
 |rf f ps as body ih1 ih2=>
  intro s x s' h
  simp only[evC] at h
  split at h
  ·rename_i d h1 df e
   have hle1:s.h.le h1:=by
    split at e
    ·split at e
     ·cases e;exact H.le_add _ _
     ·split at e
      ·cases e;exact H.le_refl _
      ·cases e
    ·cases e
   split at h
   ·rename_i u h3 e3
    have hle3:=H.le_trans hle1 (H.le_trans (H.le_add _ _) (hK _ _ _ _ _ e3))
    split at h
    ·rename_i r hr
     split at h
     ·cases h
     ·split at h
      ·cases h;exact H.le_trans hle3 (H.le_set hr)
      ·split at h
       ·cases h
       ·cases h;exact H.le_trans hle3 (H.le_set hr)
       ·cases h;exact H.le_trans hle3 (H.le_set hr)
    ·cases h
   ·cases h
  ·cases h
 |exit id=>intro s x s' h;cases h;exact H.le_refl _
 |scope a iha=>intro s x s' h;exact iha _ _ _ h
 |ret=>intro s x s' h;cases h;exact H.le_refl _
end
theorem marks_le:∀{ds:List Nat} {h h':H},marks ds h=some h'→h.le h'
 |[],h,h',hm=>by cases hm;exact H.le_refl _
 |d::ds,h,h',hm=>by
  simp only[marks] at hm
  split at hm
  ·exact H.le_trans (H.le_del _ _) (marks_le hm)
  ·cases hm
theorem evV_le {Fn:Nat→Option FD}{fast:Nat→Option (List V→H→Option (V × H))}(hf:∀f g,fast f=some g→∀args h v h',g args h=some (v,h')→H.le h h'):
  ∀(n:Nat),Kle (evV Fn fast n):=by
 intro n
 induction n with
 |zero=>intro fv args h v h' e;cases e
 |succ n ih=>
  intro fv args h v h' e
  unfold evV at e
  split at e
  ·split at e
   ·rename_i g hg;exact hf _ _ hg _ _ _ _ e
   ·split at e
    ·dsimp only at e
     split at e
     ·split at e
      ·rename_i e1
       have h1:=evC_le ih _ _ _ _ e1
       split at e
       ·cases e
       ·split at e
        ·rename_i h2 e2
         split at e
         ·cases e;exact H.le_trans h1 (marks_le e2)
         ·cases e
        ·cases e
      ·cases e
     ·cases e
    ·cases e
  ·split at e
   ·rename_i l r hl
    split at e
    ·split at e
     ·rename_i x1 s1 e1
      have h1:=evC_le ih _ _ _ _ e1
      split at e
      ·split at e
       ·rename_i r1 hr1
        split at e
        ·split at e
         ·rename_i x2 s2 e2
          have h2:=evC_le ih _ _ _ _ e2
          have h3:=H.le_trans h1 (H.le_trans (H.le_set hr1) h2)
          split at e
          ·rename_i r2 hr2
           split at e
           ·cases e;exact H.le_trans h3 (H.le_set hr2)
           ·cases e;exact H.le_trans h3 (H.le_set hr2)
           ·cases e;exact H.le_trans h3 (H.le_set hr2)
          ·cases e
         ·cases e
        ·cases e
       ·cases e
      ·cases e
     ·cases e
    ·cases e
   ·cases e
  ·cases e
end Go.Ab
