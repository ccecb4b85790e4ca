/- For stepping: what heaps hold after what was done. -/
import Derived.Test.YtiphdfiihgbomabGreatAbW
set_option linter.unusedSimpArgs false
set_option linter.unusedVariables false
namespace Go.Ab
theorem H.cells_set (h:H)(b c:Nat)(k:Kd)(cs:List V):(h.set b (.cells k cs)).cells c=if c=b then some cs else h.cells c:=by
 unfold H.cells;rw[H.get_set];by_cases e:c=b<;>simp[upd,e]
theorem H.cells_add (h:H)(c:Nat)(k:Kd)(cs:List V):(h.add (.cells k cs)).cells c=if c=h.next then some cs else h.cells c:=by
 unfold H.cells;rw[H.get_add];by_cases e:c=h.next<;>simp[upd,e]
theorem H.get_set_if (h:H)(b c:Nat)(x:Blk):(h.set b x).get c=if c=b then some x else h.get c:=by rw[H.get_set];rfl
theorem H.get_add_if (h:H)(c:Nat)(x:Blk):(h.add x).get c=if c=h.next then some x else h.get c:=by rw[H.get_add];rfl
theorem H.put_rw {h:H}{b o:Nat}{v:V}{vs cs cs':List V}(h1:allOne (v::vs)=true)(hb:h.get b=some (.cells .rw cs))(hp:putN o (v::vs) cs=some cs'):
  h.put b o (v::vs)=some (h.set b (.cells .rw cs')):=by
 simp only[H.put,h1,hb,setO,hp]
def H.sub (h h':H):Prop:=h.next≤h'.next∧∀b x,h.get b=some x→h'.get b=some x
theorem H.sub_refl (h:H):h.sub h:=⟨Nat.le_refl _,fun _ _ e=>e⟩
theorem H.sub_trans {h h' h'':H}(a:h.sub h')(b:h'.sub h''):h.sub h'':=⟨Nat.le_trans a.1 b.1,fun c x e=>b.2 c x (a.2 c x e)⟩
theorem H.sub_add {h:H}(hw:h.wf)(x:Blk):h.sub (h.add x):=by
 refine⟨by rw[H.next_add];omega,fun b y e=>?_⟩
 have:=hw b y e
 rw[H.get_add_if,if_neg (by omega)];exact e
theorem H.sub_set {h0 h:H}(a:h0.sub h){b:Nat}(hb:h0.get b=none)(x:Blk):h0.sub (h.set b x):=by
 refine⟨by rw[H.next_set];exact a.1,fun c y e=>?_⟩
 have hne:c≠b:=fun e'=>by rw[e',hb] at e;cases e
 rw[H.get_set_if,if_neg hne];exact a.2 c y e
theorem H.cells_get {h:H}{b:Nat}{cs:List V}{k:Kd}(e:h.get b=some (.cells k cs)):h.cells b=some cs:=by simp[H.cells,e]
theorem H.sub_cells {h h':H}(a:h.sub h'){b:Nat}{cs:List V}(e:h.cells b=some cs):h'.cells b=some cs:=by
 obtain⟨k,hk⟩:=H.cells_eq e
 exact H.cells_get (a.2 b _ hk)
theorem H.wf_none {h:H}(hw:h.wf){b:Nat}(hb:h.next≤b):h.get b=none:=by
 cases e:h.get b with
 |none=>rfl
 |some x=>have:=hw b x e;omega
end Go.Ab
