/- The program's functions, run by the kernel (printed by a program of ours). -/
import Derived.Test.YtiphdfiihgbomacGreatAbK
import Derived.Test.YtiphdfiihgbomacGreatOk
import Derived.Test.YtiphdfiihgbomacGreatAbT
import Derived.KernelRfl
namespace Go.Ab.Tryz
open Go.Proofs
noncomputable section
def fkG (f:Nat):Option FK:=(fnG f).map FD.k
theorem fk_eq (f:Nat):fkG f=(fnG f).map FD.k:=rfl
theorem kok {fast:Nat→Option (List V→H→Option (V × H))}(hf:FastOk Tryz.prog tyG fast)(n:Nat):KOk Tryz.prog tyG (evVK fkG fast n):=by
 rw[evVK_eq fnG fast fkG fk_eq]
 exact evV_ok tyOK depth_ok mixed_ok fnOK hf n
theorem callable {f:FuncId}{fd:FD}(h:fnG f=some fd):Callable Tryz.prog f:=callable_of fnOK h
def fast0 (f:Nat):Option (List V→H→Option (V × H)):=lookF f []
theorem fast0_ok:FastOk Tryz.prog tyG fast0:=lookF_ok (l:=[]) (fun q hq=>by cases hq)
theorem ent {fast:Nat→Option (List V→H→Option (V × H))}(hf:FastOk Tryz.prog tyG fast){n:Nat}{f:FuncId}{fd:FD}(hfd:fnG f=some fd){e:Ent}(hok:e.ok=true)
  (hr:e.is (evVK fkG fast n (.fn f [] []) e.args e.h)=true):EntOk Tryz.prog tyG f e:=
 ⟨fun h1 h2 h3=>ent_spec (kok hf n) (callable hfd) hok hr h1 h2 h3⟩
end
end Go.Ab.Tryz
