/- Parts of a proof that a law's walk returns true. Conditions: none. -/
import Derived.Test.YtemppijblfflgaaGreatDoorZa00
import Derived.Test.YtemppijblfflgaaGreatDoorZa08
import Derived.Test.YtemppijblfflgaaGreatDoorZa10
import Derived.Test.YtemppijblfflgaaGreatDoorZa19
set_option linter.all false
set_option maxRecDepth 100000
set_option maxHeartbeats 8000000
namespace Go.Proofs.YtemppijblfflgaaGreatDoor.Ev
open Go Go.RowKit
section
variable {B:Nat} {w:World} {gr gs gp:Nat} {vq vv vg:Value} {vl:List Value} {p:AF} {c:jy} {key:Int} {r:GK} {e:Nat}
theorem Wi (n:Nat):((n:Int).tmod 2=0∧(n%2==1)=false)∨((n:Int).tmod 2=1∧(n%2==1)=true):=by
 have h:(n:Int).tmod 2=((n%2:Nat):Int):=by rw[rG (by omega)];omega
 rw[h]
 have:n%2=0∨n%2=1:=by omega
 rcases this with h|h<;>rw[h]<;>simp
end
end Go.Proofs.YtemppijblfflgaaGreatDoor.Ev
