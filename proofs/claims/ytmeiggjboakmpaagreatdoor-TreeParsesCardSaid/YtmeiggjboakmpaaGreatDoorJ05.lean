/- General: errors' values. -/
import Derived.Test.YtmeiggjboakmpaaGreatDoorJ01
namespace Go.Proofs.YtmeiggjboakmpaaGreatDoor
open Go Go.RowKit
set_option maxRecDepth 100000
theorem Z17 {w:World} {base:Nat} {e:TypeId} {v:Value} {n:Nat} {xs:List Value} (h:w.ownsRow base e 1 v n xs) {g:Nat} (hg:v.ownBlock=some g) {i:Nat} {x:Value} (hi:xs[i]?=some x) :
 w.cell? ⟨g,i,none⟩=some x:=by
 have:=h.cells hg i x hi;rwa [show ((⟨g,0,none⟩:Addr).add i)=⟨g,i,none⟩ by unfold Addr.add; split <;> simp_all] at this
def errV (c:Int):Value:=if c=0 then .nilIface else .iface 23 (.int .i64 c)
end Go.Proofs.YtmeiggjboakmpaaGreatDoor
