import Derived.Test.YtidamcdklgfogaaGreatDoorUac
import Derived.Test.YtidamcdklgfogaaGreatDoorUad
set_option linter.unusedVariables false
set_option linter.unusedSimpArgs false
namespace Go.Proofs.YtidamcdklgfogaaGreatDoor
section
def Xu:List Nat:=[114,111,111,116,115]
def numO (hi:Int) (w:List Nat):Option Int:=if Zb w=true/\0<=Za w/\Za w<=hi then some (Za w) else none
def Qy (hi:Int):List (List Nat)->Option (List Int)
 | []=>some []
 | w::ws=>match numO hi w with|none=>none|some x=>(Qy hi ws).map (x :: ·)
end
end Go.Proofs.YtidamcdklgfogaaGreatDoor
