/- Words, and objects, that the walks name often: printed by gencomp.py. No conditions. -/
import Derived.Test.YtngjamedgphjiaaGreatDoorP0
import Derived.Test.YtngjamedgphjiaaGreatDoorDC
namespace Go.Proofs.YtngjamedgphjiaaGreatDoor
open Go Go.Dl
variable [WInv]
abbrev w_62 : Bytes := [62]
abbrev wi : Bytes := [105]
abbrev wr : Bytes := [114]
abbrev wii : Bytes := [105, 105]
abbrev wsizes : Bytes := [115, 105, 122, 101, 115]
abbrev wletters : Bytes := [108, 101, 116, 116, 101, 114, 115]
abbrev wclasses : Bytes := [99, 108, 97, 115, 115, 101, 115]
abbrev wtables : Bytes := [116, 97, 98, 108, 101, 115]
abbrev wthings : Bytes := [116, 104, 105, 110, 103, 115]
abbrev wcodes : Bytes := [99, 111, 100, 101, 115]
abbrev wbounds : Bytes := [98, 111, 117, 110, 100, 115]
abbrev wx : Bytes := [120]
end Go.Proofs.YtngjamedgphjiaaGreatDoor
