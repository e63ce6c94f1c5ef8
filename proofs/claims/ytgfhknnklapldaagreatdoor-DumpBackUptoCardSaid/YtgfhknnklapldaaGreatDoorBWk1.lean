/-
 Wk1
-/
import Derived.Test.YtgfhknnklapldaaGreatDoorBRc3
import Derived.Test.YtgfhknnklapldaaGreatDoorBSeg1
namespace Go.Proofs.YtgfhknnklapldaaGreatDoor
open Go.Proofs.Tryz
set_option maxRecDepth 99999
set_option maxHeartbeats 0
open Go.RowKit Go.Lib Go.IntWalk Go.Sort Go.Shelf
theorem bufText_any (base B:Nat) (l:List UInt8) (S:ByteArray) (w:World) (hbB:base≤B) (h:BufAt w base B l) (hS:S.size≤300) (hl:l.length+4000≤140737488300000):
  Calls prog 54 #[.pointer (some ⟨B,0,none⟩),.string S] w (BufOut base B (l++(encI S.size++S.data.toList)) w):=by
 exact zq4 1
end Go.Proofs.YtgfhknnklapldaaGreatDoor
