/-
 Wk1
-/
import Derived.Test.YtbfdegkickjbpaaGreatHRcG
import Derived.Test.YtbfdegkickjbpaaGreatHWkA
namespace Go.Proofs.YtbfdegkickjbpaaGreat
set_option maxRecDepth 1000000
set_option maxHeartbeats 32000000
section
open Go.RowKit Go.Lib Go.IntWalk Go.Sort Go.Shelf
theorem bufText_any (base B:Nat) (l:List UInt8) (S:ByteArray) (w:World) (hbB:base≤B) (h:BufAt w base B l) (hS:S.size≤300) (hl:l.length+4000≤140737488300000):
  Calls Tryz.prog 109 #[.pointer (some ⟨B,0,none⟩),.string S] w (BufOut base B (l++(encI S.size++S.data.toList)) w):=by
 exact zq12 1
end
end Go.Proofs.YtbfdegkickjbpaaGreat
