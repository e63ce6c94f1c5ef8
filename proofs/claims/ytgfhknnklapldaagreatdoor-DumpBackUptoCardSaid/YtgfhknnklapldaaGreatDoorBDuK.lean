/-
 DuK
-/
import Derived.Test.YtgfhknnklapldaaGreatDoorBDuE
import Derived.Test.YtgfhknnklapldaaGreatDoorBCodec
import Derived.Test.YtgfhknnklapldaaGreatDoorBSeg1
namespace Go.Proofs.YtgfhknnklapldaaGreatDoor
open Go.RowKit Go.Lib Go.IntWalk Go.Sort Go.Shelf
theorem bas_eq {a b:ByteArray} (h:a.data.toList=b.data.toList):a=b:=by
 apply ByteArray.ext
 exact Array.toList_inj.1 h
theorem bas_s (l:List UInt8):(strB l).data.toList=l:=by simp [strB]
theorem rdB_byteD (w:World) (H:Nat) (hH:w.heap.size=H) (x:UInt8) (y:Int) (hy:y=(x.toNat:Int)):RdB (w.alloc (.cells #[.int .u8 y] 5)) (·=H) (.slice (some ⟨H,0,none⟩) 1 1) [x]:=by
 subst hy
 exact rdB_new w H hH [x] 1 rfl (by omega)
end Go.Proofs.YtgfhknnklapldaaGreatDoor
