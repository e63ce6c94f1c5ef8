/-
 SrcT
-/
import Derived.Test.YtbfdegkickjbpaaGreatGSrcR
import Derived.Deep.Cut
namespace Go.Proofs.YtbfdegkickjbpaaGreat
set_option maxRecDepth 1000000
set_option maxHeartbeats 32000000
open Go.RowKit Go.Lib Go.IntWalk Go.Sort Go.Shelf
theorem done_any (bA:Option Addr) (bc:Nat) (a e n:Int) (g:InR) (l:List UInt8) (w:World):Calls Tryz.prog 83 #[inV bA l.length bc (a,e) n g] w fun x w'=>x=.returned (.int .i64 (endE (a,e) l.length))∧Below w.heap.size w w':=by
 obtain ⟨s,vk,vi,vs,rA,rn,rc,p1,p2,lA,ln,lc⟩:=g
 simp only [inV]
 by_cases he:e=0
 ·subst he
  by_cases hl:a<(l.length:Int)
  ·rw [show endE (a,0) l.length=3 from if_pos ⟨rfl,hl⟩]
   go_enter Tryz.func83,Tryz.ntmps83
   go_wp2_with fail
   go_ret
   exact ⟨rfl,Below.of_alloc _⟩
  ·rw [show endE (a,0) l.length=0 from if_neg (fun h=>hl h.2)]
   go_enter Tryz.func83,Tryz.ntmps83
   go_wp2_with fail
   go_ret
   exact ⟨rfl,Below.of_alloc _⟩
 ·rw [show endE (a,e) l.length=e from if_neg (fun h=>he h.1)]
  go_enter Tryz.func83,Tryz.ntmps83
  go_wp2_with fail
  go_ret
  exact ⟨rfl,Below.of_alloc _⟩
end Go.Proofs.YtbfdegkickjbpaaGreat
