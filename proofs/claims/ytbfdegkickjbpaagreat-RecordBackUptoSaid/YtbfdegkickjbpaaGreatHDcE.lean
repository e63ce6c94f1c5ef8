/-
 DcE
-/
import Derived.Test.YtbfdegkickjbpaaGreatHDcC
namespace Go.Proofs.YtbfdegkickjbpaaGreat
set_option maxRecDepth 1000000
set_option maxHeartbeats 32000000
open Go.RowKit Go.Lib Go.IntWalk Go.Sort Go.Shelf
theorem srcText_any (R:Nat) (v:Value) (l:List UInt8) (s:Int×Int) (w:World) (h:SrcAt w R v s) (hv:RdB w (·<R) v l):
  Calls Tryz.prog 122 #[.pointer (some ⟨R,0,none⟩)] w fun x w'=>x=.returned (.string (rdT l s).1)∧SrcAt w' R v (rdT l s).2∧Chg (·=R) w w':=by
 exact zq15 1
theorem three_set {w:World} {T:Nat} {a b c:Value} {e:TypeId} (h:w.heap[T]? =some (.cells #[a,b,c] e (0,0))) (x y z:Value):(((w.setCell ⟨T,0,none⟩ x).setCell ⟨T,1,none⟩ y).setCell ⟨T,2,none⟩ z).heap[T]? =some (.cells #[x,y,z] e (0,0)):=by
 have h1:=heap_setCell_same w T 0 _ _ x h
 have h2:=heap_setCell_same _ T 1 _ _ y h1
 have h3:=heap_setCell_same _ T 2 _ _ z h2
 simpa using h3
theorem srcValue_any (R:Nat) (v:Value) (l:List UInt8) (s:Int×Int) (w:World) (h:SrcAt w R v s) (hv:RdB w (·<R) v l):
  Calls Tryz.prog 164 #[.pointer (some ⟨R,0,none⟩)] w fun x w'=>x=.returned (.agg (rdV l s).1.cells.toArray)∧SrcAt w' R v (rdV l s).2∧Chg (·=R) w w':=by
 exact zq0 0
theorem srcBool_any (R:Nat) (v:Value) (l:List UInt8) (s:Int×Int) (w:World) (h:SrcAt w R v s) (hv:RdB w (·<R) v l):
  Calls Tryz.prog 220 #[.pointer (some ⟨R,0,none⟩)] w fun x w'=>x=.returned (.bool (rdBool l s).1)∧SrcAt w' R v (rdBool l s).2∧Chg (·=R) w w':=by
 have KI:=srcInt_any R v l s w h hv
 unfold rdBool
 rcases hi:rdI l s with ⟨n,k,e⟩
 rw [hi] at KI
 clear hi h hv
 simp only at KI ⊢
 obtain ⟨bo,hbo⟩:∃bo,bo=if e=0∧n≠0∧n≠1 then (false,k,1) else (decide (n=1),k,e):=⟨_,rfl⟩
 rw [←hbo]
 have HBO:=hI0 hbo
 clear hbo
 go_enter Tryz.func220,Tryz.ntmps220
 go_wp2_with fail
 (with_reducible refine KI.mono ?_)
 rintro _ w1 ⟨rfl,hs,hc⟩
 have c2:w1.cell? ⟨R,2,none⟩=some (.int .i64 e):=cW0 w1 R 2 _ _ _ hs
 have f2:w1.frozen? ⟨R,2,none⟩=false:=fW0 w1 R 2 _ _ hs
 have HS:=hI0 hs
 have HC:=hI0 hc
 clear hs hc KI
 by_cases he:e=0
 case neg=>
  have HB:Hid (bo=(decide (n=1),k,e)):=hI0 (HBO.out.trans (if_neg (fun h=>he h.1)))
  have he2:(e==0)=false:=by simpa using he
  by_cases h1:n=1
  ·subst h1
   go_wp2_with fail
   go_ret
   rw [HB.out]
   exact ⟨rfl,HS.out,HC.out⟩
  ·have h12:(n==1)=false:=by simpa using h1
   go_wp2_with fail
   go_ret
   rw [HB.out]
   exact ⟨by first|rfl|simp [h1],HS.out,HC.out⟩
 subst he
 by_cases h0:n=0
 ·subst h0
  have HB:Hid (bo=(false,k,0)):=hI0 (HBO.out.trans (if_neg (by simp)))
  go_wp2_with fail
  go_ret
  rw [HB.out]
  exact ⟨rfl,HS.out,HC.out⟩
 ·by_cases h1:n=1
  ·subst h1
   have HB:Hid (bo=(true,k,0)):=hI0 (HBO.out.trans (if_neg (by simp)))
   go_wp2_with fail
   go_ret
   rw [HB.out]
   exact ⟨rfl,HS.out,HC.out⟩
  ·have h02:(n != 0)=true:=by simpa using h0
   have h12:(n != 1)=true:=by simpa using h1
   have h13:(n==1)=false:=by simpa using h1
   have HB:Hid (bo=(false,k,1)):=hI0 (HBO.out.trans (if_pos ⟨rfl,h0,h1⟩))
   go_wp2_with fail
   go_ret
   rw [HB.out]
   exact ⟨by first|rfl|simp [h1],HS.out.set2 1,Chg.setCell (S:=(·=R)) (p:=⟨R,2,none⟩) HC.out (.inl rfl) _⟩
end Go.Proofs.YtbfdegkickjbpaaGreat
