/-
 SegA
-/
import Derived.Test.YtbfdegkickjbpaaGreatHSrc1
import Derived.Test.YtbfdegkickjbpaaGreatHFrame
namespace Go.Proofs.YtbfdegkickjbpaaGreat
open Go.RowKit Go.Lib Go.IntWalk Go.Sort Go.Shelf
def chW (c:UInt8):Bool:=decide ((97≤c.toNat∧c.toNat≤122)∨c.toNat=95∨(48≤c.toNat∧c.toNat≤57))
def digW (s:List UInt8):Bool:=match s with|c::_=>decide (48≤c.toNat∧c.toNat≤57)|[]=>false
def nmW (s:List UInt8):Bool:= !decide (s.length=0)&&decide (s.length≤24)&& !digW s&&s.all chW
theorem nmW_nil:nmW []=false:=rfl
theorem nmW_long {s:List UInt8} (h:24<s.length):nmW s=false:=by
 unfold nmW;rw [show decide (s.length≤24)=false from by simp;omega];simp
theorem nmW_dig {s:List UInt8} (h:digW s=true):nmW s=false:=by unfold nmW;rw [h];simp
theorem nmW_bad {s:List UInt8} {k:Nat} (hk:k<s.length) (h:chW s[k]=false):nmW s=false:=by
 have:s.all chW=false:=by
  rw [List.all_eq_false]
  exact ⟨s[k],List.getElem_mem hk,by rw [h];simp⟩
 unfold nmW;rw [this];simp
theorem nmW_good {s:List UInt8} (h0:¬s.length=0) (h1:s.length≤24) (hd:digW s=false) (h:s.all chW=true):nmW s=true:=by
 unfold nmW;rw [h,hd];simp;exact ⟨by intro e;subst e;simp at h0,h1⟩
theorem allW_snoc {s:List UInt8} {k:Nat} (hk:k<s.length) (h:(s.take k).all chW=true) (hc:chW s[k]=true):(s.take (k+1)).all chW=true:=by
 rw [List.take_succ_eq_append_getElem hk,List.all_append,h]
 simp [hc]
theorem digW_of {s:List UInt8} (h:0<s.length):digW s=decide (48≤(s[0]).toNat∧(s[0]).toNat≤57):=by
 cases s with
 |nil=>simp at h
 |cons c r=>rfl
end Go.Proofs.YtbfdegkickjbpaaGreat
