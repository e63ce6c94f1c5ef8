/-
 SmA
-/
import Derived.Lib.Bytealg
import Derived.Test.YtbfdegkickjbpaaGreatGRcO
import Derived.Test.YtbfdegkickjbpaaGreatGSrc1
namespace Go.Proofs.YtbfdegkickjbpaaGreat
open Go.RowKit Go.Lib Go.IntWalk Go.Sort Go.Shelf
def eqS (a b:ByteArray):Bool:=a.toList==b.toList
def sameL {α:Type} (f:α→α→Bool):List α→List α→Bool
 |[],[]=>true
 |x::r,y::s=>f x y&&sameL f r s
 |_,_=>false
theorem sameL_len {α:Type} {f:α→α→Bool}:∀ {l m:List α},l.length≠m.length→sameL f l m=false
 |[],[],h=>absurd rfl h
 |[],_::_,_=>rfl
 |_::_,[],_=>rfl
 |x::r,y::s,h=>by simp only [sameL,sameL_len (f:=f) (l:=r) (m:=s) (fun e=>h (by simp [e])),Bool.and_false]
theorem sameL_at {α:Type} {f:α→α→Bool} {l m:List α} {k:Nat} (h:k<l.length) (h2:k<m.length):sameL f (l.drop k) (m.drop k)=(f l[k] m[k]&&sameL f (l.drop (k+1)) (m.drop (k+1))):=by
 rw [List.drop_eq_getElem_cons h,List.drop_eq_getElem_cons h2];rfl
theorem sameL_end {α:Type} {f:α→α→Bool} {l m:List α} {k:Nat} (h:l.length≤k) (h2:m.length≤k):sameL f (l.drop k) (m.drop k)=true:=by
 rw [List.drop_of_length_le h,List.drop_of_length_le h2];rfl
def sInt (a b:Int):Bool:=decide (a=b)
def sVal (a b:Val):Bool:=decide (a.kind=b.kind)&&(decide (a.int=b.int)&&eqS a.text b.text)
end Go.Proofs.YtbfdegkickjbpaaGreat
