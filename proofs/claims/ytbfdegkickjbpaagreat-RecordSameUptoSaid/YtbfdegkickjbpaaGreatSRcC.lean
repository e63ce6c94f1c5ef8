/-
 RcC
-/
import Derived.Test.YtbfdegkickjbpaaGreatSRcB
namespace Go.Proofs.YtbfdegkickjbpaaGreat
open Go.RowKit Go.Lib Go.IntWalk Go.Sort Go.Shelf
def ix11 (n : Int) : Bool := decide (0 ≤ n ∧ n ≤ 11)
def ixF (l : List Int) : Bool := l.all ix11 && decide (l.length ≤ 12)
/-- a change as it lies -/
structure Chn where
 kind : Int
 name : ByteArray
 to : ByteArray
 cname : ByteArray
 ckind : Int
 cnull : Bool
 def_ : Val
def Chn.enc (x : Chn) : List Value := [.int .i64 x.kind, .string x.name, .string x.to, .string x.cname, .int .i64 x.ckind, .bool x.cnull, .int .i64 x.def_.kind, .int .i64 x.def_.int, .string x.def_.text]
def emW (s : ByteArray) : Bool := s.toList.isEmpty || nmB s
def Chn.ok (x : Chn) : Bool := emW x.name && (emW x.to && (emW x.cname && (decide (1 ≤ x.kind ∧ x.kind ≤ 4) && (decide (0 ≤ x.ckind ∧ x.ckind ≤ 3) && validV x.def_))))
end Go.Proofs.YtbfdegkickjbpaaGreat
