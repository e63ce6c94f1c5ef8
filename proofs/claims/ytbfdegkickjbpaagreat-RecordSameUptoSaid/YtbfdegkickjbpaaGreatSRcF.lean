/-
 RcF
-/
import Derived.Test.YtbfdegkickjbpaaGreatSRcE
namespace Go.Proofs.YtbfdegkickjbpaaGreat
open Go.RowKit Go.Lib Go.IntWalk Go.Sort Go.Shelf
def RTab.few (t : RTab) : Prop := t.cols.length ≤ 1048576 ∧ t.key.length ≤ 1048576 ∧ t.fors.length ≤ 1048576 ∧ t.chks.length ≤ 1048576
def RTab.blank (t : RTab) : Bool := t.name.toList.isEmpty && decide (t.cols.length + t.key.length + t.fors.length + t.chks.length = 0)
/-- an entry as it lies -/
structure REn where
 time : Int
 table : ByteArray
 create : RTab
 change : Chn
def REn.enc (x : REn) : List Value := [.int .i64 x.time, .string x.table] ++ x.create.enc ++ x.change.enc
def Chn.zero (x : Chn) : Bool := decide (x.kind = 0) && (x.name.toList.isEmpty && (x.to.toList.isEmpty && (x.cname.toList.isEmpty && (decide (x.ckind = 0) && (!x.cnull && (decide (x.def_.kind = 0) && (decide (x.def_.int = 0) && x.def_.text.toList.isEmpty)))))))
def REn.ok (x : REn) : Bool := instB x.time && (nmB x.table && (if x.change.kind = 0 then x.change.zero && (x.create.ok && (x.create.name.toList == x.table.toList)) else x.change.ok && x.create.blank))
end Go.Proofs.YtbfdegkickjbpaaGreat
