/-
 SmA
-/
import Derived.Lib.Bytealg
import Derived.Test.YtgfhknnklapldaaGreatDoorBRcO
import Derived.Test.YtgfhknnklapldaaGreatDoorBSeg1
namespace Go.Proofs.YtgfhknnklapldaaGreatDoor
open Go.RowKit Go.Lib Go.IntWalk Go.Sort Go.Shelf
def sameL {α:Type} (f:α→α→Bool):List α→List α→Bool
 |[],[]=>true
 |x::r,y::s=>f x y&&sameL f r s
 |_,_=>false
theorem sameL_len {α:Type} {f:α→α→Bool}:∀ {l m:List α},l.length≠m.length→sameL f l m=false
 |[],[],h=>absurd rfl h
 |[],_::_,_=>rfl
 |_::_,[],_=>rfl
 |x::r,y::s,h=>by simp only [sameL,sameL_len (f:=f) (l:=r) (m:=s) (fun e=>h (by simp [e])),Bool.and_false]
theorem sameL_at {α:Type} {f:α→α→Bool} {l m:List α} {k:Nat} (h:k<l.length) (h2:k<m.length):sameL f (l.drop k) (m.drop k)=(f l[k] m[k]&&sameL f (l.drop (k+1)) (m.drop (k+1))):=by
 rw [List.drop_eq_getElem_cons h,List.drop_eq_getElem_cons h2];rfl
theorem sameL_end {α:Type} {f:α→α→Bool} {l m:List α} {k:Nat} (h:l.length≤k) (h2:m.length≤k):sameL f (l.drop k) (m.drop k)=true:=by
 rw [List.drop_of_length_le h,List.drop_of_length_le h2];rfl
def sInt (a b:Int):Bool:=decide (a=b)
structure Stm where
 time:Int
 wall:Int
deriving Inhabited
def Stm.enc (p:Stm):List Value:=[.int .i64 p.time,.int .i64 p.wall]
def encVP (p:VP):List Value:=p.1.enc
structure RTv where
 table:ByteArray
 A:Option Addr
 C:Nat
 vers:List VP
def RTv.enc (p:RTv):List Value:=[.string p.table,.slice p.A p.vers.length p.C]
def RTv.is (w:World) (F:Nat→Prop) (p:RTv):Prop:=RdVs w F (.slice p.A p.vers.length p.C) p.vers
theorem RTv.is.below {w w':World} {p:RTv} (h:p.is w (ltw w)) (hb:Bl w w'):p.is w' (ltw w'):=RdVs.below h hb
structure RSt where
 tx:Int
 time:Int
 wall:Int
 next:Int
 eA:Option Addr
 eC:Nat
 ents:List REn
 sA:Option Addr
 sC:Nat
 stms:List Stm
 tA:Option Addr
 tC:Nat
 tabs:List RTv
 pA:Option Addr
 pC:Nat
 pla:List Hld
 qA:Option Addr
 qC:Nat
 pol:List Pol
 hA:Option Addr
 hC:Nat
 hor:List Hor
def RSt.enc (c:RSt):List Value:=[.int .i64 c.tx,.int .i64 c.time,.int .i64 c.wall,.int .i64 c.next,.slice c.eA c.ents.length c.eC,.slice c.sA c.stms.length c.sC,.slice c.tA c.tabs.length c.tC,.slice c.pA c.pla.length c.pC,.slice c.qA c.pol.length c.qC,.slice c.hA c.hor.length c.hC]
structure RSt.is (w:World) (F:Nat→Prop) (c:RSt):Prop where
 ents:RdE 16 REn.enc w F (.slice c.eA c.ents.length c.eC) c.ents
 entI:∀x∈c.ents,x.is w F
 stms:RdE 2 Stm.enc w F (.slice c.sA c.stms.length c.sC) c.stms
 tabs:RdE 2 RTv.enc w F (.slice c.tA c.tabs.length c.tC) c.tabs
 tabI:∀x∈c.tabs,x.is w F
 pla:RdE 6 Hld.enc w F (.slice c.pA c.pla.length c.pC) c.pla
 pol:RdE 2 Pol.enc w F (.slice c.qA c.pol.length c.qC) c.pol
 hor:RdE 2 Hor.enc w F (.slice c.hA c.hor.length c.hC) c.hor
theorem RSt.is.below {w w':World} {c:RSt} (h:c.is w (ltw w)) (hb:Bl w w'):c.is w' (ltw w'):=
 ⟨h.ents.below hb,fun x hx=>(h.entI x hx).below hb,h.stms.below hb,h.tabs.below hb,fun x hx=>(h.tabI x hx).below hb,h.pla.below hb,h.pol.below hb,h.hor.below hb⟩
end Go.Proofs.YtgfhknnklapldaaGreatDoor
