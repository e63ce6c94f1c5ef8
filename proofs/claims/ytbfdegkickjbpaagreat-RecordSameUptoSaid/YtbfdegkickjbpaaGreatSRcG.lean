/-
 RcG
-/
import Derived.Test.YtbfdegkickjbpaaGreatSRcF
namespace Go.Proofs.YtbfdegkickjbpaaGreat
open Go.RowKit Go.Lib Go.IntWalk Go.Sort Go.Shelf
/-- a delta as it lies -/
structure RDl where
 name : ByteArray
 cA : Option Addr
 cc : Nat
 cl : List Int
 oA : Option Addr
 oc : Nat
 ops : List RF
def RDl.enc (d : RDl) : List Value := [.string d.name, .slice d.cA d.cl.length d.cc, .slice d.oA d.ops.length d.oc]
structure RDl.is (w : World) (F : Nat → Prop) (d : RDl) : Prop where
 close : RdE 1 intE w F (.slice d.cA d.cl.length d.cc) d.cl
 opens : RdFs w F (.slice d.oA d.ops.length d.oc) d.ops
 few : d.cl.length ≤ 1048576 ∧ d.ops.length ≤ 1048576
theorem RDl.is.below {w w' : World} {d : RDl} (h : d.is w (· < w.heap.size)) (hb : Below w.heap.size w w') : d.is w' (· < w'.heap.size) := ⟨h.close.below hb, h.opens.below hb, h.few⟩
structure REn.is (w : World) (F : Nat → Prop) (x : REn) : Prop where
 create : x.create.is w F
 few : x.create.few
 text : x.change.def_.text.size ≤ maxLen
theorem REn.is.below {w w' : World} {x : REn} (h : x.is w (· < w.heap.size)) (hb : Below w.heap.size w w') : x.is w' (· < w'.heap.size) := ⟨h.create.below hb, h.few, h.text⟩
/-- a commit as it lies -/
structure RCm where
 tx : Int
 time : Int
 wall : Int
 first : Int
 eA : Option Addr
 eC : Nat
 ents : List REn
 dA : Option Addr
 dC : Nat
 dels : List RDl
 pA : Option Addr
 pC : Nat
 pla : List Hld
 rA : Option Addr
 rC : Nat
 rel : List ByteArray
 qA : Option Addr
 qC : Nat
 pol : List Pol
 hA : Option Addr
 hC : Nat
 hor : List Hor
def RCm.enc (c : RCm) : List Value := [.int .i64 c.tx, .int .i64 c.time, .int .i64 c.wall, .int .i64 c.first, .slice c.eA c.ents.length c.eC, .slice c.dA c.dels.length c.dC, .slice c.pA c.pla.length c.pC, .slice c.rA c.rel.length c.rC, .slice c.qA c.pol.length c.qC, .slice c.hA c.hor.length c.hC]
structure RCm.is (w : World) (F : Nat → Prop) (c : RCm) : Prop where
 ents : RdE 16 REn.enc w F (.slice c.eA c.ents.length c.eC) c.ents
 entI : ∀ x ∈ c.ents, x.is w F
 dels : RdE 3 RDl.enc w F (.slice c.dA c.dels.length c.dC) c.dels
 delI : ∀ x ∈ c.dels, x.is w F
 pla : RdE 6 Hld.enc w F (.slice c.pA c.pla.length c.pC) c.pla
 rel : RdE 1 strE w F (.slice c.rA c.rel.length c.rC) c.rel
 pol : RdE 2 Pol.enc w F (.slice c.qA c.pol.length c.qC) c.pol
 hor : RdE 2 Hor.enc w F (.slice c.hA c.hor.length c.hC) c.hor
theorem RCm.is.below {w w' : World} {c : RCm} (h : c.is w (· < w.heap.size)) (hb : Below w.heap.size w w') : c.is w' (· < w'.heap.size) :=
 ⟨h.ents.below hb, fun x hx => (h.entI x hx).below hb, h.dels.below hb, fun x hx => (h.delI x hx).below hb, h.pla.below hb, h.rel.below hb, h.pol.below hb, h.hor.below hb⟩
end Go.Proofs.YtbfdegkickjbpaaGreat
