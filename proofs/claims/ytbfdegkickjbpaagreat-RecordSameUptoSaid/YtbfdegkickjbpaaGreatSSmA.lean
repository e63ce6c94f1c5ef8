/-
 SmA
-/
import Derived.Lib.Bytealg
import Derived.Test.YtbfdegkickjbpaaGreatSRcO
import Derived.Test.YtbfdegkickjbpaaGreatSSrcB
namespace Go.Proofs.YtbfdegkickjbpaaGreat
open Go.RowKit Go.Lib Go.IntWalk Go.Sort Go.Shelf
def eqS (a b : ByteArray) : Bool := a.toList == b.toList
theorem eqS_refl (a : ByteArray) : eqS a a = true := by simp [eqS]
/-- lists whose elements are the same -/
def sameL {α : Type} (f : α → α → Bool) : List α → List α → Bool
 | [], [] => true
 | x :: r, y :: s => f x y && sameL f r s
 | _, _ => false
theorem sameL_refl {α : Type} {f : α → α → Bool} {l : List α} (h : ∀ x ∈ l, f x x = true) : sameL f l l = true := by
 induction l with
 | nil => rfl
 | cons x r ih => simp only [sameL, h x (List.mem_cons_self ..), ih (fun y hy => h y (List.mem_cons_of_mem _ hy)), Bool.and_self]
theorem sameL_len {α : Type} {f : α → α → Bool} : ∀ {l m : List α}, l.length ≠ m.length → sameL f l m = false
 | [], [], h => absurd rfl h
 | [], _ :: _, _ => rfl
 | _ :: _, [], _ => rfl
 | x :: r, y :: s, h => by simp only [sameL, sameL_len (f := f) (l := r) (m := s) (fun e => h (by simp [e])), Bool.and_false]
theorem sameL_at {α : Type} {f : α → α → Bool} {l m : List α} {k : Nat} (h : k < l.length) (h2 : k < m.length) : sameL f (l.drop k) (m.drop k) = (f l[k] m[k] && sameL f (l.drop (k + 1)) (m.drop (k + 1))) := by
 rw [List.drop_eq_getElem_cons h, List.drop_eq_getElem_cons h2]; rfl
theorem sameL_end {α : Type} {f : α → α → Bool} {l m : List α} {k : Nat} (h : l.length ≤ k) (h2 : m.length ≤ k) : sameL f (l.drop k) (m.drop k) = true := by
 rw [List.drop_of_length_le h, List.drop_of_length_le h2]; rfl
def sInt (a b : Int) : Bool := decide (a = b)
def sVal (a b : Val) : Bool := decide (a.kind = b.kind) && (decide (a.int = b.int) && eqS a.text b.text)
def sCol (x y : RCol) : Bool := eqS x.name y.name && (decide (x.kind = y.kind) && (x.null == y.null))
def sFor (x y : RFor) : Bool := eqS x.table y.table && sameL sInt x.cols y.cols
def sFct (x y : RF) : Bool := decide (x.vf = y.vf) && (decide (x.vt = y.vt) && sameL sVal x.row y.row)
def sHld (x y : Hld) : Bool := eqS x.name y.name && (eqS x.table y.table && (decide (x.vf = y.vf) && (decide (x.vt = y.vt) && (decide (x.sf = y.sf) && decide (x.st = y.st)))))
def sPol (x y : Pol) : Bool := eqS x.table y.table && decide (x.keep = y.keep)
def sHor (x y : Hor) : Bool := eqS x.table y.table && decide (x.time = y.time)
def sChn (x y : Chn) : Bool := decide (x.kind = y.kind) && (eqS x.name y.name && (eqS x.to y.to && (eqS x.cname y.cname && (decide (x.ckind = y.ckind) && ((x.cnull == y.cnull) && (decide (x.def_.kind = y.def_.kind) && (decide (x.def_.int = y.def_.int) && eqS x.def_.text y.def_.text)))))))
mutual
def sX : RE → RE → Bool
 | .mk op it v nm _ _ args, .mk op' it' v' nm' _ _ args' => decide (op = op') && (decide (it = it') && (sVal v v' && (eqS nm nm' && sXs args args')))
def sXs : List RE → List RE → Bool
 | [], [] => true
 | x :: r, y :: s => sX x y && sXs r s
 | _, _ => false
end
theorem sXs_eq : ∀ (l m : List RE), sXs l m = sameL sX l m
 | [], [] => by simp only [sXs, sameL]
 | [], _ :: _ => by simp only [sXs, sameL]
 | _ :: _, [] => by simp only [sXs, sameL]
 | x :: r, y :: s => by simp only [sXs, sameL, sXs_eq r s]
theorem sX_mk (op it : Int) (v : Val) (nm : ByteArray) (A : Option Addr) (c : Nat) (args : List RE) (op' it' : Int) (v' : Val) (nm' : ByteArray) (A' : Option Addr) (c' : Nat) (args' : List RE) :
  sX (.mk op it v nm A c args) (.mk op' it' v' nm' A' c' args') = (decide (op = op') && (decide (it = it') && (sVal v v' && (eqS nm nm' && sameL sX args args')))) := by
 simp only [sX, sXs_eq]
def sTab (x y : RTab) : Bool := eqS x.name y.name && (sameL sCol x.cols y.cols && (sameL sInt x.key y.key && (sameL sFor x.fors y.fors && sameL sX x.chks y.chks)))
def sEnt (x y : REn) : Bool := decide (x.time = y.time) && (eqS x.table y.table && (sChn x.change y.change && sTab x.create y.create))
def sDel (x y : RDl) : Bool := eqS x.name y.name && (sameL sInt x.cl y.cl && sameL sFct x.ops y.ops)
def sCm (a b : RCm) : Bool := decide (a.tx = b.tx) && (decide (a.time = b.time) && (decide (a.wall = b.wall) && (decide (a.first = b.first) && (sameL sEnt a.ents b.ents && (sameL sDel a.dels b.dels && (sameL sHld a.pla b.pla && (sameL eqS a.rel b.rel && (sameL sPol a.pol b.pol && sameL sHor a.hor b.hor))))))))
theorem sVal_refl (a : Val) : sVal a a = true := by simp [sVal, eqS_refl]
theorem sInt_refl (a : Int) : sInt a a = true := by simp [sInt]
theorem sCol_refl (a : RCol) : sCol a a = true := by simp [sCol, eqS_refl]
theorem sFor_refl (a : RFor) : sFor a a = true := by simp [sFor, eqS_refl, sameL_refl (fun x _ => sInt_refl x)]
theorem sFct_refl (a : RF) : sFct a a = true := by simp [sFct, sameL_refl (fun x _ => sVal_refl x)]
theorem sHld_refl (a : Hld) : sHld a a = true := by simp [sHld, eqS_refl]
theorem sPol_refl (a : Pol) : sPol a a = true := by simp [sPol, eqS_refl]
theorem sHor_refl (a : Hor) : sHor a a = true := by simp [sHor, eqS_refl]
theorem sChn_refl (a : Chn) : sChn a a = true := by simp [sChn, eqS_refl]
mutual
theorem sX_refl : ∀ e : RE, sX e e = true
 | .mk op it v nm _ _ args => by simp only [sX, sVal_refl, eqS_refl, sXs_refl args]; simp
theorem sXs_refl : ∀ l : List RE, sXs l l = true
 | [] => by simp only [sXs]
 | x :: r => by simp only [sXs, sX_refl x, sXs_refl r, Bool.and_self]
end
theorem sTab_refl (a : RTab) : sTab a a = true := by simp [sTab, eqS_refl, sameL_refl (fun x _ => sInt_refl x), sameL_refl (fun x _ => sCol_refl x), sameL_refl (fun x _ => sFor_refl x), sameL_refl (fun x _ => sX_refl x)]
theorem sEnt_refl (a : REn) : sEnt a a = true := by simp [sEnt, eqS_refl, sChn_refl, sTab_refl]
theorem sDel_refl (a : RDl) : sDel a a = true := by simp [sDel, eqS_refl, sameL_refl (fun x _ => sInt_refl x), sameL_refl (fun x _ => sFct_refl x)]
theorem sCm_refl (a : RCm) : sCm a a = true := by
 simp [sCm, sameL_refl (fun x _ => sEnt_refl x), sameL_refl (fun x _ => sDel_refl x), sameL_refl (fun x _ => sHld_refl x), sameL_refl (fun x _ => eqS_refl x), sameL_refl (fun x _ => sPol_refl x), sameL_refl (fun x _ => sHor_refl x)]
/-- the comparison of values, and of rows -/
theorem compareBytes_zero : ∀ a b : List UInt8, Lib.compareBytes a b = 0 ↔ a = b
 | [], [] => by simp [Lib.compareBytes]
 | [], _ :: _ => by simp [Lib.compareBytes]
 | _ :: _, [] => by simp [Lib.compareBytes]
 | x :: a, y :: b => by
  unfold Lib.compareBytes
  by_cases h1 : x < y
  ·rw [if_pos h1]
   have hne : x ≠ y := fun e => by subst e; exact UInt8.lt_irrefl x h1
   simp [hne]
  ·rw [if_neg h1]
   by_cases h2 : y < x
   ·rw [if_pos h2]
    have hne : x ≠ y := fun e => by subst e; exact UInt8.lt_irrefl x h2
    simp [hne]
   ·rw [if_neg h2]
    have he : x = y := UInt8.le_antisymm (UInt8.not_lt.1 h2) (UInt8.not_lt.1 h1)
    subst he
    simp [compareBytes_zero a b]
def cmpW (a b : Val) : Int := or3 (cmpI a.kind b.kind) (cmpI a.int b.int) (Lib.compareBytes a.text.data.toList b.text.data.toList)
theorem cmpI_zero (a b : Int) : cmpI a b = 0 ↔ a = b := by
 unfold cmpI
 constructor
 ·intro h; split at h
  ·omega
  ·split at h <;> omega
 ·intro h; subst h; simp
theorem eqS_iff (a b : ByteArray) : eqS a b = true ↔ a.data.toList = b.data.toList := by
 simp [eqS, ByteArray.toList_eq]
theorem cmpW_zero (a b : Val) : cmpW a b = 0 ↔ sVal a b = true := by
 unfold cmpW or3 sVal
 rw [Bool.and_eq_true, Bool.and_eq_true, decide_eq_true_eq, decide_eq_true_eq, eqS_iff, ← compareBytes_zero, ← cmpI_zero a.kind, ← cmpI_zero a.int]
 by_cases h1 : cmpI a.kind b.kind = 0
 ·by_cases h2 : cmpI a.int b.int = 0
  ·simp [h1, h2]
  ·simp [h1, h2]
 ·simp [h1]
def cmpRow : List Val → List Val → Int
 | [], [] => 0
 | [], _ :: _ => -1
 | _ :: _, [] => 1
 | x :: r, y :: s => if cmpW x y ≠ 0 then cmpW x y else cmpRow r s
theorem cmpRow_zero : ∀ l m : List Val, decide (cmpRow l m = 0) = sameL sVal l m
 | [], [] => rfl
 | [], _ :: _ => rfl
 | _ :: _, [] => rfl
 | x :: r, y :: s => by
  unfold cmpRow sameL
  rw [← cmpRow_zero r s]
  by_cases h : cmpW x y = 0
  ·rw [if_neg (by simpa using h), (cmpW_zero x y).1 h, Bool.true_and]
  ·have h2 : sVal x y = false := by
    cases e : sVal x y with
    | false => rfl
    | true => exact absurd ((cmpW_zero x y).2 e) h
   rw [if_pos h, h2, Bool.false_and, decide_eq_false h]
theorem cmpRow_at {l m : List Val} {k : Nat} (h : k < l.length) (h2 : k < m.length) : cmpRow (l.drop k) (m.drop k) = if cmpW l[k] m[k] ≠ 0 then cmpW l[k] m[k] else cmpRow (l.drop (k + 1)) (m.drop (k + 1)) := by
 rw [List.drop_eq_getElem_cons h, List.drop_eq_getElem_cons h2]; rfl
theorem cmpRow_gt {l m : List Val} {k : Nat} (h : k < l.length) (h2 : m.length ≤ k) : cmpRow (l.drop k) (m.drop k) = 1 := by
 rw [List.drop_eq_getElem_cons h, List.drop_of_length_le h2]; rfl
theorem cmpRow_lt {l m : List Val} {k : Nat} (h : l.length ≤ k) (h2 : k < m.length) : cmpRow (l.drop k) (m.drop k) = -1 := by
 rw [List.drop_of_length_le h, List.drop_eq_getElem_cons h2]; rfl
theorem cmpRow_end {l m : List Val} {k : Nat} (h : l.length ≤ k) (h2 : m.length ≤ k) : cmpRow (l.drop k) (m.drop k) = 0 := by
 rw [List.drop_of_length_le h, List.drop_of_length_le h2]; rfl
/-- stamps, versions, and states, as they lie -/
structure Stm where
 time : Int
 wall : Int
deriving Inhabited
def Stm.enc (p : Stm) : List Value := [.int .i64 p.time, .int .i64 p.wall]
def sStm (x y : Stm) : Bool := decide (x.time = y.time) && decide (x.wall = y.wall)
def encP (p : VP) : List Value := p.1.enc
def sVer (x y : VP) : Bool := decide (x.1.id = y.1.id) && (decide (x.1.sch = y.1.sch) && (decide (x.1.vf = y.1.vf) && (decide (x.1.vt = y.1.vt) && (decide (x.1.sf = y.1.sf) && (decide (x.1.st = y.1.st) && (decide (x.1.by_ = y.1.by_) && (decide (x.1.un = y.1.un) && sameL sVal x.2.row y.2.row)))))))
structure RTv where
 table : ByteArray
 A : Option Addr
 C : Nat
 vers : List VP
def RTv.enc (p : RTv) : List Value := [.string p.table, .slice p.A p.vers.length p.C]
def RTv.is (w : World) (F : Nat → Prop) (p : RTv) : Prop := RdVs w F (.slice p.A p.vers.length p.C) p.vers
theorem RTv.is.below {w w' : World} {p : RTv} (h : p.is w (· < w.heap.size)) (hb : Below w.heap.size w w') : p.is w' (· < w'.heap.size) := RdVs.below h hb
def sTv (x y : RTv) : Bool := eqS x.table y.table && sameL sVer x.vers y.vers
structure RSt where
 tx : Int
 time : Int
 wall : Int
 next : Int
 eA : Option Addr
 eC : Nat
 ents : List REn
 sA : Option Addr
 sC : Nat
 stms : List Stm
 tA : Option Addr
 tC : Nat
 tabs : List RTv
 pA : Option Addr
 pC : Nat
 pla : List Hld
 qA : Option Addr
 qC : Nat
 pol : List Pol
 hA : Option Addr
 hC : Nat
 hor : List Hor
def RSt.enc (c : RSt) : List Value := [.int .i64 c.tx, .int .i64 c.time, .int .i64 c.wall, .int .i64 c.next, .slice c.eA c.ents.length c.eC, .slice c.sA c.stms.length c.sC, .slice c.tA c.tabs.length c.tC, .slice c.pA c.pla.length c.pC, .slice c.qA c.pol.length c.qC, .slice c.hA c.hor.length c.hC]
structure RSt.is (w : World) (F : Nat → Prop) (c : RSt) : Prop where
 ents : RdE 16 REn.enc w F (.slice c.eA c.ents.length c.eC) c.ents
 entI : ∀ x ∈ c.ents, x.is w F
 stms : RdE 2 Stm.enc w F (.slice c.sA c.stms.length c.sC) c.stms
 tabs : RdE 2 RTv.enc w F (.slice c.tA c.tabs.length c.tC) c.tabs
 tabI : ∀ x ∈ c.tabs, x.is w F
 pla : RdE 6 Hld.enc w F (.slice c.pA c.pla.length c.pC) c.pla
 pol : RdE 2 Pol.enc w F (.slice c.qA c.pol.length c.qC) c.pol
 hor : RdE 2 Hor.enc w F (.slice c.hA c.hor.length c.hC) c.hor
theorem RSt.is.below {w w' : World} {c : RSt} (h : c.is w (· < w.heap.size)) (hb : Below w.heap.size w w') : c.is w' (· < w'.heap.size) :=
 ⟨h.ents.below hb, fun x hx => (h.entI x hx).below hb, h.stms.below hb, h.tabs.below hb, fun x hx => (h.tabI x hx).below hb, h.pla.below hb, h.pol.below hb, h.hor.below hb⟩
def sSt (a b : RSt) : Bool := decide (a.tx = b.tx) && (decide (a.time = b.time) && (decide (a.wall = b.wall) && (decide (a.next = b.next) && (sameL sEnt a.ents b.ents && (sameL sStm a.stms b.stms && (sameL sTv a.tabs b.tabs && (sameL sHld a.pla b.pla && (sameL sPol a.pol b.pol && sameL sHor a.hor b.hor))))))))
theorem sStm_refl (a : Stm) : sStm a a = true := by simp [sStm]
theorem sVer_refl (a : VP) : sVer a a = true := by simp [sVer, sameL_refl (fun x _ => sVal_refl x)]
theorem sTv_refl (a : RTv) : sTv a a = true := by simp [sTv, eqS_refl, sameL_refl (fun x _ => sVer_refl x)]
theorem sSt_refl (a : RSt) : sSt a a = true := by
 simp [sSt, sameL_refl (fun x _ => sEnt_refl x), sameL_refl (fun x _ => sStm_refl x), sameL_refl (fun x _ => sTv_refl x), sameL_refl (fun x _ => sHld_refl x), sameL_refl (fun x _ => sPol_refl x), sameL_refl (fun x _ => sHor_refl x)]
end Go.Proofs.YtbfdegkickjbpaaGreat
