/-
 DuB
-/
import Derived.Test.YtgfhknnklapldaaGreatDoorBDuA
import Derived.Test.YtgfhknnklapldaaGreatDoorBSmA
import Derived.Test.YtgfhknnklapldaaGreatDoorBRc3
import Derived.Test.YtgfhknnklapldaaGreatDoorBSt2
import Derived.Test.YtgfhknnklapldaaGreatDoorBSm2
namespace Go.Proofs.YtgfhknnklapldaaGreatDoor
open Go.RowKit Go.Lib Go.IntWalk Go.Sort Go.Shelf
def flagB (b:Bool):List UInt8:=if b then [49] else [48]
def valB (x:Val):List UInt8:=litB x.kind x.int x.text.data.toList
def qS (s:ByteArray):List UInt8:=quoteB s.data.toList
def numI (n:Int):List (List UInt8):=[itoa n]
def lstI {α:Type} (f:α→List (List UInt8)) (l:List α):List (List UInt8):=itoa l.length::l.flatMap f
def colI (c:RCol):List (List UInt8):=[qS c.name,itoa c.kind,flagB c.null]
def forI (f:RFor):List (List UInt8):=lstI numI f.cols++[qS f.table]
mutual
def exI:RE→List (List UInt8)
 | .mk op it v nm _ _ args=>[itoa op,itoa it,valB v,qS nm]++(itoa args.length::exL args)
def exL:List RE→List (List UInt8)
 |[]=>[]
 |a::r=>exI a++exL r
end
theorem exL_flat (l:List RE):exL l=l.flatMap exI:=by
 induction l with
 |nil=>rfl
 |cons a r ih=>rw [exL,ih];rfl
theorem exI_eq (op it:Int) (v:Val) (nm:ByteArray) (A:Option Addr) (c:Nat) (args:List RE):exI (.mk op it v nm A c args)=[itoa op,itoa it,valB v,qS nm]++lstI exI args:=by
 rw [exI,exL_flat];rfl
def litI (v:Val):List (List UInt8):=[valB v]
def tabI (t:RTab):List (List UInt8):=[qS t.name]++lstI colI t.cols++lstI numI t.key++lstI forI t.fors++lstI exI t.chks
def chnI (c:Chn):List (List UInt8):=[qS c.name,qS c.to]++colI ⟨c.cname,c.ckind,c.cnull⟩++[valB c.def_]
def wEntry:List UInt8:=[101,110,116,114,121]
def wState:List UInt8:=[115,116,97,116,101]
def wStamp:List UInt8:=[115,116,97,109,112]
def wTable:List UInt8:=[116,97,98,108,101]
def wVersion:List UInt8:=[118,101,114,115,105,111,110]
def wHold:List UInt8:=[104,111,108,100]
def wPolicy:List UInt8:=[112,111,108,105,99,121]
def wHorizon:List UInt8:=[104,111,114,105,122,111,110]
def wEnd:List UInt8:=[101,110,100]
def wTitle:List UInt8:=[98,105,116,101,109,112,111,114,97,108,32,100,117,109,112,32,49]
def entI (x:REn):List (List UInt8):=[wEntry,itoa x.time,qS x.table,itoa x.change.kind]++(if x.change.kind=0 then tabI x.create else chnI x.change)
def stmI (x:Stm):List (List UInt8):=[wStamp,itoa x.time,itoa x.wall]
def verI (x:Ver):List (List UInt8):=[wVersion,itoa x.id,itoa x.sch]++lstI litI x.row++[itoa x.vf,itoa x.vt,itoa x.sf,itoa x.st,itoa x.by_,itoa x.un]
def hldI (x:Hld):List (List UInt8):=[wHold,qS x.name,qS x.table,itoa x.vf,itoa x.vt,itoa x.sf,itoa x.st]
def polI (x:Pol):List (List UInt8):=[wPolicy,qS x.table,itoa x.keep]
def horI (x:Hor):List (List UInt8):=[wHorizon,qS x.table,itoa x.time]
def stI (c:RSt):List (List UInt8):=[wState,itoa c.tx,itoa c.time,itoa c.wall,itoa c.next]
def tabT (S:ByteArray) (l:List Ver):List UInt8:=lineB [wTable,qS S]++l.flatMap fun x=>lineB (verI x)
def tvT (x:RTv):List UInt8:=tabT x.table (x.vers.map (·.2))
def textS (c:RSt):List UInt8:=lineB [wTitle]++lineB (stI c)++c.ents.flatMap (fun x=>lineB (entI x))++c.stms.flatMap (fun x=>lineB (stmI x))++c.tabs.flatMap tvT++c.pla.flatMap (fun x=>lineB (hldI x))++c.pol.flatMap (fun x=>lineB (polI x))++c.hor.flatMap (fun x=>lineB (horI x))++lineB [wEnd]
theorem qS_len {s:ByteArray} {n:Nat} (h:s.size≤n):(qS s).length≤2*n+2:=by
 have h1:=quoteB_len s.data.toList
 have h2:=str_len s
 unfold qS
 omega
theorem valB_len {x:Val} (h:validV x=true):(valB x).length≤402:=by
 have hi:=valid_int h
 have h1:=itoa_length_le x.int (by omega) (by omega)
 unfold valB litB
 unfold validV at h
 split
 ·omega
 ·split
  ·rename_i h2
   rw [if_neg (by omega),if_neg (by omega),if_pos h2] at h
   simp only [Bool.and_eq_true,decide_eq_true_eq] at h
   have:=qS_len h.1.2
   unfold qS at this
   omega
  ·split
   ·split<;>decide
   ·decide
theorem itoa21 {n:Int} (h: -1125899906842624≤n∧n≤1125899906842624):(itoa n).length≤21:=itoa_length_le n (by omega) (by omega)
theorem sumI_flat {α:Type} {f:α→List (List UInt8)} {sz:α→Nat} {C:Nat} {l:List α} (h:∀x∈l,sumI (f x)≤C*sz x):sumI (l.flatMap f)+C≤C*szL sz l:=by
 unfold szL
 induction l with
 |nil=>simp [sumI]
 |cons x r ih=>
  have h1:=h x (List.mem_cons_self ..)
  have h2:=ih (fun y hy=>h y (List.mem_cons_of_mem _ hy))
  rw [List.flatMap_cons,sumI_app,List.map_cons,List.sum_cons]
  have e:C*(sz x+(r.map sz).sum+1)=C*sz x+C*((r.map sz).sum+1):=by rw [Nat.add_assoc,Nat.mul_add]
  omega
theorem sumI_flat1 {α:Type} {f:α→List (List UInt8)} {C:Nat} {l:List α} (h:∀x∈l,sumI (f x)≤C):sumI (l.flatMap f)≤C*l.length:=by
 induction l with
 |nil=>simp [sumI]
 |cons x r ih=>
  have h1:=h x (List.mem_cons_self ..)
  have h2:=ih (fun y hy=>h y (List.mem_cons_of_mem _ hy))
  rw [List.flatMap_cons,sumI_app,List.length_cons,Nat.mul_add]
  omega
theorem exI_le:∀(d:Nat) (e:RE),okX d e=true→e.nodes≤1048576→sumI (exI e)≤600*e.nodes:=by
 intro d
 induction d with
 |zero=>intro e h;simp [okX] at h
 |succ d ih=>
  intro e h hn
  obtain ⟨op,it,val,nm,A,c,args⟩:=e
  simp only [okX,Bool.and_eq_true,decide_eq_true_eq,List.all_eq_true] at h
  obtain ⟨h1,h2,hv,hm,_,ha⟩:=h
  have q1:=itoa21 (n:=op) (by omega)
  have q2:=itoa21 (n:=it) (by omega)
  have q3:=valB_len hv
  have q4:=qS_len hm
  simp only [RE.nodes,nodesL_sum] at hn
  have hl:=szL_len (sz:=RE.nodes) RE.nodes_pos args
  unfold szL at hl
  have q5:=itoaN_len (k:=args.length) (by omega)
  have q6:=sumI_flat (f:=exI) (sz:=RE.nodes) (C:=600) (l:=args) fun x hx=>ih x (ha x hx) (by
   have:=szL_mem (sz:=RE.nodes) hx
   unfold szL at this
   omega)
  rw [exI_eq]
  unfold szL at q6
  simp only [RE.nodes,nodesL_sum,lstI,sumI_app,sumI_cons,sumI_nil] at *
  omega
theorem colI_le {x:RCol} (h:x.ok=true):sumI (colI x)≤80:=by
 obtain ⟨h1,h2,_⟩:=col_le h
 have q1:=qS_len h1
 have q2:=itoa21 (n:=x.kind) (by omega)
 have q3:(flagB x.null).length=1:=by unfold flagB;split<;>rfl
 unfold colI
 simp only [sumI_cons,sumI_nil]
 omega
theorem numsI_le {l:List Int} (h:∀n∈l,0≤n∧n≤11) (hl:l.length≤12):sumI (lstI numI l)≤22+22*l.length:=by
 have q1:=itoaN_len (k:=l.length) (by omega)
 have q2:=sumI_flat1 (f:=numI) (C:=22) (l:=l) fun n hn=>by
  have:=itoa21 (n:=n) (by have:=h n hn;omega)
  unfold numI
  simp only [sumI_cons,sumI_nil]
  omega
 unfold lstI
 rw [sumI_cons]
 omega
theorem forI_le {x:RFor} (h:x.ok=true):sumI (forI x)≤80*x.sz:=by
 obtain ⟨h1,h2,_⟩:=for_le h
 unfold RFor.ok at h
 rw [Bool.and_eq_true] at h
 have h3:=(ix_le h.1).1
 have q1:=qS_len h1
 have q2:=numsI_le h2 h3
 unfold forI RFor.sz
 simp only [sumI_app,sumI_cons,sumI_nil]
 omega
theorem tabI_le {t:RTab} (h:t.ok=true) (hz:t.sz≤1048576):sumI (tabI t)≤600*t.sz+200:=by
 unfold RTab.ok at h
 simp only [Bool.and_eq_true,decide_eq_true_eq,List.all_eq_true] at h
 obtain ⟨h1,h2,h3,h4,h5,h6,h7,h8⟩:=h
 unfold RTab.sz at hz ⊢
 have q1:=qS_len (nmB_le h1)
 have q2:=sumI_flat1 (f:=colI) (C:=80) (l:=t.cols) fun x hx=>colI_le (h6 x hx)
 have q3:=numsI_le (ix_le h3).2.1 (ix_le h3).1
 have q4:=sumI_flat (f:=forI) (sz:=RFor.sz) (C:=80) (l:=t.fors) fun x hx=>forI_le (h7 x hx)
 have q5:=sumI_flat (f:=exI) (sz:=RE.nodes) (C:=600) (l:=t.chks) fun x hx=>exI_le 24 x (h8 x hx) (by have:=szL_mem (sz:=RE.nodes) hx;omega)
 have r1:=itoaN_len (k:=t.cols.length) (by omega)
 have r2:=itoaN_len (k:=t.fors.length) (by omega)
 have r3:=itoaN_len (k:=t.chks.length) (by omega)
 unfold tabI
 simp only [sumI_app,sumI_cons,sumI_nil] at *
 simp only [lstI,sumI_cons] at *
 omega
theorem chnI_le {x:Chn} (h:x.ok=true):sumI (chnI x)≤640:=by
 obtain ⟨_,e1,e2,e3,_,_⟩:=chn_le h
 unfold Chn.ok at h
 simp only [Bool.and_eq_true,decide_eq_true_eq] at h
 obtain ⟨_,_,_,_,h5,h6⟩:=h
 have q1:=qS_len e1
 have q2:=qS_len e2
 have q3:=qS_len e3
 have q4:=valB_len h6
 have q5:=itoa21 (n:=x.ckind) (by omega)
 have q6:(flagB x.cnull).length=1:=by unfold flagB;split<;>rfl
 unfold chnI colI
 simp only [sumI_app,sumI_cons,sumI_nil]
 omega
theorem entI_le {x:REn} (h:x.ok=true) (hz:x.sz≤1048576):sumI (entI x)≤1000*x.sz:=by
 unfold REn.sz at hz ⊢
 unfold REn.ok instB at h
 rw [Bool.and_eq_true,Bool.and_eq_true,decide_eq_true_eq] at h
 obtain ⟨h1,h2,h3⟩:=h
 have q1:=itoa21 (n:=x.time) (by omega)
 have q2:=qS_len (nmB_le h2)
 have e1:wEntry.length=5:=rfl
 unfold entI
 by_cases hk:x.change.kind=0
 ·rw [if_pos hk,Bool.and_eq_true,Bool.and_eq_true] at h3
  have q3:=tabI_le h3.2.1 (by omega)
  have q4:=itoa21 (n:=x.change.kind) (by omega)
  rw [if_pos hk]
  simp only [sumI_app,sumI_cons,sumI_nil]
  omega
 ·rw [if_neg hk,Bool.and_eq_true] at h3
  have q3:=chnI_le h3.1
  have:=(chn_le h3.1).2.2.2.2.1
  have q4:=itoa21 (n:=x.change.kind) (by omega)
  rw [if_neg hk]
  simp only [sumI_app,sumI_cons,sumI_nil]
  omega
theorem ver_bd {x:Ver} (h:validVer x=true):((1≤x.id∧x.id≤1125899906842624)∧(1≤x.by_∧x.by_≤1125899906842624)∧(0≤x.sch∧x.sch≤64)∧(0≤x.un∧x.un≤1125899906842624))∧(0≤x.vf∧x.vf≤1099511627776∧0≤x.vt∧x.vt≤1099511627776∧0≤x.sf∧x.sf≤1099511627776∧0≤x.st∧x.st≤1099511627776)∧(∀v∈x.row,validV v=true)∧x.row.length≤12:=by
 unfold validVer in50 in64 num50 validRowF validP at h
 simp only [Bool.and_eq_true,decide_eq_true_eq,List.all_eq_true] at h
 obtain ⟨h1,h2,h3,⟨h4,h5⟩,h6,h7,h8⟩:=h
 exact ⟨⟨h1,h2,h3,h8⟩,by omega,h4,h5⟩
theorem verI_le {x:Ver} (h:validVer x=true):sumI (verI x)≤1000*(x.row.length+1):=by
 obtain ⟨⟨h1,h2,h3,h4⟩,h5,h6,h7⟩:=ver_bd h
 have q1:=itoa21 (n:=x.id) (by omega)
 have q2:=itoa21 (n:=x.sch) (by omega)
 have q3:=itoa21 (n:=x.by_) (by omega)
 have q4:=itoa21 (n:=x.un) (by omega)
 have q5:=itoa21 (n:=x.vf) (by omega)
 have q6:=itoa21 (n:=x.vt) (by omega)
 have q7:=itoa21 (n:=x.sf) (by omega)
 have q8:=itoa21 (n:=x.st) (by omega)
 have q9:=itoaN_len (k:=x.row.length) (by omega)
 have r1:=sumI_flat1 (f:=litI) (C:=403) (l:=x.row) fun v hv=>by
  have:=valB_len (h6 v hv)
  unfold litI
  simp only [sumI_cons,sumI_nil]
  omega
 have e1:wVersion.length=7:=rfl
 unfold verI lstI
 simp only [sumI_app,sumI_cons,sumI_nil]
 omega
theorem line_bd {α:Type} {f:α→List (List UInt8)} {sz:α→Nat} {C:Nat} {l:List α} (h:∀x∈l,f x≠[]∧sumI (f x)≤C*sz x):(l.flatMap (fun x=>lineB (f x))).length+C≤C*szL sz l:=
 flat_bd (en:=fun x=>lineB (f x)) fun x hx=>by rw [lineB_len _ (h x hx).1];exact (h x hx).2
theorem line_bd1 {α:Type} {f:α→List (List UInt8)} {C:Nat} {l:List α} (h:∀x∈l,f x≠[]∧sumI (f x)≤C):(l.flatMap (fun x=>lineB (f x))).length≤C*l.length:=
 flat_bd1 (en:=fun x=>lineB (f x)) fun x hx=>by rw [lineB_len _ (h x hx).1];exact (h x hx).2
theorem tabT_le {S:ByteArray} {l:List Ver} (hS:S.size≤24) (h:∀x∈l,validVer x=true):(tabT S l).length≤1000*szL (fun x:Ver=>x.row.length+1) l:=by
 have q1:=qS_len hS
 have q2:=line_bd (f:=verI) (sz:=fun x:Ver=>x.row.length+1) (C:=1000) (l:=l) fun x hx=>⟨by simp [verI],verI_le (h x hx)⟩
 have e:(lineB [wTable,qS S]).length=sumI [wTable,qS S]:=lineB_len _ (by simp)
 have e1:wTable.length=5:=rfl
 unfold tabT
 rw [List.length_append,e]
 simp only [sumI_cons,sumI_nil]
 omega
theorem szL_map {α β:Type} (f:α→β) (sz:β→Nat) (l:List α):szL sz (l.map f)=szL (fun x=>sz (f x)) l:=by
 unfold szL
 rw [List.map_map];rfl
structure duW (c:RSt):Prop where
 tx:0≤c.tx∧c.tx≤1125899906842624
 next:1≤c.next∧c.next≤1125899906842624
 time:0≤c.time∧c.time≤1099511627775
 wall:0≤c.wall∧c.wall≤1099511627775
 ents:∀x∈c.ents,x.ok=true∧x.sz≤1048576
 stms:∀x∈c.stms,(0≤x.time∧x.time≤1099511627775)∧0≤x.wall∧x.wall≤1099511627775
 tabs:∀x∈c.tabs,x.table.size≤24∧∀p∈x.vers,validVer p.2=true
 pla:∀x∈c.pla,(x.name.size≤24∧x.table.size≤24)∧((0≤x.vf∧x.vf<x.vt∧x.vt≤1099511627776)∧0≤x.sf∧x.sf<x.st∧x.st≤1099511627776)
 pol:∀x∈c.pol,x.table.size≤24∧(0≤x.keep∧x.keep≤1099511627776)
 hor:∀x∈c.hor,x.table.size≤24∧(0≤x.time∧x.time≤1099511627775)
 len:(textS c).length≤4000000000
theorem du_W {w0:World} {c:RSt} (h:stateF c=0) (hl:c.lim w0):duW c:=by
 obtain ⟨⟨b1,b2,b3,b4⟩,g1,g2,g3,g4,g5,g6⟩:=st_ok h
 have gv:∀x∈c.tabs,∀p∈x.vers,validVer p.2=true:=fun x hx p hp=>chkFrom_valid (g3 x hx).2 _ (List.mem_map.2 ⟨p,hp,rfl⟩)
 have ge:∀x∈c.ents,x.ok=true∧x.sz≤1048576:=fun x hx=>⟨g1 x hx,by have:=szL_mem (sz:=REn.sz) hx;have:=hl.entZ;omega⟩
 have gs:∀x∈c.stms,(0≤x.time∧x.time≤1099511627775)∧0≤x.wall∧x.wall≤1099511627775:=fun x hx=>by have:=stm_ok (g2 x hx);omega
 refine ⟨b1,b2,b3,by omega,ge,gs,fun x hx=>⟨nmB_le (g3 x hx).1,gv x hx⟩,fun x hx=>⟨(hld_W (g4 x hx)).1,(hld_W (g4 x hx)).2.1⟩,fun x hx=>⟨(pol_W (g5 x hx)).1,(pol_W (g5 x hx)).2.1⟩,fun x hx=>⟨(hor_W (g6 x hx)).1,(hor_W (g6 x hx)).2.1⟩,?_⟩
 have q1:=line_bd (f:=entI) (sz:=REn.sz) (C:=1000) (l:=c.ents) fun x hx=>⟨by simp [entI],entI_le (ge x hx).1 (ge x hx).2⟩
 have q2:=line_bd1 (f:=stmI) (C:=100) (l:=c.stms) fun x hx=>⟨by simp [stmI],by
  have i1:=itoa21 (n:=x.time) (by have:=gs x hx;omega)
  have i2:=itoa21 (n:=x.wall) (by have:=gs x hx;omega)
  have e:wStamp.length=5:=rfl
  unfold stmI
  simp only [sumI_cons,sumI_nil]
  omega⟩
 have q3:=flat_bd (en:=tvT) (sz:=RTv.sz) (C:=1000) (l:=c.tabs) fun x hx=>by
  have k:=tabT_le (S:=x.table) (l:=x.vers.map (·.2)) (nmB_le (g3 x hx).1) fun y hy=>by
   obtain ⟨p,hp,rfl⟩:=List.mem_map.1 hy
   exact gv x hx p hp
  rw [szL_map] at k
  have e:szL (fun p:VP=>p.2.row.length+1) x.vers=szL vpSz x.vers:=rfl
  unfold tvT RTv.sz
  rw [e] at k
  omega
 have q4:=line_bd1 (f:=hldI) (C:=300) (l:=c.pla) fun x hx=>⟨by simp [hldI],by
  have k:=hld_W (g4 x hx)
  have i1:=itoa21 (n:=x.vf) (by omega)
  have i2:=itoa21 (n:=x.vt) (by omega)
  have i3:=itoa21 (n:=x.sf) (by omega)
  have i4:=itoa21 (n:=x.st) (by omega)
  have i5:=qS_len k.1.1
  have i6:=qS_len k.1.2
  have e:wHold.length=4:=rfl
  unfold hldI
  simp only [sumI_cons,sumI_nil]
  omega⟩
 have q5:=line_bd1 (f:=polI) (C:=300) (l:=c.pol) fun x hx=>⟨by simp [polI],by
  have k:=pol_W (g5 x hx)
  have i1:=itoa21 (n:=x.keep) (by omega)
  have i5:=qS_len k.1
  have e:wPolicy.length=6:=rfl
  unfold polI
  simp only [sumI_cons,sumI_nil]
  omega⟩
 have q6:=line_bd1 (f:=horI) (C:=300) (l:=c.hor) fun x hx=>⟨by simp [horI],by
  have k:=hor_W (g6 x hx)
  have i1:=itoa21 (n:=x.time) (by omega)
  have i5:=qS_len k.1
  have e:wHorizon.length=7:=rfl
  unfold horI
  simp only [sumI_cons,sumI_nil]
  omega⟩
 have z1:=hl.entZ
 have z2:=hl.tabZ
 have z3:=hl.pla
 have z4:=hl.stms
 have z5:=hl.pol
 have z6:=hl.hor
 have i1:=itoa21 (n:=c.tx) (by omega)
 have i2:=itoa21 (n:=c.time) (by omega)
 have i3:=itoa21 (n:=c.wall) (by omega)
 have i4:=itoa21 (n:=c.next) (by omega)
 have e1:(lineB [wTitle]).length=18:=rfl
 have e2:(lineB [wEnd]).length=4:=rfl
 have e3:(lineB (stI c)).length=sumI (stI c):=lineB_len _ (by simp [stI])
 have e4:wState.length=5:=rfl
 unfold textS
 simp only [List.length_append,e1,e2,e3]
 unfold stI
 simp only [sumI_cons,sumI_nil]
 omega
end Go.Proofs.YtgfhknnklapldaaGreatDoor
