/-
 RcG
-/
import Derived.Test.YtbfdegkickjbpaaGreatHRc2
namespace Go.Proofs.YtbfdegkickjbpaaGreat
set_option maxRecDepth 1000000
set_option maxHeartbeats 32000000
open Go.RowKit Go.Lib Go.IntWalk Go.Sort Go.Shelf
theorem zq32 {P:Prop} (i:Nat) (h:Tg i→P:=by
 intro zT32
 first
  |guard_hyp zT32:Tg 1
   have HG4:Hid ((if de≠0 then de else deltasF fi (prevN RDl.name dels (m+1+1)) (dels.drop (m+1+1)))=deltasF fi none dels):=hI0 (by
    have h:=HG5.out
    have hb:bleS dn yn=false:=HLE.out
    simp only [hb,Bool.false_eq_true,if_false] at h
    exact h)
  |have HG4:Hid ((if de≠0 then de else deltasF fi (prevN RDl.name dels (k+1)) (dels.drop (k+1)))=deltasF fi none dels):=hI0 (by rw [←HG3.out];exact (if_neg (by simp [prevN,hk0])).symm)
   subst hk0
   have h00:¬(0:Int)<((0:Nat):Int):=by omega
   refine wp_region_noPanic ?_
   refine wp_region_held_drew (S:=(fun w'=>Below y1.heap.size y1 w')) (by kernel_rfl) ?_ (fun hHeld=>?_)
   ·exact (Below.refl _ _).drew
   refine hT 0 74 hHeld ?_
   simp only [aP]
   refine hT 1 75 hHeld ?_
   simp only [aP]
   refine hT 2 76 hHeld ?_
   simp only [aP]
   refine hK 3 77 hHeld ?_
   simp only [aP]
   refine hK 4 78 hHeld ?_
   simp only [aP]
   refine hK 5 79 hHeld ?_
   simp only [aP]
   refine hK 6 80 hHeld ?_
   simp only [aP]
   refine hK 7 81 hHeld ?_
   simp only [aP]
   refine hK 8 82 hHeld ?_
   simp only [aP]
   refine hK 9 83 hHeld ?_
   simp only [aP]
   refine hK 10 84 hHeld ?_
   simp only [aP]
   refine hK 11 85 hHeld ?_
   simp only [aP]
   refine hK 12 86 hHeld ?_
   simp only [aP]
   refine hT 13 87 hHeld ?_
   simp only [aP]
   refine wpAnyH_done (by kernel_rfl) ?_ _
   refine NoPanic.normal ?_
   clear hHeld h00
 have KD:=KDX.out y1.drew HBY.out.drew
 have hTd:=HTD.out
 have p0:y1.drew.cell? ⟨wi.heap.size,0,none⟩=some (.string dn):=cW0 y1.drew _ 0 _ _ _ hTd
 have p1:y1.drew.cell? ⟨wi.heap.size,1,none⟩=some (.slice cA cl.length cc):=cW0 y1.drew _ 1 _ _ _ hTd
 have p2:y1.drew.cell? ⟨wi.heap.size,2,none⟩=some (.slice oA ops.length oc):=cW0 y1.drew _ 2 _ _ _ hTd
 have c3:y1.drew.cell? ⟨w.heap.size,3,none⟩=some (.int .i64 fi):=cW0 y1.drew _ 3 _ _ _ HTB2.out
 clear hTd
 go_wp2_with fail
 (with_reducible refine KD.mono ?_)
 rintro _ z1 ⟨rfl,hz⟩
 have hz2:Below y1.heap.size y1 z1:=Below.undrew hz
 have HBZ:Hid (Below w.heap.size w z1):=hI0 (HBY.out.trans (hz2.mono HBY.out.size))
 have HTZ:=hI0 ((hz2.block w.heap.size HBXL.out).trans HTB2.out)
 clear hz hz2 KD p0 p1 p2 c3
 by_cases hde:de=0
 case neg=>
  have HF:Hid (rs=de):=hI0 (by
   have h:=HG4.out
   rw [if_pos hde] at h
   rw [HR2.out,←h]
   exact if_pos hde)
  go_wp2_with fail
  go_ret
  exact ⟨by rw [HF.out];rfl,HBZ.out⟩
 first
  |guard_hyp zT32:Tg 1
   have HN:Hid (deltasF fi (prevN RDl.name dels (m+1+1)) (dels.drop (m+1+1))=deltasF fi none dels):=hI0 (by rw [←HG4.out];exact (if_neg (by simpa using hde)).symm)
  |have HN:Hid (deltasF fi (prevN RDl.name dels (0+1)) (dels.drop (0+1))=deltasF fi none dels):=hI0 (by rw [←HG4.out];exact (if_neg (by simpa using hde)).symm)
 subst hde
 go_wp2_with fail
 go_roundw
 first
  |guard_hyp zT32:Tg 1
   case rel=>exact ⟨m+1+1,by go_num,by have:=HLK.out;omega,HN,HBZ,HTZ⟩
  |case rel=>exact ⟨0+1,by go_num,by have:=HLK.out;omega,HN,HBZ,HTZ⟩
 case measure=>have:=HLK.out;simp [intOf];omega) : P := h ⟨⟩
theorem zq70 {P:Prop} (h:P:=by
 have HF:Hid (rs=6):=hI0 (by rw [HR.out];exact if_pos (by simp))
 go_wp2_with fail
 go_ret
 exact ⟨by rw [HF.out];rfl,HBW.out⟩) : P := h
structure RDl where
 name:ByteArray
 cA:Option Addr
 cc:Nat
 cl:List Int
 oA:Option Addr
 oc:Nat
 ops:List RF
def RDl.enc (d:RDl):List Value:=[.string d.name,.slice d.cA d.cl.length d.cc,.slice d.oA d.ops.length d.oc]
structure RDl.is (w:World) (F:Nat→Prop) (d:RDl):Prop where
 close:RdE 1 intE w F (.slice d.cA d.cl.length d.cc) d.cl
 opens:RdFs w F (.slice d.oA d.ops.length d.oc) d.ops
 few:d.cl.length≤10000000000∧d.ops.length≤10000000000
theorem RDl.is.below {w w':World} {d:RDl} (h:d.is w (·<w.heap.size)) (hb:Below w.heap.size w w'):d.is w' (·<w'.heap.size):=⟨h.close.below hb,h.opens.below hb,h.few⟩
structure REn.is (w:World) (F:Nat→Prop) (x:REn):Prop where
 create:x.create.is w F
 few:x.create.few
 text:x.change.def_.text.size≤maxLen
theorem REn.is.below {w w':World} {x:REn} (h:x.is w (·<w.heap.size)) (hb:Below w.heap.size w w'):x.is w' (·<w'.heap.size):=⟨h.create.below hb,h.few,h.text⟩
structure RCm where
 tx:Int
 time:Int
 wall:Int
 first:Int
 eA:Option Addr
 eC:Nat
 ents:List REn
 dA:Option Addr
 dC:Nat
 dels:List RDl
 pA:Option Addr
 pC:Nat
 pla:List Hld
 rA:Option Addr
 rC:Nat
 rel:List ByteArray
 qA:Option Addr
 qC:Nat
 pol:List Pol
 hA:Option Addr
 hC:Nat
 hor:List Hor
def RCm.enc (c:RCm):List Value:=[.int .i64 c.tx,.int .i64 c.time,.int .i64 c.wall,.int .i64 c.first,.slice c.eA c.ents.length c.eC,.slice c.dA c.dels.length c.dC,.slice c.pA c.pla.length c.pC,.slice c.rA c.rel.length c.rC,.slice c.qA c.pol.length c.qC,.slice c.hA c.hor.length c.hC]
structure RCm.is (w:World) (F:Nat→Prop) (c:RCm):Prop where
 ents:RdE 16 REn.enc w F (.slice c.eA c.ents.length c.eC) c.ents
 entI:∀x∈c.ents,x.is w F
 dels:RdE 3 RDl.enc w F (.slice c.dA c.dels.length c.dC) c.dels
 delI:∀x∈c.dels,x.is w F
 pla:RdE 6 Hld.enc w F (.slice c.pA c.pla.length c.pC) c.pla
 rel:RdE 1 strE w F (.slice c.rA c.rel.length c.rC) c.rel
 pol:RdE 2 Pol.enc w F (.slice c.qA c.pol.length c.qC) c.pol
 hor:RdE 2 Hor.enc w F (.slice c.hA c.hor.length c.hC) c.hor
theorem RCm.is.below {w w':World} {c:RCm} (h:c.is w (·<w.heap.size)) (hb:Below w.heap.size w w'):c.is w' (·<w'.heap.size):=
 ⟨h.ents.below hb,fun x hx=>(h.entI x hx).below hb,h.dels.below hb,fun x hx=>(h.delI x hx).below hb,h.pla.below hb,h.rel.below hb,h.pol.below hb,h.hor.below hb⟩
def enOk (tm:Int) (x:REn):Bool:=x.ok&&decide (x.time=tm)
def deltasF (first:Int):Option ByteArray→List RDl→Int
 |_,[]=>0
 |p,d::r=>if (nmB d.name&& !decide (d.cl.length+d.ops.length=0))=false then 8 else if (match p with|some q=>bleS d.name q|none=>false)=true then 9
  else if deltaF first d.cl (d.ops.map RF.fct)≠0 then deltaF first d.cl (d.ops.map RF.fct) else deltasF first (some d.name) r
theorem deltasF_cons {first:Int} {p:Option ByteArray} {d:RDl} {r:List RDl}:deltasF first p (d::r)=if (nmB d.name&& !decide (d.cl.length+d.ops.length=0))=false then 8 else if (match p with|some q=>bleS d.name q|none=>false)=true then 9
  else if deltaF first d.cl (d.ops.map RF.fct)≠0 then deltaF first d.cl (d.ops.map RF.fct) else deltasF first (some d.name) r:=by
 cases p<;>rfl
theorem prevN_succ {α:Type} {nm:α→ByteArray} {l:List α} {k:Nat} (h:k<l.length):prevN nm l (k+1)=some (nm l[k]):=by
 unfold prevN;rw [if_neg (Nat.succ_ne_zero k),Nat.add_sub_cancel,List.getElem?_eq_getElem h];rfl
theorem deltasF_at {first:Int} {p:Option ByteArray} {l:List RDl} {k:Nat} (h:k<l.length):deltasF first p (l.drop k)=if (nmB l[k].name&& !decide (l[k].cl.length+l[k].ops.length=0))=false then 8 else if (match p with|some q=>bleS l[k].name q|none=>false)=true then 9
  else if deltaF first l[k].cl (l[k].ops.map RF.fct)≠0 then deltaF first l[k].cl (l[k].ops.map RF.fct) else deltasF first (prevN RDl.name l (k+1)) (l.drop (k+1)):=by
 rw [List.drop_eq_getElem_cons h,deltasF_cons,prevN_succ h]
theorem deltasF_end {first:Int} {p:Option ByteArray} {l:List RDl} {k:Nat} (h:l.length≤k):deltasF first p (l.drop k)=0:=by
 rw [List.drop_of_length_le h];cases p<;>rfl
def restC (c:RCm):Int:=if holdsF c.pla≠0 then holdsF c.pla else if namedF id nmB none c.rel≠0 then namedF id nmB none c.rel else restF c.pol c.hor
def checkF (c:RCm):Int:=
 if (decide (1≤c.tx∧c.tx≤1125899906842624)&&(decide (1≤c.first∧c.first≤1125899906842624)&&(decide (1≤c.time∧c.time≤1099511627775)&&decide (0≤c.wall∧c.wall≤c.time))))=false then 6
 else if c.ents.all (enOk c.time)=false then 8
 else if deltasF c.first none c.dels≠0 then deltasF c.first none c.dels else restC c
theorem check_any (c:RCm) (w:World) (hc:c.is w (·<w.heap.size)):Calls Tryz.prog 11 #[.agg c.enc.toArray] w fun e w'=>e=.returned (.int .i64 (checkF c))∧Below w.heap.size w w':=by
 have HI0:=hI0 hc
 obtain ⟨C,hC⟩:∃C,C=c:=⟨_,rfl⟩
 obtain ⟨rs,hrs⟩:∃r,r=checkF c:=⟨_,rfl⟩
 rw [←hrs]
 unfold checkF at hrs
 rw [←hC] at hrs
 obtain ⟨tx,tm,wa,fi,eA,eC,ents,dA,dC,dels,pA,pC,pla,rA,rC,rel,qA,qC,pol,hA,hC2,hor⟩:=c
 have HI:Hid (RCm.is w (·<w.heap.size) ⟨tx,tm,wa,fi,eA,eC,ents,dA,dC,dels,pA,pC,pla,rA,rC,rel,qA,qC,pol,hA,hC2,hor⟩):=HI0
 have HRC:Hid (restC C=if holdsF pla≠0 then holdsF pla else if namedF id nmB none rel≠0 then namedF id nmB none rel else restF pol hor):=hI0 (by rw [hC];rfl)
 have HR:Hid (rs=if (decide (1≤tx∧tx≤1125899906842624)&&(decide (1≤fi∧fi≤1125899906842624)&&(decide (1≤tm∧tm≤1099511627775)&&decide (0≤wa∧wa≤tm))))=false then 6
  else if ents.all (enOk tm)=false then 8 else if deltasF fi none dels≠0 then deltasF fi none dels else restC C):=hI0 (by rw [hrs,hC])
 obtain ⟨a1,a2⟩:=hc.ents.bd
 obtain ⟨b1,b2⟩:=hc.dels.bd
 simp only at a1 a2 b1 b2
 show Calls Tryz.prog 11 #[.agg #[.int .i64 tx,.int .i64 tm,.int .i64 wa,.int .i64 fi,.slice eA ents.length eC,.slice dA dels.length dC,.slice pA pla.length pC,.slice rA rel.length rC,.slice qA pol.length qC,.slice hA hor.length hC2]] w _
 obtain ⟨W,hW⟩:∃W,W=w.alloc (.cells #[.int .i64 tx,.int .i64 tm,.int .i64 wa,.int .i64 fi,.slice eA ents.length eC,.slice dA dels.length dC,.slice pA pla.length pC,.slice rA rel.length rC,.slice qA pol.length qC,.slice hA hor.length hC2] 29):=⟨_,rfl⟩
 have hbW:Below w.heap.size w W:=by rw [hW];exact Below.of_alloc _
 have hT:W.heap[w.heap.size]? =some (.cells #[.int .i64 tx,.int .i64 tm,.int .i64 wa,.int .i64 fi,.slice eA ents.length eC,.slice dA dels.length dC,.slice pA pla.length pC,.slice rA rel.length rC,.slice qA pol.length qC,.slice hA hor.length hC2] 29 (0,0)):=by rw [hW];exact heap_alloc_new _ _
 have HBW:=hI0 hbW
 have HT:=hI0 hT
 obtain ⟨v1,hv1⟩:∃bo,bo=decide (1≤tx∧tx≤1125899906842624):=⟨_,rfl⟩
 obtain ⟨v2,hv2⟩:∃bo,bo=decide (1≤fi∧fi≤1125899906842624):=⟨_,rfl⟩
 obtain ⟨v3,hv3⟩:∃bo,bo=decide (1≤tm∧tm≤1099511627775):=⟨_,rfl⟩
 obtain ⟨v4,hv4⟩:∃bo,bo=decide (0≤wa∧wa≤tm):=⟨_,rfl⟩
 have K1:=within_any tx 1 1125899906842624 W
 have K2:=within_any fi 1 1125899906842624 W
 have K3:=within_any tm 1 1099511627775 W
 have K4:=within_any wa 0 tm W
 rw [←hv1] at K1 HR
 rw [←hv2] at K2 HR
 rw [←hv3] at K3 HR
 rw [←hv4] at K4 HR
 have HFI:Hid (v2=true→1≤fi∧fi≤1125899906842624):=hI0 (fun h=>by rw [hv2] at h;exact of_decide_eq_true h)
 have c0:W.cell? ⟨w.heap.size,0,none⟩=some (.int .i64 tx):=cW0 W _ 0 _ _ _ hT
 have c1:W.cell? ⟨w.heap.size,1,none⟩=some (.int .i64 tm):=cW0 W _ 1 _ _ _ hT
 have c2:W.cell? ⟨w.heap.size,2,none⟩=some (.int .i64 wa):=cW0 W _ 2 _ _ _ hT
 have c3:W.cell? ⟨w.heap.size,3,none⟩=some (.int .i64 fi):=cW0 W _ 3 _ _ _ hT
 have c4:W.cell? ⟨w.heap.size,4,none⟩=some (.slice eA ents.length eC):=cW0 W _ 4 _ _ _ hT
 have c5:W.cell? ⟨w.heap.size,5,none⟩=some (.slice dA dels.length dC):=cW0 W _ 5 _ _ _ hT
 have c6:W.cell? ⟨w.heap.size,6,none⟩=some (.slice pA pla.length pC):=cW0 W _ 6 _ _ _ hT
 have c7:W.cell? ⟨w.heap.size,7,none⟩=some (.slice rA rel.length rC):=cW0 W _ 7 _ _ _ hT
 have c8:W.cell? ⟨w.heap.size,8,none⟩=some (.slice qA pol.length qC):=cW0 W _ 8 _ _ _ hT
 have c9:W.cell? ⟨w.heap.size,9,none⟩=some (.slice hA hor.length hC2):=cW0 W _ 9 _ _ _ hT
 clear hbW hT hv1 hv2 hv3 hv4 hrs hc HI0 hC
 go_enter Tryz.func11,Tryz.ntmps11
 go_wp2_with fail
 rw [←hW]
 clear hW
 (with_reducible refine K1.mono ?_)
 rintro _ z1 ⟨rfl,hz⟩
 rw [hz]
 clear hz z1 K1
 cases v1
 case false=>
  exact zq70
 case true=>
  go_wp2_with fail
  (with_reducible refine K2.mono ?_)
  rintro _ z1 ⟨rfl,hz⟩
  rw [hz]
  clear hz z1 K2
  cases v2
  case false=>
   exact zq70
  case true=>
   go_wp2_with fail
   (with_reducible refine K3.mono ?_)
   rintro _ z1 ⟨rfl,hz⟩
   rw [hz]
   clear hz z1 K3
   cases v3
   case false=>
    exact zq70
   case true=>
    go_wp2_with fail
    (with_reducible refine K4.mono ?_)
    rintro _ z1 ⟨rfl,hz⟩
    rw [hz]
    clear hz z1 K4
    cases v4
    case false=>
     exact zq70
    case true=>
     go_wp2_with fail
     have hfi:=HFI.out (by first|rfl|trivial)
     have HFX:=hI0 hfi
     have HR1:Hid (rs=if ents.all (enOk tm)=false then 8 else if deltasF fi none dels≠0 then deltasF fi none dels else restC C):=hI0 (by rw [HR.out];exact if_neg (by simp))
     clear hfi c0 c1 c2 c3 c4 c5 c6 c7 c8 c9
     go_loopw [37] (fun i wr=>∃j:Nat,i=.int .i64 (j:Int)∧j≤ents.length∧Hid ((ents.take j).all (enOk tm)=true)∧Hid (Below w.heap.size w wr)∧Hid (wr.heap[w.heap.size]? =some (.cells #[.int .i64 tx,.int .i64 tm,.int .i64 wa,.int .i64 fi,.slice eA ents.length eC,.slice dA dels.length dC,.slice pA pla.length pC,.slice rA rel.length rC,.slice qA pol.length qC,.slice hA hor.length hC2] 29 (0,0)))) (fun i _=>ents.length-(intOf i).toNat)
     case atStart=>exact ⟨0,rfl,Nat.zero_le _,hI0 rfl,HBW,HT⟩
     case round=>
      obtain ⟨j,rfl,hj,HG,HB,HTB⟩:=hrel
      obtain ⟨wi,rfl⟩:∃wi:World,wi=wr:=⟨_,rfl⟩
      by_cases hltj:j<ents.length
      case pos=>
       have hlt3:(j:Int)<(ents.length:Int):=by omega
       obtain ⟨b,off,rfl,hF,hcl⟩:=RdE.at_ (K:=16) (enc:=REn.enc) (fun _=>rfl) (by omega) (HI.out.ents.below HB.out) hltj
       have hcx:=hcl j hltj
       have hs:=fun h=>allP_snoc' (p:=enOk tm) hltj HG.out h
       have hno:=allP_no (p:=enOk tm) hltj
       have hxi:=HI.out.entI _ (List.getElem_mem hltj)
       obtain ⟨x,hx⟩:∃x,x=ents[j]:=⟨_,rfl⟩
       rw [←hx] at hcx hno hxi
       have hs2:enOk tm x=true→(ents.take (j+1)).all (enOk tm)=true:=fun h=>hs (by rw [←hx];exact h)
       have KE0:∀V,Below w.heap.size w V→_:=fun V hV=>validEntry_any x V (hxi.below hV).create hxi.few hxi.text
       obtain ⟨v,hv⟩:∃bo,bo=x.ok:=⟨_,rfl⟩
       rw [←hv] at KE0
       clear hs hx hcl hF
       obtain ⟨tm2,tb,⟨nm,colA,colC,cols,keyA,keyC,key,forA,forC,fors,chkA,chkC,chks⟩,⟨x1,x2,x3,x4,x5,x6,⟨x7,x8,x9⟩⟩⟩:=x
       have hok:enOk tm ⟨tm2,tb,⟨nm,colA,colC,cols,keyA,keyC,key,forA,forC,fors,chkA,chkC,chks⟩,⟨x1,x2,x3,x4,x5,x6,⟨x7,x8,x9⟩⟩⟩=(v&&decide (tm2=tm)):=by rw [hv];rfl
       rw [hok] at hno hs2
       have HS:=hI0 hs2
       have HNO:=hI0 hno
       have KE:∀V,Below w.heap.size w V→Calls Tryz.prog 32 #[.agg #[.int .i64 tm2,.string tb,.string nm,.slice colA cols.length colC,.slice keyA key.length keyC,.slice forA fors.length forC,.slice chkA chks.length chkC,.int .i64 x1,.string x2,.string x3,.string x4,.int .i64 x5,.bool x6,.int .i64 x7,.int .i64 x8,.string x9]] V fun e w'=>e=.returned (.bool v)∧Below V.heap.size V w':=KE0
       have g0:wi.cell? ⟨b,off+j*16,none⟩=some (.int .i64 tm2):=hcx 0 _ (by decide) rfl
       have g1:wi.cell? ⟨b,off+j*16+1,none⟩=some (.string tb):=hcx 1 _ (by decide) rfl
       have g2:wi.cell? ⟨b,off+j*16+2,none⟩=some (.string nm):=hcx 2 _ (by decide) rfl
       have g3:wi.cell? ⟨b,off+j*16+3,none⟩=some (.slice colA cols.length colC):=hcx 3 _ (by decide) rfl
       have g4:wi.cell? ⟨b,off+j*16+4,none⟩=some (.slice keyA key.length keyC):=hcx 4 _ (by decide) rfl
       have g5:wi.cell? ⟨b,off+j*16+5,none⟩=some (.slice forA fors.length forC):=hcx 5 _ (by decide) rfl
       have g6:wi.cell? ⟨b,off+j*16+6,none⟩=some (.slice chkA chks.length chkC):=hcx 6 _ (by decide) rfl
       have g7:wi.cell? ⟨b,off+j*16+7,none⟩=some (.int .i64 x1):=hcx 7 _ (by decide) rfl
       have g8:wi.cell? ⟨b,off+j*16+8,none⟩=some (.string x2):=hcx 8 _ (by decide) rfl
       have g9:wi.cell? ⟨b,off+j*16+9,none⟩=some (.string x3):=hcx 9 _ (by decide) rfl
       have g10:wi.cell? ⟨b,off+j*16+10,none⟩=some (.string x4):=hcx 10 _ (by decide) rfl
       have g11:wi.cell? ⟨b,off+j*16+11,none⟩=some (.int .i64 x5):=hcx 11 _ (by decide) rfl
       have g12:wi.cell? ⟨b,off+j*16+12,none⟩=some (.bool x6):=hcx 12 _ (by decide) rfl
       have g13:wi.cell? ⟨b,off+j*16+13,none⟩=some (.int .i64 x7):=hcx 13 _ (by decide) rfl
       have g14:wi.cell? ⟨b,off+j*16+14,none⟩=some (.int .i64 x8):=hcx 14 _ (by decide) rfl
       have g15:wi.cell? ⟨b,off+j*16+15,none⟩=some (.string x9):=hcx 15 _ (by decide) rfl
       obtain ⟨W1,hW1⟩:∃W1,W1=wi.alloc (.cells #[.int .i64 tm2,.string tb,.string nm,.slice colA cols.length colC,.slice keyA key.length keyC,.slice forA fors.length forC,.slice chkA chks.length chkC,.int .i64 x1,.string x2,.string x3,.string x4,.int .i64 x5,.bool x6,.int .i64 x7,.int .i64 x8,.string x9] 83):=⟨_,rfl⟩
       have hb1:Below wi.heap.size wi W1:=by rw [hW1];exact Below.of_alloc _
       have hX1:W1.heap[wi.heap.size]? =some (.cells #[.int .i64 tm2,.string tb,.string nm,.slice colA cols.length colC,.slice keyA key.length keyC,.slice forA fors.length forC,.slice chkA chks.length chkC,.int .i64 x1,.string x2,.string x3,.string x4,.int .i64 x5,.bool x6,.int .i64 x7,.int .i64 x8,.string x9] 83 (0,0)):=by rw [hW1];exact heap_alloc_new _ _
       have HX1:=hI0 hX1
       have HL1:Hid (wi.heap.size<W1.heap.size):=hI0 (by rw [hW1];simp)
       have HB1:Hid (Below w.heap.size w W1):=hI0 (HB.out.trans (hb1.mono HB.out.size))
       have HTB1:=hI0 ((hb1.block w.heap.size (Array.getElem?_eq_some_iff.1 HTB.out).1).trans HTB.out)
       have KX:=KE W1 HB1.out
       clear hcx hb1 hX1 hs2 hno hok hv hxi KE KE0
       go_upto_region 6 with (fail)
       rw [←hW1]
       clear hW1 g0 g1 g2 g3 g4 g5 g6 g7 g8 g9 g10 g11 g12 g13 g14 g15
       have g0:W1.cell? ⟨wi.heap.size,0,none⟩=some (.int .i64 tm2):=cW0 W1 _ 0 _ _ _ HX1.out
       have g1:W1.cell? ⟨wi.heap.size,1,none⟩=some (.string tb):=cW0 W1 _ 1 _ _ _ HX1.out
       have g2:W1.cell? ⟨wi.heap.size,2,none⟩=some (.string nm):=cW0 W1 _ 2 _ _ _ HX1.out
       have g3:W1.cell? ⟨wi.heap.size,3,none⟩=some (.slice colA cols.length colC):=cW0 W1 _ 3 _ _ _ HX1.out
       have g4:W1.cell? ⟨wi.heap.size,4,none⟩=some (.slice keyA key.length keyC):=cW0 W1 _ 4 _ _ _ HX1.out
       have g5:W1.cell? ⟨wi.heap.size,5,none⟩=some (.slice forA fors.length forC):=cW0 W1 _ 5 _ _ _ HX1.out
       have g6:W1.cell? ⟨wi.heap.size,6,none⟩=some (.slice chkA chks.length chkC):=cW0 W1 _ 6 _ _ _ HX1.out
       have g7:W1.cell? ⟨wi.heap.size,7,none⟩=some (.int .i64 x1):=cW0 W1 _ 7 _ _ _ HX1.out
       have g8:W1.cell? ⟨wi.heap.size,8,none⟩=some (.string x2):=cW0 W1 _ 8 _ _ _ HX1.out
       have g9:W1.cell? ⟨wi.heap.size,9,none⟩=some (.string x3):=cW0 W1 _ 9 _ _ _ HX1.out
       have g10:W1.cell? ⟨wi.heap.size,10,none⟩=some (.string x4):=cW0 W1 _ 10 _ _ _ HX1.out
       have g11:W1.cell? ⟨wi.heap.size,11,none⟩=some (.int .i64 x5):=cW0 W1 _ 11 _ _ _ HX1.out
       have g12:W1.cell? ⟨wi.heap.size,12,none⟩=some (.bool x6):=cW0 W1 _ 12 _ _ _ HX1.out
       have g13:W1.cell? ⟨wi.heap.size,13,none⟩=some (.int .i64 x7):=cW0 W1 _ 13 _ _ _ HX1.out
       have g14:W1.cell? ⟨wi.heap.size,14,none⟩=some (.int .i64 x8):=cW0 W1 _ 14 _ _ _ HX1.out
       have g15:W1.cell? ⟨wi.heap.size,15,none⟩=some (.string x9):=cW0 W1 _ 15 _ _ _ HX1.out
       go_wp2_with fail
       (with_reducible refine KX.mono ?_)
       rintro _ z1 ⟨rfl,hz⟩
       have HB2:Hid (Below w.heap.size w z1):=hI0 (HB1.out.trans (hz.mono HB1.out.size))
       have HTB2:=hI0 ((hz.block w.heap.size (Array.getElem?_eq_some_iff.1 HTB1.out).1).trans HTB1.out)
       have hX2:=(hz.block _ HL1.out).trans HX1.out
       clear hz KX g0 g1 g2 g3 g4 g5 g6 g7 g8 g9 g10 g11 g12 g13 g14 g15
       have q0:z1.cell? ⟨wi.heap.size,0,none⟩=some (.int .i64 tm2):=cW0 z1 _ 0 _ _ _ hX2
       have q1:z1.cell? ⟨w.heap.size,1,none⟩=some (.int .i64 tm):=cW0 z1 _ 1 _ _ _ HTB2.out
       clear hX2
       cases v
       case false=>
        have HF:Hid (rs=8):=hI0 (by rw [HR1.out,HNO.out (by first|rfl|trivial)];rfl)
        go_wp2_with fail
        go_ret
        exact ⟨by rw [HF.out];rfl,HB2.out⟩
       by_cases he:tm2=tm
       case neg=>
        have HF:Hid (rs=8):=hI0 (by rw [HR1.out,HNO.out (by simp [he])];rfl)
        have he2:(tm2 != tm)=true:=by simpa using he
        go_wp2_with fail
        go_ret
        exact ⟨by rw [HF.out];rfl,HB2.out⟩
       have HN:Hid ((ents.take (j+1)).all (enOk tm)=true):=hI0 (HS.out (by simp [he]))
       subst he
       go_wp2_with fail
       go_roundw
       case rel=>exact ⟨j+1,by go_num,hltj,HN,HB2,HTB2⟩
       case measure=>simp [intOf];omega
      case neg=>
       have hlt3:¬(j:Int)<(ents.length:Int):=by omega
       have HR2:Hid (rs=if deltasF fi none dels≠0 then deltasF fi none dels else restC C):=hI0 (by
        have h:=HG.out
        rw [List.take_of_length_le (by omega)] at h
        rw [HR1.out,h];rfl)
       have c5:wi.cell? ⟨w.heap.size,5,none⟩=some (.slice dA dels.length dC):=cW0 wi _ 5 _ _ _ HTB.out
       have HBx:=HB
       have HTx:=HTB
       go_wp2_with fail
       clear c5 hlt3
       go_loopw [55] (fun i wr=>∃k:Nat,i=.int .i64 (k:Int)∧k≤dels.length∧Hid (deltasF fi (prevN RDl.name dels k) (dels.drop k)=deltasF fi none dels)∧Hid (Below w.heap.size w wr)∧Hid (wr.heap[w.heap.size]? =some (.cells #[.int .i64 tx,.int .i64 tm,.int .i64 wa,.int .i64 fi,.slice eA ents.length eC,.slice dA dels.length dC,.slice pA pla.length pC,.slice rA rel.length rC,.slice qA pol.length qC,.slice hA hor.length hC2] 29 (0,0)))) (fun i _=>dels.length-(intOf i).toNat)
       case atStart=>exact ⟨0,rfl,Nat.zero_le _,hI0 rfl,HBx,HTx⟩
       case round=>
        clear HBx HTx HB HTB HG hltj hj
        obtain ⟨k,rfl,hk,HG,HB,HTB⟩:=hrel
        obtain ⟨wi,rfl⟩:∃wi:World,wi=wr:=⟨_,rfl⟩
        by_cases hlt:k<dels.length
        case pos=>
         have hlt2:(k:Int)<(dels.length:Int):=by omega
         obtain ⟨b,off,rfl,hF,hcl⟩:=RdE.at_ (K:=3) (enc:=RDl.enc) (fun _=>rfl) (by omega) (HI.out.dels.below HB.out) hlt
         have HCL:Hid (∀i (hi:i<dels.length) j u,j<3→(RDl.enc dels[i])[j]? =some u→wi.cell? ⟨b,off+i*3+j,none⟩=some u):=hI0 hcl
         have HBL0:Hid (b<wi.heap.size):=hI0 hF
         have HLK:=hI0 hlt
         have hg:=HG.out
         rw [deltasF_at hlt] at hg
         have hxi0:=HI.out.delI _ (List.getElem_mem hlt)
         obtain ⟨x,hx⟩:∃x,x=dels[k]'hlt:=⟨_,rfl⟩
         have hcx:∀j u,j<3→(RDl.enc x)[j]? =some u→wi.cell? ⟨b,off+k*3+j,none⟩=some u:=fun j u hj hu=>HCL.out k hlt j u hj (by subst hx;exact hu)
         have hxi:x.is w (·<w.heap.size):=by subst hx;exact hxi0
         rw [←hx] at hg
         clear hxi0
         obtain ⟨dn,cA,cc,cl,oA,oc,ops⟩:=x
         simp only at hg
         have hfw:=hxi.few
         simp only at hfw
         have KDX:Hid (∀V,Below w.heap.size w V→Calls Tryz.prog 34 #[.agg #[.string dn,.slice cA cl.length cc,.slice oA ops.length oc],.int .i64 fi] V fun e w'=>e=.returned (.int .i64 (deltaF fi cl (ops.map RF.fct)))∧Below V.heap.size V w'):=hI0 (fun V hV=>checkDelta_any dn _ _ cl ops fi V (hxi.below hV).close (hxi.below hV).opens HFX.out.1 HFX.out.2)
         obtain ⟨de,hde0⟩:∃d,d=deltaF fi cl (ops.map RF.fct):=⟨_,rfl⟩
         rw [←hde0] at KDX hg
         have KN:=fun V=>word_any dn V
         obtain ⟨vn,hvn⟩:∃bo,bo=nmB dn:=⟨_,rfl⟩
         rw [←hvn] at KN hg
         have HG2:=hI0 hg
         have g0:wi.cell? ⟨b,off+k*3,none⟩=some (.string dn):=hcx 0 _ (by decide) rfl
         have g1:wi.cell? ⟨b,off+k*3+1,none⟩=some (.slice cA cl.length cc):=hcx 1 _ (by decide) rfl
         have g2:wi.cell? ⟨b,off+k*3+2,none⟩=some (.slice oA ops.length oc):=hcx 2 _ (by decide) rfl
         obtain ⟨W1,hW1⟩:∃W1,W1=wi.alloc (.cells #[.string dn,.slice cA cl.length cc,.slice oA ops.length oc] 63):=⟨_,rfl⟩
         have hb1:Below wi.heap.size wi W1:=by rw [hW1];exact Below.of_alloc _
         have hX1:W1.heap[wi.heap.size]? =some (.cells #[.string dn,.slice cA cl.length cc,.slice oA ops.length oc] 63 (0,0)):=by rw [hW1];exact heap_alloc_new _ _
         have HX1:=hI0 hX1
         have HL1:Hid (wi.heap.size<W1.heap.size):=hI0 (by rw [hW1];simp)
         have HB1i:=hI0 hb1
         have HB1:Hid (Below w.heap.size w W1):=hI0 (HB.out.trans (hb1.mono HB.out.size))
         have HTB1:=hI0 ((hb1.block w.heap.size (Array.getElem?_eq_some_iff.1 HTB.out).1).trans HTB.out)
         have KN:=KN W1
         clear hcl hF hcx hg hxi hx hde0 hvn hb1 hX1
         go_upto_region 12 with (fail)
         rw [←hW1]
         clear hW1 g0 g1 g2
         have g0:W1.cell? ⟨wi.heap.size,0,none⟩=some (.string dn):=cW0 W1 _ 0 _ _ _ HX1.out
         go_wp2_with fail
         (with_reducible refine KN.mono ?_)
         rintro _ y1 ⟨rfl,hz⟩
         have HBI:Hid (Below wi.heap.size wi y1):=hI0 (HB1i.out.trans (hz.mono HB1i.out.size))
         have HBY:Hid (Below w.heap.size w y1):=hI0 (HB1.out.trans (hz.mono HB1.out.size))
         have HTD:=hI0 ((hz.block _ HL1.out).trans HX1.out)
         have HTL:Hid (wi.heap.size<y1.heap.size):=hI0 (by have:=HL1.out;have:=hz.size;omega)
         have HTB2:=hI0 ((hz.block w.heap.size (Array.getElem?_eq_some_iff.1 HTB1.out).1).trans HTB1.out)
         have HBXL:Hid (w.heap.size<y1.heap.size):=hI0 (Array.getElem?_eq_some_iff.1 HTB2.out).1
         have q1:y1.cell? ⟨wi.heap.size,1,none⟩=some (.slice cA cl.length cc):=cW0 y1 _ 1 _ _ _ HTD.out
         have q2:y1.cell? ⟨wi.heap.size,2,none⟩=some (.slice oA ops.length oc):=cW0 y1 _ 2 _ _ _ HTD.out
         clear hz KN g0
         cases vn
         case false=>
          have HF:Hid (rs=8):=hI0 (by
           have h:=HG2.out
           rw [if_pos (by simp)] at h
           rw [HR2.out,←h];rfl)
          go_wp2_with fail
          go_ret
          exact ⟨by rw [HF.out];rfl,HBY.out⟩
         case true=>
          by_cases h0:cl.length+ops.length=0
          case pos=>
           have e1:(cl.length:Int)+(ops.length:Int)=0:=by omega
           have HF:Hid (rs=8):=hI0 (by
            have h:=HG2.out
            rw [if_pos (by simp [h0])] at h
            rw [HR2.out,←h];rfl)
           have z1:(cl.length:Int)=0:=by omega
           have z2:(ops.length:Int)=0:=by omega
           clear h0 e1
           go_wp2_with fail
           go_ret
           exact ⟨by rw [HF.out];rfl,HBY.out⟩
          case neg=>
           have e1:¬(cl.length:Int)+(ops.length:Int)=0:=by omega
           have e2:(cl.length:Int)+(ops.length:Int)≤9223372036854775807:=by omega
           have HG3:Hid ((if (match prevN RDl.name dels k with|some q=>bleS dn q|none=>false)=true then 9 else if de≠0 then de else deltasF fi (prevN RDl.name dels (k+1)) (dels.drop (k+1)))=deltasF fi none dels):=hI0 (by
            have h:=HG2.out
            rw [if_neg (by rw [decide_eq_false h0];simp)] at h
            exact h)
           clear h0
           go_upto_region 14 with (fail)
           clear e1 e2 q1 q2
           by_cases hk0:k=0
           case pos=>
            exact zq32 0
           case neg=>
            obtain ⟨m,rfl⟩:∃m,k=m+1:=⟨k-1,by omega⟩
            have hml:m<dels.length:=by omega
            obtain ⟨y,hy⟩:∃y,y=dels[m]:=⟨_,rfl⟩
            have hcy:=HCL.out m hml
            rw [←hy] at hcy
            have hpv:prevN RDl.name dels (m+1)=some y.name:=by rw [hy];exact prevN_succ hml
            have hg3:=HG3.out
            rw [hpv] at hg3
            clear hy hpv
            obtain ⟨yn,yA,yc,yl,zA,zc,yo⟩:=y
            simp only at hg3
            have HG5:=hI0 hg3
            have p0:y1.cell? ⟨b,off+m*3,none⟩=some (.string yn):=(World.cell?_of_block (HBI.out.block b HBL0.out)).trans (hcy 0 _ (by decide) rfl)
            have HBL:Hid (b<y1.heap.size):=hI0 (Nat.lt_of_lt_of_le HBL0.out HBI.out.size)
            have hm63:m≤9223372036854775807:=by omega
            have hm64:(m:Int)≤9223372036854775807:=by omega
            have hm65: -9223372036854775808≤(m:Int):=by omega
            clear hcy hg3
            rcases hlt1:Go.Op.bytesLess dn.toList yn.toList with _|_<;>rcases heq1:(dn.toList==yn.toList) with _|_
            all_goals
             have HLE:Hid (bleS dn yn=(Go.Op.bytesLess dn.toList yn.toList||(dn.toList==yn.toList))):=hI0 rfl
             rw [hlt1,heq1] at HLE
             refine wp_region_noPanic ?_
             refine wp_region_held_drew (S:=(fun w'=>Below y1.heap.size y1 w')) (by kernel_rfl) ?_ (fun hHeld=>?_)
             ·exact (Below.refl _ _).drew
             refine hT 0 74 hHeld ?_
             simp only [aP]
             refine hU 1 75 (v:=?_) hHeld ?_ ?_
             rotate_left
             ·intro w' hSw;(try dsimp only at hSw);have hkp2:(0:Int)<(m:Int)+1:=(by omega);have hkn:0<m+1:=(by omega);go_simp<;>with_reducible rfl
             simp only [aP]
             refine hT 2 76 hHeld ?_
             simp only [aP]
             refine hT 3 77 hHeld ?_
             simp only [aP]
             refine hU 4 78 (v:=?_) hHeld ?_ ?_
             rotate_left
             ·intro w' hSw;(try dsimp only at hSw);have q:=(World.cell?_of_block (hSw.block _ HTL.out)).trans (cW0 y1 wi.heap.size 0 _ _ _ HTD.out);go_simp<;>with_reducible rfl
             simp only [aP]
             refine hT 5 79 hHeld ?_
             simp only [aP]
             refine hU 6 80 (v:=?_) hHeld ?_ ?_
             rotate_left
             ·intro w' hSw;(try dsimp only at hSw);have q:=(World.cell?_of_block (hSw.block _ HBXL.out)).trans (cW0 y1 w.heap.size 5 _ _ _ HTB2.out);go_simp<;>with_reducible rfl
             simp only [aP]
             refine hT 7 81 hHeld ?_
             simp only [aP]
             refine hU 8 82 (v:=?_) hHeld ?_ ?_
             rotate_left
             ·exact zq57
             simp only [aP]
             refine hT 9 83 hHeld ?_
             simp only [aP]
             refine hT 10 84 hHeld ?_
             simp only [aP]
             refine hU 11 85 (v:=?_) hHeld ?_ ?_
             rotate_left
             ·intro w' hSw;(try dsimp only at hSw);have q:=(World.cell?_of_block (hSw.block _ HBL.out)).trans p0;go_simp<;>with_reducible rfl
             simp only [aP]
             refine hT 12 86 hHeld ?_
             simp only [aP]
             refine hT 13 87 hHeld ?_
             simp only [aP]
             refine wpAnyH_done (by kernel_rfl) ?_ _
             refine NoPanic.normal ?_
             clear hHeld p0
            case false.false=>
             exact zq32 1
            all_goals
             have HF:Hid (rs=9):=hI0 (by
              have h:=HG5.out
              have hb:bleS dn yn=true:=HLE.out
              simp only [hb,if_true] at h
              rw [HR2.out,←h];rfl)
             go_wp2_with fail
             go_ret
             exact ⟨by rw [HF.out];rfl,HBY.out.drew⟩
        have hlt2:¬(k:Int)<(dels.length:Int):=by omega
        have HR3:Hid (rs=restC C):=hI0 (by
         have h:=HG.out
         rw [deltasF_end (by omega)] at h
         rw [HR2.out,←h];rfl)
        have KH:=checkHolds_any _ pla wi (HI.out.pla.below HB.out)
        have KS:=fun V (h:Below w.heap.size w V)=>namedStr_any _ rel V (HI.out.rel.below h)
        have KR:=fun V (h:Below w.heap.size w V)=>checkRest_any _ _ pol hor V (HI.out.pol.below h) (HI.out.hor.below h)
        obtain ⟨h1,hh1⟩:∃r,r=holdsF pla:=⟨_,rfl⟩
        obtain ⟨h2,hh2⟩:∃r,r=namedF id nmB none rel:=⟨_,rfl⟩
        rw [←hh1] at KH
        rw [←hh2] at KS
        have HR4:Hid (rs=if h1≠0 then h1 else if h2≠0 then h2 else restF pol hor):=hI0 (by rw [HR3.out,HRC.out,←hh1,←hh2])
        clear hh1 hh2
        have c6:wi.cell? ⟨w.heap.size,6,none⟩=some (.slice pA pla.length pC):=cW0 wi _ 6 _ _ _ HTB.out
        go_wp2_with fail
        (with_reducible refine KH.mono ?_)
        rintro _ y1 ⟨rfl,hz⟩
        have HB1:Hid (Below w.heap.size w y1):=hI0 (HB.out.trans (hz.mono HB.out.size))
        have HTB1:=hI0 ((hz.block w.heap.size (Array.getElem?_eq_some_iff.1 HTB.out).1).trans HTB.out)
        clear hz KH c6 hlt2
        by_cases e1:h1=0
        case neg=>
         have HF:Hid (rs=h1):=hI0 (by rw [HR4.out,if_pos e1])
         go_wp2_with fail
         go_ret
         exact ⟨by rw [HF.out];rfl,HB1.out⟩
        have HR5:Hid (rs=if h2≠0 then h2 else restF pol hor):=hI0 (by rw [HR4.out,if_neg (by simpa using e1)])
        subst e1
        have c7:y1.cell? ⟨w.heap.size,7,none⟩=some (.slice rA rel.length rC):=cW0 y1 _ 7 _ _ _ HTB1.out
        have KS:=KS y1 HB1.out
        go_wp2_with fail
        (with_reducible refine KS.mono ?_)
        rintro _ y2 ⟨rfl,hz⟩
        have HB2:Hid (Below w.heap.size w y2):=hI0 (HB1.out.trans (hz.mono HB1.out.size))
        have HTB2:=hI0 ((hz.block w.heap.size (Array.getElem?_eq_some_iff.1 HTB1.out).1).trans HTB1.out)
        clear hz KS c7
        by_cases e2:h2=0
        case neg=>
         have HF:Hid (rs=h2):=hI0 (by rw [HR5.out,if_pos e2])
         go_wp2_with fail
         go_ret
         exact ⟨by rw [HF.out];rfl,HB2.out⟩
        have HR6:Hid (rs=restF pol hor):=hI0 (by rw [HR5.out,if_neg (by simpa using e2)])
        subst e2
        have c8:y2.cell? ⟨w.heap.size,8,none⟩=some (.slice qA pol.length qC):=cW0 y2 _ 8 _ _ _ HTB2.out
        have c9:y2.cell? ⟨w.heap.size,9,none⟩=some (.slice hA hor.length hC2):=cW0 y2 _ 9 _ _ _ HTB2.out
        have KR:=KR y2 HB2.out
        go_wp2_with fail
        (with_reducible refine KR.mono ?_)
        rintro _ y3 ⟨rfl,hz⟩
        have HB3:Hid (Below w.heap.size w y3):=hI0 (HB2.out.trans (hz.mono HB2.out.size))
        clear hz KR c8 c9
        go_wp2_with fail
        go_ret
        exact ⟨by rw [HR6.out];rfl,HB3.out⟩
end Go.Proofs.YtbfdegkickjbpaaGreat
