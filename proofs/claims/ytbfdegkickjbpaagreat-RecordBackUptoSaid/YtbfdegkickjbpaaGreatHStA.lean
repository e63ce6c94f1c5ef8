/-
 StA
-/
import Derived.Test.YtbfdegkickjbpaaGreatHRcG
import Derived.Test.YtbfdegkickjbpaaGreatHSmA
namespace Go.Proofs.YtbfdegkickjbpaaGreat
set_option maxRecDepth 1000000
set_option maxHeartbeats 32000000
open Go.RowKit Go.Lib Go.IntWalk Go.Sort Go.Shelf
def ordF {α:Type} (ok:α→Int) (le:α→α→Bool) (la:α→Int):Option α→List α→Int
 |_,[]=>0
 |p,x::r=>if ok x≠0 then ok x else if (match p with|some y=>le x y|none=>false)=true then 9 else if la x≠0 then la x else ordF ok le la (some x) r
def prevA {α:Type} (l:List α) (k:Nat):Option α:=if k=0 then none else l[k-1]?
def plA {α:Type} (le:α→α→Bool) (x:α) (p:Option α):Bool:=match p with|some y=>le x y|none=>false
theorem ordF_cons {α:Type} {ok:α→Int} {le:α→α→Bool} {la:α→Int} {p:Option α} {x:α} {r:List α}:ordF ok le la p (x::r)=if ok x≠0 then ok x else if plA le x p=true then 9 else if la x≠0 then la x else ordF ok le la (some x) r:=by
 cases p<;>rfl
theorem prevA_succ {α:Type} {l:List α} {k:Nat} (h:k<l.length):prevA l (k+1)=some l[k]:=by
 unfold prevA;rw [if_neg (Nat.succ_ne_zero k),Nat.add_sub_cancel,List.getElem?_eq_getElem h]
theorem ordF_facts {α:Type} {ok:α→Int} {le:α→α→Bool} {la:α→Int} {p:Option α} {l:List α} {k:Nat} {E:Int} (h:k<l.length) (hE:ordF ok le la p (l.drop k)=E):
  (ok l[k]≠0→E=ok l[k])∧(ok l[k]=0→plA le l[k] p=true→E=9)∧(ok l[k]=0→plA le l[k] p=false→la l[k]≠0→E=la l[k])∧(ok l[k]=0→plA le l[k] p=false→la l[k]=0→ordF ok le la (prevA l (k+1)) (l.drop (k+1))=E):=by
 rw [List.drop_eq_getElem_cons h,ordF_cons] at hE
 rw [prevA_succ h]
 refine ⟨fun h1=>?_,fun h1 h2=>?_,fun h1 h2 h3=>?_,fun h1 h2 h3=>?_⟩<;>simp_all
theorem ordF_end {α:Type} {ok:α→Int} {le:α→α→Bool} {la:α→Int} {p:Option α} {l:List α} {k:Nat} (h:l.length≤k):ordF ok le la p (l.drop k)=0:=by
 rw [List.drop_of_length_le h];rfl
theorem if_ne0 {E r rs c:Int} (h:rs=if E≠0 then E else r) (he:E=c) (hc:c≠0):rs=c:=by rw [h,he,if_pos hc]
theorem if_eq0 {E r rs:Int} (h:rs=if E≠0 then E else r) (he:E=0):rs=r:=by rw [h,he];rfl
def enE (x:REn):Int:=if x.ok=true then 0 else 8
def stmOk (x:Stm):Bool:=instB x.time&&decide (0≤x.wall∧x.wall≤x.time)
def stmE (x:Stm):Int:=if stmOk x=true then 0 else 6
def tvE (x:RTv):Int:=if nmB x.table=true then 0 else 8
def entsF (l:List REn):Int:=ordF enE (fun x y=>decide (x.time<y.time)) (fun _=>0) none l
def stmsF (l:List Stm):Int:=ordF stmE (fun x y=>decide (x.time≤y.time)) (fun _=>0) none l
def tabsF (l:List RTv):Int:=ordF tvE (fun x y=>bleS x.table y.table) (fun x=>chkFrom none (x.vers.map (·.2))) none l
def stateF (c:RSt):Int:=
 if (decide (0≤c.tx∧c.tx≤1125899906842624)&&(decide (1≤c.next∧c.next≤1125899906842624)&&(instB c.time&&decide (0≤c.wall∧c.wall≤c.time))))=false then 6
 else if entsF c.ents≠0 then entsF c.ents else if stmsF c.stms≠0 then stmsF c.stms else if tabsF c.tabs≠0 then tabsF c.tabs else if holdsF c.pla≠0 then holdsF c.pla else restF c.pol c.hor
theorem checkState_any (c:RSt) (w:World) (hc:c.is w (·<w.heap.size)):Calls Tryz.prog 104 #[.agg c.enc.toArray] w fun e w'=>e=.returned (.int .i64 (stateF c))∧Below w.heap.size w w':=by
 have HI0:=hI0 hc
 obtain ⟨rs,hrs⟩:∃r,r=stateF c:=⟨_,rfl⟩
 rw [←hrs]
 unfold stateF at hrs
 obtain ⟨tx,tm,wa,nx,eA,eC,ents,sA,sC,stms,tA,tC,tabs,pA,pC,pla,qA,qC,pol,hA,hC2,hor⟩:=c
 simp only at hrs
 have HI:Hid (RSt.is w (·<w.heap.size) ⟨tx,tm,wa,nx,eA,eC,ents,sA,sC,stms,tA,tC,tabs,pA,pC,pla,qA,qC,pol,hA,hC2,hor⟩):=HI0
 obtain ⟨r4,hr4⟩:∃r,r=if holdsF pla≠0 then holdsF pla else restF pol hor:=⟨_,rfl⟩
 obtain ⟨E3,hE3⟩:∃r,r=tabsF tabs:=⟨_,rfl⟩
 obtain ⟨r3,hr3⟩:∃r,r=if E3≠0 then E3 else r4:=⟨_,rfl⟩
 obtain ⟨E2,hE2⟩:∃r,r=stmsF stms:=⟨_,rfl⟩
 obtain ⟨r2,hr2⟩:∃r,r=if E2≠0 then E2 else r3:=⟨_,rfl⟩
 obtain ⟨E1,hE1⟩:∃r,r=entsF ents:=⟨_,rfl⟩
 rw [←hE1,←hE2,←hE3,←hr4,←hr3,←hr2] at hrs
 have HE1:=hI0 hE1
 have HE2:=hI0 hE2
 have HE3:=hI0 hE3
 have HR2:=hI0 hr2
 have HR3:=hI0 hr3
 have HR4:=hI0 hr4
 have HR:=hI0 hrs
 obtain ⟨a1,a2⟩:=hc.ents.bd
 obtain ⟨b1,b2⟩:=hc.stms.bd
 obtain ⟨d1,d2⟩:=hc.tabs.bd
 simp only at a1 a2 b1 b2 d1 d2
 show Calls Tryz.prog 104 #[.agg #[.int .i64 tx,.int .i64 tm,.int .i64 wa,.int .i64 nx,.slice eA ents.length eC,.slice sA stms.length sC,.slice tA tabs.length tC,.slice pA pla.length pC,.slice qA pol.length qC,.slice hA hor.length hC2]] w _
 obtain ⟨W,hW⟩:∃W,W=w.alloc (.cells #[.int .i64 tx,.int .i64 tm,.int .i64 wa,.int .i64 nx,.slice eA ents.length eC,.slice sA stms.length sC,.slice tA tabs.length tC,.slice pA pla.length pC,.slice qA pol.length qC,.slice hA hor.length hC2] 47):=⟨_,rfl⟩
 have hbW:Below w.heap.size w W:=by rw [hW];exact Below.of_alloc _
 have hT:W.heap[w.heap.size]? =some (.cells #[.int .i64 tx,.int .i64 tm,.int .i64 wa,.int .i64 nx,.slice eA ents.length eC,.slice sA stms.length sC,.slice tA tabs.length tC,.slice pA pla.length pC,.slice qA pol.length qC,.slice hA hor.length hC2] 47 (0,0)):=by rw [hW];exact heap_alloc_new _ _
 have HBW:=hI0 hbW
 have HT:=hI0 hT
 obtain ⟨v1,hv1⟩:∃bo,bo=decide (0≤tx∧tx≤1125899906842624):=⟨_,rfl⟩
 obtain ⟨v2,hv2⟩:∃bo,bo=decide (1≤nx∧nx≤1125899906842624):=⟨_,rfl⟩
 obtain ⟨v3,hv3⟩:∃bo,bo=instB tm:=⟨_,rfl⟩
 obtain ⟨v4,hv4⟩:∃bo,bo=decide (0≤wa∧wa≤tm):=⟨_,rfl⟩
 have K1:=within_any tx 0 1125899906842624 W
 have K2:=within_any nx 1 1125899906842624 W
 have K3:=instant_any tm W
 have K4:=within_any wa 0 tm W
 rw [←hv1] at K1 HR
 rw [←hv2] at K2 HR
 rw [←hv3] at K3 HR
 rw [←hv4] at K4 HR
 have c0:W.cell? ⟨w.heap.size,0,none⟩=some (.int .i64 tx):=cW0 W _ 0 _ _ _ hT
 have c1:W.cell? ⟨w.heap.size,1,none⟩=some (.int .i64 tm):=cW0 W _ 1 _ _ _ hT
 have c2:W.cell? ⟨w.heap.size,2,none⟩=some (.int .i64 wa):=cW0 W _ 2 _ _ _ hT
 have c3:W.cell? ⟨w.heap.size,3,none⟩=some (.int .i64 nx):=cW0 W _ 3 _ _ _ hT
 have c4:W.cell? ⟨w.heap.size,4,none⟩=some (.slice eA ents.length eC):=cW0 W _ 4 _ _ _ hT
 clear hbW hT hv1 hv2 hv3 hv4 hrs hc HI0 hE1 hE2 hE3 hr2 hr3 hr4
 go_enter Tryz.func104,Tryz.ntmps104
 go_wp2_with fail
 rw [←hW]
 clear hW
 (with_reducible refine K1.mono ?_)
 rintro _ z1 ⟨rfl,hz⟩
 rw [hz]
 clear hz z1 K1
 cases v1
 case false=>
  have HF:Hid (rs=6):=hI0 (by rw [HR.out];exact if_pos (by simp))
  go_wp2_with fail
  go_ret
  exact ⟨by rw [HF.out];rfl,HBW.out⟩
 case true=>
  go_wp2_with fail
  (with_reducible refine K2.mono ?_)
  rintro _ z1 ⟨rfl,hz⟩
  rw [hz]
  clear hz z1 K2
  cases v2
  case false=>
   have HF:Hid (rs=6):=hI0 (by rw [HR.out];exact if_pos (by simp))
   go_wp2_with fail
   go_ret
   exact ⟨by rw [HF.out];rfl,HBW.out⟩
  case true=>
   go_wp2_with fail
   (with_reducible refine K3.mono ?_)
   rintro _ z1 ⟨rfl,hz⟩
   rw [hz]
   clear hz z1 K3
   cases v3
   case false=>
    have HF:Hid (rs=6):=hI0 (by rw [HR.out];exact if_pos (by simp))
    go_wp2_with fail
    go_ret
    exact ⟨by rw [HF.out];rfl,HBW.out⟩
   case true=>
    go_wp2_with fail
    (with_reducible refine K4.mono ?_)
    rintro _ z1 ⟨rfl,hz⟩
    rw [hz]
    clear hz z1 K4
    cases v4
    case false=>
     have HF:Hid (rs=6):=hI0 (by rw [HR.out];exact if_pos (by simp))
     go_wp2_with fail
     go_ret
     exact ⟨by rw [HF.out];rfl,HBW.out⟩
    case true=>
     go_wp2_with fail
     have HRS1:Hid (rs=if E1≠0 then E1 else r2):=hI0 (by rw [HR.out];exact if_neg (by simp))
     have HBx:=HBW
     have HTx:=HT
     clear c0 c1 c2 c3 c4 HR
     go_loopw [38] (fun i wr=>∃k:Nat,i=.int .i64 (k:Int)∧k≤ents.length∧Hid (ordF enE (fun x y=>decide (x.time<y.time)) (fun _=>0) (prevA ents k) (ents.drop k)=E1)∧Hid (Below w.heap.size w wr)∧Hid (wr.heap[w.heap.size]? =some (.cells #[.int .i64 tx,.int .i64 tm,.int .i64 wa,.int .i64 nx,.slice eA ents.length eC,.slice sA stms.length sC,.slice tA tabs.length tC,.slice pA pla.length pC,.slice qA pol.length qC,.slice hA hor.length hC2] 47 (0,0)))) (fun i _=>ents.length-(intOf i).toNat)
     case atStart=>exact ⟨0,rfl,Nat.zero_le _,hI0 HE1.out.symm,HBx,HTx⟩
     case round=>
      clear HBx HTx
      obtain ⟨k,rfl,hk,HG,HB,HTB⟩:=hrel
      obtain ⟨wi,rfl⟩:∃wi:World,wi=wr:=⟨_,rfl⟩
      by_cases hlt:k<ents.length
      case pos=>
       have hlt2:(k:Int)<(ents.length:Int):=by omega
       obtain ⟨b,off,rfl,hF,hcl⟩:=RdE.at_ (K:=16) (enc:=REn.enc) (fun _=>rfl) (by omega) (HI.out.ents.below HB.out) hlt
       have HCL:Hid (∀i (hi:i<ents.length) j u,j<16→(REn.enc ents[i])[j]? =some u→wi.cell? ⟨b,off+i*16+j,none⟩=some u):=hI0 hcl
       have HBL0:Hid (b<wi.heap.size):=hI0 hF
       have HLK:=hI0 hlt
       obtain ⟨f1,f2,f3,f4⟩:=ordF_facts hlt HG.out
       have hxi:=HI.out.entI _ (List.getElem_mem hlt)
       obtain ⟨x,hx⟩:∃x,x=ents[k]'hlt:=⟨_,rfl⟩
       have hcx:∀j u,j<16→(REn.enc x)[j]? =some u→wi.cell? ⟨b,off+k*16+j,none⟩=some u:=fun j u hj hu=>HCL.out k hlt j u hj (by subst hx;exact hu)
       rw [←hx] at f1 f2 f3 f4 hxi
       obtain ⟨po,hpo⟩:∃bo,bo=plA (fun x y=>decide (x.time<y.time)) x (prevA ents k):=⟨_,rfl⟩
       rw [←hpo] at f2 f3 f4
       clear hx hcl hF
       have KE0:∀V,Below w.heap.size w V→_:=fun V hV=>validEntry_any x V (hxi.below hV).create hxi.few hxi.text
       obtain ⟨v,hv⟩:∃bo,bo=x.ok:=⟨_,rfl⟩
       rw [←hv] at KE0
       have hok:enE x=if v=true then 0 else 8:=by rw [hv];rfl
       rw [hok] at f1 f2 f3 f4
       clear hv hok hxi
       obtain ⟨tm2,tb,⟨nm,colA,colC,cols,keyA,keyC,key,forA,forC,fors,chkA,chkC,chks⟩,⟨x1,x2,x3,x4,x5,x6,⟨x7,x8,x9⟩⟩⟩:=x
       have KE:∀V,Below w.heap.size w V→Calls Tryz.prog 32 #[.agg #[.int .i64 tm2,.string tb,.string nm,.slice colA cols.length colC,.slice keyA key.length keyC,.slice forA fors.length forC,.slice chkA chks.length chkC,.int .i64 x1,.string x2,.string x3,.string x4,.int .i64 x5,.bool x6,.int .i64 x7,.int .i64 x8,.string x9]] V fun e w'=>e=.returned (.bool v)∧Below V.heap.size V w':=KE0
       clear KE0
       have HF1:=hI0 f1
       have HF2:=hI0 f2
       have HF3:=hI0 f3
       have HF4:=hI0 f4
       have HPO:=hI0 hpo
       have g0:wi.cell? ⟨b,off+k*16,none⟩=some (.int .i64 tm2):=hcx 0 _ (by decide) rfl
       have g1:wi.cell? ⟨b,off+k*16+1,none⟩=some (.string tb):=hcx 1 _ (by decide) rfl
       have g2:wi.cell? ⟨b,off+k*16+2,none⟩=some (.string nm):=hcx 2 _ (by decide) rfl
       have g3:wi.cell? ⟨b,off+k*16+3,none⟩=some (.slice colA cols.length colC):=hcx 3 _ (by decide) rfl
       have g4:wi.cell? ⟨b,off+k*16+4,none⟩=some (.slice keyA key.length keyC):=hcx 4 _ (by decide) rfl
       have g5:wi.cell? ⟨b,off+k*16+5,none⟩=some (.slice forA fors.length forC):=hcx 5 _ (by decide) rfl
       have g6:wi.cell? ⟨b,off+k*16+6,none⟩=some (.slice chkA chks.length chkC):=hcx 6 _ (by decide) rfl
       have g7:wi.cell? ⟨b,off+k*16+7,none⟩=some (.int .i64 x1):=hcx 7 _ (by decide) rfl
       have g8:wi.cell? ⟨b,off+k*16+8,none⟩=some (.string x2):=hcx 8 _ (by decide) rfl
       have g9:wi.cell? ⟨b,off+k*16+9,none⟩=some (.string x3):=hcx 9 _ (by decide) rfl
       have g10:wi.cell? ⟨b,off+k*16+10,none⟩=some (.string x4):=hcx 10 _ (by decide) rfl
       have g11:wi.cell? ⟨b,off+k*16+11,none⟩=some (.int .i64 x5):=hcx 11 _ (by decide) rfl
       have g12:wi.cell? ⟨b,off+k*16+12,none⟩=some (.bool x6):=hcx 12 _ (by decide) rfl
       have g13:wi.cell? ⟨b,off+k*16+13,none⟩=some (.int .i64 x7):=hcx 13 _ (by decide) rfl
       have g14:wi.cell? ⟨b,off+k*16+14,none⟩=some (.int .i64 x8):=hcx 14 _ (by decide) rfl
       have g15:wi.cell? ⟨b,off+k*16+15,none⟩=some (.string x9):=hcx 15 _ (by decide) rfl
       obtain ⟨W1,hW1⟩:∃W1,W1=wi.alloc (.cells #[.int .i64 tm2,.string tb,.string nm,.slice colA cols.length colC,.slice keyA key.length keyC,.slice forA fors.length forC,.slice chkA chks.length chkC,.int .i64 x1,.string x2,.string x3,.string x4,.int .i64 x5,.bool x6,.int .i64 x7,.int .i64 x8,.string x9] 83):=⟨_,rfl⟩
       have hb1:Below wi.heap.size wi W1:=by rw [hW1];exact Below.of_alloc _
       have hX1:W1.heap[wi.heap.size]? =some (.cells #[.int .i64 tm2,.string tb,.string nm,.slice colA cols.length colC,.slice keyA key.length keyC,.slice forA fors.length forC,.slice chkA chks.length chkC,.int .i64 x1,.string x2,.string x3,.string x4,.int .i64 x5,.bool x6,.int .i64 x7,.int .i64 x8,.string x9] 83 (0,0)):=by rw [hW1];exact heap_alloc_new _ _
       have HX1:=hI0 hX1
       have HL1:Hid (wi.heap.size<W1.heap.size):=hI0 (by rw [hW1];simp)
       have HB1i:=hI0 hb1
       have HB1:Hid (Below w.heap.size w W1):=hI0 (HB.out.trans (hb1.mono HB.out.size))
       have HTB1:=hI0 ((hb1.block w.heap.size (Array.getElem?_eq_some_iff.1 HTB.out).1).trans HTB.out)
       clear hcx hb1 hX1 f1 f2 f3 f4 hpo
       go_upto_region 6 with (fail)
       rw [←hW1]
       clear hW1 g0 g1 g2 g3 g4 g5 g6 g7 g8 g9 g10 g11 g12 g13 g14 g15
       have g0:W1.cell? ⟨wi.heap.size,0,none⟩=some (.int .i64 tm2):=cW0 W1 _ 0 _ _ _ HX1.out
       have g1:W1.cell? ⟨wi.heap.size,1,none⟩=some (.string tb):=cW0 W1 _ 1 _ _ _ HX1.out
       have g2:W1.cell? ⟨wi.heap.size,2,none⟩=some (.string nm):=cW0 W1 _ 2 _ _ _ HX1.out
       have g3:W1.cell? ⟨wi.heap.size,3,none⟩=some (.slice colA cols.length colC):=cW0 W1 _ 3 _ _ _ HX1.out
       have g4:W1.cell? ⟨wi.heap.size,4,none⟩=some (.slice keyA key.length keyC):=cW0 W1 _ 4 _ _ _ HX1.out
       have g5:W1.cell? ⟨wi.heap.size,5,none⟩=some (.slice forA fors.length forC):=cW0 W1 _ 5 _ _ _ HX1.out
       have g6:W1.cell? ⟨wi.heap.size,6,none⟩=some (.slice chkA chks.length chkC):=cW0 W1 _ 6 _ _ _ HX1.out
       have g7:W1.cell? ⟨wi.heap.size,7,none⟩=some (.int .i64 x1):=cW0 W1 _ 7 _ _ _ HX1.out
       have g8:W1.cell? ⟨wi.heap.size,8,none⟩=some (.string x2):=cW0 W1 _ 8 _ _ _ HX1.out
       have g9:W1.cell? ⟨wi.heap.size,9,none⟩=some (.string x3):=cW0 W1 _ 9 _ _ _ HX1.out
       have g10:W1.cell? ⟨wi.heap.size,10,none⟩=some (.string x4):=cW0 W1 _ 10 _ _ _ HX1.out
       have g11:W1.cell? ⟨wi.heap.size,11,none⟩=some (.int .i64 x5):=cW0 W1 _ 11 _ _ _ HX1.out
       have g12:W1.cell? ⟨wi.heap.size,12,none⟩=some (.bool x6):=cW0 W1 _ 12 _ _ _ HX1.out
       have g13:W1.cell? ⟨wi.heap.size,13,none⟩=some (.int .i64 x7):=cW0 W1 _ 13 _ _ _ HX1.out
       have g14:W1.cell? ⟨wi.heap.size,14,none⟩=some (.int .i64 x8):=cW0 W1 _ 14 _ _ _ HX1.out
       have g15:W1.cell? ⟨wi.heap.size,15,none⟩=some (.string x9):=cW0 W1 _ 15 _ _ _ HX1.out
       have KX:=KE W1 HB1.out
       go_wp2_with fail
       (with_reducible refine KX.mono ?_)
       rintro _ y1 ⟨rfl,hz⟩
       have HBI:Hid (Below wi.heap.size wi y1):=hI0 (HB1i.out.trans (hz.mono HB1i.out.size))
       have HBY:Hid (Below w.heap.size w y1):=hI0 (HB1.out.trans (hz.mono HB1.out.size))
       have HTD:=hI0 ((hz.block _ HL1.out).trans HX1.out)
       have HTB2:=hI0 ((hz.block w.heap.size (Array.getElem?_eq_some_iff.1 HTB1.out).1).trans HTB1.out)
       clear hz KX KE g0 g1 g2 g3 g4 g5 g6 g7 g8 g9 g10 g11 g12 g13 g14 g15
       cases v
       case false=>
        have HF:Hid (rs=8):=hI0 (if_ne0 HRS1.out (HF1.out (by decide)) (by decide))
        go_wp2_with fail
        go_ret
        exact ⟨by rw [HF.out];rfl,HBY.out⟩
       have HBXL:Hid (w.heap.size<y1.heap.size):=hI0 (Array.getElem?_eq_some_iff.1 HTB2.out).1
       have HTL:Hid (wi.heap.size<y1.heap.size):=hI0 (Array.getElem?_eq_some_iff.1 HTD.out).1
       go_upto_region 8 with (fail)
       by_cases hk0:k=0
       case pos=>
        have HP:Hid (po=false):=hI0 (by rw [HPO.out,hk0];rfl)
        subst hk0
        have h00:¬(0:Int)<((0:Nat):Int):=by omega
        refine wp_region_noPanic ?_
        refine wp_region_held_drew (S:=(fun w'=>Below y1.heap.size y1 w')) (by kernel_rfl) ?_ (fun hHeld=>?_)
        ·exact (Below.refl _ _).drew
        refine hT 0 46 hHeld ?_
        simp only [aP]
        refine hT 1 47 hHeld ?_
        simp only [aP]
        refine hT 2 48 hHeld ?_
        simp only [aP]
        refine hK 3 49 hHeld ?_
        simp only [aP]
        refine hK 4 50 hHeld ?_
        simp only [aP]
        refine hK 5 51 hHeld ?_
        simp only [aP]
        refine hK 6 52 hHeld ?_
        simp only [aP]
        refine hK 7 53 hHeld ?_
        simp only [aP]
        refine hK 8 54 hHeld ?_
        simp only [aP]
        refine hK 9 55 hHeld ?_
        simp only [aP]
        refine hK 10 56 hHeld ?_
        simp only [aP]
        refine hK 11 57 hHeld ?_
        simp only [aP]
        refine hK 12 58 hHeld ?_
        simp only [aP]
        refine hT 13 59 hHeld ?_
        simp only [aP]
        refine wpAnyH_done (by kernel_rfl) ?_ _
        refine NoPanic.normal ?_
        clear hHeld h00
        have HN:=hI0 (HF4.out rfl HP.out (by first|rfl|trivial))
        go_wp2_with fail
        go_roundw
        case rel=>exact ⟨0+1,by go_num,by have:=HLK.out;omega,HN,hI0 HBY.out.drew,hI0 HTB2.out⟩
        case measure=>have:=HLK.out;simp [intOf];omega
       obtain ⟨m,rfl⟩:∃m,k=m+1:=⟨k-1,by omega⟩
       have hml:m<ents.length:=by omega
       obtain ⟨y,hy⟩:∃y,y=ents[m]:=⟨_,rfl⟩
       have hcy:=HCL.out m hml
       have hpo:=HPO.out
       rw [prevA_succ hml,←hy] at hpo
       rw [←hy] at hcy
       clear hy
       obtain ⟨ytm,ytb,⟨ynm,ycolA,ycolC,ycols,ykeyA,ykeyC,ykey,yforA,yforC,yfors,ychkA,ychkC,ychks⟩,⟨y1_,y2,y3,y4,y5,y6,⟨y7,y8,y9⟩⟩⟩:=y
       have HP2:Hid (po=decide (tm2<ytm)):=hI0 hpo
       have p0:y1.cell? ⟨b,off+m*16,none⟩=some (.int .i64 ytm):=(World.cell?_of_block (HBI.out.block b HBL0.out)).trans (hcy 0 _ (by decide) rfl)
       have HBL:Hid (b<y1.heap.size):=hI0 (Nat.lt_of_lt_of_le HBL0.out HBI.out.size)
       have hm63:m≤9223372036854775807:=by omega
       have hm64:(m:Int)≤9223372036854775807:=by omega
       have hm65: -9223372036854775808≤(m:Int):=by omega
       clear hcy hpo HPO
       by_cases hcmp:tm2<ytm
       case pos=>
        have HPT:Hid (po=true):=hI0 (by rw [HP2.out];exact decide_eq_true hcmp)
        refine wp_region_noPanic ?_
        refine wp_region_held_drew (S:=(fun w'=>Below y1.heap.size y1 w')) (by kernel_rfl) ?_ (fun hHeld=>?_)
        ·exact (Below.refl _ _).drew
        refine hT 0 46 hHeld ?_
        simp only [aP]
        refine hU 1 47 (v:=?_) hHeld ?_ ?_
        rotate_left
        ·intro w' hSw;(try dsimp only at hSw);have hkp2:(0:Int)<(m:Int)+1:=(by omega);have hkn:0<m+1:=(by omega);go_simp<;>with_reducible rfl
        simp only [aP]
        refine hT 2 48 hHeld ?_
        simp only [aP]
        refine hT 3 49 hHeld ?_
        simp only [aP]
        refine hU 4 50 (v:=?_) hHeld ?_ ?_
        rotate_left
        ·intro w' hSw;(try dsimp only at hSw);have q:=(World.cell?_of_block (hSw.block _ HTL.out)).trans (cW0 y1 wi.heap.size 0 _ _ _ HTD.out);go_simp<;>with_reducible rfl
        simp only [aP]
        refine hT 5 51 hHeld ?_
        simp only [aP]
        refine hU 6 52 (v:=?_) hHeld ?_ ?_
        rotate_left
        ·intro w' hSw;(try dsimp only at hSw);have q:=(World.cell?_of_block (hSw.block _ HBXL.out)).trans (cW0 y1 w.heap.size 4 _ _ _ HTB2.out);go_simp<;>with_reducible rfl
        simp only [aP]
        refine hT 7 53 hHeld ?_
        simp only [aP]
        refine hU 8 54 (v:=?_) hHeld ?_ ?_
        rotate_left
        ·intro w' hSw;(try dsimp only at hSw);have e1:((m+1:Nat):Int)-1=(m:Int):=(by omega);have e2:IntKind.i64.wrap (m:Int)=(m:Int):=(by rw [Go.IntWalk.i64_left,Go.IntWalk.wrap64_in _ ⟨hm65,hm64⟩]);go_simp<;>(try rw [e2])<;>with_reducible rfl
        simp only [aP]
        refine hT 9 55 hHeld ?_
        simp only [aP]
        refine hT 10 56 hHeld ?_
        simp only [aP]
        refine hU 11 57 (v:=?_) hHeld ?_ ?_
        rotate_left
        ·intro w' hSw;(try dsimp only at hSw);have q:=(World.cell?_of_block (hSw.block _ HBL.out)).trans p0;go_simp<;>with_reducible rfl
        simp only [aP]
        refine hT 12 58 hHeld ?_
        simp only [aP]
        refine hT 13 59 hHeld ?_
        simp only [aP]
        refine wpAnyH_done (by kernel_rfl) ?_ _
        refine NoPanic.normal ?_
        clear hHeld p0
        have HF:Hid (rs=9):=hI0 (if_ne0 HRS1.out (HF2.out rfl HPT.out) (by decide))
        go_wp2_with fail
        go_ret
        exact ⟨by rw [HF.out];rfl,HBY.out.drew⟩
       have HP:Hid (po=false):=hI0 (by rw [HP2.out];exact decide_eq_false hcmp)
       refine wp_region_noPanic ?_
       refine wp_region_held_drew (S:=(fun w'=>Below y1.heap.size y1 w')) (by kernel_rfl) ?_ (fun hHeld=>?_)
       ·exact (Below.refl _ _).drew
       refine hT 0 46 hHeld ?_
       simp only [aP]
       refine hU 1 47 (v:=?_) hHeld ?_ ?_
       rotate_left
       ·intro w' hSw;(try dsimp only at hSw);have hkp2:(0:Int)<(m:Int)+1:=(by omega);have hkn:0<m+1:=(by omega);go_simp<;>with_reducible rfl
       simp only [aP]
       refine hT 2 48 hHeld ?_
       simp only [aP]
       refine hT 3 49 hHeld ?_
       simp only [aP]
       refine hU 4 50 (v:=?_) hHeld ?_ ?_
       rotate_left
       ·intro w' hSw;(try dsimp only at hSw);have q:=(World.cell?_of_block (hSw.block _ HTL.out)).trans (cW0 y1 wi.heap.size 0 _ _ _ HTD.out);go_simp<;>with_reducible rfl
       simp only [aP]
       refine hT 5 51 hHeld ?_
       simp only [aP]
       refine hU 6 52 (v:=?_) hHeld ?_ ?_
       rotate_left
       ·intro w' hSw;(try dsimp only at hSw);have q:=(World.cell?_of_block (hSw.block _ HBXL.out)).trans (cW0 y1 w.heap.size 4 _ _ _ HTB2.out);go_simp<;>with_reducible rfl
       simp only [aP]
       refine hT 7 53 hHeld ?_
       simp only [aP]
       refine hU 8 54 (v:=?_) hHeld ?_ ?_
       rotate_left
       ·intro w' hSw;(try dsimp only at hSw);have e1:((m+1:Nat):Int)-1=(m:Int):=(by omega);have e2:IntKind.i64.wrap (m:Int)=(m:Int):=(by rw [Go.IntWalk.i64_left,Go.IntWalk.wrap64_in _ ⟨hm65,hm64⟩]);go_simp<;>(try rw [e2])<;>with_reducible rfl
       simp only [aP]
       refine hT 9 55 hHeld ?_
       simp only [aP]
       refine hT 10 56 hHeld ?_
       simp only [aP]
       refine hU 11 57 (v:=?_) hHeld ?_ ?_
       rotate_left
       ·intro w' hSw;(try dsimp only at hSw);have q:=(World.cell?_of_block (hSw.block _ HBL.out)).trans p0;go_simp<;>with_reducible rfl
       simp only [aP]
       refine hT 12 58 hHeld ?_
       simp only [aP]
       refine hT 13 59 hHeld ?_
       simp only [aP]
       refine wpAnyH_done (by kernel_rfl) ?_ _
       refine NoPanic.normal ?_
       clear hHeld p0
       have HN:=hI0 (HF4.out rfl HP.out (by first|rfl|trivial))
       go_wp2_with fail
       go_roundw
       case rel=>exact ⟨m+1+1,by go_num,by have:=HLK.out;omega,HN,hI0 HBY.out.drew,hI0 HTB2.out⟩
       case measure=>have:=HLK.out;simp [intOf];omega
      case neg=>
       have hlt2:¬(k:Int)<(ents.length:Int):=by omega
       have hE0:E1=0:=by
        have h:=HG.out
        rw [ordF_end (by omega)] at h
        exact h.symm
       have HRS2:Hid (rs=if E2≠0 then E2 else r3):=hI0 (by rw [if_eq0 HRS1.out hE0,HR2.out])
       have c5:wi.cell? ⟨w.heap.size,5,none⟩=some (.slice sA stms.length sC):=cW0 wi _ 5 _ _ _ HTB.out
       have HBx:=HB
       have HTx:=HTB
       go_wp2_with fail
       clear c5 hlt2 hlt hE0 HG HB HTB hk
       go_loopw [64] (fun i wr=>∃k:Nat,i=.int .i64 (k:Int)∧k≤stms.length∧Hid (ordF stmE (fun x y=>decide (x.time≤y.time)) (fun _=>0) (prevA stms k) (stms.drop k)=E2)∧Hid (Below w.heap.size w wr)∧Hid (wr.heap[w.heap.size]? =some (.cells #[.int .i64 tx,.int .i64 tm,.int .i64 wa,.int .i64 nx,.slice eA ents.length eC,.slice sA stms.length sC,.slice tA tabs.length tC,.slice pA pla.length pC,.slice qA pol.length qC,.slice hA hor.length hC2] 47 (0,0)))) (fun i _=>stms.length-(intOf i).toNat)
       case atStart=>exact ⟨0,rfl,Nat.zero_le _,hI0 HE2.out.symm,HBx,HTx⟩
       case round=>
        clear HBx HTx
        obtain ⟨k,rfl,hk,HG,HB,HTB⟩:=hrel
        obtain ⟨wi,rfl⟩:∃wi:World,wi=wr:=⟨_,rfl⟩
        by_cases hlt:k<stms.length
        case pos=>
         have hlt2:(k:Int)<(stms.length:Int):=by omega
         obtain ⟨b,off,rfl,hF,hcl⟩:=RdE.at_ (K:=2) (enc:=Stm.enc) (fun _=>rfl) (by omega) (HI.out.stms.below HB.out) hlt
         have HCL:Hid (∀i (hi:i<stms.length) j u,j<2→(Stm.enc stms[i])[j]? =some u→wi.cell? ⟨b,off+i*2+j,none⟩=some u):=hI0 hcl
         have HBL0:Hid (b<wi.heap.size):=hI0 hF
         have HLK:=hI0 hlt
         obtain ⟨f1,f2,f3,f4⟩:=ordF_facts hlt HG.out
         obtain ⟨x,hx⟩:∃x,x=stms[k]'hlt:=⟨_,rfl⟩
         have hcx:∀j u,j<2→(Stm.enc x)[j]? =some u→wi.cell? ⟨b,off+k*2+j,none⟩=some u:=fun j u hj hu=>HCL.out k hlt j u hj (by subst hx;exact hu)
         rw [←hx] at f1 f2 f3 f4
         obtain ⟨po,hpo⟩:∃bo,bo=plA (fun x y=>decide (x.time≤y.time)) x (prevA stms k):=⟨_,rfl⟩
         rw [←hpo] at f2 f3 f4
         clear hx hcl hF
         obtain ⟨xt,xw⟩:=x
         have HF1:=hI0 f1
         have HF2:=hI0 f2
         have HF3:=hI0 f3
         have HF4:=hI0 f4
         have HPO:=hI0 hpo
         have g0:wi.cell? ⟨b,off+k*2,none⟩=some (.int .i64 xt):=hcx 0 _ (by decide) rfl
         have g1:wi.cell? ⟨b,off+k*2+1,none⟩=some (.int .i64 xw):=hcx 1 _ (by decide) rfl
         obtain ⟨W1,hW1⟩:∃W1,W1=wi.alloc (.cells #[.int .i64 xt,.int .i64 xw] 180):=⟨_,rfl⟩
         have hb1:Below wi.heap.size wi W1:=by rw [hW1];exact Below.of_alloc _
         have hX1:W1.heap[wi.heap.size]? =some (.cells #[.int .i64 xt,.int .i64 xw] 180 (0,0)):=by rw [hW1];exact heap_alloc_new _ _
         have HX1:=hI0 hX1
         have HL1:Hid (wi.heap.size<W1.heap.size):=hI0 (by rw [hW1];simp)
         have HB1i:=hI0 hb1
         have HB1:Hid (Below w.heap.size w W1):=hI0 (HB.out.trans (hb1.mono HB.out.size))
         have HTB1:=hI0 ((hb1.block w.heap.size (Array.getElem?_eq_some_iff.1 HTB.out).1).trans HTB.out)
         clear hcx hb1 hX1 f1 f2 f3 f4 hpo
         go_upto_region 14 with (fail)
         rw [←hW1]
         clear hW1 g0 g1
         obtain ⟨y1,rfl⟩:∃y1:World,y1=W1:=⟨_,rfl⟩
         have HBI:=HB1i
         have HBY:=HB1
         have HTD:=HX1
         have HTB2:=HTB1
         have K5:=instant_any xt y1
         have K6:=within_any xw 0 xt y1
         obtain ⟨u1,hu1⟩:∃bo,bo=instB xt:=⟨_,rfl⟩
         obtain ⟨u2,hu2⟩:∃bo,bo=decide (0≤xw∧xw≤xt):=⟨_,rfl⟩
         rw [←hu1] at K5
         rw [←hu2] at K6
         have HOK:Hid (stmE ⟨xt,xw⟩=if (u1&&u2)=true then 0 else 6):=hI0 (by rw [hu1,hu2];rfl)
         clear hu1 hu2
         have g0:y1.cell? ⟨wi.heap.size,0,none⟩=some (.int .i64 xt):=cW0 y1 _ 0 _ _ _ HX1.out
         have g1:y1.cell? ⟨wi.heap.size,1,none⟩=some (.int .i64 xw):=cW0 y1 _ 1 _ _ _ HX1.out
         go_wp2_with fail
         (with_reducible refine K5.mono ?_)
         rintro _ z1 ⟨rfl,hz⟩
         rw [hz]
         clear hz z1 K5
         cases u1
         case false=>
          have HF:Hid (rs=6):=hI0 (if_ne0 HRS2.out ((HF1.out (by rw [HOK.out];simp)).trans HOK.out) (by decide))
          go_wp2_with fail
          go_ret
          exact ⟨by rw [HF.out];rfl,HBY.out⟩
         go_wp2_with fail
         (with_reducible refine K6.mono ?_)
         rintro _ z1 ⟨rfl,hz⟩
         rw [hz]
         clear hz z1 K6
         cases u2
         case false=>
          have HF:Hid (rs=6):=hI0 (if_ne0 HRS2.out ((HF1.out (by rw [HOK.out];simp)).trans HOK.out) (by decide))
          go_wp2_with fail
          go_ret
          exact ⟨by rw [HF.out];rfl,HBY.out⟩
         clear g0 g1
         have HBXL:Hid (w.heap.size<y1.heap.size):=hI0 (Array.getElem?_eq_some_iff.1 HTB2.out).1
         have HTL:Hid (wi.heap.size<y1.heap.size):=hI0 (Array.getElem?_eq_some_iff.1 HTD.out).1
         go_upto_region 16 with (fail)
         by_cases hk0:k=0
         case pos=>
          have HP:Hid (po=false):=hI0 (by rw [HPO.out,hk0];rfl)
          subst hk0
          have h00:¬(0:Int)<((0:Nat):Int):=by omega
          refine wp_region_noPanic ?_
          refine wp_region_held_drew (S:=(fun w'=>Below y1.heap.size y1 w')) (by kernel_rfl) ?_ (fun hHeld=>?_)
          ·exact (Below.refl _ _).drew
          refine hT 0 81 hHeld ?_
          simp only [aP]
          refine hT 1 82 hHeld ?_
          simp only [aP]
          refine hT 2 83 hHeld ?_
          simp only [aP]
          refine hK 3 84 hHeld ?_
          simp only [aP]
          refine hK 4 85 hHeld ?_
          simp only [aP]
          refine hK 5 86 hHeld ?_
          simp only [aP]
          refine hK 6 87 hHeld ?_
          simp only [aP]
          refine hK 7 88 hHeld ?_
          simp only [aP]
          refine hK 8 89 hHeld ?_
          simp only [aP]
          refine hK 9 90 hHeld ?_
          simp only [aP]
          refine hK 10 91 hHeld ?_
          simp only [aP]
          refine hK 11 92 hHeld ?_
          simp only [aP]
          refine hK 12 93 hHeld ?_
          simp only [aP]
          refine hT 13 94 hHeld ?_
          simp only [aP]
          refine wpAnyH_done (by kernel_rfl) ?_ _
          refine NoPanic.normal ?_
          clear hHeld h00
          have HN:=hI0 (HF4.out (by rw [HOK.out];rfl) HP.out (by first|rfl|trivial))
          go_wp2_with fail
          go_roundw
          case rel=>exact ⟨0+1,by go_num,by have:=HLK.out;omega,HN,hI0 HBY.out.drew,hI0 HTB2.out⟩
          case measure=>have:=HLK.out;simp [intOf];omega
         obtain ⟨m,rfl⟩:∃m,k=m+1:=⟨k-1,by omega⟩
         have hml:m<stms.length:=by omega
         obtain ⟨y,hy⟩:∃y,y=stms[m]:=⟨_,rfl⟩
         have hcy:=HCL.out m hml
         have hpo:=HPO.out
         rw [prevA_succ hml,←hy] at hpo
         rw [←hy] at hcy
         clear hy
         obtain ⟨yt,yw⟩:=y
         have HP2:Hid (po=decide (xt≤yt)):=hI0 hpo
         have p0:y1.cell? ⟨b,off+m*2,none⟩=some (.int .i64 yt):=(World.cell?_of_block (HBI.out.block b HBL0.out)).trans (hcy 0 _ (by decide) rfl)
         have HBL:Hid (b<y1.heap.size):=hI0 (Nat.lt_of_lt_of_le HBL0.out HBI.out.size)
         have hm63:m≤9223372036854775807:=by omega
         have hm64:(m:Int)≤9223372036854775807:=by omega
         have hm65: -9223372036854775808≤(m:Int):=by omega
         clear hcy hpo HPO
         by_cases hcmp:xt≤yt
         case pos=>
          have HPT:Hid (po=true):=hI0 (by rw [HP2.out];exact decide_eq_true hcmp)
          refine wp_region_noPanic ?_
          refine wp_region_held_drew (S:=(fun w'=>Below y1.heap.size y1 w')) (by kernel_rfl) ?_ (fun hHeld=>?_)
          ·exact (Below.refl _ _).drew
          refine hT 0 81 hHeld ?_
          simp only [aP]
          refine hU 1 82 (v:=?_) hHeld ?_ ?_
          rotate_left
          ·intro w' hSw;(try dsimp only at hSw);have hkp2:(0:Int)<(m:Int)+1:=(by omega);have hkn:0<m+1:=(by omega);go_simp<;>with_reducible rfl
          simp only [aP]
          refine hT 2 83 hHeld ?_
          simp only [aP]
          refine hT 3 84 hHeld ?_
          simp only [aP]
          refine hU 4 85 (v:=?_) hHeld ?_ ?_
          rotate_left
          ·intro w' hSw;(try dsimp only at hSw);have q:=(World.cell?_of_block (hSw.block _ HTL.out)).trans (cW0 y1 wi.heap.size 0 _ _ _ HTD.out);go_simp<;>with_reducible rfl
          simp only [aP]
          refine hT 5 86 hHeld ?_
          simp only [aP]
          refine hU 6 87 (v:=?_) hHeld ?_ ?_
          rotate_left
          ·intro w' hSw;(try dsimp only at hSw);have q:=(World.cell?_of_block (hSw.block _ HBXL.out)).trans (cW0 y1 w.heap.size 5 _ _ _ HTB2.out);go_simp<;>with_reducible rfl
          simp only [aP]
          refine hT 7 88 hHeld ?_
          simp only [aP]
          refine hU 8 89 (v:=?_) hHeld ?_ ?_
          rotate_left
          ·intro w' hSw;(try dsimp only at hSw);have e1:((m+1:Nat):Int)-1=(m:Int):=(by omega);have e2:IntKind.i64.wrap (m:Int)=(m:Int):=(by rw [Go.IntWalk.i64_left,Go.IntWalk.wrap64_in _ ⟨hm65,hm64⟩]);go_simp<;>(try rw [e2])<;>with_reducible rfl
          simp only [aP]
          refine hT 9 90 hHeld ?_
          simp only [aP]
          refine hT 10 91 hHeld ?_
          simp only [aP]
          refine hU 11 92 (v:=?_) hHeld ?_ ?_
          rotate_left
          ·intro w' hSw;(try dsimp only at hSw);have q:=(World.cell?_of_block (hSw.block _ HBL.out)).trans p0;go_simp<;>with_reducible rfl
          simp only [aP]
          refine hT 12 93 hHeld ?_
          simp only [aP]
          refine hT 13 94 hHeld ?_
          simp only [aP]
          refine wpAnyH_done (by kernel_rfl) ?_ _
          refine NoPanic.normal ?_
          clear hHeld p0
          have HF:Hid (rs=9):=hI0 (if_ne0 HRS2.out (HF2.out (by rw [HOK.out];rfl) HPT.out) (by decide))
          go_wp2_with fail
          go_ret
          exact ⟨by rw [HF.out];rfl,HBY.out.drew⟩
         have HP:Hid (po=false):=hI0 (by rw [HP2.out];exact decide_eq_false hcmp)
         refine wp_region_noPanic ?_
         refine wp_region_held_drew (S:=(fun w'=>Below y1.heap.size y1 w')) (by kernel_rfl) ?_ (fun hHeld=>?_)
         ·exact (Below.refl _ _).drew
         refine hT 0 81 hHeld ?_
         simp only [aP]
         refine hU 1 82 (v:=?_) hHeld ?_ ?_
         rotate_left
         ·intro w' hSw;(try dsimp only at hSw);have hkp2:(0:Int)<(m:Int)+1:=(by omega);have hkn:0<m+1:=(by omega);go_simp<;>with_reducible rfl
         simp only [aP]
         refine hT 2 83 hHeld ?_
         simp only [aP]
         refine hT 3 84 hHeld ?_
         simp only [aP]
         refine hU 4 85 (v:=?_) hHeld ?_ ?_
         rotate_left
         ·intro w' hSw;(try dsimp only at hSw);have q:=(World.cell?_of_block (hSw.block _ HTL.out)).trans (cW0 y1 wi.heap.size 0 _ _ _ HTD.out);go_simp<;>with_reducible rfl
         simp only [aP]
         refine hT 5 86 hHeld ?_
         simp only [aP]
         refine hU 6 87 (v:=?_) hHeld ?_ ?_
         rotate_left
         ·intro w' hSw;(try dsimp only at hSw);have q:=(World.cell?_of_block (hSw.block _ HBXL.out)).trans (cW0 y1 w.heap.size 5 _ _ _ HTB2.out);go_simp<;>with_reducible rfl
         simp only [aP]
         refine hT 7 88 hHeld ?_
         simp only [aP]
         refine hU 8 89 (v:=?_) hHeld ?_ ?_
         rotate_left
         ·intro w' hSw;(try dsimp only at hSw);have e1:((m+1:Nat):Int)-1=(m:Int):=(by omega);have e2:IntKind.i64.wrap (m:Int)=(m:Int):=(by rw [Go.IntWalk.i64_left,Go.IntWalk.wrap64_in _ ⟨hm65,hm64⟩]);go_simp<;>(try rw [e2])<;>with_reducible rfl
         simp only [aP]
         refine hT 9 90 hHeld ?_
         simp only [aP]
         refine hT 10 91 hHeld ?_
         simp only [aP]
         refine hU 11 92 (v:=?_) hHeld ?_ ?_
         rotate_left
         ·intro w' hSw;(try dsimp only at hSw);have q:=(World.cell?_of_block (hSw.block _ HBL.out)).trans p0;go_simp<;>with_reducible rfl
         simp only [aP]
         refine hT 12 93 hHeld ?_
         simp only [aP]
         refine hT 13 94 hHeld ?_
         simp only [aP]
         refine wpAnyH_done (by kernel_rfl) ?_ _
         refine NoPanic.normal ?_
         clear hHeld p0
         have HN:=hI0 (HF4.out (by rw [HOK.out];rfl) HP.out (by first|rfl|trivial))
         go_wp2_with fail
         go_roundw
         case rel=>exact ⟨m+1+1,by go_num,by have:=HLK.out;omega,HN,hI0 HBY.out.drew,hI0 HTB2.out⟩
         case measure=>have:=HLK.out;simp [intOf];omega
        case neg=>
         have hlt2:¬(k:Int)<(stms.length:Int):=by omega
         have hE0:E2=0:=by
          have h:=HG.out
          rw [ordF_end (by omega)] at h
          exact h.symm
         have HRS3:Hid (rs=if E3≠0 then E3 else r4):=hI0 (by rw [if_eq0 HRS2.out hE0,HR3.out])
         have c6:wi.cell? ⟨w.heap.size,6,none⟩=some (.slice tA tabs.length tC):=cW0 wi _ 6 _ _ _ HTB.out
         have HBx:=HB
         have HTx:=HTB
         go_wp2_with fail
         clear c6 hlt2 hlt hE0 HG HB HTB hk
         go_loopw [99] (fun i wr=>∃k:Nat,i=.int .i64 (k:Int)∧k≤tabs.length∧Hid (ordF tvE (fun x y=>bleS x.table y.table) (fun x=>chkFrom none (x.vers.map (·.2))) (prevA tabs k) (tabs.drop k)=E3)∧Hid (Below w.heap.size w wr)∧Hid (wr.heap[w.heap.size]? =some (.cells #[.int .i64 tx,.int .i64 tm,.int .i64 wa,.int .i64 nx,.slice eA ents.length eC,.slice sA stms.length sC,.slice tA tabs.length tC,.slice pA pla.length pC,.slice qA pol.length qC,.slice hA hor.length hC2] 47 (0,0)))) (fun i _=>tabs.length-(intOf i).toNat)
         case atStart=>exact ⟨0,rfl,Nat.zero_le _,hI0 HE3.out.symm,HBx,HTx⟩
         case round=>
          clear HBx HTx
          obtain ⟨k,rfl,hk,HG,HB,HTB⟩:=hrel
          obtain ⟨wi,rfl⟩:∃wi:World,wi=wr:=⟨_,rfl⟩
          by_cases hlt:k<tabs.length
          case pos=>
           have hlt2:(k:Int)<(tabs.length:Int):=by omega
           obtain ⟨b,off,rfl,hF,hcl⟩:=RdE.at_ (K:=2) (enc:=RTv.enc) (fun _=>rfl) (by omega) (HI.out.tabs.below HB.out) hlt
           have HCL:Hid (∀i (hi:i<tabs.length) j u,j<2→(RTv.enc tabs[i])[j]? =some u→wi.cell? ⟨b,off+i*2+j,none⟩=some u):=hI0 hcl
           have HBL0:Hid (b<wi.heap.size):=hI0 hF
           have HLK:=hI0 hlt
           obtain ⟨f1,f2,f3,f4⟩:=ordF_facts hlt HG.out
           have hxi:=HI.out.tabI _ (List.getElem_mem hlt)
           obtain ⟨x,hx⟩:∃x,x=tabs[k]'hlt:=⟨_,rfl⟩
           have hcx:∀j u,j<2→(RTv.enc x)[j]? =some u→wi.cell? ⟨b,off+k*2+j,none⟩=some u:=fun j u hj hu=>HCL.out k hlt j u hj (by subst hx;exact hu)
           rw [←hx] at f1 f2 f3 f4 hxi
           obtain ⟨po,hpo⟩:∃bo,bo=plA (fun x y=>bleS x.table y.table) x (prevA tabs k):=⟨_,rfl⟩
           rw [←hpo] at f2 f3 f4
           clear hx hcl hF
           have KN:=fun V=>word_any x.table V
           obtain ⟨vn,hvn⟩:∃bo,bo=nmB x.table:=⟨_,rfl⟩
           rw [←hvn] at KN
           have hok:tvE x=if vn=true then 0 else 8:=by rw [hvn];rfl
           rw [hok] at f1 f2 f3 f4
           have KVX:Hid (∀V,Below w.heap.size w V→Calls Tryz.prog 126 #[.slice x.A x.vers.length x.C] V fun e w'=>e=.returned (.int .i64 (chkFrom none (x.vers.map (·.2))))∧Below V.heap.size V w'):=hI0 (fun V hV=>checkVersions_any _ x.vers V (hxi.below hV))
           obtain ⟨de,hde⟩:∃d,d=chkFrom none (x.vers.map (·.2)):=⟨_,rfl⟩
           rw [←hde] at KVX f3 f4
           clear hvn hok hde hxi
           obtain ⟨dn,oA,oc,ops⟩:=x
           simp only at KN KVX
           have HF1:=hI0 f1
           have HF2:=hI0 f2
           have HF3:=hI0 f3
           have HF4:=hI0 f4
           have HPO:=hI0 hpo
           have g0:wi.cell? ⟨b,off+k*2,none⟩=some (.string dn):=hcx 0 _ (by decide) rfl
           have g1:wi.cell? ⟨b,off+k*2+1,none⟩=some (.slice oA ops.length oc):=hcx 1 _ (by decide) rfl
           obtain ⟨W1,hW1⟩:∃W1,W1=wi.alloc (.cells #[.string dn,.slice oA ops.length oc] 165):=⟨_,rfl⟩
           have hb1:Below wi.heap.size wi W1:=by rw [hW1];exact Below.of_alloc _
           have hX1:W1.heap[wi.heap.size]? =some (.cells #[.string dn,.slice oA ops.length oc] 165 (0,0)):=by rw [hW1];exact heap_alloc_new _ _
           have HX1:=hI0 hX1
           have HL1:Hid (wi.heap.size<W1.heap.size):=hI0 (by rw [hW1];simp)
           have HB1i:=hI0 hb1
           have HB1:Hid (Below w.heap.size w W1):=hI0 (HB.out.trans (hb1.mono HB.out.size))
           have HTB1:=hI0 ((hb1.block w.heap.size (Array.getElem?_eq_some_iff.1 HTB.out).1).trans HTB.out)
           clear hcx hb1 hX1 f1 f2 f3 f4 hpo
           go_upto_region 22 with (fail)
           rw [←hW1]
           clear hW1 g0 g1
           have g0:W1.cell? ⟨wi.heap.size,0,none⟩=some (.string dn):=cW0 W1 _ 0 _ _ _ HX1.out
           have KN:=KN W1
           go_wp2_with fail
           (with_reducible refine KN.mono ?_)
           rintro _ y1 ⟨rfl,hz⟩
           have HBI:Hid (Below wi.heap.size wi y1):=hI0 (HB1i.out.trans (hz.mono HB1i.out.size))
           have HBY:Hid (Below w.heap.size w y1):=hI0 (HB1.out.trans (hz.mono HB1.out.size))
           have HTD:=hI0 ((hz.block _ HL1.out).trans HX1.out)
           have HTB2:=hI0 ((hz.block w.heap.size (Array.getElem?_eq_some_iff.1 HTB1.out).1).trans HTB1.out)
           clear hz KN g0
           cases vn
           case false=>
            have HF:Hid (rs=8):=hI0 (if_ne0 HRS3.out (HF1.out (by decide)) (by decide))
            go_wp2_with fail
            go_ret
            exact ⟨by rw [HF.out];rfl,HBY.out⟩
           case true=>
            have HBXL:Hid (w.heap.size<y1.heap.size):=hI0 (Array.getElem?_eq_some_iff.1 HTB2.out).1
            have HTL:Hid (wi.heap.size<y1.heap.size):=hI0 (Array.getElem?_eq_some_iff.1 HTD.out).1
            go_upto_region 24 with (fail)
            by_cases hk0:k=0
            case pos=>
             have HP:Hid (po=false):=hI0 (by rw [HPO.out,hk0];rfl)
             subst hk0
             have h00:¬(0:Int)<((0:Nat):Int):=by omega
             refine wp_region_noPanic ?_
             refine wp_region_held_drew (S:=(fun w'=>Below y1.heap.size y1 w')) (by kernel_rfl) ?_ (fun hHeld=>?_)
             ·exact (Below.refl _ _).drew
             refine hT 0 108 hHeld ?_
             simp only [aP]
             refine hT 1 109 hHeld ?_
             simp only [aP]
             refine hT 2 110 hHeld ?_
             simp only [aP]
             refine hK 3 111 hHeld ?_
             simp only [aP]
             refine hK 4 112 hHeld ?_
             simp only [aP]
             refine hK 5 113 hHeld ?_
             simp only [aP]
             refine hK 6 114 hHeld ?_
             simp only [aP]
             refine hK 7 115 hHeld ?_
             simp only [aP]
             refine hK 8 116 hHeld ?_
             simp only [aP]
             refine hK 9 117 hHeld ?_
             simp only [aP]
             refine hK 10 118 hHeld ?_
             simp only [aP]
             refine hK 11 119 hHeld ?_
             simp only [aP]
             refine hK 12 120 hHeld ?_
             simp only [aP]
             refine hT 13 121 hHeld ?_
             simp only [aP]
             refine wpAnyH_done (by kernel_rfl) ?_ _
             refine NoPanic.normal ?_
             clear hHeld h00
             have KD:=KVX.out y1.drew HBY.out.drew
             have hTd:=HTD.out
             have p1:y1.drew.cell? ⟨wi.heap.size,1,none⟩=some (.slice oA ops.length oc):=cW0 y1.drew _ 1 _ _ _ hTd
             clear hTd
             go_wp2_with fail
             (with_reducible refine KD.mono ?_)
             rintro _ z1 ⟨rfl,hz⟩
             have hz2:Below y1.heap.size y1 z1:=Below.undrew hz
             have HBZ:Hid (Below w.heap.size w z1):=hI0 (HBY.out.trans (hz2.mono HBY.out.size))
             have HTZ:=hI0 ((hz2.block w.heap.size HBXL.out).trans HTB2.out)
             clear hz hz2 KD p1
             by_cases hde:de=0
             case neg=>
              have HF:Hid (rs=de):=hI0 (if_ne0 HRS3.out (HF3.out rfl HP.out hde) hde)
              go_wp2_with fail
              go_ret
              exact ⟨by rw [HF.out];rfl,HBZ.out⟩
             have HN:=hI0 (HF4.out rfl HP.out hde)
             subst hde
             go_wp2_with fail
             go_roundw
             case rel=>exact ⟨0+1,by go_num,by have:=HLK.out;omega,HN,HBZ,HTZ⟩
             case measure=>have:=HLK.out;simp [intOf];omega
            case neg=>
             obtain ⟨m,rfl⟩:∃m,k=m+1:=⟨k-1,by omega⟩
             have hml:m<tabs.length:=by omega
             obtain ⟨y,hy⟩:∃y,y=tabs[m]:=⟨_,rfl⟩
             have hcy:=HCL.out m hml
             have hpo:=HPO.out
             rw [prevA_succ hml,←hy] at hpo
             rw [←hy] at hcy
             clear hy
             obtain ⟨yn,yA,yc,yo⟩:=y
             have HP2:Hid (po=bleS dn yn):=hI0 hpo
             have p0:y1.cell? ⟨b,off+m*2,none⟩=some (.string yn):=(World.cell?_of_block (HBI.out.block b HBL0.out)).trans (hcy 0 _ (by decide) rfl)
             have HBL:Hid (b<y1.heap.size):=hI0 (Nat.lt_of_lt_of_le HBL0.out HBI.out.size)
             have hm63:m≤9223372036854775807:=by omega
             have hm64:(m:Int)≤9223372036854775807:=by omega
             have hm65: -9223372036854775808≤(m:Int):=by omega
             clear hcy hpo HPO
             rcases hlt1:Go.Op.bytesLess dn.toList yn.toList with _|_<;>rcases heq1:(dn.toList==yn.toList) with _|_
             all_goals
              have HLE:Hid (bleS dn yn=(Go.Op.bytesLess dn.toList yn.toList||(dn.toList==yn.toList))):=hI0 rfl
              rw [hlt1,heq1] at HLE
              refine wp_region_noPanic ?_
              refine wp_region_held_drew (S:=(fun w'=>Below y1.heap.size y1 w')) (by kernel_rfl) ?_ (fun hHeld=>?_)
              ·exact (Below.refl _ _).drew
              refine hT 0 108 hHeld ?_
              simp only [aP]
              refine hU 1 109 (v:=?_) hHeld ?_ ?_
              rotate_left
              ·intro w' hSw;(try dsimp only at hSw);have hkp2:(0:Int)<(m:Int)+1:=(by omega);have hkn:0<m+1:=(by omega);go_simp<;>with_reducible rfl
              simp only [aP]
              refine hT 2 110 hHeld ?_
              simp only [aP]
              refine hT 3 111 hHeld ?_
              simp only [aP]
              refine hU 4 112 (v:=?_) hHeld ?_ ?_
              rotate_left
              ·intro w' hSw;(try dsimp only at hSw);have q:=(World.cell?_of_block (hSw.block _ HTL.out)).trans (cW0 y1 wi.heap.size 0 _ _ _ HTD.out);go_simp<;>with_reducible rfl
              simp only [aP]
              refine hT 5 113 hHeld ?_
              simp only [aP]
              refine hU 6 114 (v:=?_) hHeld ?_ ?_
              rotate_left
              ·intro w' hSw;(try dsimp only at hSw);have q:=(World.cell?_of_block (hSw.block _ HBXL.out)).trans (cW0 y1 w.heap.size 6 _ _ _ HTB2.out);go_simp<;>with_reducible rfl
              simp only [aP]
              refine hT 7 115 hHeld ?_
              simp only [aP]
              refine hU 8 116 (v:=?_) hHeld ?_ ?_
              rotate_left
              ·intro w' hSw;(try dsimp only at hSw);have e1:((m+1:Nat):Int)-1=(m:Int):=(by omega);have e2:IntKind.i64.wrap (m:Int)=(m:Int):=(by rw [Go.IntWalk.i64_left,Go.IntWalk.wrap64_in _ ⟨hm65,hm64⟩]);go_simp<;>(try rw [e2])<;>with_reducible rfl
              simp only [aP]
              refine hT 9 117 hHeld ?_
              simp only [aP]
              refine hT 10 118 hHeld ?_
              simp only [aP]
              refine hU 11 119 (v:=?_) hHeld ?_ ?_
              rotate_left
              ·intro w' hSw;(try dsimp only at hSw);have q:=(World.cell?_of_block (hSw.block _ HBL.out)).trans p0;go_simp<;>with_reducible rfl
              simp only [aP]
              refine hT 12 120 hHeld ?_
              simp only [aP]
              refine hT 13 121 hHeld ?_
              simp only [aP]
              refine wpAnyH_done (by kernel_rfl) ?_ _
              refine NoPanic.normal ?_
              clear hHeld p0
             case false.false=>
              have HP:Hid (po=false):=hI0 (by rw [HP2.out];exact HLE.out)
              have KD:=KVX.out y1.drew HBY.out.drew
              have hTd:=HTD.out
              have p1:y1.drew.cell? ⟨wi.heap.size,1,none⟩=some (.slice oA ops.length oc):=cW0 y1.drew _ 1 _ _ _ hTd
              clear hTd
              go_wp2_with fail
              (with_reducible refine KD.mono ?_)
              rintro _ z1 ⟨rfl,hz⟩
              have hz2:Below y1.heap.size y1 z1:=Below.undrew hz
              have HBZ:Hid (Below w.heap.size w z1):=hI0 (HBY.out.trans (hz2.mono HBY.out.size))
              have HTZ:=hI0 ((hz2.block w.heap.size HBXL.out).trans HTB2.out)
              clear hz hz2 KD p1
              by_cases hde:de=0
              case neg=>
               have HF:Hid (rs=de):=hI0 (if_ne0 HRS3.out (HF3.out rfl HP.out hde) hde)
               go_wp2_with fail
               go_ret
               exact ⟨by rw [HF.out];rfl,HBZ.out⟩
              have HN:=hI0 (HF4.out rfl HP.out hde)
              subst hde
              go_wp2_with fail
              go_roundw
              case rel=>exact ⟨m+1+1,by go_num,by have:=HLK.out;omega,HN,HBZ,HTZ⟩
              case measure=>have:=HLK.out;simp [intOf];omega
             all_goals
              have HPT:Hid (po=true):=hI0 (by rw [HP2.out];exact HLE.out)
              have HF:Hid (rs=9):=hI0 (if_ne0 HRS3.out (HF2.out rfl HPT.out) (by decide))
              go_wp2_with fail
              go_ret
              exact ⟨by rw [HF.out];rfl,HBY.out.drew⟩
          have hlt2:¬(k:Int)<(tabs.length:Int):=by omega
          have hE0:E3=0:=by
           have h:=HG.out
           rw [ordF_end (by omega)] at h
           exact h.symm
          have KH:=checkHolds_any _ pla wi (HI.out.pla.below HB.out)
          have KR:=fun V (h:Below w.heap.size w V)=>checkRest_any _ _ pol hor V (HI.out.pol.below h) (HI.out.hor.below h)
          obtain ⟨h1,hh1⟩:∃r,r=holdsF pla:=⟨_,rfl⟩
          rw [←hh1] at KH
          have HR5:Hid (rs=if h1≠0 then h1 else restF pol hor):=hI0 (by rw [if_eq0 HRS3.out hE0,HR4.out,←hh1])
          clear hh1
          have c7:wi.cell? ⟨w.heap.size,7,none⟩=some (.slice pA pla.length pC):=cW0 wi _ 7 _ _ _ HTB.out
          go_wp2_with fail
          (with_reducible refine KH.mono ?_)
          rintro _ y1 ⟨rfl,hz⟩
          have HB1:Hid (Below w.heap.size w y1):=hI0 (HB.out.trans (hz.mono HB.out.size))
          have HTB1:=hI0 ((hz.block w.heap.size (Array.getElem?_eq_some_iff.1 HTB.out).1).trans HTB.out)
          clear hz KH c7 hlt2
          by_cases e1:h1=0
          case neg=>
           have HF:Hid (rs=h1):=hI0 (by rw [HR5.out,if_pos e1])
           go_wp2_with fail
           go_ret
           exact ⟨by rw [HF.out];rfl,HB1.out⟩
          have HR6:Hid (rs=restF pol hor):=hI0 (by rw [HR5.out,if_neg (by simpa using e1)])
          subst e1
          have c8:y1.cell? ⟨w.heap.size,8,none⟩=some (.slice qA pol.length qC):=cW0 y1 _ 8 _ _ _ HTB1.out
          have c9:y1.cell? ⟨w.heap.size,9,none⟩=some (.slice hA hor.length hC2):=cW0 y1 _ 9 _ _ _ HTB1.out
          have KR:=KR y1 HB1.out
          go_wp2_with fail
          (with_reducible refine KR.mono ?_)
          rintro _ y3 ⟨rfl,hz⟩
          have HB3:Hid (Below w.heap.size w y3):=hI0 (HB1.out.trans (hz.mono HB1.out.size))
          clear hz KR c8 c9
          go_wp2_with fail
          go_ret
          exact ⟨by rw [HR6.out];rfl,HB3.out⟩
end Go.Proofs.YtbfdegkickjbpaaGreat
