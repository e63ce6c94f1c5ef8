/-
 RkF
-/
import Derived.Test.YtbfdegkickjbpaaGreatGRkD
namespace Go.Proofs.YtbfdegkickjbpaaGreat
set_option maxRecDepth 1000000
set_option maxHeartbeats 32000000
open Go.RowKit Go.Lib Go.IntWalk Go.Sort Go.Shelf
theorem knum_any (n:Int) (w:World):Calls Tryz.prog 39 #[.int .i64 n] w fun e w'=>e=.returned (.bool (decide (0≤n∧n≤1125899906842624)))∧w'=w:=by
 go_enter Tryz.func39,Tryz.ntmps39
 go_wp2
 all_goals
  go_ret
  refine ⟨ret_bool (by first|(symm;rw [decide_eq_false_iff_not];omega)|(symm;rw [decide_eq_true_eq];omega)|(rw [Bool.eq_iff_iff];simp;omega)),rfl⟩
theorem kcheck_any (c:RCm) (w:World) (hc:c.is w (·<w.heap.size)) (hlm:c.lim w):Calls Tryz.prog 12 #[.agg c.enc.toArray] w fun e w'=>e=.returned (.int .i64 (checkF c))∧Below w.heap.size w w':=by
 have HI0:=hI0 hc
 have HL0:=hI0 hlm
 obtain ⟨C,hC⟩:∃C,C=c:=⟨_,rfl⟩
 obtain ⟨rs,hrs⟩:∃r,r=checkF c:=⟨_,rfl⟩
 rw [←hrs]
 unfold checkF at hrs
 rw [←hC] at hrs
 obtain ⟨tx,tm,wa,fi,eA,eC,ents,dA,dC,dels,pA,pC,pla,rA,rC,rel,qA,qC,pol,hA,hC2,hor⟩:=c
 have HI:Hid (RCm.is w (·<w.heap.size) ⟨tx,tm,wa,fi,eA,eC,ents,dA,dC,dels,pA,pC,pla,rA,rC,rel,qA,qC,pol,hA,hC2,hor⟩):=HI0
 have HLM:Hid (RCm.lim w ⟨tx,tm,wa,fi,eA,eC,ents,dA,dC,dels,pA,pC,pla,rA,rC,rel,qA,qC,pol,hA,hC2,hor⟩):=HL0
 have HRC:Hid (restC C=if holdsF pla≠0 then holdsF pla else if namedF id nmB none rel≠0 then namedF id nmB none rel else restF pol hor):=hI0 (by rw [hC];rfl)
 obtain ⟨a1,a2⟩:=hc.ents.bd
 obtain ⟨b1,b2⟩:=hc.dels.bd
 obtain ⟨d1,d2⟩:=hc.rel.bd
 simp only at a1 a2 b1 b2 d1 d2
 obtain ⟨ob,hob⟩:∃o,o=(decide (1≤tx∧tx≤1125899906842624)&&(decide (1≤fi∧fi≤1125899906842624)&&(decide (1≤tm∧tm≤1099511627775)&&decide (0≤wa∧wa≤tm)))):=⟨_,rfl⟩
 have HR0:Hid (rs=if ob=false then 6 else if ents.all (enOk tm)=false then 8 else if deltasF fi none dels≠0 then deltasF fi none dels else restC C):=hI0 (by rw [hrs,hC,hob])
 have HRX:Hid (ob=(decide (1≤tx)&&(decide (0≤tx∧tx≤1125899906842624)&&(decide (1≤fi)&&(decide (0≤fi∧fi≤1125899906842624)&&(decide (1≤tm)&&(instB tm&&decide (0≤wa∧wa≤tm)))))))):=hI0 (by rw [hob];unfold instB;rw [Bool.eq_iff_iff];simp only [Bool.and_eq_true,decide_eq_true_eq];omega)
 show Calls Tryz.prog 12 #[.agg #[.int .i64 tx,.int .i64 tm,.int .i64 wa,.int .i64 fi,.slice eA ents.length eC,.slice dA dels.length dC,.slice pA pla.length pC,.slice rA rel.length rC,.slice qA pol.length qC,.slice hA hor.length hC2]] w _
 clear hrs hc hlm HI0 HL0 hC hob
 obtain ⟨W,hW⟩:∃W,W=w.alloc (.cells #[.int .i64 tx,.int .i64 tm,.int .i64 wa,.int .i64 fi,.slice eA ents.length eC,.slice dA dels.length dC,.slice pA pla.length pC,.slice rA rel.length rC,.slice qA pol.length qC,.slice hA hor.length hC2] 29):=⟨_,rfl⟩
 have HBW:Hid (Below w.heap.size w W):=hI0 (by rw [hW];exact Below.of_alloc _)
 have HT:Hid (W.heap[w.heap.size]? =some (.cells #[.int .i64 tx,.int .i64 tm,.int .i64 wa,.int .i64 fi,.slice eA ents.length eC,.slice dA dels.length dC,.slice pA pla.length pC,.slice rA rel.length rC,.slice qA pol.length qC,.slice hA hor.length hC2] 29 (0,0))):=hI0 (by rw [hW];exact heap_alloc_new _ _)
 have HWS:Hid (w.heap.size<W.heap.size):=hI0 (by rw [hW];simp)
 have HW:=hI0 hW
 clear hW
 have c0:W.cell? ⟨w.heap.size,0,none⟩=some (.int .i64 tx):=cW0 W _ 0 _ _ _ HT.out
 have c1:W.cell? ⟨w.heap.size,1,none⟩=some (.int .i64 tm):=cW0 W _ 1 _ _ _ HT.out
 have c2:W.cell? ⟨w.heap.size,2,none⟩=some (.int .i64 wa):=cW0 W _ 2 _ _ _ HT.out
 have c3:W.cell? ⟨w.heap.size,3,none⟩=some (.int .i64 fi):=cW0 W _ 3 _ _ _ HT.out
 have c4:W.cell? ⟨w.heap.size,4,none⟩=some (.slice eA ents.length eC):=cW0 W _ 4 _ _ _ HT.out
 have c5:W.cell? ⟨w.heap.size,5,none⟩=some (.slice dA dels.length dC):=cW0 W _ 5 _ _ _ HT.out
 have c6:W.cell? ⟨w.heap.size,6,none⟩=some (.slice pA pla.length pC):=cW0 W _ 6 _ _ _ HT.out
 have c7:W.cell? ⟨w.heap.size,7,none⟩=some (.slice rA rel.length rC):=cW0 W _ 7 _ _ _ HT.out
 have c8:W.cell? ⟨w.heap.size,8,none⟩=some (.slice qA pol.length qC):=cW0 W _ 8 _ _ _ HT.out
 have c9:W.cell? ⟨w.heap.size,9,none⟩=some (.slice hA hor.length hC2):=cW0 W _ 9 _ _ _ HT.out
 obtain ⟨v1,hv1⟩:∃bo,bo=decide (0≤tx∧tx≤1125899906842624):=⟨_,rfl⟩
 have K1:=fun (V:World) (hV:Below w.heap.size w V)=>knum_any tx V
 rw [←hv1] at K1 HRX
 clear hv1
 obtain ⟨v2,hv2⟩:∃bo,bo=decide (0≤fi∧fi≤1125899906842624):=⟨_,rfl⟩
 have K2:=fun (V:World) (hV:Below w.heap.size w V)=>knum_any fi V
 rw [←hv2] at K2 HRX
 clear hv2
 obtain ⟨v3,hv3⟩:∃bo,bo=instB tm:=⟨_,rfl⟩
 have K3:=fun (V:World) (hV:Below w.heap.size w V)=>kinst_any tm V
 rw [←hv3] at K3 HRX
 clear hv3
 by_cases t1_0:tx<1
 case pos=>
  have g1:decide (1≤tx)=false:=decide_eq_false (by omega)
  have HF:Hid (ob=false):=hI0 (by rw [HRX.out,g1]<;>simp)
  have HFO:Hid (rs=6):=hI0 (by rw [HR0.out];exact if_pos HF.out)
  go_enter Tryz.func12,Tryz.ntmps12
  go_wp2_with fail
  try rw [←HW.out]
  go_ret
  exact ⟨by rw [HFO.out]<;>first|rfl|(simp;done),HBW.out⟩
 case neg=>
  have g1:decide (1≤tx)=true:=decide_eq_true (by omega)
  have G1:=hI0 g1
  clear g1
  have KK2:=K1 W HBW.out
  go_enter Tryz.func12,Tryz.ntmps12
  go_wp2_with fail
  try rw [←HW.out]
  (with_reducible refine KK2.mono ?_)
  rintro _ z2 ⟨rfl,hz2⟩
  clear KK2
  rw [hz2]
  clear hz2 z2
  cases v1
  case false=>
   have HF:Hid (ob=false):=hI0 (by rw [HRX.out]<;>simp)
   have HFO:Hid (rs=6):=hI0 (by rw [HR0.out];exact if_pos HF.out)
   go_wp2_with fail
   go_ret
   exact ⟨by rw [HFO.out]<;>first|rfl|(simp;done),HBW.out⟩
  case true=>
   by_cases t3_0:fi<1
   case pos=>
    have g3:decide (1≤fi)=false:=decide_eq_false (by omega)
    have HF:Hid (ob=false):=hI0 (by rw [HRX.out,g3]<;>simp)
    have HFO:Hid (rs=6):=hI0 (by rw [HR0.out];exact if_pos HF.out)
    go_wp2_with fail
    go_ret
    exact ⟨by rw [HFO.out]<;>first|rfl|(simp;done),HBW.out⟩
   case neg=>
    have g3:decide (1≤fi)=true:=decide_eq_true (by omega)
    have G3:=hI0 g3
    clear g3
    have KK4:=K2 W HBW.out
    go_wp2_with fail
    (with_reducible refine KK4.mono ?_)
    rintro _ z4 ⟨rfl,hz4⟩
    clear KK4
    rw [hz4]
    clear hz4 z4
    cases v2
    case false=>
     have HF:Hid (ob=false):=hI0 (by rw [HRX.out]<;>simp)
     have HFO:Hid (rs=6):=hI0 (by rw [HR0.out];exact if_pos HF.out)
     go_wp2_with fail
     go_ret
     exact ⟨by rw [HFO.out]<;>first|rfl|(simp;done),HBW.out⟩
    case true=>
     by_cases t5_0:tm<1
     case pos=>
      have g5:decide (1≤tm)=false:=decide_eq_false (by omega)
      have HF:Hid (ob=false):=hI0 (by rw [HRX.out,g5]<;>simp)
      have HFO:Hid (rs=6):=hI0 (by rw [HR0.out];exact if_pos HF.out)
      go_wp2_with fail
      go_ret
      exact ⟨by rw [HFO.out]<;>first|rfl|(simp;done),HBW.out⟩
     case neg=>
      have g5:decide (1≤tm)=true:=decide_eq_true (by omega)
      have G5:=hI0 g5
      clear g5
      have KK6:=K3 W HBW.out
      go_wp2_with fail
      (with_reducible refine KK6.mono ?_)
      rintro _ z6 ⟨rfl,hz6⟩
      clear KK6
      rw [hz6]
      clear hz6 z6
      cases v3
      case false=>
       have HF:Hid (ob=false):=hI0 (by rw [HRX.out]<;>simp)
       have HFO:Hid (rs=6):=hI0 (by rw [HR0.out];exact if_pos HF.out)
       go_wp2_with fail
       go_ret
       exact ⟨by rw [HFO.out]<;>first|rfl|(simp;done),HBW.out⟩
      case true=>
       by_cases t7_0:wa<0
       case pos=>
        have g7:decide (0≤wa∧wa≤tm)=false:=decide_eq_false (by omega)
        have HF:Hid (ob=false):=hI0 (by rw [HRX.out,g7]<;>simp)
        have HFO:Hid (rs=6):=hI0 (by rw [HR0.out];exact if_pos HF.out)
        go_wp2_with fail
        go_ret
        exact ⟨by rw [HFO.out]<;>first|rfl|(simp;done),HBW.out⟩
       case neg=>
        by_cases t7_1:tm<wa
        case pos=>
         have g7:decide (0≤wa∧wa≤tm)=false:=decide_eq_false (by omega)
         have HF:Hid (ob=false):=hI0 (by rw [HRX.out,g7]<;>simp)
         have HFO:Hid (rs=6):=hI0 (by rw [HR0.out];exact if_pos HF.out)
         go_wp2_with fail
         go_ret
         exact ⟨by rw [HFO.out]<;>first|rfl|(simp;done),HBW.out⟩
        case neg=>
         have g7:decide (0≤wa∧wa≤tm)=true:=decide_eq_true (by omega)
         have G7:=hI0 g7
         clear g7
         have HOB:Hid (ob=true):=hI0 (by rw [HRX.out,G1.out,G3.out,G5.out,G7.out];first|rfl|(simp;done))
         have HR1:Hid (rs=if ents.all (enOk tm)=false then 8 else if deltasF fi none dels≠0 then deltasF fi none dels else restC C):=hI0 (by rw [HR0.out];exact if_neg (by rw [HOB.out];simp))
         go_wp2_with fail
         clear c0 c1 c2 c3 c4 c5 c6 c7 c8 c9
         go_loopw [55] (fun i wr=>∃j:Nat,i=.int .i64 (j:Int)∧j≤ents.length∧Hid ((ents.take j).all (enOk tm)=true)∧Hid (Below w.heap.size w wr)∧Hid (wr.heap[w.heap.size]? =some (.cells #[.int .i64 tx,.int .i64 tm,.int .i64 wa,.int .i64 fi,.slice eA ents.length eC,.slice dA dels.length dC,.slice pA pla.length pC,.slice rA rel.length rC,.slice qA pol.length qC,.slice hA hor.length hC2] 29 (0,0)))) (fun i _=>ents.length-(intOf i).toNat)
         case atStart=>exact ⟨0,rfl,Nat.zero_le _,hI0 rfl,HBW,HT⟩
         case round=>
          obtain ⟨j,rfl,hj,HG,HB8,HTB8⟩:=hrel
          obtain ⟨wi8,rfl⟩:∃wi:World,wi=wr:=⟨_,rfl⟩
          have HL8:Hid (w.heap.size<wi8.heap.size):=hI0 (Array.getElem?_eq_some_iff.1 HTB8.out).1
          by_cases hltj:j<ents.length
          case pos=>
           have hlt3:(j:Int)<(ents.length:Int):=by omega
           obtain ⟨b,off,rfl,hF,hcl⟩:=RdE.at_ (K:=16) (enc:=REn.enc) (fun _=>rfl) (by omega) (HI.out.ents.below HB8.out) hltj
           have hcx:=hcl j hltj
           have hs:=fun h=>allP_snoc' (p:=(enOk tm)) hltj HG.out h
           have hno:=allP_no (p:=(enOk tm)) hltj
           have hmem:=List.getElem_mem hltj
           obtain ⟨x,hx⟩:∃x,x=ents[j]:=⟨_,rfl⟩
           rw [←hx] at hcx hno hmem
           have hs2:(enOk tm) x=true→(ents.take (j+1)).all (enOk tm)=true:=fun h=>hs (by rw [←hx];exact h)
           clear hs hx hcl hF
           obtain ⟨tm2,tb,⟨nm,colA,colC,cols,keyA,keyC,key,forA,forC,fors,chkA,chkC,chks⟩,⟨x1,x2,x3,x4,x5,x6,⟨x7,x8,x9⟩⟩⟩:=x
           have g0:wi8.cell? ⟨b,off+j*16,none⟩=some (.int .i64 tm2):=hcx 0 _ (by decide) rfl
           have g1:wi8.cell? ⟨b,off+j*16+1,none⟩=some (.string tb):=hcx 1 _ (by decide) rfl
           have g2:wi8.cell? ⟨b,off+j*16+2,none⟩=some (.string nm):=hcx 2 _ (by decide) rfl
           have g3:wi8.cell? ⟨b,off+j*16+3,none⟩=some (.slice colA cols.length colC):=hcx 3 _ (by decide) rfl
           have g4:wi8.cell? ⟨b,off+j*16+4,none⟩=some (.slice keyA key.length keyC):=hcx 4 _ (by decide) rfl
           have g5:wi8.cell? ⟨b,off+j*16+5,none⟩=some (.slice forA fors.length forC):=hcx 5 _ (by decide) rfl
           have g6:wi8.cell? ⟨b,off+j*16+6,none⟩=some (.slice chkA chks.length chkC):=hcx 6 _ (by decide) rfl
           have g7:wi8.cell? ⟨b,off+j*16+7,none⟩=some (.int .i64 x1):=hcx 7 _ (by decide) rfl
           have g8:wi8.cell? ⟨b,off+j*16+8,none⟩=some (.string x2):=hcx 8 _ (by decide) rfl
           have g9:wi8.cell? ⟨b,off+j*16+9,none⟩=some (.string x3):=hcx 9 _ (by decide) rfl
           have g10:wi8.cell? ⟨b,off+j*16+10,none⟩=some (.string x4):=hcx 10 _ (by decide) rfl
           have g11:wi8.cell? ⟨b,off+j*16+11,none⟩=some (.int .i64 x5):=hcx 11 _ (by decide) rfl
           have g12:wi8.cell? ⟨b,off+j*16+12,none⟩=some (.bool x6):=hcx 12 _ (by decide) rfl
           have g13:wi8.cell? ⟨b,off+j*16+13,none⟩=some (.int .i64 x7):=hcx 13 _ (by decide) rfl
           have g14:wi8.cell? ⟨b,off+j*16+14,none⟩=some (.int .i64 x8):=hcx 14 _ (by decide) rfl
           have g15:wi8.cell? ⟨b,off+j*16+15,none⟩=some (.string x9):=hcx 15 _ (by decide) rfl
           have hxi:=HI.out.entI _ hmem
           have hxs:=HLM.out.entS _ hmem
           obtain ⟨ox,hox⟩:∃bo,bo=(enOk tm) ⟨tm2,tb,⟨nm,colA,colC,cols,keyA,keyC,key,forA,forC,fors,chkA,chkC,chks⟩,⟨x1,x2,x3,x4,x5,x6,⟨x7,x8,x9⟩⟩⟩:=⟨_,rfl⟩
           rw [←hox] at hno hs2
           have HRX:Hid (ox=(REn.ok ⟨tm2,tb,⟨nm,colA,colC,cols,keyA,keyC,key,forA,forC,fors,chkA,chkC,chks⟩,⟨x1,x2,x3,x4,x5,x6,⟨x7,x8,x9⟩⟩⟩&&decide (tm2=tm))):=hI0 hox
           have HS:=hI0 hs2
           have HNO:=hI0 hno
           clear hs2 hno hox hcx
           obtain ⟨W1,hW1⟩:∃W1,W1=wi8.alloc (.cells #[.int .i64 tm2,.string tb,.string nm,.slice colA cols.length colC,.slice keyA key.length keyC,.slice forA fors.length forC,.slice chkA chks.length chkC,.int .i64 x1,.string x2,.string x3,.string x4,.int .i64 x5,.bool x6,.int .i64 x7,.int .i64 x8,.string x9] 83):=⟨_,rfl⟩
           have hb1:Below wi8.heap.size wi8 W1:=by rw [hW1];exact Below.of_alloc _
           have HX1:Hid (W1.heap[wi8.heap.size]? =some (.cells #[.int .i64 tm2,.string tb,.string nm,.slice colA cols.length colC,.slice keyA key.length keyC,.slice forA fors.length forC,.slice chkA chks.length chkC,.int .i64 x1,.string x2,.string x3,.string x4,.int .i64 x5,.bool x6,.int .i64 x7,.int .i64 x8,.string x9] 83 (0,0))):=hI0 (by rw [hW1];exact heap_alloc_new _ _)
           have HLX:Hid (wi8.heap.size<W1.heap.size):=hI0 (by rw [hW1];simp)
           have HBX:Hid (Below w.heap.size w W1):=hI0 (HB8.out.trans (hb1.mono HB8.out.size))
           have HTB0:=hI0 ((hb1.block w.heap.size (Array.getElem?_eq_some_iff.1 HTB8.out).1).trans HTB8.out)
           have HW1:=hI0 hW1
           clear hb1 hW1
           obtain ⟨v,hv⟩:∃bo,bo=REn.ok ⟨tm2,tb,⟨nm,colA,colC,cols,keyA,keyC,key,forA,forC,fors,chkA,chkC,chks⟩,⟨x1,x2,x3,x4,x5,x6,⟨x7,x8,x9⟩⟩⟩:=⟨_,rfl⟩
           have K1:=fun (V:World) (hV:Below w.heap.size w V)=>(show Calls Tryz.prog 41 #[.agg #[.int .i64 tm2,.string tb,.string nm,.slice colA cols.length colC,.slice keyA key.length keyC,.slice forA fors.length forC,.slice chkA chks.length chkC,.int .i64 x1,.string x2,.string x3,.string x4,.int .i64 x5,.bool x6,.int .i64 x7,.int .i64 x8,.string x9]] V fun e w'=>e=.returned (.bool (REn.ok ⟨tm2,tb,⟨nm,colA,colC,cols,keyA,keyC,key,forA,forC,fors,chkA,chkC,chks⟩,⟨x1,x2,x3,x4,x5,x6,⟨x7,x8,x9⟩⟩⟩))∧Below V.heap.size V w' from kentry_any ⟨tm2,tb,⟨nm,colA,colC,cols,keyA,keyC,key,forA,forC,fors,chkA,chkC,chks⟩,⟨x1,x2,x3,x4,x5,x6,⟨x7,x8,x9⟩⟩⟩ V (hxi.below hV).create hxi.few hxi.text hxs)
           rw [←hv] at K1 HRX
           clear hv
           clear hmem
           have q0:W1.cell? ⟨wi8.heap.size,0,none⟩=some (.int .i64 tm2):=cW0 W1 _ 0 _ _ _ HX1.out
           have q1:W1.cell? ⟨wi8.heap.size,1,none⟩=some (.string tb):=cW0 W1 _ 1 _ _ _ HX1.out
           have q2:W1.cell? ⟨wi8.heap.size,2,none⟩=some (.string nm):=cW0 W1 _ 2 _ _ _ HX1.out
           have q3:W1.cell? ⟨wi8.heap.size,3,none⟩=some (.slice colA cols.length colC):=cW0 W1 _ 3 _ _ _ HX1.out
           have q4:W1.cell? ⟨wi8.heap.size,4,none⟩=some (.slice keyA key.length keyC):=cW0 W1 _ 4 _ _ _ HX1.out
           have q5:W1.cell? ⟨wi8.heap.size,5,none⟩=some (.slice forA fors.length forC):=cW0 W1 _ 5 _ _ _ HX1.out
           have q6:W1.cell? ⟨wi8.heap.size,6,none⟩=some (.slice chkA chks.length chkC):=cW0 W1 _ 6 _ _ _ HX1.out
           have q7:W1.cell? ⟨wi8.heap.size,7,none⟩=some (.int .i64 x1):=cW0 W1 _ 7 _ _ _ HX1.out
           have q8:W1.cell? ⟨wi8.heap.size,8,none⟩=some (.string x2):=cW0 W1 _ 8 _ _ _ HX1.out
           have q9:W1.cell? ⟨wi8.heap.size,9,none⟩=some (.string x3):=cW0 W1 _ 9 _ _ _ HX1.out
           have q10:W1.cell? ⟨wi8.heap.size,10,none⟩=some (.string x4):=cW0 W1 _ 10 _ _ _ HX1.out
           have q11:W1.cell? ⟨wi8.heap.size,11,none⟩=some (.int .i64 x5):=cW0 W1 _ 11 _ _ _ HX1.out
           have q12:W1.cell? ⟨wi8.heap.size,12,none⟩=some (.bool x6):=cW0 W1 _ 12 _ _ _ HX1.out
           have q13:W1.cell? ⟨wi8.heap.size,13,none⟩=some (.int .i64 x7):=cW0 W1 _ 13 _ _ _ HX1.out
           have q14:W1.cell? ⟨wi8.heap.size,14,none⟩=some (.int .i64 x8):=cW0 W1 _ 14 _ _ _ HX1.out
           have q15:W1.cell? ⟨wi8.heap.size,15,none⟩=some (.string x9):=cW0 W1 _ 15 _ _ _ HX1.out
           have KK9:=K1 W1 HBX.out
           go_wp2_with fail
           try rw [←HW1.out]
           clear g0 g1 g2 g3 g4 g5 g6 g7 g8 g9 g10 g11 g12 g13 g14 g15
           (with_reducible refine KK9.mono ?_)
           rintro _ z9 ⟨rfl,hz9⟩
           clear KK9
           have HB10:Hid (Below w.heap.size w z9):=hI0 (HBX.out.trans (hz9.mono HBX.out.size))
           have HT10:=hI0 ((hz9.block wi8.heap.size HLX.out).trans HX1.out)
           have HL10:Hid (wi8.heap.size<z9.heap.size):=hI0 (Array.getElem?_eq_some_iff.1 HT10.out).1
           have HTB0_10:=hI0 ((hz9.block w.heap.size (Array.getElem?_eq_some_iff.1 HTB0.out).1).trans HTB0.out)
           clear hz9
           clear q0 q1 q2 q3 q4 q5 q6 q7 q8 q9 q10 q11 q12 q13 q14 q15
           have q0:z9.cell? ⟨wi8.heap.size,0,none⟩=some (.int .i64 tm2):=cW0 z9 _ 0 _ _ _ HT10.out
           have q1:z9.cell? ⟨wi8.heap.size,1,none⟩=some (.string tb):=cW0 z9 _ 1 _ _ _ HT10.out
           have q2:z9.cell? ⟨wi8.heap.size,2,none⟩=some (.string nm):=cW0 z9 _ 2 _ _ _ HT10.out
           have q3:z9.cell? ⟨wi8.heap.size,3,none⟩=some (.slice colA cols.length colC):=cW0 z9 _ 3 _ _ _ HT10.out
           have q4:z9.cell? ⟨wi8.heap.size,4,none⟩=some (.slice keyA key.length keyC):=cW0 z9 _ 4 _ _ _ HT10.out
           have q5:z9.cell? ⟨wi8.heap.size,5,none⟩=some (.slice forA fors.length forC):=cW0 z9 _ 5 _ _ _ HT10.out
           have q6:z9.cell? ⟨wi8.heap.size,6,none⟩=some (.slice chkA chks.length chkC):=cW0 z9 _ 6 _ _ _ HT10.out
           have q7:z9.cell? ⟨wi8.heap.size,7,none⟩=some (.int .i64 x1):=cW0 z9 _ 7 _ _ _ HT10.out
           have q8:z9.cell? ⟨wi8.heap.size,8,none⟩=some (.string x2):=cW0 z9 _ 8 _ _ _ HT10.out
           have q9:z9.cell? ⟨wi8.heap.size,9,none⟩=some (.string x3):=cW0 z9 _ 9 _ _ _ HT10.out
           have q10:z9.cell? ⟨wi8.heap.size,10,none⟩=some (.string x4):=cW0 z9 _ 10 _ _ _ HT10.out
           have q11:z9.cell? ⟨wi8.heap.size,11,none⟩=some (.int .i64 x5):=cW0 z9 _ 11 _ _ _ HT10.out
           have q12:z9.cell? ⟨wi8.heap.size,12,none⟩=some (.bool x6):=cW0 z9 _ 12 _ _ _ HT10.out
           have q13:z9.cell? ⟨wi8.heap.size,13,none⟩=some (.int .i64 x7):=cW0 z9 _ 13 _ _ _ HT10.out
           have q14:z9.cell? ⟨wi8.heap.size,14,none⟩=some (.int .i64 x8):=cW0 z9 _ 14 _ _ _ HT10.out
           have q15:z9.cell? ⟨wi8.heap.size,15,none⟩=some (.string x9):=cW0 z9 _ 15 _ _ _ HT10.out
           cases v
           case false=>
            have HF:Hid (ox=false):=hI0 (by rw [HRX.out]<;>simp)
            have HFO:Hid (rs=8):=hI0 (by rw [HR1.out,HNO.out HF.out]<;>first|rfl|(simp;done))
            go_wp2_with fail
            go_ret
            exact ⟨by rw [HFO.out]<;>first|rfl|(simp;done),HB10.out⟩
           have c1:z9.cell? ⟨w.heap.size,1,none⟩=some (.int .i64 tm):=cW0 z9 _ 1 _ _ _ HTB0_10.out
           by_cases t11:tm2=tm
           case neg=>
            have g11:decide (tm2=tm)=false:=decide_eq_false t11
            have he2:(tm2 != tm)=true:=by simpa using t11
            have HF:Hid (ox=false):=hI0 (by rw [HRX.out,g11]<;>simp)
            have HFO:Hid (rs=8):=hI0 (by rw [HR1.out,HNO.out HF.out]<;>first|rfl|(simp;done))
            go_wp2_with fail
            go_ret
            exact ⟨by rw [HFO.out]<;>first|rfl|(simp;done),HB10.out⟩
           have G11:Hid (decide (tm2=tm)=true):=hI0 (decide_eq_true t11)
           have HOX:Hid (ox=true):=hI0 (by rw [HRX.out,G11.out]<;>first|rfl|(simp;done))
           have HN:Hid ((ents.take (j+1)).all (enOk tm)=true):=hI0 (HS.out HOX.out)
           go_wp2_with fail
           go_roundw
           case rel=>exact ⟨j+1,by go_num,hltj,HN,HB10,HTB0_10⟩
           case measure=>simp [intOf];omega
          case neg=>
           have hlt3:¬(j:Int)<(ents.length:Int):=by omega
           have HRN8:Hid (rs=(if deltasF fi none dels≠0 then deltasF fi none dels else restC C)):=hI0 (by
            have h:=HG.out
            rw [List.take_of_length_le (by omega)] at h
            rw [HR1.out,h]<;>first|rfl|(simp;done))
           have c0:wi8.cell? ⟨w.heap.size,0,none⟩=some (.int .i64 tx):=cW0 wi8 _ 0 _ _ _ HTB8.out
           have c1:wi8.cell? ⟨w.heap.size,1,none⟩=some (.int .i64 tm):=cW0 wi8 _ 1 _ _ _ HTB8.out
           have c2:wi8.cell? ⟨w.heap.size,2,none⟩=some (.int .i64 wa):=cW0 wi8 _ 2 _ _ _ HTB8.out
           have c3:wi8.cell? ⟨w.heap.size,3,none⟩=some (.int .i64 fi):=cW0 wi8 _ 3 _ _ _ HTB8.out
           have c4:wi8.cell? ⟨w.heap.size,4,none⟩=some (.slice eA ents.length eC):=cW0 wi8 _ 4 _ _ _ HTB8.out
           have c5:wi8.cell? ⟨w.heap.size,5,none⟩=some (.slice dA dels.length dC):=cW0 wi8 _ 5 _ _ _ HTB8.out
           have c6:wi8.cell? ⟨w.heap.size,6,none⟩=some (.slice pA pla.length pC):=cW0 wi8 _ 6 _ _ _ HTB8.out
           have c7:wi8.cell? ⟨w.heap.size,7,none⟩=some (.slice rA rel.length rC):=cW0 wi8 _ 7 _ _ _ HTB8.out
           have c8:wi8.cell? ⟨w.heap.size,8,none⟩=some (.slice qA pol.length qC):=cW0 wi8 _ 8 _ _ _ HTB8.out
           have c9:wi8.cell? ⟨w.heap.size,9,none⟩=some (.slice hA hor.length hC2):=cW0 wi8 _ 9 _ _ _ HTB8.out
           have KD:=kdeltas_any (.slice dA dels.length dC) dels fi wi8 (HI.out.dels.below HB8.out) (fun x hx=>(HI.out.delI x hx).below HB8.out) HLM.out.delS
           obtain ⟨de,hde⟩:∃d,d=deltasF fi none dels:=⟨_,rfl⟩
           have HRA:Hid (rs=if de≠0 then de else restC C):=hI0 (by rw [hde];exact HRN8.out)
           rw [←hde] at KD
           clear hde
           go_wp2_with fail
           (with_reducible refine KD.mono ?_)
           rintro _ y1 ⟨rfl,hz⟩
           have HBa:Hid (Below w.heap.size w y1):=hI0 (HB8.out.trans (hz.mono HB8.out.size))
           have HTa:=hI0 ((hz.block w.heap.size HL8.out).trans HTB8.out)
           have HLa:Hid (w.heap.size<y1.heap.size):=hI0 (Array.getElem?_eq_some_iff.1 HTa.out).1
           clear hz KD c0 c1 c2 c3 c4 c5 c6 c7 c8 c9
           by_cases e0:de=0
           case neg=>
            have HF:Hid (rs=de):=hI0 (by rw [HRA.out,if_pos e0])
            go_wp2_with fail
            go_ret
            exact ⟨by rw [HF.out];rfl,HBa.out⟩
           case pos=>
            have HRB:Hid (rs=restC C):=hI0 (by rw [HRA.out,if_neg (by simpa using e0)])
            subst e0
            have KH:=kholds_any (.slice pA pla.length pC) pla y1 (HI.out.pla.below HBa.out) HLM.out.plaS
            obtain ⟨h1,hh1⟩:∃r,r=holdsF pla:=⟨_,rfl⟩
            have HRC2:Hid (rs=if h1≠0 then h1 else if namedF id nmB none rel≠0 then namedF id nmB none rel else restF pol hor):=hI0 (by rw [hh1,HRB.out];exact HRC.out)
            rw [←hh1] at KH
            clear hh1
            have c6:y1.cell? ⟨w.heap.size,6,none⟩=some (.slice pA pla.length pC):=cW0 y1 _ 6 _ _ _ HTa.out
            go_wp2_with fail
            (with_reducible refine KH.mono ?_)
            rintro _ y2 ⟨rfl,hz⟩
            have HBb:Hid (Below w.heap.size w y2):=hI0 (HBa.out.trans (hz.mono HBa.out.size))
            have HTb:=hI0 ((hz.block w.heap.size HLa.out).trans HTa.out)
            have HLb:Hid (w.heap.size<y2.heap.size):=hI0 (Array.getElem?_eq_some_iff.1 HTb.out).1
            clear hz KH c6
            by_cases e1:h1=0
            case neg=>
             have HF:Hid (rs=h1):=hI0 (by rw [HRC2.out,if_pos e1])
             go_wp2_with fail
             go_ret
             exact ⟨by rw [HF.out];rfl,HBb.out⟩
            case pos=>
             have HRD:Hid (rs=if namedF id nmB none rel≠0 then namedF id nmB none rel else restF pol hor):=hI0 (by rw [HRC2.out,if_neg (by simpa using e1)])
             subst e1
             have c0:y2.cell? ⟨w.heap.size,0,none⟩=some (.int .i64 tx):=cW0 y2 _ 0 _ _ _ HTb.out
             have c1:y2.cell? ⟨w.heap.size,1,none⟩=some (.int .i64 tm):=cW0 y2 _ 1 _ _ _ HTb.out
             have c2:y2.cell? ⟨w.heap.size,2,none⟩=some (.int .i64 wa):=cW0 y2 _ 2 _ _ _ HTb.out
             have c3:y2.cell? ⟨w.heap.size,3,none⟩=some (.int .i64 fi):=cW0 y2 _ 3 _ _ _ HTb.out
             have c4:y2.cell? ⟨w.heap.size,4,none⟩=some (.slice eA ents.length eC):=cW0 y2 _ 4 _ _ _ HTb.out
             have c5:y2.cell? ⟨w.heap.size,5,none⟩=some (.slice dA dels.length dC):=cW0 y2 _ 5 _ _ _ HTb.out
             have c6:y2.cell? ⟨w.heap.size,6,none⟩=some (.slice pA pla.length pC):=cW0 y2 _ 6 _ _ _ HTb.out
             have c7:y2.cell? ⟨w.heap.size,7,none⟩=some (.slice rA rel.length rC):=cW0 y2 _ 7 _ _ _ HTb.out
             have c8:y2.cell? ⟨w.heap.size,8,none⟩=some (.slice qA pol.length qC):=cW0 y2 _ 8 _ _ _ HTb.out
             have c9:y2.cell? ⟨w.heap.size,9,none⟩=some (.slice hA hor.length hC2):=cW0 y2 _ 9 _ _ _ HTb.out
             go_wp2_with fail
             clear c0 c1 c2 c3 c4 c5 c6 c7 c8 c9
             go_loopw [87] (fun i wr=>∃k:Nat,i=.int .i64 (k:Int)∧k≤rel.length∧Hid (namedF id nmB (prevN id rel k) (rel.drop k)=namedF id nmB none rel)∧Hid (Below w.heap.size w wr)∧Hid (wr.heap[w.heap.size]? =some (.cells #[.int .i64 tx,.int .i64 tm,.int .i64 wa,.int .i64 fi,.slice eA ents.length eC,.slice dA dels.length dC,.slice pA pla.length pC,.slice rA rel.length rC,.slice qA pol.length qC,.slice hA hor.length hC2] 29 (0,0)))) (fun i _=>rel.length-(intOf i).toNat)
             case atStart=>exact ⟨0,rfl,Nat.zero_le _,hI0 rfl,HBb,HTb⟩
             case round=>
              obtain ⟨k,rfl,hk,HG,HB12,HTB12⟩:=hrel
              obtain ⟨wi12,rfl⟩:∃wi:World,wi=wr:=⟨_,rfl⟩
              by_cases hlt:k<rel.length
              case pos=>
               have hlt2:(k:Int)<(rel.length:Int):=by omega
               obtain ⟨b,off,rfl,hF,hcl⟩:=RdE.at_ (K:=1) (enc:=strE) (fun _=>rfl) (by omega) (HI.out.rel.below HB12.out) hlt
               have HCL:Hid (∀i (hi:i<rel.length) j u,j<1→(strE rel[i])[j]? =some u→wi12.cell? ⟨b,off+i*1+j,none⟩=some u):=hI0 hcl
               obtain ⟨BB,hBB⟩:∃B0,wi12.heap[b]? =some B0:=⟨_,Array.getElem?_eq_getElem hF⟩
               have HBB:=hI0 hBB
               have HBB0:=hI0 hBB
               have HLK:=hI0 hlt
               have hg:=HG.out
               rw [namedF_at hlt] at hg
               have hmem:=List.getElem_mem hlt
               have hcx0:=HCL.out k hlt
               obtain ⟨x,hx⟩:∃x,x=rel[k]'hlt:=⟨_,rfl⟩
               rw [←hx] at hcx0
               rw [←hx] at hmem
               rw [←hx] at hg
               have hcx:∀j u,j<1→(strE x)[j]? =some u→wi12.cell? ⟨b,off+k*1+j,none⟩=some u:=hcx0
               clear hcl hx hBB hcx0
               obtain ⟨xs,hxs⟩:∃z,z=x:=⟨_,rfl⟩;subst hxs
               have g0:wi12.cell? ⟨b,off+k,none⟩=some (.string xs):=by have h:=hcx 0 (.string xs) (by decide) rfl;rw [Nat.mul_one,Nat.add_zero] at h;exact h
               have hsx:xs.size≤maxLen:=HLM.out.relS _ hmem
               obtain ⟨ox,hox⟩:∃bo,bo=nmB xs:=⟨_,rfl⟩
               have HG2:Hid (((if ox=false then 8 else if (match (prevN id rel k) with|some q=>bleS xs q|none=>false)=true then 9 else namedF id nmB (prevN id rel (k+1)) (rel.drop (k+1)))=namedF id nmB none rel)):=hI0 (by rw [hox];exact hg)
               have HRX:Hid (ox=(nmB xs)):=hI0 (hox)
               clear hg hox hcx
               obtain ⟨b1,hb1⟩:∃bo,bo=nmB xs:=⟨_,rfl⟩
               have K1:=fun (V:World) (hV:Below w.heap.size w V)=>kname_any xs V hsx
               rw [←hb1] at K1 HRX
               clear hb1
               clear hmem hF
               have KK13:=K1 wi12 HB12.out
               go_wp2_with fail
               skip
               (with_reducible refine KK13.mono ?_)
               rintro _ z13 ⟨rfl,hz13⟩
               clear KK13
               rw [←hz13]
               clear hz13 z13
               cases b1
               case false=>
                have HF:Hid (ox=false):=hI0 (by rw [HRX.out]<;>simp)
                have HFO:Hid (rs=8):=hI0 (by
                 have h:=HG2.out
                 rw [if_pos HF.out] at h
                 rw [HRD.out,←h]<;>rfl)
                go_wp2_with fail
                go_ret
                exact ⟨by rw [HFO.out]<;>first|rfl|(simp;done),HB12.out⟩
               case true=>
                have HOX:Hid (ox=true):=hI0 (by rw [HRX.out]<;>first|rfl|(simp;done))
                have HG3:Hid ((if (match (prevN id rel k) with|some q=>bleS xs q|none=>false)=true then 9 else namedF id nmB (prevN id rel (k+1)) (rel.drop (k+1)))=namedF id nmB none rel):=hI0 (by
                 have h:=HG2.out
                 rw [if_neg (by rw [HOX.out];simp)] at h
                 exact h)
                by_cases hk0:k=0
                case pos=>
                 have HG4:Hid (namedF id nmB (prevN id rel (k+1)) (rel.drop (k+1))=namedF id nmB none rel):=hI0 (by rw [←HG3.out];exact (if_neg (by simp [prevN,hk0])).symm)
                 subst hk0
                 have h00:¬(0:Int)<((0:Nat):Int):=by omega
                 go_wp2_with fail
                 go_roundw
                 case rel=>exact ⟨0+1,by go_num,by have:=HLK.out;omega,HG4,HB12,HTB12⟩
                 case measure=>have:=HLK.out;simp [intOf];omega
                case neg=>
                 obtain ⟨m,rfl⟩:∃m,k=m+1:=⟨k-1,by omega⟩
                 have hml:m<rel.length:=by omega
                 have hcy0:=HCL.out m hml
                 have hpv0:prevN id rel (m+1)=some (id rel[m]):=prevN_succ hml
                 obtain ⟨y,hy⟩:∃y,y=rel[m]:=⟨_,rfl⟩
                 rw [←hy] at hcy0 hpv0
                 have hcy:∀j u,j<1→(strE y)[j]? =some u→wi12.cell? ⟨b,off+m*1+j,none⟩=some u:=hcy0
                 have hpv:prevN id rel (m+1)=some (id y):=hpv0
                 have hg3:=HG3.out
                 rw [hpv] at hg3
                 clear hy hpv hpv0 hcy0
                 obtain ⟨yn,hyn⟩:∃z,z=y:=⟨_,rfl⟩;subst hyn
                 have HG5:Hid ((if bleS xs yn=true then 9 else namedF id nmB (prevN id rel ((m+1)+1)) (rel.drop ((m+1)+1)))=namedF id nmB none rel):=hI0 hg3
                 have p0:wi12.cell? ⟨b,off+m,none⟩=some (.string yn):=(World.cell?_of_block (HBB.out.trans HBB0.out.symm)).trans (by have h:=hcy 0 (.string yn) (by decide) rfl;rw [Nat.mul_one,Nat.add_zero] at h;exact h)
                 have HBL:Hid (b<wi12.heap.size):=hI0 (Array.getElem?_eq_some_iff.1 HBB.out).1
                 have hm63:m≤9223372036854775807:=by omega
                 have hm64:(m:Int)≤9223372036854775807:=by omega
                 have hm65: -9223372036854775808≤(m:Int):=by omega
                 clear hcy hg3
                 have c7:wi12.cell? ⟨w.heap.size,7,none⟩=some (.slice (some ⟨b,off,none⟩) rel.length rC):=cW0 wi12 _ 7 _ _ _ HTB12.out
                 have ew:IntKind.i64.wrap (((m+1:Nat):Int)-1)=((m:Nat):Int):=by rw [IntKind.wrap_i64];omega
                 have hil:(m:Int)<(rel.length:Int):=by omega
                 obtain ⟨z,hz⟩:∃z,z=m+1:=⟨_,rfl⟩
                 have HML:Hid (z<rel.length):=hI0 (by omega)
                 have hip:(0:Int)<(z:Int):=by omega
                 have hzl:z+1≤9223372036854775807:=by omega
                 have hz0:0<z:=by omega
                 have HZM:=hI0 hz
                 rw [←hz] at ew HG5 ⊢
                 clear HCL HG HG2 HG3 hlt hk hk0 hz hm63 hlt2 HLK
                 rcases hlt1:Go.Op.bytesLess xs.toList yn.toList with _|_<;>rcases heq1:(xs.toList==yn.toList) with _|_
                 all_goals
                  have HLE:Hid (bleS xs yn=(Go.Op.bytesLess xs.toList yn.toList||(xs.toList==yn.toList))):=hI0 rfl
                  rw [hlt1,heq1] at HLE
                 case false.false=>
                  have HG4:Hid (namedF id nmB (prevN id rel (z+1)) (rel.drop (z+1))=namedF id nmB none rel):=hI0 (by
                   have h:=HG5.out
                   have hb:bleS xs yn=false:=HLE.out
                   simp only [hb,Bool.false_eq_true,if_false] at h
                   exact h)
                  go_wp2_with fail
                  go_roundw
                  case rel=>exact ⟨z+1,by go_num,by have:=HML.out;omega,HG4,HB12,HTB12⟩
                  case measure=>have:=HML.out;have:=HZM.out;simp [intOf];omega
                 all_goals
                  have HF:Hid (rs=9):=hI0 (by
                   have h:=HG5.out
                   have hb:bleS xs yn=true:=HLE.out
                   simp only [hb,if_true] at h
                   rw [HRD.out,←h]<;>rfl)
                  go_wp2_with fail
                  go_ret
                  exact ⟨by rw [HF.out]<;>first|rfl|(simp;done),HB12.out⟩
              have hlt2:¬(k:Int)<(rel.length:Int):=by omega
              have HRN12:Hid (rs=(restF pol hor)):=hI0 (by
               have h:=HG.out
               rw [namedF_end (by omega)] at h
               rw [HRD.out,←h]<;>rfl)
              have HL12:Hid (w.heap.size<wi12.heap.size):=hI0 (Array.getElem?_eq_some_iff.1 HTB12.out).1
              have c0:wi12.cell? ⟨w.heap.size,0,none⟩=some (.int .i64 tx):=cW0 wi12 _ 0 _ _ _ HTB12.out
              have c1:wi12.cell? ⟨w.heap.size,1,none⟩=some (.int .i64 tm):=cW0 wi12 _ 1 _ _ _ HTB12.out
              have c2:wi12.cell? ⟨w.heap.size,2,none⟩=some (.int .i64 wa):=cW0 wi12 _ 2 _ _ _ HTB12.out
              have c3:wi12.cell? ⟨w.heap.size,3,none⟩=some (.int .i64 fi):=cW0 wi12 _ 3 _ _ _ HTB12.out
              have c4:wi12.cell? ⟨w.heap.size,4,none⟩=some (.slice eA ents.length eC):=cW0 wi12 _ 4 _ _ _ HTB12.out
              have c5:wi12.cell? ⟨w.heap.size,5,none⟩=some (.slice dA dels.length dC):=cW0 wi12 _ 5 _ _ _ HTB12.out
              have c6:wi12.cell? ⟨w.heap.size,6,none⟩=some (.slice pA pla.length pC):=cW0 wi12 _ 6 _ _ _ HTB12.out
              have c7:wi12.cell? ⟨w.heap.size,7,none⟩=some (.slice rA rel.length rC):=cW0 wi12 _ 7 _ _ _ HTB12.out
              have c8:wi12.cell? ⟨w.heap.size,8,none⟩=some (.slice qA pol.length qC):=cW0 wi12 _ 8 _ _ _ HTB12.out
              have c9:wi12.cell? ⟨w.heap.size,9,none⟩=some (.slice hA hor.length hC2):=cW0 wi12 _ 9 _ _ _ HTB12.out
              have KR:=krules_any (.slice qA pol.length qC) (.slice hA hor.length hC2) pol hor wi12 (HI.out.pol.below HB12.out) (HI.out.hor.below HB12.out) HLM.out.polS HLM.out.horS
              go_wp2_with fail
              (with_reducible refine KR.mono ?_)
              rintro _ y3 ⟨rfl,hz⟩
              have HBc:Hid (Below w.heap.size w y3):=hI0 (HB12.out.trans (hz.mono HB12.out.size))
              clear hz KR c0 c1 c2 c3 c4 c5 c6 c7 c8 c9
              go_wp2_with fail
              go_ret
              exact ⟨by rw [HRN12.out]<;>rfl,HBc.out⟩
end Go.Proofs.YtbfdegkickjbpaaGreat
