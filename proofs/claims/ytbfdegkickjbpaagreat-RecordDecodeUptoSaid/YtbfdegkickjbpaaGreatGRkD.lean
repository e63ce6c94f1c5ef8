/-
 RkD
-/
import Derived.Test.YtbfdegkickjbpaaGreatGRkC
namespace Go.Proofs.YtbfdegkickjbpaaGreat
set_option maxRecDepth 1000000
set_option maxHeartbeats 32000000
open Go.RowKit Go.Lib Go.IntWalk Go.Sort Go.Shelf
theorem kdeltas_any (v:Value) (l:List RDl) (fi:Int) (w:World) (hv:RdE 3 RDl.enc w (·<w.heap.size) v l) (hi:∀x∈l,x.is w (·<w.heap.size)) (hs:∀x∈l,x.sm):Calls Tryz.prog 42 #[v,.int .i64 fi] w fun e w'=>e=.returned (.int .i64 (deltasF fi none l))∧Below w.heap.size w w':=by
 obtain ⟨A,c,rfl,hc1,hc2,hc3⟩:=Rd.open_ (show Rd w _ 3 v l.length (l.flatMap RDl.enc) from hv)
 unfold maxLen at hc2
 have HV:=hI0 hv
 have HS:=hI0 hs
 have HI:=hI0 hi
 obtain ⟨rs,hrs⟩:∃r,r=deltasF fi none l:=⟨_,rfl⟩
 rw [←hrs]
 have HR:Hid (rs=deltasF fi none l):=hI0 hrs
 clear hv hs hi hc3 hrs
 have HBW:Hid (Below w.heap.size w w):=hI0 (Below.refl _ _)
 go_enter Tryz.func42,Tryz.ntmps42
 go_wp2_with fail
 go_loopw [13] (fun i wr=>∃k:Nat,i=.int .i64 (k:Int)∧k≤l.length∧Hid (deltasF fi (prevN RDl.name l k) (l.drop k)=deltasF fi none l)∧Hid (Below w.heap.size w wr)) (fun i _=>l.length-(intOf i).toNat)
 case atStart=>exact ⟨0,rfl,Nat.zero_le _,hI0 rfl,HBW⟩
 case round=>
  obtain ⟨k,rfl,hk,HG,HB1⟩:=hrel
  obtain ⟨wi1,rfl⟩:∃wi:World,wi=wr:=⟨_,rfl⟩
  by_cases hlt:k<l.length
  case pos=>
   have hlt2:(k:Int)<(l.length:Int):=by omega
   obtain ⟨b,off,rfl,hF,hcl⟩:=RdE.at_ (K:=3) (enc:=RDl.enc) (fun _=>rfl) (by omega) (HV.out.below HB1.out) hlt
   have HCL:Hid (∀i (hi:i<l.length) j u,j<3→(RDl.enc l[i])[j]? =some u→wi1.cell? ⟨b,off+i*3+j,none⟩=some u):=hI0 hcl
   obtain ⟨BB,hBB⟩:∃B0,wi1.heap[b]? =some B0:=⟨_,Array.getElem?_eq_getElem hF⟩
   have HBB:=hI0 hBB
   have HBB0:=hI0 hBB
   have HLK:=hI0 hlt
   have hg:=HG.out
   rw [deltasF_at hlt] at hg
   have hmem:=List.getElem_mem hlt
   have hcx0:=HCL.out k hlt
   obtain ⟨x,hx⟩:∃x,x=l[k]'hlt:=⟨_,rfl⟩
   rw [←hx] at hcx0
   rw [←hx] at hmem
   rw [←hx] at hg
   have hcx:∀j u,j<3→(RDl.enc x)[j]? =some u→wi1.cell? ⟨b,off+k*3+j,none⟩=some u:=hcx0
   clear hcl hx hBB hcx0
   obtain ⟨dn,cA,cc,cl,oA,oc,ops⟩:=x
   simp only at hg
   have g0:wi1.cell? ⟨b,off+k*3,none⟩=some (.string dn):=hcx 0 _ (by decide) rfl
   have g1:wi1.cell? ⟨b,off+k*3+1,none⟩=some (.slice cA cl.length cc):=hcx 1 _ (by decide) rfl
   have g2:wi1.cell? ⟨b,off+k*3+2,none⟩=some (.slice oA ops.length oc):=hcx 2 _ (by decide) rfl
   have hsx:dn.size≤maxLen:=HS.out _ hmem
   have hxi:RDl.is w (·<w.heap.size) ⟨dn,cA,cc,cl,oA,oc,ops⟩:=HI.out _ hmem
   have HXI:=hI0 hxi
   obtain ⟨hfw1,hfw2⟩:=hxi.few
   simp only at hfw1 hfw2
   obtain ⟨de,hde⟩:∃d,d=deltaF fi cl (ops.map RF.fct):=⟨_,rfl⟩
   rw [←hde] at hg
   have HDE:=hI0 hde
   clear hde hxi
   obtain ⟨ox,hox⟩:∃bo,bo=(nmB dn&& !decide (cl.length+ops.length=0)):=⟨_,rfl⟩
   have HG2:Hid (((if ox=false then 8 else if (match (prevN RDl.name l k) with|some q=>bleS dn q|none=>false)=true then 9 else (if de≠0 then de else deltasF fi (prevN RDl.name l (k+1)) (l.drop (k+1))))=deltasF fi none l)):=hI0 (by rw [hox];exact hg)
   have HRX:Hid (ox=(nmB dn&&decide (¬(cl.length+ops.length=0)))):=hI0 ((by rw [hox,decide_not]))
   clear hg hox hcx
   obtain ⟨W1,hW1⟩:∃W1,W1=wi1.alloc (.cells #[.string dn,.slice cA cl.length cc,.slice oA ops.length oc] 63):=⟨_,rfl⟩
   have hb1:Below wi1.heap.size wi1 W1:=by rw [hW1];exact Below.of_alloc _
   have HX1:Hid (W1.heap[wi1.heap.size]? =some (.cells #[.string dn,.slice cA cl.length cc,.slice oA ops.length oc] 63 (0,0))):=hI0 (by rw [hW1];exact heap_alloc_new _ _)
   have HLX:Hid (wi1.heap.size<W1.heap.size):=hI0 (by rw [hW1];simp)
   have HBX:Hid (Below w.heap.size w W1):=hI0 (HB1.out.trans (hb1.mono HB1.out.size))
   have HBBX:Hid (W1.heap[b]? =some BB):=hI0 ((hb1.block b hF).trans HBB.out)
   have HW1:=hI0 hW1
   clear hb1 hW1
   obtain ⟨b1,hb1⟩:∃bo,bo=nmB dn:=⟨_,rfl⟩
   have K1:=fun (V:World) (hV:Below w.heap.size w V)=>kname_any dn V hsx
   rw [←hb1] at K1 HRX
   clear hb1
   clear hmem hF
   have q0:W1.cell? ⟨wi1.heap.size,0,none⟩=some (.string dn):=cW0 W1 _ 0 _ _ _ HX1.out
   have q1:W1.cell? ⟨wi1.heap.size,1,none⟩=some (.slice cA cl.length cc):=cW0 W1 _ 1 _ _ _ HX1.out
   have q2:W1.cell? ⟨wi1.heap.size,2,none⟩=some (.slice oA ops.length oc):=cW0 W1 _ 2 _ _ _ HX1.out
   have KK2:=K1 W1 HBX.out
   go_wp2_with fail
   try rw [←HW1.out]
   clear g0 g1 g2
   (with_reducible refine KK2.mono ?_)
   rintro _ z2 ⟨rfl,hz2⟩
   clear KK2
   rw [←hz2]
   clear hz2 z2
   cases b1
   case false=>
    have HF:Hid (ox=false):=hI0 (by rw [HRX.out]<;>simp)
    have HFO:Hid (rs=8):=hI0 (by
     have h:=HG2.out
     rw [if_pos HF.out] at h
     rw [HR.out,←h]<;>rfl)
    go_wp2_with fail
    go_ret
    exact ⟨by rw [HFO.out]<;>first|rfl|(simp;done),HBX.out⟩
   case true=>
    by_cases t3_0:(cl.length:Int)+(ops.length:Int)=0
    case pos=>
     have g3:decide (¬(cl.length+ops.length=0))=false:=decide_eq_false (by omega)
     have z1:(cl.length:Int)=0:=by omega
     have z2:(ops.length:Int)=0:=by omega
     clear t3_0
     have HF:Hid (ox=false):=hI0 (by rw [HRX.out,g3]<;>simp)
     have HFO:Hid (rs=8):=hI0 (by
      have h:=HG2.out
      rw [if_pos HF.out] at h
      rw [HR.out,←h]<;>rfl)
     go_wp2_with fail
     go_ret
     exact ⟨by rw [HFO.out]<;>first|rfl|(simp;done),HBX.out⟩
    case neg=>
     have g3:decide (¬(cl.length+ops.length=0))=true:=decide_eq_true (by omega)
     have G3:=hI0 g3
     clear g3
     have e2:(cl.length:Int)+(ops.length:Int)≤9223372036854775807:=by omega
     have HOX:Hid (ox=true):=hI0 (by rw [HRX.out,G3.out]<;>first|rfl|(simp;done))
     have HG3:Hid ((if (match (prevN RDl.name l k) with|some q=>bleS dn q|none=>false)=true then 9 else (if de≠0 then de else deltasF fi (prevN RDl.name l (k+1)) (l.drop (k+1))))=deltasF fi none l):=hI0 (by
      have h:=HG2.out
      rw [if_neg (by rw [HOX.out];simp)] at h
      exact h)
     go_upto_region 6 with (fail)
     clear q0 q1 q2
     by_cases hk0:k=0
     case pos=>
      have HG4:Hid ((if de≠0 then de else deltasF fi (prevN RDl.name l (k+1)) (l.drop (k+1)))=deltasF fi none l):=hI0 (by rw [←HG3.out];exact (if_neg (by simp [prevN,hk0])).symm)
      subst hk0
      have h00:¬(0:Int)<((0:Nat):Int):=by omega
      refine wp_region_noPanic ?_
      refine wp_region_held_drew (S:=(fun w'=>Below W1.heap.size W1 w')) (by kernel_rfl) ?_ (fun hHeld=>?_)
      ·exact (Below.refl _ _).drew
      refine hT 0 32 hHeld ?_
      simp only [aP]
      refine hT 1 33 hHeld ?_
      simp only [aP]
      refine hT 2 34 hHeld ?_
      simp only [aP]
      refine hK 3 35 hHeld ?_
      simp only [aP]
      refine hK 4 36 hHeld ?_
      simp only [aP]
      refine hK 5 37 hHeld ?_
      simp only [aP]
      refine hK 6 38 hHeld ?_
      simp only [aP]
      refine hK 7 39 hHeld ?_
      simp only [aP]
      refine hK 8 40 hHeld ?_
      simp only [aP]
      refine hK 9 41 hHeld ?_
      simp only [aP]
      refine hK 10 42 hHeld ?_
      simp only [aP]
      refine hK 11 43 hHeld ?_
      simp only [aP]
      refine hT 12 44 hHeld ?_
      simp only [aP]
      refine wpAnyH_done (by kernel_rfl) ?_ _
      refine NoPanic.normal ?_
      clear hHeld h00
      have HBD:Hid (Below w.heap.size w W1.drew):=hI0 HBX.out.drew
      have HTD:Hid (W1.drew.heap[wi1.heap.size]? =some (.cells #[.string dn,.slice cA cl.length cc,.slice oA ops.length oc] 63 (0,0))):=HX1
      have HPV:Hid (0<l.length):=hI0 (by have:=HLK.out;omega)
      clear HG HG2 HG3 HCL HBB HBB0 hlt2 hk hlt HLK
      (try clear hk0)
      have t1:W1.drew.cell? ⟨wi1.heap.size,1,none⟩=some (.slice cA cl.length cc):=cW0 W1.drew _ 1 _ _ _ HTD.out
      go_wp2_with fail
      clear t1
      go_loopw [48] (fun i wr=>∃k:Nat,i=.int .i64 (k:Int)∧k≤cl.length∧Hid (closeF fi (prevI cl k) (cl.drop k)=closeF fi none cl)∧wr=W1.drew) (fun i _=>cl.length-(intOf i).toNat)
      case atStart=>exact ⟨0,rfl,Nat.zero_le _,hI0 rfl,rfl⟩
      obtain ⟨k,rfl,hk,HG,hw⟩:=hrel
      rw [hw]
      clear hw
      by_cases hlt:k<cl.length
      case pos=>
       obtain ⟨b,off,rfl,hF,hcl⟩:=RdE.at_ (K:=1) (enc:=intE) (fun _=>rfl) (by omega) (HXI.out.close.below HBD.out) hlt
       have hg:=HG.out
       rw [closeF_at hlt] at hg
       have hcx:=hcl k hlt 0 _ (by decide) rfl
       rw [Nat.mul_one,Nat.add_zero] at hcx
       have HCL:=hI0 hcl
       obtain ⟨x,hx⟩:∃x,x=cl[k]:=⟨_,rfl⟩
       rw [←hx] at hg hcx
       have HG2:=hI0 hg
       clear hcl hF hg hx
       have t1:W1.drew.cell? ⟨wi1.heap.size,1,none⟩=some (.slice (some ⟨b,off,none⟩) cl.length cc):=cW0 W1.drew _ 1 _ _ _ HTD.out
       by_cases hin:1≤x∧x≤fi-1
       case neg=>
        have HD:Hid (de=6):=hI0 (by
         have h:=HG2.out
         rw [if_pos hin] at h
         rw [HDE.out,deltaF,←h]
         exact if_pos (by decide))
        have HF:Hid (rs=6):=hI0 (by rw [HR.out,←HG4.out,HD.out];exact if_pos (by decide))
        by_cases hin2:x<1
        case pos=>
         clear hin
         go_wp2_with fail
         go_ret
         exact ⟨by rw [HF.out]<;>first|rfl|(simp;done),HBD.out⟩
        have hin3:fi≤x:=by omega
        clear hin
        go_wp2_with fail
        go_ret
        exact ⟨by rw [HF.out]<;>first|rfl|(simp;done),HBD.out⟩
       have hg3:=HG2.out
       rw [if_neg (by simpa using hin)] at hg3
       have HG3:=hI0 hg3
       have hi1:¬x<1:=by omega
       have hi2:¬fi≤x:=by omega
       clear hin hg3
       by_cases hk0:k=0
       case pos=>
        have HN:Hid (closeF fi (prevI cl (k+1)) (cl.drop (k+1))=closeF fi none cl):=hI0 (by rw [←HG3.out];exact (if_neg (by simp [prevI,hk0])).symm)
        subst hk0
        have hcx9:W1.drew.cell? ⟨b,off,none⟩=some (.int .i64 x):=hcx
        go_wp2_with fail
        go_roundw
        case rel=>exact ⟨1,by go_num,hlt,HN,by first|trivial|rfl⟩
        case measure=>simp [intOf];omega
       obtain ⟨m,rfl⟩:∃m,k=m+1:=⟨k-1,by omega⟩
       have hml:m<cl.length:=by omega
       have hcy:=HCL.out m hml 0 _ (by decide) rfl
       rw [Nat.mul_one,Nat.add_zero] at hcy
       have hpv:=prevI_succ hml
       have hg4:=HG3.out
       rw [hpv] at hg4
       obtain ⟨y,hy⟩:∃y,y=cl[m]:=⟨_,rfl⟩
       rw [←hy] at hcy hg4
       simp only at hg4
       have HG5:=hI0 hg4
       have ew:IntKind.i64.wrap (((m+1:Nat):Int)-1)=((m:Nat):Int):=by rw [IntKind.wrap_i64];omega
       have hil:(m:Int)<(cl.length:Int):=by omega
       obtain ⟨z,hz⟩:∃z,z=m+1:=⟨_,rfl⟩
       have HML:Hid (z<cl.length):=hI0 (by omega)
       have hip:(0:Int)<(z:Int):=by omega
       have hzl:z+1≤9223372036854775807:=by omega
       have hz0:0<z:=by omega
       have HN2:Hid (closeF fi (prevI cl (z+1)) (cl.drop (z+1))=closeF fi (prevI cl (m+1+1)) (cl.drop (m+1+1))):=hI0 (by rw [hz])
       have HZM:=hI0 hz
       rw [←hz] at ew hcx ⊢
       clear hpv hg4 hy HCL HG HG2 HG3 hlt hk hk0 hz
       by_cases hle:x≤y
       case pos=>
        have HD:Hid (de=9):=hI0 (by
         have h:=HG5.out
         rw [if_pos (by simpa using hle)] at h
         rw [HDE.out,deltaF,←h]
         exact if_pos (by decide))
        have HF:Hid (rs=9):=hI0 (by rw [HR.out,←HG4.out,HD.out];exact if_pos (by decide))
        go_wp2_with fail
        go_ret
        exact ⟨by rw [HF.out]<;>first|rfl|(simp;done),HBD.out⟩
       have HN:Hid (closeF fi (prevI cl (z+1)) (cl.drop (z+1))=closeF fi none cl):=hI0 (by rw [HN2.out,←HG5.out];exact (if_neg (by simpa using hle)).symm)
       go_wp2_with fail
       go_roundw
       case rel=>exact ⟨z+1,by go_num,by have:=HML.out;omega,HN,by first|trivial|rfl⟩
       case measure=>have:=HML.out;have:=HZM.out;simp [intOf];omega
      have hlt2:¬(k:Int)<(cl.length:Int):=by omega
      have HR2:Hid (de=opensF (ops.map RF.fct)):=hI0 (by
       have h:=HG.out
       rw [closeF_end (by omega)] at h
       rw [HDE.out,deltaF,←h]
       exact if_neg (by simp))
      clear HG
      have t2:W1.drew.cell? ⟨wi1.heap.size,2,none⟩=some (.slice oA ops.length oc):=cW0 W1.drew _ 2 _ _ _ HTD.out
      go_wp2_with fail
      clear hlt2 hlt t2 HTD
      go_loopw [76] (fun i wr=>∃j:Nat,i=.int .i64 (j:Int)∧j≤ops.length∧Hid (((ops.map RF.fct).take j).all Fct.ok=true)∧Hid (Below w.heap.size w wr)) (fun i _=>ops.length-(intOf i).toNat)
      case atStart=>exact ⟨0,rfl,Nat.zero_le _,hI0 rfl,HBD⟩
      obtain ⟨j,rfl,hj,HG,HB⟩:=hrel
      obtain ⟨wi,rfl⟩:∃wi:World,wi=wr:=⟨_,rfl⟩
      by_cases hltj:j<ops.length
      case neg=>
       have hlt3:¬(j:Int)<(ops.length:Int):=by omega
       have HD:Hid (de=0):=hI0 (by
        have h:=HG.out
        rw [List.take_of_length_le (by rw [List.length_map];omega)] at h
        rw [HR2.out,opensF,if_pos h])
       have HN:Hid (deltasF fi (prevN RDl.name l (0+1)) (l.drop (0+1))=deltasF fi none l):=hI0 (by rw [←HG4.out,HD.out];exact (if_neg (by simp)).symm)
       have hpz:=HPV.out
       have hpz2:((0:Nat):Int)<(l.length:Int):=by omega
       go_wp2_with fail
       go_roundw
       case rel=>exact ⟨0+1,by go_num,by have:=HPV.out;omega,HN,HB⟩
       case measure=>have:=HPV.out;simp [intOf];omega
      have hlt3:(j:Int)<(ops.length:Int):=by omega
      obtain ⟨b,off,rfl,hF,hcl⟩:=RdE.at_ (K:=3) (enc:=RF.enc) (fun _=>rfl) (by omega) (HXI.out.opens.1.below HB.out) hltj
      have hcx:=hcl j hltj
      have hxi:=HXI.out.opens.2 _ (List.getElem_mem hltj)
      obtain ⟨x,hx⟩:∃x,x=ops[j]:=⟨_,rfl⟩
      have hjm:j<(ops.map RF.fct).length:=by rw [List.length_map];exact hltj
      have htk:((ops.map RF.fct).take j).all Fct.ok=true→x.fct.ok=true→((ops.map RF.fct).take (j+1)).all Fct.ok=true:=fun h h2=>okF_take hjm h (by rw [List.getElem_map,←hx];exact h2)
      have hbd:x.fct.ok=false→opensF (ops.map RF.fct)=8:=fun h=>okF_bad hjm (by rw [List.getElem_map,←hx];exact h)
      clear hjm
      rw [←hx] at hcx hxi
      obtain ⟨xA,xn,xc,xr,x1,x2⟩:=x
      simp only [RF.is,RF.fct] at hxi htk hbd
      have g0:wi.cell? ⟨b,off+j*3,none⟩=some (.slice xA xn xc):=hcx 0 _ (by decide) rfl
      have g1:wi.cell? ⟨b,off+j*3+1,none⟩=some (.int .i64 x1):=hcx 1 _ (by decide) rfl
      have g2:wi.cell? ⟨b,off+j*3+2,none⟩=some (.int .i64 x2):=hcx 2 _ (by decide) rfl
      obtain ⟨W2,hW2⟩:∃W2,W2=wi.alloc (.cells #[.slice xA xn xc,.int .i64 x1,.int .i64 x2] 68):=⟨_,rfl⟩
      have hb1:Below wi.heap.size wi W2:=by rw [hW2];exact Below.of_alloc _
      have hF1:W2.heap[wi.heap.size]? =some (.cells #[.slice xA xn xc,.int .i64 x1,.int .i64 x2] 68 (0,0)):=by rw [hW2];exact heap_alloc_new _ _
      have HB1:Hid (Below w.heap.size w W2):=hI0 (HB.out.trans (hb1.mono HB.out.size))
      have KF:=kfact_any xA xn xc xr x1 x2 W2 ((Rd.keep hxi.1 (Keeps.below HB1.out)).wide (fun b (hb:b<w.heap.size)=>by show b<W2.heap.size;have:=HB1.out.size;omega)) hxi.2
      obtain ⟨v0,hv0⟩:∃bo,bo=Fct.ok ⟨xr,x1,x2⟩:=⟨_,rfl⟩
      rw [←hv0] at KF htk hbd
      have HTK:=hI0 htk
      have HBD2:=hI0 hbd
      have q0:W2.cell? ⟨wi.heap.size,0,none⟩=some (.slice xA xn xc):=cW0 W2 _ 0 _ _ _ hF1
      have q1:W2.cell? ⟨wi.heap.size,1,none⟩=some (.int .i64 x1):=cW0 W2 _ 1 _ _ _ hF1
      have q2:W2.cell? ⟨wi.heap.size,2,none⟩=some (.int .i64 x2):=cW0 W2 _ 2 _ _ _ hF1
      clear hcl hcx hxi htk hbd hx hb1 hF1 hF hv0
      go_upto_region 19 with (fail)
      rw [←hW2]
      clear hW2 g0 g1 g2
      go_wp2_with fail
      (with_reducible refine KF.mono ?_)
      rintro _ y2 ⟨rfl,hy1⟩
      have HY2:Hid (Below w.heap.size w y2):=hI0 (HB1.out.trans (hy1.mono HB1.out.size))
      clear hy1 KF q0 q1 q2
      cases v0
      case false=>
       have HD:Hid (de=8):=hI0 (by rw [HR2.out];exact HBD2.out (by first|rfl|trivial))
       have HF:Hid (rs=8):=hI0 (by rw [HR.out,←HG4.out,HD.out];exact if_pos (by decide))
       go_wp2_with fail
       go_ret
       exact ⟨by rw [HF.out]<;>first|rfl|(simp;done),HY2.out⟩
      have HN:Hid (((ops.map RF.fct).take (j+1)).all Fct.ok=true):=hI0 (HTK.out HG.out (by first|rfl|trivial))
      go_wp2_with fail
      go_roundw
      case rel=>exact ⟨j+1,by go_num,hltj,HN,HY2⟩
      case measure=>simp [intOf];omega
     case neg=>
      obtain ⟨m,rfl⟩:∃m,k=m+1:=⟨k-1,by omega⟩
      have hml:m<l.length:=by omega
      have hcy0:=HCL.out m hml
      have hpv0:prevN RDl.name l (m+1)=some (RDl.name l[m]):=prevN_succ hml
      obtain ⟨y,hy⟩:∃y,y=l[m]:=⟨_,rfl⟩
      rw [←hy] at hcy0 hpv0
      have hcy:∀j u,j<3→(RDl.enc y)[j]? =some u→wi1.cell? ⟨b,off+m*3+j,none⟩=some u:=hcy0
      have hpv:prevN RDl.name l (m+1)=some (RDl.name y):=hpv0
      have hg3:=HG3.out
      rw [hpv] at hg3
      clear hy hpv hpv0 hcy0
      obtain ⟨yn,yA,yc,yl,zA,zc,yo⟩:=y
      have HG5:Hid ((if bleS dn yn=true then 9 else (if de≠0 then de else deltasF fi (prevN RDl.name l ((m+1)+1)) (l.drop ((m+1)+1))))=deltasF fi none l):=hI0 hg3
      have p0:W1.cell? ⟨b,off+m*3,none⟩=some (.string yn):=(World.cell?_of_block (HBBX.out.trans HBB0.out.symm)).trans (hcy 0 _ (by decide) rfl)
      have HBL:Hid (b<W1.heap.size):=hI0 (Array.getElem?_eq_some_iff.1 HBBX.out).1
      have hm63:m≤9223372036854775807:=by omega
      have hm64:(m:Int)≤9223372036854775807:=by omega
      have hm65: -9223372036854775808≤(m:Int):=by omega
      clear hcy hg3
      rcases hlt1:Go.Op.bytesLess dn.toList yn.toList with _|_<;>rcases heq1:(dn.toList==yn.toList) with _|_
      all_goals
       have HLE:Hid (bleS dn yn=(Go.Op.bytesLess dn.toList yn.toList||(dn.toList==yn.toList))):=hI0 rfl
       rw [hlt1,heq1] at HLE
       refine wp_region_noPanic ?_
       refine wp_region_held_drew (S:=(fun w'=>Below W1.heap.size W1 w')) (by kernel_rfl) ?_ (fun hHeld=>?_)
       ·exact (Below.refl _ _).drew
       refine hT 0 32 hHeld ?_
       simp only [aP]
       refine hU 1 33 (v:=?_) hHeld ?_ ?_
       rotate_left
       ·intro w' hSw;(try dsimp only at hSw);have hkp2:(0:Int)<(m:Int)+1:=(by omega);have hkn:0<m+1:=(by omega);go_simp<;>with_reducible rfl
       simp only [aP]
       refine hT 2 34 hHeld ?_
       simp only [aP]
       refine hT 3 35 hHeld ?_
       simp only [aP]
       refine hU 4 36 (v:=?_) hHeld ?_ ?_
       rotate_left
       ·intro w' hSw;(try dsimp only at hSw);have q:=(World.cell?_of_block (hSw.block _ HLX.out)).trans (cW0 W1 wi1.heap.size 0 _ _ _ HX1.out);go_simp<;>with_reducible rfl
       simp only [aP]
       refine hT 5 37 hHeld ?_
       simp only [aP]
       refine hT 6 38 hHeld ?_
       simp only [aP]
       refine hU 7 39 (v:=?_) hHeld ?_ ?_
       rotate_left
       ·intro w' hSw;(try dsimp only at hSw);have e1:((m+1:Nat):Int)-1=(m:Int):=(by omega);have e2:IntKind.i64.wrap (m:Int)=(m:Int):=(by rw [Go.IntWalk.i64_left,Go.IntWalk.wrap64_in _ ⟨hm65,hm64⟩]);go_simp<;>(try rw [e2])<;>with_reducible rfl
       simp only [aP]
       refine hT 8 40 hHeld ?_
       simp only [aP]
       refine hT 9 41 hHeld ?_
       simp only [aP]
       refine hU 10 42 (v:=?_) hHeld ?_ ?_
       rotate_left
       ·intro w' hSw;(try dsimp only at hSw);have q:=(World.cell?_of_block (hSw.block _ HBL.out)).trans p0;go_simp<;>with_reducible rfl
       simp only [aP]
       refine hT 11 43 hHeld ?_
       simp only [aP]
       refine hT 12 44 hHeld ?_
       simp only [aP]
       refine wpAnyH_done (by kernel_rfl) ?_ _
       refine NoPanic.normal ?_
       clear hHeld p0
      case false.false=>
       have HG4:Hid ((if de≠0 then de else deltasF fi (prevN RDl.name l ((m+1)+1)) (l.drop ((m+1)+1)))=deltasF fi none l):=hI0 (by
        have h:=HG5.out
        have hb:bleS dn yn=false:=HLE.out
        simp only [hb,Bool.false_eq_true,if_false] at h
        exact h)
       have HBD:Hid (Below w.heap.size w W1.drew):=hI0 HBX.out.drew
       have HTD:Hid (W1.drew.heap[wi1.heap.size]? =some (.cells #[.string dn,.slice cA cl.length cc,.slice oA ops.length oc] 63 (0,0))):=HX1
       have HPV:Hid (m+1<l.length):=hI0 (by have:=HLK.out;omega)
       clear HG HG2 HG3 HCL HBB HBB0 hlt2 hk hlt HLK
       (try clear hk0)
       have t1:W1.drew.cell? ⟨wi1.heap.size,1,none⟩=some (.slice cA cl.length cc):=cW0 W1.drew _ 1 _ _ _ HTD.out
       go_wp2_with fail
       clear t1
       go_loopw [48] (fun i wr=>∃k:Nat,i=.int .i64 (k:Int)∧k≤cl.length∧Hid (closeF fi (prevI cl k) (cl.drop k)=closeF fi none cl)∧wr=W1.drew) (fun i _=>cl.length-(intOf i).toNat)
       case atStart=>exact ⟨0,rfl,Nat.zero_le _,hI0 rfl,rfl⟩
       obtain ⟨k,rfl,hk,HG,hw⟩:=hrel
       rw [hw]
       clear hw
       by_cases hlt:k<cl.length
       case pos=>
        obtain ⟨b,off,rfl,hF,hcl⟩:=RdE.at_ (K:=1) (enc:=intE) (fun _=>rfl) (by omega) (HXI.out.close.below HBD.out) hlt
        have hg:=HG.out
        rw [closeF_at hlt] at hg
        have hcx:=hcl k hlt 0 _ (by decide) rfl
        rw [Nat.mul_one,Nat.add_zero] at hcx
        have HCL:=hI0 hcl
        obtain ⟨x,hx⟩:∃x,x=cl[k]:=⟨_,rfl⟩
        rw [←hx] at hg hcx
        have HG2:=hI0 hg
        clear hcl hF hg hx
        have t1:W1.drew.cell? ⟨wi1.heap.size,1,none⟩=some (.slice (some ⟨b,off,none⟩) cl.length cc):=cW0 W1.drew _ 1 _ _ _ HTD.out
        by_cases hin:1≤x∧x≤fi-1
        case neg=>
         have HD:Hid (de=6):=hI0 (by
          have h:=HG2.out
          rw [if_pos hin] at h
          rw [HDE.out,deltaF,←h]
          exact if_pos (by decide))
         have HF:Hid (rs=6):=hI0 (by rw [HR.out,←HG4.out,HD.out];exact if_pos (by decide))
         by_cases hin2:x<1
         case pos=>
          clear hin
          go_wp2_with fail
          go_ret
          exact ⟨by rw [HF.out]<;>first|rfl|(simp;done),HBD.out⟩
         have hin3:fi≤x:=by omega
         clear hin
         go_wp2_with fail
         go_ret
         exact ⟨by rw [HF.out]<;>first|rfl|(simp;done),HBD.out⟩
        have hg3:=HG2.out
        rw [if_neg (by simpa using hin)] at hg3
        have HG3:=hI0 hg3
        have hi1:¬x<1:=by omega
        have hi2:¬fi≤x:=by omega
        clear hin hg3
        by_cases hk0:k=0
        case pos=>
         have HN:Hid (closeF fi (prevI cl (k+1)) (cl.drop (k+1))=closeF fi none cl):=hI0 (by rw [←HG3.out];exact (if_neg (by simp [prevI,hk0])).symm)
         subst hk0
         have hcx9:W1.drew.cell? ⟨b,off,none⟩=some (.int .i64 x):=hcx
         go_wp2_with fail
         go_roundw
         case rel=>exact ⟨1,by go_num,hlt,HN,by first|trivial|rfl⟩
         case measure=>simp [intOf];omega
        obtain ⟨m,rfl⟩:∃m,k=m+1:=⟨k-1,by omega⟩
        have hml:m<cl.length:=by omega
        have hcy:=HCL.out m hml 0 _ (by decide) rfl
        rw [Nat.mul_one,Nat.add_zero] at hcy
        have hpv:=prevI_succ hml
        have hg4:=HG3.out
        rw [hpv] at hg4
        obtain ⟨y,hy⟩:∃y,y=cl[m]:=⟨_,rfl⟩
        rw [←hy] at hcy hg4
        simp only at hg4
        have HG5:=hI0 hg4
        have ew:IntKind.i64.wrap (((m+1:Nat):Int)-1)=((m:Nat):Int):=by rw [IntKind.wrap_i64];omega
        have hil:(m:Int)<(cl.length:Int):=by omega
        obtain ⟨z,hz⟩:∃z,z=m+1:=⟨_,rfl⟩
        have HML:Hid (z<cl.length):=hI0 (by omega)
        have hip:(0:Int)<(z:Int):=by omega
        have hzl:z+1≤9223372036854775807:=by omega
        have hz0:0<z:=by omega
        have HN2:Hid (closeF fi (prevI cl (z+1)) (cl.drop (z+1))=closeF fi (prevI cl (m+1+1)) (cl.drop (m+1+1))):=hI0 (by rw [hz])
        have HZM:=hI0 hz
        rw [←hz] at ew hcx ⊢
        clear hpv hg4 hy HCL HG HG2 HG3 hlt hk hk0 hz
        by_cases hle:x≤y
        case pos=>
         have HD:Hid (de=9):=hI0 (by
          have h:=HG5.out
          rw [if_pos (by simpa using hle)] at h
          rw [HDE.out,deltaF,←h]
          exact if_pos (by decide))
         have HF:Hid (rs=9):=hI0 (by rw [HR.out,←HG4.out,HD.out];exact if_pos (by decide))
         go_wp2_with fail
         go_ret
         exact ⟨by rw [HF.out]<;>first|rfl|(simp;done),HBD.out⟩
        have HN:Hid (closeF fi (prevI cl (z+1)) (cl.drop (z+1))=closeF fi none cl):=hI0 (by rw [HN2.out,←HG5.out];exact (if_neg (by simpa using hle)).symm)
        go_wp2_with fail
        go_roundw
        case rel=>exact ⟨z+1,by go_num,by have:=HML.out;omega,HN,by first|trivial|rfl⟩
        case measure=>have:=HML.out;have:=HZM.out;simp [intOf];omega
       have hlt2:¬(k:Int)<(cl.length:Int):=by omega
       have HR2:Hid (de=opensF (ops.map RF.fct)):=hI0 (by
        have h:=HG.out
        rw [closeF_end (by omega)] at h
        rw [HDE.out,deltaF,←h]
        exact if_neg (by simp))
       clear HG
       have t2:W1.drew.cell? ⟨wi1.heap.size,2,none⟩=some (.slice oA ops.length oc):=cW0 W1.drew _ 2 _ _ _ HTD.out
       go_wp2_with fail
       clear hlt2 hlt t2 HTD
       go_loopw [76] (fun i wr=>∃j:Nat,i=.int .i64 (j:Int)∧j≤ops.length∧Hid (((ops.map RF.fct).take j).all Fct.ok=true)∧Hid (Below w.heap.size w wr)) (fun i _=>ops.length-(intOf i).toNat)
       case atStart=>exact ⟨0,rfl,Nat.zero_le _,hI0 rfl,HBD⟩
       obtain ⟨j,rfl,hj,HG,HB⟩:=hrel
       obtain ⟨wi,rfl⟩:∃wi:World,wi=wr:=⟨_,rfl⟩
       by_cases hltj:j<ops.length
       case neg=>
        have hlt3:¬(j:Int)<(ops.length:Int):=by omega
        have HD:Hid (de=0):=hI0 (by
         have h:=HG.out
         rw [List.take_of_length_le (by rw [List.length_map];omega)] at h
         rw [HR2.out,opensF,if_pos h])
        have HN:Hid (deltasF fi (prevN RDl.name l (m+1+1)) (l.drop (m+1+1))=deltasF fi none l):=hI0 (by rw [←HG4.out,HD.out];exact (if_neg (by simp)).symm)
        have hpz:=HPV.out
        have hpz2:((m+1:Nat):Int)<(l.length:Int):=by omega
        go_wp2_with fail
        go_roundw
        case rel=>exact ⟨m+1+1,by go_num,by have:=HPV.out;omega,HN,HB⟩
        case measure=>have:=HPV.out;simp [intOf];omega
       have hlt3:(j:Int)<(ops.length:Int):=by omega
       obtain ⟨b,off,rfl,hF,hcl⟩:=RdE.at_ (K:=3) (enc:=RF.enc) (fun _=>rfl) (by omega) (HXI.out.opens.1.below HB.out) hltj
       have hcx:=hcl j hltj
       have hxi:=HXI.out.opens.2 _ (List.getElem_mem hltj)
       obtain ⟨x,hx⟩:∃x,x=ops[j]:=⟨_,rfl⟩
       have hjm:j<(ops.map RF.fct).length:=by rw [List.length_map];exact hltj
       have htk:((ops.map RF.fct).take j).all Fct.ok=true→x.fct.ok=true→((ops.map RF.fct).take (j+1)).all Fct.ok=true:=fun h h2=>okF_take hjm h (by rw [List.getElem_map,←hx];exact h2)
       have hbd:x.fct.ok=false→opensF (ops.map RF.fct)=8:=fun h=>okF_bad hjm (by rw [List.getElem_map,←hx];exact h)
       clear hjm
       rw [←hx] at hcx hxi
       obtain ⟨xA,xn,xc,xr,x1,x2⟩:=x
       simp only [RF.is,RF.fct] at hxi htk hbd
       have g0:wi.cell? ⟨b,off+j*3,none⟩=some (.slice xA xn xc):=hcx 0 _ (by decide) rfl
       have g1:wi.cell? ⟨b,off+j*3+1,none⟩=some (.int .i64 x1):=hcx 1 _ (by decide) rfl
       have g2:wi.cell? ⟨b,off+j*3+2,none⟩=some (.int .i64 x2):=hcx 2 _ (by decide) rfl
       obtain ⟨W2,hW2⟩:∃W2,W2=wi.alloc (.cells #[.slice xA xn xc,.int .i64 x1,.int .i64 x2] 68):=⟨_,rfl⟩
       have hb1:Below wi.heap.size wi W2:=by rw [hW2];exact Below.of_alloc _
       have hF1:W2.heap[wi.heap.size]? =some (.cells #[.slice xA xn xc,.int .i64 x1,.int .i64 x2] 68 (0,0)):=by rw [hW2];exact heap_alloc_new _ _
       have HB1:Hid (Below w.heap.size w W2):=hI0 (HB.out.trans (hb1.mono HB.out.size))
       have KF:=kfact_any xA xn xc xr x1 x2 W2 ((Rd.keep hxi.1 (Keeps.below HB1.out)).wide (fun b (hb:b<w.heap.size)=>by show b<W2.heap.size;have:=HB1.out.size;omega)) hxi.2
       obtain ⟨v0,hv0⟩:∃bo,bo=Fct.ok ⟨xr,x1,x2⟩:=⟨_,rfl⟩
       rw [←hv0] at KF htk hbd
       have HTK:=hI0 htk
       have HBD2:=hI0 hbd
       have q0:W2.cell? ⟨wi.heap.size,0,none⟩=some (.slice xA xn xc):=cW0 W2 _ 0 _ _ _ hF1
       have q1:W2.cell? ⟨wi.heap.size,1,none⟩=some (.int .i64 x1):=cW0 W2 _ 1 _ _ _ hF1
       have q2:W2.cell? ⟨wi.heap.size,2,none⟩=some (.int .i64 x2):=cW0 W2 _ 2 _ _ _ hF1
       clear hcl hcx hxi htk hbd hx hb1 hF1 hF hv0
       go_upto_region 19 with (fail)
       rw [←hW2]
       clear hW2 g0 g1 g2
       go_wp2_with fail
       (with_reducible refine KF.mono ?_)
       rintro _ y2 ⟨rfl,hy1⟩
       have HY2:Hid (Below w.heap.size w y2):=hI0 (HB1.out.trans (hy1.mono HB1.out.size))
       clear hy1 KF q0 q1 q2
       cases v0
       case false=>
        have HD:Hid (de=8):=hI0 (by rw [HR2.out];exact HBD2.out (by first|rfl|trivial))
        have HF:Hid (rs=8):=hI0 (by rw [HR.out,←HG4.out,HD.out];exact if_pos (by decide))
        go_wp2_with fail
        go_ret
        exact ⟨by rw [HF.out]<;>first|rfl|(simp;done),HY2.out⟩
       have HN:Hid (((ops.map RF.fct).take (j+1)).all Fct.ok=true):=hI0 (HTK.out HG.out (by first|rfl|trivial))
       go_wp2_with fail
       go_roundw
       case rel=>exact ⟨j+1,by go_num,hltj,HN,HY2⟩
       case measure=>simp [intOf];omega
      all_goals
       have HF:Hid (rs=9):=hI0 (by
        have h:=HG5.out
        have hb:bleS dn yn=true:=HLE.out
        simp only [hb,if_true] at h
        rw [HR.out,←h]<;>rfl)
       go_wp2_with fail
       go_ret
       exact ⟨by rw [HF.out]<;>first|rfl|(simp;done),HBX.out.drew⟩
  have hlt2:¬(k:Int)<(l.length:Int):=by omega
  have HRN1:Hid (rs=(0)):=hI0 (by
   have h:=HG.out
   rw [deltasF_end (by omega)] at h
   rw [HR.out,←h]<;>rfl)
  go_wp2_with fail
  go_ret
  exact ⟨by rw [HRN1.out]<;>first|rfl|(simp;done),HB1.out⟩
end Go.Proofs.YtbfdegkickjbpaaGreat
