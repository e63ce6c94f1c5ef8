/-
 RkC
-/
import Derived.Test.YtbfdegkickjbpaaGreatGRkE
namespace Go.Proofs.YtbfdegkickjbpaaGreat
set_option maxRecDepth 1000000
set_option maxHeartbeats 32000000
open Go.RowKit Go.Lib Go.IntWalk Go.Sort Go.Shelf
theorem kholds_any (v:Value) (l:List Hld) (w:World) (hv:RdE 6 Hld.enc w (·<w.heap.size) v l) (hs:∀x∈l,x.sm):Calls Tryz.prog 43 #[v] w fun e w'=>e=.returned (.int .i64 (holdsF l))∧Below w.heap.size w w':=by
 obtain ⟨A,c,rfl,hc1,hc2,hc3⟩:=Rd.open_ (show Rd w _ 6 v l.length (l.flatMap Hld.enc) from hv)
 unfold maxLen at hc2
 have HV:=hI0 hv
 have HS:=hI0 hs
 obtain ⟨rs,hrs⟩:∃r,r=holdsF l:=⟨_,rfl⟩
 rw [←hrs]
 have HR:Hid (rs=namedF Hld.name Hld.ok none l):=hI0 hrs
 clear hv hs hc3 hrs
 have HBW:Hid (Below w.heap.size w w):=hI0 (Below.refl _ _)
 go_enter Tryz.func43,Tryz.ntmps43
 go_wp2_with fail
 go_loopw [7] (fun i wr=>∃k:Nat,i=.int .i64 (k:Int)∧k≤l.length∧Hid (namedF Hld.name Hld.ok (prevN Hld.name l k) (l.drop k)=namedF Hld.name Hld.ok none l)∧Hid (Below w.heap.size w wr)) (fun i _=>l.length-(intOf i).toNat)
 case atStart=>exact ⟨0,rfl,Nat.zero_le _,hI0 rfl,HBW⟩
 case round=>
  obtain ⟨k,rfl,hk,HG,HB1⟩:=hrel
  obtain ⟨wi1,rfl⟩:∃wi:World,wi=wr:=⟨_,rfl⟩
  by_cases hlt:k<l.length
  case pos=>
   have hlt2:(k:Int)<(l.length:Int):=by omega
   obtain ⟨b,off,rfl,hF,hcl⟩:=RdE.at_ (K:=6) (enc:=Hld.enc) (fun _=>rfl) (by omega) (HV.out.below HB1.out) hlt
   have HCL:Hid (∀i (hi:i<l.length) j u,j<6→(Hld.enc l[i])[j]? =some u→wi1.cell? ⟨b,off+i*6+j,none⟩=some u):=hI0 hcl
   obtain ⟨BB,hBB⟩:∃B0,wi1.heap[b]? =some B0:=⟨_,Array.getElem?_eq_getElem hF⟩
   have HBB:=hI0 hBB
   have HBB0:=hI0 hBB
   have HLK:=hI0 hlt
   have hg:=HG.out
   rw [namedF_at hlt] at hg
   have hmem:=List.getElem_mem hlt
   have hcx0:=HCL.out k hlt
   obtain ⟨x,hx⟩:∃x,x=l[k]'hlt:=⟨_,rfl⟩
   rw [←hx] at hcx0
   rw [←hx] at hmem
   rw [←hx] at hg
   have hcx:∀j u,j<6→(Hld.enc x)[j]? =some u→wi1.cell? ⟨b,off+k*6+j,none⟩=some u:=hcx0
   clear hcl hx hBB hcx0
   obtain ⟨a,b1,c,d,g,h⟩:=x
   have g0:wi1.cell? ⟨b,off+k*6,none⟩=some (.string a):=hcx 0 _ (by decide) rfl
   have g1:wi1.cell? ⟨b,off+k*6+1,none⟩=some (.string b1):=hcx 1 _ (by decide) rfl
   have g2:wi1.cell? ⟨b,off+k*6+2,none⟩=some (.int .i64 c):=hcx 2 _ (by decide) rfl
   have g3:wi1.cell? ⟨b,off+k*6+3,none⟩=some (.int .i64 d):=hcx 3 _ (by decide) rfl
   have g4:wi1.cell? ⟨b,off+k*6+4,none⟩=some (.int .i64 g):=hcx 4 _ (by decide) rfl
   have g5:wi1.cell? ⟨b,off+k*6+5,none⟩=some (.int .i64 h):=hcx 5 _ (by decide) rfl
   have hsx:=HS.out _ hmem
   obtain ⟨ox,hox⟩:∃bo,bo=Hld.ok ⟨a,b1,c,d,g,h⟩:=⟨_,rfl⟩
   have HG2:Hid (((if ox=false then 8 else if (match (prevN Hld.name l k) with|some q=>bleS a q|none=>false)=true then 9 else namedF Hld.name Hld.ok (prevN Hld.name l (k+1)) (l.drop (k+1)))=namedF Hld.name Hld.ok none l)):=hI0 (by rw [hox];exact hg)
   have HRX:Hid (ox=(Hld.ok ⟨a,b1,c,d,g,h⟩)):=hI0 (hox)
   clear hg hox hcx
   obtain ⟨W1,hW1⟩:∃W1,W1=wi1.alloc (.cells #[.string a,.string b1,.int .i64 c,.int .i64 d,.int .i64 g,.int .i64 h] 109):=⟨_,rfl⟩
   have hb1:Below wi1.heap.size wi1 W1:=by rw [hW1];exact Below.of_alloc _
   have HX1:Hid (W1.heap[wi1.heap.size]? =some (.cells #[.string a,.string b1,.int .i64 c,.int .i64 d,.int .i64 g,.int .i64 h] 109 (0,0))):=hI0 (by rw [hW1];exact heap_alloc_new _ _)
   have HLX:Hid (wi1.heap.size<W1.heap.size):=hI0 (by rw [hW1];simp)
   have HBX:Hid (Below w.heap.size w W1):=hI0 (HB1.out.trans (hb1.mono HB1.out.size))
   have HBBX:Hid (W1.heap[b]? =some BB):=hI0 ((hb1.block b hF).trans HBB.out)
   have HW1:=hI0 hW1
   clear hb1 hW1
   obtain ⟨bx,hbx⟩:∃bo,bo=Hld.ok ⟨a,b1,c,d,g,h⟩:=⟨_,rfl⟩
   have K1:=fun (V:World) (hV:Below w.heap.size w V)=>khold_any a b1 c d g h V hsx.1 hsx.2
   rw [←hbx] at K1 HRX
   clear hbx
   clear hmem hF
   have q0:W1.cell? ⟨wi1.heap.size,0,none⟩=some (.string a):=cW0 W1 _ 0 _ _ _ HX1.out
   have q1:W1.cell? ⟨wi1.heap.size,1,none⟩=some (.string b1):=cW0 W1 _ 1 _ _ _ HX1.out
   have q2:W1.cell? ⟨wi1.heap.size,2,none⟩=some (.int .i64 c):=cW0 W1 _ 2 _ _ _ HX1.out
   have q3:W1.cell? ⟨wi1.heap.size,3,none⟩=some (.int .i64 d):=cW0 W1 _ 3 _ _ _ HX1.out
   have q4:W1.cell? ⟨wi1.heap.size,4,none⟩=some (.int .i64 g):=cW0 W1 _ 4 _ _ _ HX1.out
   have q5:W1.cell? ⟨wi1.heap.size,5,none⟩=some (.int .i64 h):=cW0 W1 _ 5 _ _ _ HX1.out
   have KK2:=K1 W1 HBX.out
   go_wp2_with fail
   try rw [←HW1.out]
   clear g0 g1 g2 g3 g4 g5
   (with_reducible refine KK2.mono ?_)
   rintro _ z2 ⟨rfl,hz2⟩
   clear KK2
   have HB3:Hid (Below w.heap.size w z2):=hI0 (HBX.out.trans (hz2.mono HBX.out.size))
   have HT3:=hI0 ((hz2.block wi1.heap.size HLX.out).trans HX1.out)
   have HL3:Hid (wi1.heap.size<z2.heap.size):=hI0 (Array.getElem?_eq_some_iff.1 HT3.out).1
   have HBBX_3:=hI0 ((hz2.block b (Array.getElem?_eq_some_iff.1 HBBX.out).1).trans HBBX.out)
   clear hz2
   clear q0 q1 q2 q3 q4 q5
   have q0:z2.cell? ⟨wi1.heap.size,0,none⟩=some (.string a):=cW0 z2 _ 0 _ _ _ HT3.out
   have q1:z2.cell? ⟨wi1.heap.size,1,none⟩=some (.string b1):=cW0 z2 _ 1 _ _ _ HT3.out
   have q2:z2.cell? ⟨wi1.heap.size,2,none⟩=some (.int .i64 c):=cW0 z2 _ 2 _ _ _ HT3.out
   have q3:z2.cell? ⟨wi1.heap.size,3,none⟩=some (.int .i64 d):=cW0 z2 _ 3 _ _ _ HT3.out
   have q4:z2.cell? ⟨wi1.heap.size,4,none⟩=some (.int .i64 g):=cW0 z2 _ 4 _ _ _ HT3.out
   have q5:z2.cell? ⟨wi1.heap.size,5,none⟩=some (.int .i64 h):=cW0 z2 _ 5 _ _ _ HT3.out
   cases bx
   case false=>
    have HF:Hid (ox=false):=hI0 (by rw [HRX.out]<;>simp)
    have HFO:Hid (rs=8):=hI0 (by
     have h:=HG2.out
     rw [if_pos HF.out] at h
     rw [HR.out,←h]<;>rfl)
    go_wp2_with fail
    go_ret
    exact ⟨by rw [HFO.out]<;>first|rfl|(simp;done),HB3.out⟩
   case true=>
    have HOX:Hid (ox=true):=hI0 (by rw [HRX.out]<;>first|rfl|(simp;done))
    have HG3:Hid ((if (match (prevN Hld.name l k) with|some q=>bleS a q|none=>false)=true then 9 else namedF Hld.name Hld.ok (prevN Hld.name l (k+1)) (l.drop (k+1)))=namedF Hld.name Hld.ok none l):=hI0 (by
     have h:=HG2.out
     rw [if_neg (by rw [HOX.out];simp)] at h
     exact h)
    go_upto_region 6 with (fail)
    clear q0 q1 q2 q3 q4 q5
    by_cases hk0:k=0
    case pos=>
     have HG4:Hid (namedF Hld.name Hld.ok (prevN Hld.name l (k+1)) (l.drop (k+1))=namedF Hld.name Hld.ok none l):=hI0 (by rw [←HG3.out];exact (if_neg (by simp [prevN,hk0])).symm)
     subst hk0
     have h00:¬(0:Int)<((0:Nat):Int):=by omega
     refine wp_region_noPanic ?_
     refine wp_region_held_drew (S:=(fun w'=>Below z2.heap.size z2 w')) (by kernel_rfl) ?_ (fun hHeld=>?_)
     ·exact (Below.refl _ _).drew
     refine hT 0 15 hHeld ?_
     simp only [aP]
     refine hT 1 16 hHeld ?_
     simp only [aP]
     refine hT 2 17 hHeld ?_
     simp only [aP]
     refine hK 3 18 hHeld ?_
     simp only [aP]
     refine hK 4 19 hHeld ?_
     simp only [aP]
     refine hK 5 20 hHeld ?_
     simp only [aP]
     refine hK 6 21 hHeld ?_
     simp only [aP]
     refine hK 7 22 hHeld ?_
     simp only [aP]
     refine hK 8 23 hHeld ?_
     simp only [aP]
     refine hK 9 24 hHeld ?_
     simp only [aP]
     refine hK 10 25 hHeld ?_
     simp only [aP]
     refine hK 11 26 hHeld ?_
     simp only [aP]
     refine hT 12 27 hHeld ?_
     simp only [aP]
     refine wpAnyH_done (by kernel_rfl) ?_ _
     refine NoPanic.normal ?_
     clear hHeld h00
     go_wp2_with fail
     go_roundw
     case rel=>exact ⟨0+1,by go_num,by have:=HLK.out;omega,HG4,(hI0 HB3.out.drew)⟩
     case measure=>have:=HLK.out;simp [intOf];omega
    case neg=>
     obtain ⟨m,rfl⟩:∃m,k=m+1:=⟨k-1,by omega⟩
     have hml:m<l.length:=by omega
     have hcy0:=HCL.out m hml
     have hpv0:prevN Hld.name l (m+1)=some (Hld.name l[m]):=prevN_succ hml
     obtain ⟨y,hy⟩:∃y,y=l[m]:=⟨_,rfl⟩
     rw [←hy] at hcy0 hpv0
     have hcy:∀j u,j<6→(Hld.enc y)[j]? =some u→wi1.cell? ⟨b,off+m*6+j,none⟩=some u:=hcy0
     have hpv:prevN Hld.name l (m+1)=some (Hld.name y):=hpv0
     have hg3:=HG3.out
     rw [hpv] at hg3
     clear hy hpv hpv0 hcy0
     obtain ⟨yn,y2,y3,y4,y5,y6⟩:=y
     have HG5:Hid ((if bleS a yn=true then 9 else namedF Hld.name Hld.ok (prevN Hld.name l ((m+1)+1)) (l.drop ((m+1)+1)))=namedF Hld.name Hld.ok none l):=hI0 hg3
     have p0:z2.cell? ⟨b,off+m*6,none⟩=some (.string yn):=(World.cell?_of_block (HBBX_3.out.trans HBB0.out.symm)).trans (hcy 0 _ (by decide) rfl)
     have HBL:Hid (b<z2.heap.size):=hI0 (Array.getElem?_eq_some_iff.1 HBBX_3.out).1
     have hm63:m≤9223372036854775807:=by omega
     have hm64:(m:Int)≤9223372036854775807:=by omega
     have hm65: -9223372036854775808≤(m:Int):=by omega
     clear hcy hg3
     rcases hlt1:Go.Op.bytesLess a.toList yn.toList with _|_<;>rcases heq1:(a.toList==yn.toList) with _|_
     all_goals
      have HLE:Hid (bleS a yn=(Go.Op.bytesLess a.toList yn.toList||(a.toList==yn.toList))):=hI0 rfl
      rw [hlt1,heq1] at HLE
      refine wp_region_noPanic ?_
      refine wp_region_held_drew (S:=(fun w'=>Below z2.heap.size z2 w')) (by kernel_rfl) ?_ (fun hHeld=>?_)
      ·exact (Below.refl _ _).drew
      refine hT 0 15 hHeld ?_
      simp only [aP]
      refine hU 1 16 (v:=?_) hHeld ?_ ?_
      rotate_left
      ·intro w' hSw;(try dsimp only at hSw);have hkp2:(0:Int)<(m:Int)+1:=(by omega);have hkn:0<m+1:=(by omega);go_simp<;>with_reducible rfl
      simp only [aP]
      refine hT 2 17 hHeld ?_
      simp only [aP]
      refine hT 3 18 hHeld ?_
      simp only [aP]
      refine hU 4 19 (v:=?_) hHeld ?_ ?_
      rotate_left
      ·intro w' hSw;(try dsimp only at hSw);have q:=(World.cell?_of_block (hSw.block _ HL3.out)).trans (cW0 z2 wi1.heap.size 0 _ _ _ HT3.out);go_simp<;>with_reducible rfl
      simp only [aP]
      refine hT 5 20 hHeld ?_
      simp only [aP]
      refine hT 6 21 hHeld ?_
      simp only [aP]
      refine hU 7 22 (v:=?_) hHeld ?_ ?_
      rotate_left
      ·intro w' hSw;(try dsimp only at hSw);have e1:((m+1:Nat):Int)-1=(m:Int):=(by omega);have e2:IntKind.i64.wrap (m:Int)=(m:Int):=(by rw [Go.IntWalk.i64_left,Go.IntWalk.wrap64_in _ ⟨hm65,hm64⟩]);go_simp<;>(try rw [e2])<;>with_reducible rfl
      simp only [aP]
      refine hT 8 23 hHeld ?_
      simp only [aP]
      refine hT 9 24 hHeld ?_
      simp only [aP]
      refine hU 10 25 (v:=?_) hHeld ?_ ?_
      rotate_left
      ·intro w' hSw;(try dsimp only at hSw);have q:=(World.cell?_of_block (hSw.block _ HBL.out)).trans p0;go_simp<;>with_reducible rfl
      simp only [aP]
      refine hT 11 26 hHeld ?_
      simp only [aP]
      refine hT 12 27 hHeld ?_
      simp only [aP]
      refine wpAnyH_done (by kernel_rfl) ?_ _
      refine NoPanic.normal ?_
      clear hHeld p0
     case false.false=>
      have HG4:Hid (namedF Hld.name Hld.ok (prevN Hld.name l ((m+1)+1)) (l.drop ((m+1)+1))=namedF Hld.name Hld.ok none l):=hI0 (by
       have h:=HG5.out
       have hb:bleS a yn=false:=HLE.out
       simp only [hb,Bool.false_eq_true,if_false] at h
       exact h)
      go_wp2_with fail
      go_roundw
      case rel=>exact ⟨m+1+1,by go_num,by have:=HLK.out;omega,HG4,(hI0 HB3.out.drew)⟩
      case measure=>have:=HLK.out;simp [intOf];omega
     all_goals
      have HF:Hid (rs=9):=hI0 (by
       have h:=HG5.out
       have hb:bleS a yn=true:=HLE.out
       simp only [hb,if_true] at h
       rw [HR.out,←h]<;>rfl)
      go_wp2_with fail
      go_ret
      exact ⟨by rw [HF.out]<;>first|rfl|(simp;done),HB3.out.drew⟩
  have hlt2:¬(k:Int)<(l.length:Int):=by omega
  have HRN1:Hid (rs=(0)):=hI0 (by
   have h:=HG.out
   rw [namedF_end (by omega)] at h
   rw [HR.out,←h]<;>rfl)
  go_wp2_with fail
  go_ret
  exact ⟨by rw [HRN1.out]<;>first|rfl|(simp;done),HB1.out⟩
theorem krules_any (v1 v2:Value) (pl:List Pol) (hl:List Hor) (w:World) (hv:RdE 2 Pol.enc w (·<w.heap.size) v1 pl) (hv2:RdE 2 Hor.enc w (·<w.heap.size) v2 hl) (hs:∀x∈pl,x.sm) (hs2:∀x∈hl,x.sm):Calls Tryz.prog 45 #[v1,v2] w fun e w'=>e=.returned (.int .i64 (restF pl hl))∧Below w.heap.size w w':=by
 obtain ⟨A,c,rfl,hc1,hc2,hc3⟩:=Rd.open_ (show Rd w _ 2 v1 pl.length (pl.flatMap Pol.enc) from hv)
 obtain ⟨A2,c2,rfl,hd1,hd2,hd3⟩:=Rd.open_ (show Rd w _ 2 v2 hl.length (hl.flatMap Hor.enc) from hv2)
 unfold maxLen at hc2 hd2
 have HV:=hI0 hv
 have HS:=hI0 hs
 have HVH:=hI0 hv2
 have HSH:=hI0 hs2
 obtain ⟨rs,hrs⟩:∃r,r=restF pl hl:=⟨_,rfl⟩
 rw [←hrs]
 have HR:Hid (rs=if namedF Pol.table Pol.ok none pl≠0 then namedF Pol.table Pol.ok none pl else namedF Hor.table Hor.ok none hl):=hI0 hrs
 clear hv hs hv2 hs2 hc3 hd3 hrs
 have HBW:Hid (Below w.heap.size w w):=hI0 (Below.refl _ _)
 go_enter Tryz.func45,Tryz.ntmps45
 go_wp2_with fail
 go_loopw [11] (fun i wr=>∃k:Nat,i=.int .i64 (k:Int)∧k≤pl.length∧Hid (namedF Pol.table Pol.ok (prevN Pol.table pl k) (pl.drop k)=namedF Pol.table Pol.ok none pl)∧Hid (Below w.heap.size w wr)) (fun i _=>pl.length-(intOf i).toNat)
 case atStart=>exact ⟨0,rfl,Nat.zero_le _,hI0 rfl,HBW⟩
 case round=>
  obtain ⟨k,rfl,hk,HG,HB4⟩:=hrel
  obtain ⟨wi4,rfl⟩:∃wi:World,wi=wr:=⟨_,rfl⟩
  by_cases hlt:k<pl.length
  case pos=>
   have hlt2:(k:Int)<(pl.length:Int):=by omega
   obtain ⟨b,off,rfl,hF,hcl⟩:=RdE.at_ (K:=2) (enc:=Pol.enc) (fun _=>rfl) (by omega) (HV.out.below HB4.out) hlt
   have HCL:Hid (∀i (hi:i<pl.length) j u,j<2→(Pol.enc pl[i])[j]? =some u→wi4.cell? ⟨b,off+i*2+j,none⟩=some u):=hI0 hcl
   obtain ⟨BB,hBB⟩:∃B0,wi4.heap[b]? =some B0:=⟨_,Array.getElem?_eq_getElem hF⟩
   have HBB:=hI0 hBB
   have HBB0:=hI0 hBB
   have HLK:=hI0 hlt
   have hg:=HG.out
   rw [namedF_at hlt] at hg
   have hmem:=List.getElem_mem hlt
   have hcx0:=HCL.out k hlt
   obtain ⟨x,hx⟩:∃x,x=pl[k]'hlt:=⟨_,rfl⟩
   rw [←hx] at hcx0
   rw [←hx] at hmem
   rw [←hx] at hg
   have hcx:∀j u,j<2→(Pol.enc x)[j]? =some u→wi4.cell? ⟨b,off+k*2+j,none⟩=some u:=hcx0
   clear hcl hx hBB hcx0
   obtain ⟨a,t⟩:=x
   have g0:wi4.cell? ⟨b,off+k*2,none⟩=some (.string a):=hcx 0 _ (by decide) rfl
   have g1:wi4.cell? ⟨b,off+k*2+1,none⟩=some (.int .i64 t):=hcx 1 _ (by decide) rfl
   have hsx:a.size≤maxLen:=HS.out _ hmem
   obtain ⟨ox,hox⟩:∃bo,bo=Pol.ok ⟨a,t⟩:=⟨_,rfl⟩
   have HG2:Hid (((if ox=false then 8 else if (match (prevN Pol.table pl k) with|some q=>bleS a q|none=>false)=true then 9 else namedF Pol.table Pol.ok (prevN Pol.table pl (k+1)) (pl.drop (k+1)))=namedF Pol.table Pol.ok none pl)):=hI0 (by rw [hox];exact hg)
   have HRX:Hid (ox=(nmB a&&decide (0≤t∧t≤1099511627776))):=hI0 (hox)
   clear hg hox hcx
   obtain ⟨W1,hW1⟩:∃W1,W1=wi4.alloc (.cells #[.string a,.int .i64 t] 117):=⟨_,rfl⟩
   have hb1:Below wi4.heap.size wi4 W1:=by rw [hW1];exact Below.of_alloc _
   have HX1:Hid (W1.heap[wi4.heap.size]? =some (.cells #[.string a,.int .i64 t] 117 (0,0))):=hI0 (by rw [hW1];exact heap_alloc_new _ _)
   have HLX:Hid (wi4.heap.size<W1.heap.size):=hI0 (by rw [hW1];simp)
   have HBX:Hid (Below w.heap.size w W1):=hI0 (HB4.out.trans (hb1.mono HB4.out.size))
   have HBBX:Hid (W1.heap[b]? =some BB):=hI0 ((hb1.block b hF).trans HBB.out)
   have HW1:=hI0 hW1
   clear hb1 hW1
   obtain ⟨b1,hb1⟩:∃bo,bo=nmB a:=⟨_,rfl⟩
   have K1:=fun (V:World) (hV:Below w.heap.size w V)=>kname_any a V hsx
   rw [←hb1] at K1 HRX
   clear hb1
   clear hmem hF
   have q0:W1.cell? ⟨wi4.heap.size,0,none⟩=some (.string a):=cW0 W1 _ 0 _ _ _ HX1.out
   have q1:W1.cell? ⟨wi4.heap.size,1,none⟩=some (.int .i64 t):=cW0 W1 _ 1 _ _ _ HX1.out
   have KK5:=K1 W1 HBX.out
   go_wp2_with fail
   try rw [←HW1.out]
   clear g0 g1
   (with_reducible refine KK5.mono ?_)
   rintro _ z5 ⟨rfl,hz5⟩
   clear KK5
   rw [←hz5]
   clear hz5 z5
   cases b1
   case false=>
    have HF:Hid (ox=false):=hI0 (by rw [HRX.out]<;>simp)
    have HFO:Hid (rs=8):=hI0 (by
     have h:=HG2.out
     rw [if_pos HF.out] at h
     rw [HR.out,←h]<;>rfl)
    go_wp2_with fail
    go_ret
    exact ⟨by rw [HFO.out]<;>first|rfl|(simp;done),HBX.out⟩
   case true=>
    by_cases t6_0:t<0
    case pos=>
     have g6:decide (0≤t∧t≤1099511627776)=false:=decide_eq_false (by omega)
     have HF:Hid (ox=false):=hI0 (by rw [HRX.out,g6]<;>simp)
     have HFO:Hid (rs=8):=hI0 (by
      have h:=HG2.out
      rw [if_pos HF.out] at h
      rw [HR.out,←h]<;>rfl)
     go_wp2_with fail
     go_ret
     exact ⟨by rw [HFO.out]<;>first|rfl|(simp;done),HBX.out⟩
    case neg=>
     by_cases t6_1:1099511627776<t
     case pos=>
      have g6:decide (0≤t∧t≤1099511627776)=false:=decide_eq_false (by omega)
      have HF:Hid (ox=false):=hI0 (by rw [HRX.out,g6]<;>simp)
      have HFO:Hid (rs=8):=hI0 (by
       have h:=HG2.out
       rw [if_pos HF.out] at h
       rw [HR.out,←h]<;>rfl)
      go_wp2_with fail
      go_ret
      exact ⟨by rw [HFO.out]<;>first|rfl|(simp;done),HBX.out⟩
     case neg=>
      have g6:decide (0≤t∧t≤1099511627776)=true:=decide_eq_true (by omega)
      have G6:=hI0 g6
      clear g6
      have HOX:Hid (ox=true):=hI0 (by rw [HRX.out,G6.out]<;>first|rfl|(simp;done))
      have HG3:Hid ((if (match (prevN Pol.table pl k) with|some q=>bleS a q|none=>false)=true then 9 else namedF Pol.table Pol.ok (prevN Pol.table pl (k+1)) (pl.drop (k+1)))=namedF Pol.table Pol.ok none pl):=hI0 (by
       have h:=HG2.out
       rw [if_neg (by rw [HOX.out];simp)] at h
       exact h)
      go_upto_region 6 with (fail)
      clear q0 q1
      by_cases hk0:k=0
      case pos=>
       have HG4:Hid (namedF Pol.table Pol.ok (prevN Pol.table pl (k+1)) (pl.drop (k+1))=namedF Pol.table Pol.ok none pl):=hI0 (by rw [←HG3.out];exact (if_neg (by simp [prevN,hk0])).symm)
       subst hk0
       have h00:¬(0:Int)<((0:Nat):Int):=by omega
       refine wp_region_noPanic ?_
       refine wp_region_held_drew (S:=(fun w'=>Below W1.heap.size W1 w')) (by kernel_rfl) ?_ (fun hHeld=>?_)
       ·exact (Below.refl _ _).drew
       refine hT 0 30 hHeld ?_
       simp only [aP]
       refine hT 1 31 hHeld ?_
       simp only [aP]
       refine hT 2 32 hHeld ?_
       simp only [aP]
       refine hK 3 33 hHeld ?_
       simp only [aP]
       refine hK 4 34 hHeld ?_
       simp only [aP]
       refine hK 5 35 hHeld ?_
       simp only [aP]
       refine hK 6 36 hHeld ?_
       simp only [aP]
       refine hK 7 37 hHeld ?_
       simp only [aP]
       refine hK 8 38 hHeld ?_
       simp only [aP]
       refine hK 9 39 hHeld ?_
       simp only [aP]
       refine hK 10 40 hHeld ?_
       simp only [aP]
       refine hK 11 41 hHeld ?_
       simp only [aP]
       refine hT 12 42 hHeld ?_
       simp only [aP]
       refine wpAnyH_done (by kernel_rfl) ?_ _
       refine NoPanic.normal ?_
       clear hHeld h00
       go_wp2_with fail
       go_roundw
       case rel=>exact ⟨0+1,by go_num,by have:=HLK.out;omega,HG4,(hI0 HBX.out.drew)⟩
       case measure=>have:=HLK.out;simp [intOf];omega
      case neg=>
       obtain ⟨m,rfl⟩:∃m,k=m+1:=⟨k-1,by omega⟩
       have hml:m<pl.length:=by omega
       have hcy0:=HCL.out m hml
       have hpv0:prevN Pol.table pl (m+1)=some (Pol.table pl[m]):=prevN_succ hml
       obtain ⟨y,hy⟩:∃y,y=pl[m]:=⟨_,rfl⟩
       rw [←hy] at hcy0 hpv0
       have hcy:∀j u,j<2→(Pol.enc y)[j]? =some u→wi4.cell? ⟨b,off+m*2+j,none⟩=some u:=hcy0
       have hpv:prevN Pol.table pl (m+1)=some (Pol.table y):=hpv0
       have hg3:=HG3.out
       rw [hpv] at hg3
       clear hy hpv hpv0 hcy0
       obtain ⟨yn,y2⟩:=y
       have HG5:Hid ((if bleS a yn=true then 9 else namedF Pol.table Pol.ok (prevN Pol.table pl ((m+1)+1)) (pl.drop ((m+1)+1)))=namedF Pol.table Pol.ok none pl):=hI0 hg3
       have p0:W1.cell? ⟨b,off+m*2,none⟩=some (.string yn):=(World.cell?_of_block (HBBX.out.trans HBB0.out.symm)).trans (hcy 0 _ (by decide) rfl)
       have HBL:Hid (b<W1.heap.size):=hI0 (Array.getElem?_eq_some_iff.1 HBBX.out).1
       have hm63:m≤9223372036854775807:=by omega
       have hm64:(m:Int)≤9223372036854775807:=by omega
       have hm65: -9223372036854775808≤(m:Int):=by omega
       clear hcy hg3
       rcases hlt1:Go.Op.bytesLess a.toList yn.toList with _|_<;>rcases heq1:(a.toList==yn.toList) with _|_
       all_goals
        have HLE:Hid (bleS a yn=(Go.Op.bytesLess a.toList yn.toList||(a.toList==yn.toList))):=hI0 rfl
        rw [hlt1,heq1] at HLE
        refine wp_region_noPanic ?_
        refine wp_region_held_drew (S:=(fun w'=>Below W1.heap.size W1 w')) (by kernel_rfl) ?_ (fun hHeld=>?_)
        ·exact (Below.refl _ _).drew
        refine hT 0 30 hHeld ?_
        simp only [aP]
        refine hU 1 31 (v:=?_) hHeld ?_ ?_
        rotate_left
        ·intro w' hSw;(try dsimp only at hSw);have hkp2:(0:Int)<(m:Int)+1:=(by omega);have hkn:0<m+1:=(by omega);go_simp<;>with_reducible rfl
        simp only [aP]
        refine hT 2 32 hHeld ?_
        simp only [aP]
        refine hT 3 33 hHeld ?_
        simp only [aP]
        refine hU 4 34 (v:=?_) hHeld ?_ ?_
        rotate_left
        ·intro w' hSw;(try dsimp only at hSw);have q:=(World.cell?_of_block (hSw.block _ HLX.out)).trans (cW0 W1 wi4.heap.size 0 _ _ _ HX1.out);go_simp<;>with_reducible rfl
        simp only [aP]
        refine hT 5 35 hHeld ?_
        simp only [aP]
        refine hT 6 36 hHeld ?_
        simp only [aP]
        refine hU 7 37 (v:=?_) hHeld ?_ ?_
        rotate_left
        ·intro w' hSw;(try dsimp only at hSw);have e1:((m+1:Nat):Int)-1=(m:Int):=(by omega);have e2:IntKind.i64.wrap (m:Int)=(m:Int):=(by rw [Go.IntWalk.i64_left,Go.IntWalk.wrap64_in _ ⟨hm65,hm64⟩]);go_simp<;>(try rw [e2])<;>with_reducible rfl
        simp only [aP]
        refine hT 8 38 hHeld ?_
        simp only [aP]
        refine hT 9 39 hHeld ?_
        simp only [aP]
        refine hU 10 40 (v:=?_) hHeld ?_ ?_
        rotate_left
        ·intro w' hSw;(try dsimp only at hSw);have q:=(World.cell?_of_block (hSw.block _ HBL.out)).trans p0;go_simp<;>with_reducible rfl
        simp only [aP]
        refine hT 11 41 hHeld ?_
        simp only [aP]
        refine hT 12 42 hHeld ?_
        simp only [aP]
        refine wpAnyH_done (by kernel_rfl) ?_ _
        refine NoPanic.normal ?_
        clear hHeld p0
       case false.false=>
        have HG4:Hid (namedF Pol.table Pol.ok (prevN Pol.table pl ((m+1)+1)) (pl.drop ((m+1)+1))=namedF Pol.table Pol.ok none pl):=hI0 (by
         have h:=HG5.out
         have hb:bleS a yn=false:=HLE.out
         simp only [hb,Bool.false_eq_true,if_false] at h
         exact h)
        go_wp2_with fail
        go_roundw
        case rel=>exact ⟨m+1+1,by go_num,by have:=HLK.out;omega,HG4,(hI0 HBX.out.drew)⟩
        case measure=>have:=HLK.out;simp [intOf];omega
       all_goals
        have HF:Hid (rs=9):=hI0 (by
         have h:=HG5.out
         have hb:bleS a yn=true:=HLE.out
         simp only [hb,if_true] at h
         rw [HR.out,←h]<;>rfl)
        go_wp2_with fail
        go_ret
        exact ⟨by rw [HF.out]<;>first|rfl|(simp;done),HBX.out.drew⟩
  case neg=>
   have hlt2:¬(k:Int)<(pl.length:Int):=by omega
   have HRN4:Hid (rs=(namedF Hor.table Hor.ok none hl)):=hI0 (by
    have h:=HG.out
    rw [namedF_end (by omega)] at h
    rw [HR.out,←h]<;>rfl)
   go_wp2_with fail
   go_loopw [46] (fun i wr=>∃k:Nat,i=.int .i64 (k:Int)∧k≤hl.length∧Hid (namedF Hor.table Hor.ok (prevN Hor.table hl k) (hl.drop k)=namedF Hor.table Hor.ok none hl)∧Hid (Below w.heap.size w wr)) (fun i _=>hl.length-(intOf i).toNat)
   case atStart=>exact ⟨0,rfl,Nat.zero_le _,hI0 rfl,HB4⟩
   case round=>
    obtain ⟨k,rfl,hk,HG,HB7⟩:=hrel
    obtain ⟨wi7,rfl⟩:∃wi:World,wi=wr:=⟨_,rfl⟩
    by_cases hlt:k<hl.length
    case pos=>
     have hlt2:(k:Int)<(hl.length:Int):=by omega
     obtain ⟨b,off,rfl,hF,hcl⟩:=RdE.at_ (K:=2) (enc:=Hor.enc) (fun _=>rfl) (by omega) (HVH.out.below HB7.out) hlt
     have HCL:Hid (∀i (hi:i<hl.length) j u,j<2→(Hor.enc hl[i])[j]? =some u→wi7.cell? ⟨b,off+i*2+j,none⟩=some u):=hI0 hcl
     obtain ⟨BB,hBB⟩:∃B0,wi7.heap[b]? =some B0:=⟨_,Array.getElem?_eq_getElem hF⟩
     have HBB:=hI0 hBB
     have HBB0:=hI0 hBB
     have HLK:=hI0 hlt
     have hg:=HG.out
     rw [namedF_at hlt] at hg
     have hmem:=List.getElem_mem hlt
     have hcx0:=HCL.out k hlt
     obtain ⟨x,hx⟩:∃x,x=hl[k]'hlt:=⟨_,rfl⟩
     rw [←hx] at hcx0
     rw [←hx] at hmem
     rw [←hx] at hg
     have hcx:∀j u,j<2→(Hor.enc x)[j]? =some u→wi7.cell? ⟨b,off+k*2+j,none⟩=some u:=hcx0
     clear hcl hx hBB hcx0
     obtain ⟨a,t⟩:=x
     have g0:wi7.cell? ⟨b,off+k*2,none⟩=some (.string a):=hcx 0 _ (by decide) rfl
     have g1:wi7.cell? ⟨b,off+k*2+1,none⟩=some (.int .i64 t):=hcx 1 _ (by decide) rfl
     have hsx:a.size≤maxLen:=HSH.out _ hmem
     obtain ⟨ox,hox⟩:∃bo,bo=Hor.ok ⟨a,t⟩:=⟨_,rfl⟩
     have HG2:Hid (((if ox=false then 8 else if (match (prevN Hor.table hl k) with|some q=>bleS a q|none=>false)=true then 9 else namedF Hor.table Hor.ok (prevN Hor.table hl (k+1)) (hl.drop (k+1)))=namedF Hor.table Hor.ok none hl)):=hI0 (by rw [hox];exact hg)
     have HRX:Hid (ox=(nmB a&&instB t)):=hI0 (hox)
     clear hg hox hcx
     obtain ⟨W1,hW1⟩:∃W1,W1=wi7.alloc (.cells #[.string a,.int .i64 t] 122):=⟨_,rfl⟩
     have hb1:Below wi7.heap.size wi7 W1:=by rw [hW1];exact Below.of_alloc _
     have HX1:Hid (W1.heap[wi7.heap.size]? =some (.cells #[.string a,.int .i64 t] 122 (0,0))):=hI0 (by rw [hW1];exact heap_alloc_new _ _)
     have HLX:Hid (wi7.heap.size<W1.heap.size):=hI0 (by rw [hW1];simp)
     have HBX:Hid (Below w.heap.size w W1):=hI0 (HB7.out.trans (hb1.mono HB7.out.size))
     have HBBX:Hid (W1.heap[b]? =some BB):=hI0 ((hb1.block b hF).trans HBB.out)
     have HW1:=hI0 hW1
     clear hb1 hW1
     obtain ⟨b1,hb1⟩:∃bo,bo=nmB a:=⟨_,rfl⟩
     have K1:=fun (V:World) (hV:Below w.heap.size w V)=>kname_any a V hsx
     rw [←hb1] at K1 HRX
     clear hb1
     obtain ⟨b2,hb2⟩:∃bo,bo=instB t:=⟨_,rfl⟩
     have K2:=fun (V:World) (hV:Below w.heap.size w V)=>kinst_any t V
     rw [←hb2] at K2 HRX
     clear hb2
     clear hmem hF
     have q0:W1.cell? ⟨wi7.heap.size,0,none⟩=some (.string a):=cW0 W1 _ 0 _ _ _ HX1.out
     have q1:W1.cell? ⟨wi7.heap.size,1,none⟩=some (.int .i64 t):=cW0 W1 _ 1 _ _ _ HX1.out
     have KK8:=K1 W1 HBX.out
     go_wp2_with fail
     try rw [←HW1.out]
     clear g0 g1
     (with_reducible refine KK8.mono ?_)
     rintro _ z8 ⟨rfl,hz8⟩
     clear KK8
     rw [←hz8]
     clear hz8 z8
     cases b1
     case false=>
      have HF:Hid (ox=false):=hI0 (by rw [HRX.out]<;>simp)
      have HFO:Hid (rs=8):=hI0 (by
       have h:=HG2.out
       rw [if_pos HF.out] at h
       rw [HRN4.out,←h]<;>rfl)
      go_wp2_with fail
      go_ret
      exact ⟨by rw [HFO.out]<;>first|rfl|(simp;done),HBX.out⟩
     case true=>
      have KK9:=K2 W1 HBX.out
      go_wp2_with fail
      (with_reducible refine KK9.mono ?_)
      rintro _ z9 ⟨rfl,hz9⟩
      clear KK9
      rw [hz9]
      clear hz9 z9
      cases b2
      case false=>
       have HF:Hid (ox=false):=hI0 (by rw [HRX.out]<;>simp)
       have HFO:Hid (rs=8):=hI0 (by
        have h:=HG2.out
        rw [if_pos HF.out] at h
        rw [HRN4.out,←h]<;>rfl)
       go_wp2_with fail
       go_ret
       exact ⟨by rw [HFO.out]<;>first|rfl|(simp;done),HBX.out⟩
      case true=>
       have HOX:Hid (ox=true):=hI0 (by rw [HRX.out]<;>first|rfl|(simp;done))
       have HG3:Hid ((if (match (prevN Hor.table hl k) with|some q=>bleS a q|none=>false)=true then 9 else namedF Hor.table Hor.ok (prevN Hor.table hl (k+1)) (hl.drop (k+1)))=namedF Hor.table Hor.ok none hl):=hI0 (by
        have h:=HG2.out
        rw [if_neg (by rw [HOX.out];simp)] at h
        exact h)
       go_upto_region 14 with (fail)
       clear q0 q1
       by_cases hk0:k=0
       case pos=>
        have HG4:Hid (namedF Hor.table Hor.ok (prevN Hor.table hl (k+1)) (hl.drop (k+1))=namedF Hor.table Hor.ok none hl):=hI0 (by rw [←HG3.out];exact (if_neg (by simp [prevN,hk0])).symm)
        subst hk0
        have h00:¬(0:Int)<((0:Nat):Int):=by omega
        refine wp_region_noPanic ?_
        refine wp_region_held_drew (S:=(fun w'=>Below W1.heap.size W1 w')) (by kernel_rfl) ?_ (fun hHeld=>?_)
        ·exact (Below.refl _ _).drew
        refine hT 0 61 hHeld ?_
        simp only [aP]
        refine hT 1 62 hHeld ?_
        simp only [aP]
        refine hT 2 63 hHeld ?_
        simp only [aP]
        refine hK 3 64 hHeld ?_
        simp only [aP]
        refine hK 4 65 hHeld ?_
        simp only [aP]
        refine hK 5 66 hHeld ?_
        simp only [aP]
        refine hK 6 67 hHeld ?_
        simp only [aP]
        refine hK 7 68 hHeld ?_
        simp only [aP]
        refine hK 8 69 hHeld ?_
        simp only [aP]
        refine hK 9 70 hHeld ?_
        simp only [aP]
        refine hK 10 71 hHeld ?_
        simp only [aP]
        refine hK 11 72 hHeld ?_
        simp only [aP]
        refine hT 12 73 hHeld ?_
        simp only [aP]
        refine wpAnyH_done (by kernel_rfl) ?_ _
        refine NoPanic.normal ?_
        clear hHeld h00
        go_wp2_with fail
        go_roundw
        case rel=>exact ⟨0+1,by go_num,by have:=HLK.out;omega,HG4,(hI0 HBX.out.drew)⟩
        case measure=>have:=HLK.out;simp [intOf];omega
       case neg=>
        obtain ⟨m,rfl⟩:∃m,k=m+1:=⟨k-1,by omega⟩
        have hml:m<hl.length:=by omega
        have hcy0:=HCL.out m hml
        have hpv0:prevN Hor.table hl (m+1)=some (Hor.table hl[m]):=prevN_succ hml
        obtain ⟨y,hy⟩:∃y,y=hl[m]:=⟨_,rfl⟩
        rw [←hy] at hcy0 hpv0
        have hcy:∀j u,j<2→(Hor.enc y)[j]? =some u→wi7.cell? ⟨b,off+m*2+j,none⟩=some u:=hcy0
        have hpv:prevN Hor.table hl (m+1)=some (Hor.table y):=hpv0
        have hg3:=HG3.out
        rw [hpv] at hg3
        clear hy hpv hpv0 hcy0
        obtain ⟨yn,y2⟩:=y
        have HG5:Hid ((if bleS a yn=true then 9 else namedF Hor.table Hor.ok (prevN Hor.table hl ((m+1)+1)) (hl.drop ((m+1)+1)))=namedF Hor.table Hor.ok none hl):=hI0 hg3
        have p0:W1.cell? ⟨b,off+m*2,none⟩=some (.string yn):=(World.cell?_of_block (HBBX.out.trans HBB0.out.symm)).trans (hcy 0 _ (by decide) rfl)
        have HBL:Hid (b<W1.heap.size):=hI0 (Array.getElem?_eq_some_iff.1 HBBX.out).1
        have hm63:m≤9223372036854775807:=by omega
        have hm64:(m:Int)≤9223372036854775807:=by omega
        have hm65: -9223372036854775808≤(m:Int):=by omega
        clear hcy hg3
        rcases hlt1:Go.Op.bytesLess a.toList yn.toList with _|_<;>rcases heq1:(a.toList==yn.toList) with _|_
        all_goals
         have HLE:Hid (bleS a yn=(Go.Op.bytesLess a.toList yn.toList||(a.toList==yn.toList))):=hI0 rfl
         rw [hlt1,heq1] at HLE
         refine wp_region_noPanic ?_
         refine wp_region_held_drew (S:=(fun w'=>Below W1.heap.size W1 w')) (by kernel_rfl) ?_ (fun hHeld=>?_)
         ·exact (Below.refl _ _).drew
         refine hT 0 61 hHeld ?_
         simp only [aP]
         refine hU 1 62 (v:=?_) hHeld ?_ ?_
         rotate_left
         ·intro w' hSw;(try dsimp only at hSw);have hkp2:(0:Int)<(m:Int)+1:=(by omega);have hkn:0<m+1:=(by omega);go_simp<;>with_reducible rfl
         simp only [aP]
         refine hT 2 63 hHeld ?_
         simp only [aP]
         refine hT 3 64 hHeld ?_
         simp only [aP]
         refine hU 4 65 (v:=?_) hHeld ?_ ?_
         rotate_left
         ·intro w' hSw;(try dsimp only at hSw);have q:=(World.cell?_of_block (hSw.block _ HLX.out)).trans (cW0 W1 wi7.heap.size 0 _ _ _ HX1.out);go_simp<;>with_reducible rfl
         simp only [aP]
         refine hT 5 66 hHeld ?_
         simp only [aP]
         refine hT 6 67 hHeld ?_
         simp only [aP]
         refine hU 7 68 (v:=?_) hHeld ?_ ?_
         rotate_left
         ·intro w' hSw;(try dsimp only at hSw);have e1:((m+1:Nat):Int)-1=(m:Int):=(by omega);have e2:IntKind.i64.wrap (m:Int)=(m:Int):=(by rw [Go.IntWalk.i64_left,Go.IntWalk.wrap64_in _ ⟨hm65,hm64⟩]);go_simp<;>(try rw [e2])<;>with_reducible rfl
         simp only [aP]
         refine hT 8 69 hHeld ?_
         simp only [aP]
         refine hT 9 70 hHeld ?_
         simp only [aP]
         refine hU 10 71 (v:=?_) hHeld ?_ ?_
         rotate_left
         ·intro w' hSw;(try dsimp only at hSw);have q:=(World.cell?_of_block (hSw.block _ HBL.out)).trans p0;go_simp<;>with_reducible rfl
         simp only [aP]
         refine hT 11 72 hHeld ?_
         simp only [aP]
         refine hT 12 73 hHeld ?_
         simp only [aP]
         refine wpAnyH_done (by kernel_rfl) ?_ _
         refine NoPanic.normal ?_
         clear hHeld p0
        case false.false=>
         have HG4:Hid (namedF Hor.table Hor.ok (prevN Hor.table hl ((m+1)+1)) (hl.drop ((m+1)+1))=namedF Hor.table Hor.ok none hl):=hI0 (by
          have h:=HG5.out
          have hb:bleS a yn=false:=HLE.out
          simp only [hb,Bool.false_eq_true,if_false] at h
          exact h)
         go_wp2_with fail
         go_roundw
         case rel=>exact ⟨m+1+1,by go_num,by have:=HLK.out;omega,HG4,(hI0 HBX.out.drew)⟩
         case measure=>have:=HLK.out;simp [intOf];omega
        all_goals
         have HF:Hid (rs=9):=hI0 (by
          have h:=HG5.out
          have hb:bleS a yn=true:=HLE.out
          simp only [hb,if_true] at h
          rw [HRN4.out,←h]<;>rfl)
         go_wp2_with fail
         go_ret
         exact ⟨by rw [HF.out]<;>first|rfl|(simp;done),HBX.out.drew⟩
    have hlt2:¬(k:Int)<(hl.length:Int):=by omega
    have HRN7:Hid (rs=(0)):=hI0 (by
     have h:=HG.out
     rw [namedF_end (by omega)] at h
     rw [HRN4.out,←h]<;>rfl)
    go_wp2_with fail
    go_ret
    exact ⟨by rw [HRN7.out]<;>first|rfl|(simp;done),HB7.out⟩
end Go.Proofs.YtbfdegkickjbpaaGreat
