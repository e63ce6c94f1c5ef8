/-
 Sm2
-/
import Derived.Test.YtgfhknnklapldaaGreatDoorBSmA
import Derived.Test.YtgfhknnklapldaaGreatDoorBRc3
namespace Go.Proofs.YtgfhknnklapldaaGreatDoor
open Go.Proofs.Tryz
set_option maxRecDepth 99999
set_option maxHeartbeats 0
theorem zq13 {P:Prop} (i:Nat) (h:Tg i→P:=by
 intro zT13
 first
  |guard_hyp zT13:Tg 1;have hlt2:(k:Int)<(stms.length:Int):=by omega
   obtain ⟨b,off,rfl,hF,hcl⟩:=RdE.at_ (K:=2) (enc:=Stm.enc) (fun _=>rfl) (by omega) (HI.out.stms.below HB.out) hlt
   have HCL:Hid (∀i (hi:i<stms.length) j u,j<2→(Stm.enc stms[i])[j]? =some u→wi.cell? ⟨b,off+i*2+j,none⟩=some u):=hI0 hcl
  |have hlt2:(k:Int)<(ents.length:Int):=by omega
   obtain ⟨b,off,rfl,hF,hcl⟩:=RdE.at_ (K:=16) (enc:=REn.enc) (fun _=>rfl) (by omega) (HI.out.ents.below HB.out) hlt
   have HCL:Hid (∀i (hi:i<ents.length) j u,j<16→(REn.enc ents[i])[j]? =some u→wi.cell? ⟨b,off+i*16+j,none⟩=some u):=hI0 hcl
 have HBL0:Hid (b<wi.heap.size):=hI0 hF
 have HLK:=hI0 hlt
 obtain ⟨f1,f2,f3,f4⟩:=ordF_facts hlt HG.out
 first
  |guard_hyp zT13:Tg 1;obtain ⟨x,hx⟩:=eN0 (stms[k]'hlt)
   have hcx:∀j u,j<2→(Stm.enc x)[j]? =some u→wi.cell? ⟨b,off+k*2+j,none⟩=some u:=fun j u hj hu=>HCL.out k hlt j u hj (by subst hx;exact hu)
   rw [←hx] at f1 f2 f3 f4
   obtain ⟨po,hpo⟩:=eN0 (plA (fun x y:Stm=>decide (x.time≤y.time)) x (prevA stms k))
  |have hxi:=HI.out.entI _ (List.getElem_mem hlt)
   obtain ⟨x,hx⟩:=eN0 (ents[k]'hlt)
   have hcx:∀j u,j<16→(REn.enc x)[j]? =some u→wi.cell? ⟨b,off+k*16+j,none⟩=some u:=fun j u hj hu=>HCL.out k hlt j u hj (by subst hx;exact hu)
   rw [←hx] at f1 f2 f3 f4 hxi
   obtain ⟨po,hpo⟩:=eN0 (plA (fun x y:REn=>decide (x.time<y.time)) x (prevA ents k))
 rw [←hpo] at f2 f3 f4
 clear hx hcl hF
 first
  |guard_hyp zT13:Tg 1;obtain ⟨xt,xw⟩:=x
  |have KE0:∀V,Bl w V→_:=fun V hV=>validEntry_any x V (hxi.below hV).create hxi.few hxi.text
   obtain ⟨v,hv⟩:=eN0 x.ok
   rw [←hv] at KE0
   have hok:enE x=if v=true then 0 else 8:=by rw [hv];rfl
   rw [hok] at f1 f2 f3 f4
   clear hv hok hxi
   obtain ⟨tm2,tb,⟨nm,colA,colC,cols,keyA,keyC,key,forA,forC,fors,chkA,chkC,chks⟩,⟨x1,x2,x3,x4,x5,x6,⟨x7,x8,x9⟩⟩⟩:=x
   have KE:∀V,Bl w V→Calls prog 107 #[.agg #[.int .i64 tm2,.string tb,.string nm,.slice colA cols.length colC,.slice keyA key.length keyC,.slice forA fors.length forC,.slice chkA chks.length chkC,.int .i64 x1,.string x2,.string x3,.string x4,.int .i64 x5,.bool x6,.int .i64 x7,.int .i64 x8,.string x9]] V fun e w'=>e=.returned (.bool v)∧Bl V w':=KE0
   clear KE0
 have HF1:=hI0 f1
 have HF2:=hI0 f2
 have HF3:=hI0 f3
 have HF4:=hI0 f4
 have HPO:=hI0 hpo
 first
  |guard_hyp zT13:Tg 1;obtain ⟨g0,g1⟩:=cK2 hcx (show _=[.int .i64 xt,.int .i64 xw] from rfl)
   obtain ⟨W1,hW1⟩:=eN0 (wi.alloc (.cells #[.int .i64 xt,.int .i64 xw] 82))
  |obtain ⟨g0,g1,g2,g3,g4,g5,g6,g7,g8,g9,g10,g11,g12,g13,g14,g15⟩:=cK16 hcx (show _=[.int .i64 tm2,.string tb,.string nm,.slice colA cols.length colC,.slice keyA key.length keyC,.slice forA fors.length forC,.slice chkA chks.length chkC,.int .i64 x1,.string x2,.string x3,.string x4,.int .i64 x5,.bool x6,.int .i64 x7,.int .i64 x8,.string x9] from rfl)
   obtain ⟨W1,hW1⟩:=eN0 (wi.alloc (.cells #[.int .i64 tm2,.string tb,.string nm,.slice colA cols.length colC,.slice keyA key.length keyC,.slice forA fors.length forC,.slice chkA chks.length chkC,.int .i64 x1,.string x2,.string x3,.string x4,.int .i64 x5,.bool x6,.int .i64 x7,.int .i64 x8,.string x9] 79))
 have hb1:=bN0 hW1
 have hX1:=hN0 hW1
 have HX1:=hI0 hX1
 have HL1:Hid (wi.heap.size<W1.heap.size):=hI0 (by rw [hW1];simp)
 have HB1i:=hI0 hb1
 have HB1:=bT0 HB hb1
 have HTB1:=hI0 ((hb1.block w.heap.size (gL0 HTB.out)).trans HTB.out)
 clear hcx hb1 hX1 f1 f2 f3 f4 hpo
 first
  |guard_hyp zT13:Tg 1;go_upto_region 14 with (fail)
  |go_upto_region 6 with (fail)
 rw [←hW1]
 first
  |guard_hyp zT13:Tg 1;clear hW1 g0 g1
   obtain ⟨y1,rfl⟩:=eN0 W1
   have HBI:=HB1i
   have HBY:=HB1
   have HTD:=HX1
   have HTB2:=HTB1
   have K5:=instant_any xt y1
   have K6:=within_any xw 0 xt y1
   obtain ⟨u1,hu1⟩:=eN0 (instB xt)
   obtain ⟨u2,hu2⟩:=eN0 (decide (0≤xw∧xw≤xt))
   rw [←hu1] at K5
   rw [←hu2] at K6
   have HOK:Hid (stmE ⟨xt,xw⟩=if (u1&&u2)=true then 0 else 6):=hI0 (by rw [hu1,hu2];rfl)
   clear hu1 hu2
   obtain ⟨g0,g1⟩:=cX2 HX1.out
  |clear hW1 g0 g1 g2 g3 g4 g5 g6 g7 g8 g9 g10 g11 g12 g13 g14 g15
   obtain ⟨g0,g1,g2,g3,g4,g5,g6,g7,g8,g9,g10,g11,g12,g13,g14,g15⟩:=cX16 HX1.out
   have KX:=KE W1 HB1.out
 go_wp2_with fail
 first
  |guard_hyp zT13:Tg 1;(with_reducible refine K5.mono ?_)
   rintro _ z1 ⟨rfl,hz⟩
   rw [hz]
   clear hz z1 K5
   cases u1
   skip
  |(with_reducible refine KX.mono ?_)
   rintro _ y1 ⟨rfl,hz⟩
   have HBI:=bT0 HB1i hz
   have HBY:=bT0 HB1 hz
   have HTD:=hI0 ((hz.block _ HL1.out).trans HX1.out)
   have HTB2:=hI0 ((hz.block w.heap.size (gL0 HTB1.out)).trans HTB1.out)
   clear hz KX KE g0 g1 g2 g3 g4 g5 g6 g7 g8 g9 g10 g11 g12 g13 g14 g15
   cases v
 case false=>
  first
   |guard_hyp zT13:Tg 1;have HF:Hid (rs=6):=hI0 (if_ne0 HRS2.out ((HF1.out (by rw [HOK.out];simp)).trans HOK.out) (by decide))
   |have HF:Hid (rs=8):=hI0 (if_ne0 HRS1.out (HF1.out (by decide)) (by decide))
  go_wp2_with fail
  go_ret
  exact ⟨by rw [HF.out];rfl,HBY.out⟩
 first
  |done
  |guard_hyp zT13:Tg 1;go_wp2_with fail
   (with_reducible refine K6.mono ?_)
   rintro _ z1 ⟨rfl,hz⟩
   rw [hz]
   clear hz z1 K6
   cases u2
   case false=>
    have HF:Hid (rs=6):=hI0 (if_ne0 HRS2.out ((HF1.out (by rw [HOK.out];simp)).trans HOK.out) (by decide))
    go_wp2_with fail
    go_ret
    exact ⟨by rw [HF.out];rfl,HBY.out⟩
   clear g0 g1
  |skip
 have HBXL:Hid (w.heap.size<y1.heap.size):=hI0 (gL0 HTB2.out)
 have HTL:Hid (wi.heap.size<y1.heap.size):=hI0 (gL0 HTD.out)
 first
  |guard_hyp zT13:Tg 1;go_upto_region 16 with (fail)
  |go_upto_region 8 with (fail)
 by_cases hk0:k=0
 case pos=>
  have HP:Hid (po=false):=hI0 (by rw [HPO.out,hk0];rfl)
  subst hk0
  have h00:¬(0:Int)<((0:Nat):Int):=by omega
  refine rB0 y1 (fun zh=>?_)
  first
   |guard_hyp zT13:Tg 1;refine hT 0 81 ?_
    refine hT 1 82 ?_
    refine hT 2 83 ?_
    refine hK 3 84 ?_
    refine hK 4 85 ?_
    refine hK 5 86 ?_
    refine hK 6 87 ?_
    refine hK 7 88 ?_
    refine hK 8 89 ?_
    refine hK 9 90 ?_
    refine hK 10 91 ?_
    refine hK 11 92 ?_
    refine hK 12 93 ?_
    refine hT 13 94 ?_
   |refine hT 0 46 ?_
    refine hT 1 47 ?_
    refine hT 2 48 ?_
    refine hK 3 49 ?_
    refine hK 4 50 ?_
    refine hK 5 51 ?_
    refine hK 6 52 ?_
    refine hK 7 53 ?_
    refine hK 8 54 ?_
    refine hK 9 55 ?_
    refine hK 10 56 ?_
    refine hK 11 57 ?_
    refine hK 12 58 ?_
    refine hT 13 59 ?_
  refine rD0 ?_
  clear zh h00
  first
   |guard_hyp zT13:Tg 1;have HN:=hI0 (HF4.out (by rw [HOK.out];rfl) HP.out (by first|rfl|trivial))
   |have HN:=hI0 (HF4.out rfl HP.out (by first|rfl|trivial))
  go_wp2_with fail
  go_roundw
  case rel=>exact ⟨0+1,by go_num,by have:=HLK.out;omega,HN,hI0 HBY.out.drew,hI0 HTB2.out⟩
  case measure=>have:=HLK.out;simp [intOf];omega
 obtain ⟨m,rfl⟩:∃m,k=m+1:=⟨k-1,by omega⟩
 first
  |guard_hyp zT13:Tg 1;have hml:m<stms.length:=by omega
   obtain ⟨y,hy⟩:=eN0 (stms[m])
  |have hml:m<ents.length:=by omega
   obtain ⟨y,hy⟩:=eN0 (ents[m])
 have hcy:=HCL.out m hml
 have hpo:=HPO.out
 rw [prevA_succ hml,←hy] at hpo
 rw [←hy] at hcy
 clear hy
 first
  |guard_hyp zT13:Tg 1;obtain ⟨yt,yw⟩:=y
   have HP2:Hid (po=decide (xt≤yt)):=hI0 hpo
   have p0:y1.cell? ⟨b,off+m*2,none⟩=some (.int .i64 yt):=(World.cell?_of_block (HBI.out.block b HBL0.out)).trans (hcy 0 _ (by decide) rfl)
  |obtain ⟨ytm,ytb,⟨ynm,ycolA,ycolC,ycols,ykeyA,ykeyC,ykey,yforA,yforC,yfors,ychkA,ychkC,ychks⟩,⟨y1_,y2,y3,y4,y5,y6,⟨y7,y8,y9⟩⟩⟩:=y
   have HP2:Hid (po=decide (tm2<ytm)):=hI0 hpo
   have p0:y1.cell? ⟨b,off+m*16,none⟩=some (.int .i64 ytm):=(World.cell?_of_block (HBI.out.block b HBL0.out)).trans (hcy 0 _ (by decide) rfl)
 have HBL:Hid (b<y1.heap.size):=hI0 (Nat.lt_of_lt_of_le HBL0.out HBI.out.size)
 have hm63:m≤9223372036854775807:=by omega
 have hm64:(m:Int)≤9223372036854775807:=by omega
 have hm65: -9223372036854775808≤(m:Int):=by omega
 clear hcy hpo HPO
 first
  |guard_hyp zT13:Tg 1;by_cases hcmp:xt≤yt
  |by_cases hcmp:tm2<ytm
 case pos=>
  have HPT:Hid (po=true):=hI0 (by rw [HP2.out];exact decide_eq_true hcmp)
  refine rB0 y1 (fun zh=>?_)
  first
   |guard_hyp zT13:Tg 1;refine hT 0 81 ?_
    refine hU 1 82 (v:=?_) zh ?_ ?_
   |refine hT 0 46 ?_
    refine hU 1 47 (v:=?_) zh ?_ ?_
  rotate_left
  ·exact zq37
  first
   |guard_hyp zT13:Tg 1;refine hT 2 83 ?_
    refine hT 3 84 ?_
    refine hU 4 85 (v:=?_) zh ?_ ?_
   |refine hT 2 48 ?_
    refine hT 3 49 ?_
    refine hU 4 50 (v:=?_) zh ?_ ?_
  rotate_left
  ·exact zq36
  first
   |guard_hyp zT13:Tg 1;refine hT 5 86 ?_
    refine hU 6 87 (v:=?_) zh ?_ ?_
   |refine hT 5 51 ?_
    refine hU 6 52 (v:=?_) zh ?_ ?_
  rotate_left
  ·exact zq34
  first
   |guard_hyp zT13:Tg 1;refine hT 7 88 ?_
    refine hU 8 89 (v:=?_) zh ?_ ?_
   |refine hT 7 53 ?_
    refine hU 8 54 (v:=?_) zh ?_ ?_
  rotate_left
  ·exact zq35
  first
   |guard_hyp zT13:Tg 1;refine hT 9 90 ?_
    refine hT 10 91 ?_
    refine hU 11 92 (v:=?_) zh ?_ ?_
   |refine hT 9 55 ?_
    refine hT 10 56 ?_
    refine hU 11 57 (v:=?_) zh ?_ ?_
  rotate_left
  ·exact zq38
  first
   |guard_hyp zT13:Tg 1;refine hT 12 93 ?_
    refine hT 13 94 ?_
   |refine hT 12 58 ?_
    refine hT 13 59 ?_
  refine rD0 ?_
  clear zh p0
  first
   |guard_hyp zT13:Tg 1;have HF:Hid (rs=9):=hI0 (if_ne0 HRS2.out (HF2.out (by rw [HOK.out];rfl) HPT.out) (by decide))
   |have HF:Hid (rs=9):=hI0 (if_ne0 HRS1.out (HF2.out rfl HPT.out) (by decide))
  go_wp2_with fail
  go_ret
  exact ⟨by rw [HF.out];rfl,HBY.out.drew⟩
 have HP:Hid (po=false):=hI0 (by rw [HP2.out];exact decide_eq_false hcmp)
 refine rB0 y1 (fun zh=>?_)
 first
  |guard_hyp zT13:Tg 1;refine hT 0 81 ?_
   refine hU 1 82 (v:=?_) zh ?_ ?_
  |refine hT 0 46 ?_
   refine hU 1 47 (v:=?_) zh ?_ ?_
 rotate_left
 ·exact zq37
 first
  |guard_hyp zT13:Tg 1;refine hT 2 83 ?_
   refine hT 3 84 ?_
   refine hU 4 85 (v:=?_) zh ?_ ?_
  |refine hT 2 48 ?_
   refine hT 3 49 ?_
   refine hU 4 50 (v:=?_) zh ?_ ?_
 rotate_left
 ·exact zq36
 first
  |guard_hyp zT13:Tg 1;refine hT 5 86 ?_
   refine hU 6 87 (v:=?_) zh ?_ ?_
  |refine hT 5 51 ?_
   refine hU 6 52 (v:=?_) zh ?_ ?_
 rotate_left
 ·exact zq34
 first
  |guard_hyp zT13:Tg 1;refine hT 7 88 ?_
   refine hU 8 89 (v:=?_) zh ?_ ?_
  |refine hT 7 53 ?_
   refine hU 8 54 (v:=?_) zh ?_ ?_
 rotate_left
 ·exact zq35
 first
  |guard_hyp zT13:Tg 1;refine hT 9 90 ?_
   refine hT 10 91 ?_
   refine hU 11 92 (v:=?_) zh ?_ ?_
  |refine hT 9 55 ?_
   refine hT 10 56 ?_
   refine hU 11 57 (v:=?_) zh ?_ ?_
 rotate_left
 ·exact zq38
 first
  |guard_hyp zT13:Tg 1;refine hT 12 93 ?_
   refine hT 13 94 ?_
  |refine hT 12 58 ?_
   refine hT 13 59 ?_
 refine rD0 ?_
 clear zh p0
 first
  |guard_hyp zT13:Tg 1;have HN:=hI0 (HF4.out (by rw [HOK.out];rfl) HP.out (by first|rfl|trivial))
  |have HN:=hI0 (HF4.out rfl HP.out (by first|rfl|trivial))
 go_wp2_with fail
 go_roundw
 case rel=>exact ⟨m+1+1,by go_num,by have:=HLK.out;omega,HN,hI0 HBY.out.drew,hI0 HTB2.out⟩
 case measure=>have:=HLK.out;simp [intOf];omega) : P := h ⟨⟩
theorem zq15 {P:Prop} (i:Nat) (h:Tg i→P:=by
 intro zT15
 first
  |guard_hyp zT15:Tg 1;have HP:Hid (po=false):=hI0 (by rw [HP2.out];exact HLE.out)
  |have HP:Hid (po=false):=hI0 (by rw [HPO.out,hk0];rfl)
   subst hk0
   have h00:¬(0:Int)<((0:Nat):Int):=by omega
   refine rB0 y1 (fun zh=>?_)
   refine hT 0 108 ?_
   refine hT 1 109 ?_
   refine hT 2 110 ?_
   refine hK 3 111 ?_
   refine hK 4 112 ?_
   refine hK 5 113 ?_
   refine hK 6 114 ?_
   refine hK 7 115 ?_
   refine hK 8 116 ?_
   refine hK 9 117 ?_
   refine hK 10 118 ?_
   refine hK 11 119 ?_
   refine hK 12 120 ?_
   refine hT 13 121 ?_
   refine rD0 ?_
   clear zh h00
 have KD:=KVX.out y1.drew HBY.out.drew
 have hTd:=HTD.out
 have p1:=cW1 1 hTd rfl
 clear hTd
 go_wp2_with fail
 (with_reducible refine KD.mono ?_)
 rintro _ z1 ⟨rfl,hz⟩
 have hz2:Bl y1 z1:=Below.undrew hz
 have HBZ:=bT0 HBY hz2
 have HTZ:=hI0 ((hz2.block w.heap.size HBXL.out).trans HTB2.out)
 clear hz hz2 KD p1
 by_cases hde:de=0
 case neg=>
  have HF:Hid (rs=de):=hI0 (if_ne0 HRS3.out (HF3.out rfl HP.out hde) hde)
  go_wp2_with fail
  go_ret
  exact ⟨by rw [HF.out];rfl,HBZ.out⟩
 have HN:=hI0 (HF4.out rfl HP.out hde)
 subst hde
 go_wp2_with fail
 go_roundw
 first
  |guard_hyp zT15:Tg 1
   case rel=>exact ⟨m+1+1,by go_num,by have:=HLK.out;omega,HN,HBZ,HTZ⟩
  |case rel=>exact ⟨0+1,by go_num,by have:=HLK.out;omega,HN,HBZ,HTZ⟩
 case measure=>have:=HLK.out;simp [intOf];omega) : P := h ⟨⟩
theorem zq32 {P:Prop} (h:P:=by
 have HF:Hid (rs=6):=hI0 zi12
 go_wp2_with fail
 go_ret
 exact ⟨by rw [HF.out];rfl,HBW.out⟩) : P := h
theorem zq34 {P:Prop} (h:P:=by
 first
  |guard_hyp zT13:Tg 1;intro w' hSw;(try dsimp only at hSw);have q:=(World.cell?_of_block (hSw.block _ HBXL.out)).trans (cW0 y1 w.heap.size 5 _ _ _ HTB2.out);go_simp<;>with_reducible rfl
  |intro w' hSw;(try dsimp only at hSw);have q:=(World.cell?_of_block (hSw.block _ HBXL.out)).trans (cW0 y1 w.heap.size 4 _ _ _ HTB2.out);go_simp<;>with_reducible rfl) : P := h
theorem zq35 {P:Prop} (h:P:=by
 intro w' hSw;(try dsimp only at hSw);have e1:((m+1:Nat):Int)-1=(m:Int):=(by omega);have e2:IntKind.i64.wrap (m:Int)=(m:Int):= zi4;go_simp<;>(try rw [e2])<;>with_reducible rfl) : P := h
theorem zq36 {P:Prop} (h:P:=by
 intro w' hSw;(try dsimp only at hSw);have q:=(World.cell?_of_block (hSw.block _ HTL.out)).trans (cW0 y1 wi.heap.size 0 _ _ _ HTD.out);go_simp<;>with_reducible rfl) : P := h
theorem zq38 {P:Prop} (h:P:=by
 intro w' hSw;(try dsimp only at hSw);have q:=(World.cell?_of_block (hSw.block _ HBL.out)).trans p0;go_simp<;>with_reducible rfl) : P := h
theorem zi12 {P:Prop} (h:P:=by rw [HR.out];exact if_pos (by simp)):P:=h
section
open Go.ChangeShapes Go.WideShapes Go.ChangeAt Go.RowKit Go.Lib Go.Deep
section
variable {H:Type} {enc:TypeId×Value→H} {w:World}
instance:Inhabited RTv:=⟨⟨⟨#[]⟩,none,0,[]⟩⟩
instance instVP2:Inhabited VP:=⟨(default,default)⟩
def vpSz (p:VP):Nat:=p.2.row.length+1
def RTv.sz (p:RTv):Nat:=szL vpSz p.vers+1
theorem opn_stm {B:Nat}:OpnB B enc w 82 (fun cs x=>cs=Stm.enc x∧True) (fun _=>1):=by
 intro fuel cs x h _
 obtain ⟨hl,n,xs,hxl,hb,hf⟩:=opn_fields underlying82 h
 rw [show prog.cellsOf 82 =2 from by kernel_rfl] at hl
 match cs,hl with
 |[c0,c1],_=>
 match xs,hxl with
 |[y0,y1],_=>
 have h0:=hf 0 _ rfl
 have h1:=hf 1 _ rfl
 obtain ⟨a,⟨e0,_⟩,_⟩:=opn_int underlying3 _ _ _ h0
 obtain ⟨b,⟨e1,_⟩,_⟩:=opn_int underlying3 _ _ _ h1
 have e0':[c0]=[.int .i64 a]:=e0
 have e1':[c1]=[.int .i64 b]:=e1
 simp only [List.cons.injEq,and_true] at e0' e1'
 subst e0'
 subst e1'
 exact ⟨⟨a,b⟩,⟨rfl,trivial⟩,bulk_one _⟩
theorem opn_ver2 {B:Nat}:OpnB B enc w 56 (fun cs x=>cs=encVP x∧VerIs w (ltw w) x.1 x.2) vpSz:=by
 intro fuel cs x h hB
 obtain ⟨hl,n,xs,hxl,hb,hf⟩:=opn_fields underlying56 h
 rw [show prog.cellsOf 56 =9 from by kernel_rfl] at hl
 match cs,hl with
 |[c0,c1,c2,c3,c4,c5,c6,c7,c8],_=>
 match xs,hxl with
 |[y0,y1,y2,y3,y4,y5,y6],_=>
 simp only [List.map_cons,List.map_nil,Rows.uptoBulkAll] at hb
 have h0:=hf 0 _ rfl
 have h1:=hf 1 _ rfl
 have h2:=hf 2 _ rfl
 have h3:=hf 3 _ rfl
 have h4:=hf 4 _ rfl
 have h5:=hf 5 _ rfl
 have h6:=hf 6 _ rfl
 obtain ⟨n0,⟨e0,_⟩,_⟩:=opn_int underlying3 _ _ _ h0
 obtain ⟨n1,⟨e1,_⟩,_⟩:=opn_int underlying3 _ _ _ h1
 obtain ⟨row,⟨v,e2,hv⟩,s2⟩:=opn_listB (c:=3) (B:=B) underlying52 (by kernel_rfl) opn_val.b (by omega) _ _ _ h2 (by omega)
 obtain ⟨⟨f3,t3⟩,e3,_⟩:=opn_per _ _ _ h3
 obtain ⟨⟨f4,t4⟩,e4,_⟩:=opn_per _ _ _ h4
 obtain ⟨n5,⟨e5,_⟩,_⟩:=opn_int underlying3 _ _ _ h5
 obtain ⟨n6,⟨e6,_⟩,_⟩:=opn_int underlying3 _ _ _ h6
 have e0':[c0]=[.int .i64 n0]:=e0
 have e1':[c1]=[.int .i64 n1]:=e1
 have e2':[c2]=[v]:=e2
 have e3':[c3,c4]=[.int .i64 f3,.int .i64 t3]:=e3
 have e4':[c5,c6]=[.int .i64 f4,.int .i64 t4]:=e4
 have e5':[c7]=[.int .i64 n5]:=e5
 have e6':[c8]=[.int .i64 n6]:=e6
 simp only [List.cons.injEq,and_true] at e0' e1' e2' e3' e4' e5' e6'
 obtain ⟨e3a,e3b⟩:=e3'
 obtain ⟨e4a,e4b⟩:=e4'
 subst e0';subst e1';subst e2';subst e3a;subst e3b;subst e4a;subst e4b;subst e5';subst e6'
 obtain ⟨hr,hg⟩:=rdV_of hv
 obtain ⟨A,c,rfl,_⟩:=hr.open_
 have z0:=szL_len (sz:=fun _:Val=>1) (fun _=>Nat.le_refl _) row
 exact ⟨(⟨n0,n1,A,row.length,c,f3,t3,f4,t4,n5,n6⟩,⟨n0,n1,row,f3,t3,f4,t4,n5,n6⟩),⟨rfl,⟨rfl,rfl,rfl,rfl,rfl,rfl,rfl,rfl,hr,hg⟩⟩,by show row.length+1≤_;omega⟩
theorem opn_tv {B:Nat}:OpnB B enc w 37 (fun cs (x:RTv)=>cs=x.enc∧x.is w (ltw w)∧x.table.size≤maxLen) RTv.sz:=by
 intro fuel cs x h hB
 obtain ⟨hl,n,xs,hxl,hb,hf⟩:=opn_fields underlying37 h
 rw [show prog.cellsOf 37 =2 from by kernel_rfl] at hl
 match cs,hl with
 |[c0,c1],_=>
 match xs,hxl with
 |[y0,y1],_=>
 simp only [List.map_cons,List.map_nil,Rows.uptoBulkAll] at hb
 have h0:=hf 0 _ rfl
 have h1:=hf 1 _ rfl
 obtain ⟨a,⟨e0,l0⟩,_⟩:=opn_str underlying9 _ _ _ h0
 have e0':[c0]=[.string (strB a)]:=e0
 obtain ⟨l,⟨v1,e1,r1⟩,s1⟩:=opn_listB (c:=9) (B:=B) underlying35 (by kernel_rfl) opn_ver2 (by omega) _ _ _ h1 (by omega)
 have e1':[c1]=[v1]:=e1
 simp only [List.cons.injEq,and_true] at e0' e1'
 subst e0'
 subst e1'
 obtain ⟨hr,hi⟩:=rdE_of r1
 obtain ⟨A,c,rfl⟩:=rdE_slice hr
 exact ⟨⟨strB a,A,c,l⟩,⟨rfl,⟨hr,hi⟩,by show (strB a).size≤maxLen;rw [strB_size];exact l0⟩,by show szL vpSz l+1≤_;omega⟩
structure RSt.lim (w:World) (c:RSt):Prop where
 ents:c.ents.length≤1048576
 stms:c.stms.length≤1048576
 tabs:c.tabs.length≤1048576
 pla:c.pla.length≤1048576
 pol:c.pol.length≤1048576
 hor:c.hor.length≤1048576
 rows:∀d∈c.tabs,d.vers.length≤1048576∧∀f∈d.vers,f.2.row.length≤1048576
 exps:∀x∈c.ents,∀e∈x.create.chks,exAll w (ltw w) e∧e.nodes≤1048576
 entS:∀x∈c.ents,x.sm
 plaS:∀x∈c.pla,x.sm
 polS:∀x∈c.pol,x.sm
 horS:∀x∈c.hor,x.sm
 entZ:szL REn.sz c.ents≤1048576
 tabZ:szL RTv.sz c.tabs≤1048576
 tabS:∀x∈c.tabs,x.table.size≤maxLen
theorem RTv.sz_few {d:RTv} {n:Nat} (h:d.sz≤n):d.vers.length≤n∧∀f∈d.vers,f.2.row.length≤n:=by
 unfold RTv.sz at h
 have h1:=szL_len (sz:=vpSz) (fun a=>by unfold vpSz;omega) d.vers
 refine ⟨by omega,fun f hf=>?_⟩
 have h2:=szL_mem (sz:=vpSz) hf
 have h3:f.2.row.length≤vpSz f:=by unfold vpSz;omega
 omega
theorem RSt.lim.below {w w':World} {c:RSt} (h:c.lim w) (hb:Bl w w'):c.lim w':=
 ⟨h.ents,h.stms,h.tabs,h.pla,h.pol,h.hor,h.rows,fun x hx e he=>⟨fun d=>exIs_below hb d e ((h.exps x hx e he).1 d),(h.exps x hx e he).2⟩,h.entS,h.plaS,h.polS,h.horS,h.entZ,h.tabZ,h.tabS⟩
theorem opn_state {B:Nat} (hBB:B≤1048576):OpnB B enc w 29 (fun cs (c:RSt)=>cs=c.enc∧c.is w (ltw w)∧c.lim w) (fun _=>1):=by
 intro fuel cs x h hB
 obtain ⟨hl,n,xs,hxl,hb,hf⟩:=opn_fields underlying29 h
 rw [show prog.cellsOf 29 =10 from by kernel_rfl] at hl
 match cs,hl with
 |[c0,c1,c2,c3,c4,c5,c6,c7,c8,c9],_=>
 match xs,hxl with
 |[y0,y1,y2,y3,y4,y5,y6,y7,y8,y9],_=>
 simp only [List.map_cons,List.map_nil,Rows.uptoBulkAll] at hb
 have h0:=hf 0 _ rfl
 have h1:=hf 1 _ rfl
 have h2:=hf 2 _ rfl
 have h3:=hf 3 _ rfl
 have h4:=hf 4 _ rfl
 have h5:=hf 5 _ rfl
 have h6:=hf 6 _ rfl
 have h7:=hf 7 _ rfl
 have h8:=hf 8 _ rfl
 have h9:=hf 9 _ rfl
 obtain ⟨a,⟨e0,_⟩,_⟩:=opn_int underlying3 _ _ _ h0
 have e0':[c0]=[.int .i64 a]:=e0
 obtain ⟨b,⟨e1,_⟩,_⟩:=opn_int underlying3 _ _ _ h1
 have e1':[c1]=[.int .i64 b]:=e1
 obtain ⟨c,⟨e2,_⟩,_⟩:=opn_int underlying3 _ _ _ h2
 have e2':[c2]=[.int .i64 c]:=e2
 obtain ⟨d,⟨e3,_⟩,_⟩:=opn_int underlying3 _ _ _ h3
 have e3':[c3]=[.int .i64 d]:=e3
 obtain ⟨ents,⟨v4,e4,r4⟩,s4⟩:=opn_listB (c:=16) (B:=B) underlying22 (by kernel_rfl) opn_en (by omega) _ _ _ h4 (by omega)
 have e4':[c4]=[v4]:=e4
 obtain ⟨stms,⟨v5,e5,r5⟩,s5⟩:=opn_listB (c:=2) (B:=B) underlying23 (by kernel_rfl) opn_stm (by omega) _ _ _ h5 (by omega)
 have e5':[c5]=[v5]:=e5
 obtain ⟨tabs,⟨v6,e6,r6⟩,s6⟩:=opn_listB (c:=2) (B:=B) underlying24 (by kernel_rfl) opn_tv (by omega) _ _ _ h6 (by omega)
 have e6':[c6]=[v6]:=e6
 obtain ⟨pla,⟨v7,e7,r7⟩,s7⟩:=opn_listB (c:=6) (B:=B) underlying25 (by kernel_rfl) opn_hold (by omega) _ _ _ h7 (by omega)
 have e7':[c7]=[v7]:=e7
 obtain ⟨pol,⟨v8,e8,r8⟩,s8⟩:=opn_listB (c:=2) (B:=B) underlying26 (by kernel_rfl) opn_pol (by omega) _ _ _ h8 (by omega)
 have e8':[c8]=[v8]:=e8
 obtain ⟨hor,⟨v9,e9,r9⟩,s9⟩:=opn_listB (c:=2) (B:=B) underlying27 (by kernel_rfl) opn_hor (by omega) _ _ _ h9 (by omega)
 have e9':[c9]=[v9]:=e9
 simp only [List.cons.injEq,and_true] at e0' e1' e2' e3' e4' e5' e6' e7' e8' e9'
 subst e0'
 subst e1'
 subst e2'
 subst e3'
 subst e4'
 subst e5'
 subst e6'
 subst e7'
 subst e8'
 subst e9'
 obtain ⟨hr4,hi4⟩:=rdE_of r4
 obtain ⟨A4,q4,rfl⟩:=rdE_slice hr4
 have z4:=szL_len (sz:=REn.sz) (fun a=>by unfold REn.sz;omega) ents
 obtain ⟨hr5,hi5⟩:=rdE_of r5
 obtain ⟨A5,q5,rfl⟩:=rdE_slice hr5
 have z5:=szL_len (sz:=(fun _:Stm=>1)) (fun a=>by exact Nat.le_refl _) stms
 obtain ⟨hr6,hi6⟩:=rdE_of r6
 obtain ⟨A6,q6,rfl⟩:=rdE_slice hr6
 have z6:=szL_len (sz:=RTv.sz) (fun a=>by unfold RTv.sz;omega) tabs
 obtain ⟨hr7,hi7⟩:=rdE_of r7
 obtain ⟨A7,q7,rfl⟩:=rdE_slice hr7
 have z7:=szL_len (sz:=(fun _:Hld=>1)) (fun a=>by exact Nat.le_refl _) pla
 obtain ⟨hr8,hi8⟩:=rdE_of r8
 obtain ⟨A8,q8,rfl⟩:=rdE_slice hr8
 have z8:=szL_len (sz:=(fun _:Pol=>1)) (fun a=>by exact Nat.le_refl _) pol
 obtain ⟨hr9,hi9⟩:=rdE_of r9
 obtain ⟨A9,q9,rfl⟩:=rdE_slice hr9
 have z9:=szL_len (sz:=(fun _:Hor=>1)) (fun a=>by exact Nat.le_refl _) hor
 refine ⟨⟨a,b,c,d,A4,q4,ents,A5,q5,stms,A6,q6,tabs,A7,q7,pla,A8,q8,pol,A9,q9,hor⟩,⟨rfl,⟨hr4,fun x hx=>?_,hr5,hr6,fun x hx=>(hi6 x hx).1,hr7,hr8,hr9⟩,⟨by dsimp only;omega,by dsimp only;omega,by dsimp only;omega,by dsimp only;omega,by dsimp only;omega,by dsimp only;omega,fun x hx=>?_,fun x hx e he=>?_,fun x hx=>(hi4 x hx).2.2.2,hi7,hi8,hi9,by dsimp only;omega,by dsimp only;omega,fun x hx=>(hi6 x hx).2⟩⟩,bulk_one _⟩
 ·have h1:REn.sz x≤szL REn.sz ents:=szL_mem hx
  have h2:=REn.sz_few (x:=x) (n:=10000000000) (by omega)
  exact ⟨(hi4 x hx).1,h2.1,(hi4 x hx).2.2.1⟩
 ·have h1:RTv.sz x≤szL RTv.sz tabs:=szL_mem hx
  exact RTv.sz_few (d:=x) (n:=1048576) (by omega)
 ·have h1:REn.sz x≤szL REn.sz ents:=szL_mem hx
  exact ⟨(hi4 x hx).2.1 e he,(REn.sz_few (x:=x) (n:=1048576) (by omega)).2 e he⟩
theorem open_state {b0:Nat} {r:Reach} {v:Value} {d:DataW H} {ps:List MemPlace} (hval:Value.okWide prog w r b0 29 v) (h:DataW.Trod enc prog w 0 (fun _=>true) true 29 v d ps) (hd:Rows.uptoBulk d≤1048576):
  ∃c:RSt,v=.agg c.enc.toArray∧c.is w (ltw w)∧c.lim w:=by
 obtain ⟨a,rfl,_⟩:=okWide_struct underlying29 hval
 obtain ⟨fuel,hf⟩:=h
 obtain ⟨c,⟨e,h1,h2⟩,_⟩:=opn_state (Nat.le_refl _) fuel _ _ hf hd
 refine ⟨c,?_,h1,h2⟩
 simp only [Value.cells] at e
 rw [←e,Array.toArray_toList]
end
end
section
open Go.RowKit Go.Lib Go.IntWalk Go.Sort Go.Shelf
def ordF {α:Type} (ok:α→Int) (le:α→α→Bool) (la:α→Int):Option α→List α→Int
 |_,[]=>0
 |p,x::r=>if ok x≠0 then ok x else if (match p with|some y=>le x y|none=>false)=true then 9 else if la x≠0 then la x else ordF ok le la (some x) r
def prevA {α:Type} (l:List α) (k:Nat):Option α:=if k=0 then none else l[k-1]?
def plA {α:Type} (le:α→α→Bool) (x:α) (p:Option α):Bool:=match p with|some y=>le x y|none=>false
theorem ordF_cons {α:Type} {ok:α→Int} {le:α→α→Bool} {la:α→Int} {p:Option α} {x:α} {r:List α}:ordF ok le la p (x::r)=if ok x≠0 then ok x else if plA le x p=true then 9 else if la x≠0 then la x else ordF ok le la (some x) r:=by
 cases p<;>rfl
theorem prevA_succ {α:Type} {l:List α} {k:Nat} (h:k<l.length):prevA l (k+1)=some l[k]:=by
 unfold prevA;rw [if_neg (Nat.succ_ne_zero k),Nat.add_sub_cancel,List.getElem?_eq_getElem h]
theorem ordF_facts {α:Type} {ok:α→Int} {le:α→α→Bool} {la:α→Int} {p:Option α} {l:List α} {k:Nat} {E:Int} (h:k<l.length) (hE:ordF ok le la p (l.drop k)=E):
  (ok l[k]≠0→E=ok l[k])∧(ok l[k]=0→plA le l[k] p=true→E=9)∧(ok l[k]=0→plA le l[k] p=false→la l[k]≠0→E=la l[k])∧(ok l[k]=0→plA le l[k] p=false→la l[k]=0→ordF ok le la (prevA l (k+1)) (l.drop (k+1))=E):=by
 rw [List.drop_eq_getElem_cons h,ordF_cons] at hE
 rw [prevA_succ h]
 refine ⟨fun h1=>?_,fun h1 h2=>?_,fun h1 h2 h3=>?_,fun h1 h2 h3=>?_⟩<;>simp_all
theorem ordF_end {α:Type} {ok:α→Int} {le:α→α→Bool} {la:α→Int} {p:Option α} {l:List α} {k:Nat} (h:l.length≤k):ordF ok le la p (l.drop k)=0:=by
 rw [List.drop_of_length_le h];rfl
theorem if_ne0 {E r rs c:Int} (h:rs=if E≠0 then E else r) (he:E=c) (hc:c≠0):rs=c:=by rw [h,he,if_pos hc]
theorem if_eq0 {E r rs:Int} (h:rs=if E≠0 then E else r) (he:E=0):rs=r:=by rw [h,he];rfl
def enE (x:REn):Int:=if x.ok=true then 0 else 8
def stmOk (x:Stm):Bool:=instB x.time&&decide (0≤x.wall∧x.wall≤x.time)
def stmE (x:Stm):Int:=if stmOk x=true then 0 else 6
def tvE (x:RTv):Int:=if nmB x.table=true then 0 else 8
def entsF (l:List REn):Int:=ordF enE (fun x y=>decide (x.time<y.time)) (fun _=>0) none l
def stmsF (l:List Stm):Int:=ordF stmE (fun x y=>decide (x.time≤y.time)) (fun _=>0) none l
def tabsF (l:List RTv):Int:=ordF tvE (fun x y=>bleS x.table y.table) (fun x=>chkFrom none (x.vers.map (·.2))) none l
def stateF (c:RSt):Int:=
 if (decide (0≤c.tx∧c.tx≤1125899906842624)&&(decide (1≤c.next∧c.next≤1125899906842624)&&(instB c.time&&decide (0≤c.wall∧c.wall≤c.time))))=false then 6
 else if entsF c.ents≠0 then entsF c.ents else if stmsF c.stms≠0 then stmsF c.stms else if tabsF c.tabs≠0 then tabsF c.tabs else if holdsF c.pla≠0 then holdsF c.pla else restF c.pol c.hor
theorem checkState_any (c:RSt) (w:World) (hc:c.is w (ltw w)):Calls prog 46 #[.agg c.enc.toArray] w fun e w'=>e=.returned (.int .i64 (stateF c))∧Bl w w':=by
 have HI0:=hI0 hc
 obtain ⟨rs,hrs⟩:=eN0 (stateF c)
 rw [←hrs]
 unfold stateF at hrs
 obtain ⟨tx,tm,wa,nx,eA,eC,ents,sA,sC,stms,tA,tC,tabs,pA,pC,pla,qA,qC,pol,hA,hC2,hor⟩:=c
 simp only at hrs
 have HI:Hid (RSt.is w (ltw w) ⟨tx,tm,wa,nx,eA,eC,ents,sA,sC,stms,tA,tC,tabs,pA,pC,pla,qA,qC,pol,hA,hC2,hor⟩):=HI0
 obtain ⟨r4,hr4⟩:=eN0 (if holdsF pla≠0 then holdsF pla else restF pol hor)
 obtain ⟨E3,hE3⟩:=eN0 (tabsF tabs)
 obtain ⟨r3,hr3⟩:=eN0 (if E3≠0 then E3 else r4)
 obtain ⟨E2,hE2⟩:=eN0 (stmsF stms)
 obtain ⟨r2,hr2⟩:=eN0 (if E2≠0 then E2 else r3)
 obtain ⟨E1,hE1⟩:=eN0 (entsF ents)
 rw [←hE1,←hE2,←hE3,←hr4,←hr3,←hr2] at hrs
 have HE1:=hI0 hE1
 have HE2:=hI0 hE2
 have HE3:=hI0 hE3
 have HR2:=hI0 hr2
 have HR3:=hI0 hr3
 have HR4:=hI0 hr4
 have HR:=hI0 hrs
 obtain ⟨a1,a2⟩:=hc.ents.bd
 obtain ⟨b1,b2⟩:=hc.stms.bd
 obtain ⟨d1,d2⟩:=hc.tabs.bd
 simp only at a1 a2 b1 b2 d1 d2
 show Calls prog 46 #[.agg #[.int .i64 tx,.int .i64 tm,.int .i64 wa,.int .i64 nx,.slice eA ents.length eC,.slice sA stms.length sC,.slice tA tabs.length tC,.slice pA pla.length pC,.slice qA pol.length qC,.slice hA hor.length hC2]] w _
 obtain ⟨W,hW⟩:=eN0 (w.alloc (.cells #[.int .i64 tx,.int .i64 tm,.int .i64 wa,.int .i64 nx,.slice eA ents.length eC,.slice sA stms.length sC,.slice tA tabs.length tC,.slice pA pla.length pC,.slice qA pol.length qC,.slice hA hor.length hC2] 29))
 have hbW:=bN0 hW
 have hT:=hN0 hW
 have HBW:=hI0 hbW
 have HT:=hI0 hT
 obtain ⟨v1,hv1⟩:=eN0 (decide (0≤tx∧tx≤1125899906842624))
 obtain ⟨v2,hv2⟩:=eN0 (decide (1≤nx∧nx≤1125899906842624))
 obtain ⟨v3,hv3⟩:=eN0 (instB tm)
 obtain ⟨v4,hv4⟩:=eN0 (decide (0≤wa∧wa≤tm))
 have K1:=within_any tx 0 1125899906842624 W
 have K2:=within_any nx 1 1125899906842624 W
 have K3:=instant_any tm W
 have K4:=within_any wa 0 tm W
 rw [←hv1] at K1 HR
 rw [←hv2] at K2 HR
 rw [←hv3] at K3 HR
 rw [←hv4] at K4 HR
 obtain ⟨c0,c1,c2,c3,c4,_⟩:=cX10 hT
 clear hbW hT hv1 hv2 hv3 hv4 hrs hc HI0 hE1 hE2 hE3 hr2 hr3 hr4
 go_in
 go_wp2_with fail
 rw [←hW]
 clear hW
 (with_reducible refine K1.mono ?_)
 rintro _ z1 ⟨rfl,hz⟩
 rw [hz]
 clear hz z1 K1
 cases v1
 case false=>
  exact zq32
 case true=>
  go_wp2_with fail
  (with_reducible refine K2.mono ?_)
  rintro _ z1 ⟨rfl,hz⟩
  rw [hz]
  clear hz z1 K2
  cases v2
  case false=>
   exact zq32
  case true=>
   go_wp2_with fail
   (with_reducible refine K3.mono ?_)
   rintro _ z1 ⟨rfl,hz⟩
   rw [hz]
   clear hz z1 K3
   cases v3
   case false=>
    exact zq32
   case true=>
    go_wp2_with fail
    (with_reducible refine K4.mono ?_)
    rintro _ z1 ⟨rfl,hz⟩
    rw [hz]
    clear hz z1 K4
    cases v4
    case false=>
     exact zq32
    case true=>
     go_wp2_with fail
     have HRS1:Hid (rs=if E1≠0 then E1 else r2):=hI0 (by rw [HR.out];exact if_neg (by simp))
     have HBx:=HBW
     have HTx:=HT
     clear c0 c1 c2 c3 c4 HR
     go_loopw [38] (fun i wr=>∃k:Nat,i=.int .i64 (k:Int)∧k≤ents.length∧Hid (ordF enE (fun x y=>decide (x.time<y.time)) (fun _=>0) (prevA ents k) (ents.drop k)=E1)∧Hid (Bl w wr)∧Hid (wr.heap[w.heap.size]? =some (.cells #[.int .i64 tx,.int .i64 tm,.int .i64 wa,.int .i64 nx,.slice eA ents.length eC,.slice sA stms.length sC,.slice tA tabs.length tC,.slice pA pla.length pC,.slice qA pol.length qC,.slice hA hor.length hC2] 29 (0,0)))) (fun i _=>ents.length-(intOf i).toNat)
     case atStart=>exact ⟨0,rfl,Nat.zero_le _,hI0 HE1.out.symm,HBx,HTx⟩
     case round=>
      clear HBx HTx
      obtain ⟨k,rfl,hk,HG,HB,HTB⟩:=hrel
      obtain ⟨wi,rfl⟩:=eN0 wr
      by_cases hlt:k<ents.length
      case pos=>
       exact zq13 0
      case neg=>
       have hlt2:¬(k:Int)<(ents.length:Int):=by omega
       have hE0:E1=0:=by
        have h:=HG.out
        rw [ordF_end (by omega)] at h
        exact h.symm
       have HRS2:Hid (rs=if E2≠0 then E2 else r3):=hI0 (by rw [if_eq0 HRS1.out hE0,HR2.out])
       have c5:=cW1 5 HTB.out rfl
       have HBx:=HB
       have HTx:=HTB
       go_wp2_with fail
       clear c5 hlt2 hlt hE0 HG HB HTB hk
       go_loopw [64] (fun i wr=>∃k:Nat,i=.int .i64 (k:Int)∧k≤stms.length∧Hid (ordF stmE (fun x y=>decide (x.time≤y.time)) (fun _=>0) (prevA stms k) (stms.drop k)=E2)∧Hid (Bl w wr)∧Hid (wr.heap[w.heap.size]? =some (.cells #[.int .i64 tx,.int .i64 tm,.int .i64 wa,.int .i64 nx,.slice eA ents.length eC,.slice sA stms.length sC,.slice tA tabs.length tC,.slice pA pla.length pC,.slice qA pol.length qC,.slice hA hor.length hC2] 29 (0,0)))) (fun i _=>stms.length-(intOf i).toNat)
       case atStart=>exact ⟨0,rfl,Nat.zero_le _,hI0 HE2.out.symm,HBx,HTx⟩
       case round=>
        clear HBx HTx
        obtain ⟨k,rfl,hk,HG,HB,HTB⟩:=hrel
        obtain ⟨wi,rfl⟩:=eN0 wr
        by_cases hlt:k<stms.length
        case pos=>
         exact zq13 1
        case neg=>
         have hlt2:¬(k:Int)<(stms.length:Int):=by omega
         have hE0:E2=0:=by
          have h:=HG.out
          rw [ordF_end (by omega)] at h
          exact h.symm
         have HRS3:Hid (rs=if E3≠0 then E3 else r4):=hI0 (by rw [if_eq0 HRS2.out hE0,HR3.out])
         have c6:=cW1 6 HTB.out rfl
         have HBx:=HB
         have HTx:=HTB
         go_wp2_with fail
         clear c6 hlt2 hlt hE0 HG HB HTB hk
         go_loopw [99] (fun i wr=>∃k:Nat,i=.int .i64 (k:Int)∧k≤tabs.length∧Hid (ordF tvE (fun x y=>bleS x.table y.table) (fun x=>chkFrom none (x.vers.map (·.2))) (prevA tabs k) (tabs.drop k)=E3)∧Hid (Bl w wr)∧Hid (wr.heap[w.heap.size]? =some (.cells #[.int .i64 tx,.int .i64 tm,.int .i64 wa,.int .i64 nx,.slice eA ents.length eC,.slice sA stms.length sC,.slice tA tabs.length tC,.slice pA pla.length pC,.slice qA pol.length qC,.slice hA hor.length hC2] 29 (0,0)))) (fun i _=>tabs.length-(intOf i).toNat)
         case atStart=>exact ⟨0,rfl,Nat.zero_le _,hI0 HE3.out.symm,HBx,HTx⟩
         case round=>
          clear HBx HTx
          obtain ⟨k,rfl,hk,HG,HB,HTB⟩:=hrel
          obtain ⟨wi,rfl⟩:=eN0 wr
          by_cases hlt:k<tabs.length
          case pos=>
           have hlt2:(k:Int)<(tabs.length:Int):=by omega
           obtain ⟨b,off,rfl,hF,hcl⟩:=RdE.at_ (K:=2) (enc:=RTv.enc) (fun _=>rfl) (by omega) (HI.out.tabs.below HB.out) hlt
           have HCL:Hid (∀i (hi:i<tabs.length) j u,j<2→(RTv.enc tabs[i])[j]? =some u→wi.cell? ⟨b,off+i*2+j,none⟩=some u):=hI0 hcl
           have HBL0:Hid (b<wi.heap.size):=hI0 hF
           have HLK:=hI0 hlt
           obtain ⟨f1,f2,f3,f4⟩:=ordF_facts hlt HG.out
           have hxi:=HI.out.tabI _ (List.getElem_mem hlt)
           obtain ⟨x,hx⟩:=eN0 (tabs[k]'hlt)
           have hcx:∀j u,j<2→(RTv.enc x)[j]? =some u→wi.cell? ⟨b,off+k*2+j,none⟩=some u:=fun j u hj hu=>HCL.out k hlt j u hj (by subst hx;exact hu)
           rw [←hx] at f1 f2 f3 f4 hxi
           obtain ⟨po,hpo⟩:=eN0 (plA (fun x y=>bleS x.table y.table) x (prevA tabs k))
           rw [←hpo] at f2 f3 f4
           clear hx hcl hF
           have KN:=fun V=>word_any x.table V
           obtain ⟨vn,hvn⟩:=eN0 (nmB x.table)
           rw [←hvn] at KN
           have hok:tvE x=if vn=true then 0 else 8:=by rw [hvn];rfl
           rw [hok] at f1 f2 f3 f4
           have KVX:Hid (∀V,Bl w V→Calls prog 87 #[.slice x.A x.vers.length x.C] V fun e w'=>e=.returned (.int .i64 (chkFrom none (x.vers.map (·.2))))∧Bl V w'):=hI0 (fun V hV=>checkVersions_any _ x.vers V (hxi.below hV))
           obtain ⟨de,hde⟩:=eN0 (chkFrom none (x.vers.map (·.2)))
           rw [←hde] at KVX f3 f4
           clear hvn hok hde hxi
           obtain ⟨dn,oA,oc,ops⟩:=x
           simp only at KN KVX
           have HF1:=hI0 f1
           have HF2:=hI0 f2
           have HF3:=hI0 f3
           have HF4:=hI0 f4
           have HPO:=hI0 hpo
           obtain ⟨g0,g1⟩:=cK2 hcx (show _=[.string dn,.slice oA ops.length oc] from rfl)
           obtain ⟨W1,hW1⟩:=eN0 (wi.alloc (.cells #[.string dn,.slice oA ops.length oc] 37))
           have hb1:=bN0 hW1
           have hX1:=hN0 hW1
           have HX1:=hI0 hX1
           have HL1:Hid (wi.heap.size<W1.heap.size):=hI0 (by rw [hW1];simp)
           have HB1i:=hI0 hb1
           have HB1:=bT0 HB hb1
           have HTB1:=hI0 ((hb1.block w.heap.size (gL0 HTB.out)).trans HTB.out)
           clear hcx hb1 hX1 f1 f2 f3 f4 hpo
           go_upto_region 22 with (fail)
           rw [←hW1]
           clear hW1 g0 g1
           have g0:=cW1 0 HX1.out rfl
           have KN:=KN W1
           go_wp2_with fail
           (with_reducible refine KN.mono ?_)
           rintro _ y1 ⟨rfl,hz⟩
           have HBI:=bT0 HB1i hz
           have HBY:=bT0 HB1 hz
           have HTD:=hI0 ((hz.block _ HL1.out).trans HX1.out)
           have HTB2:=hI0 ((hz.block w.heap.size (gL0 HTB1.out)).trans HTB1.out)
           clear hz KN g0
           cases vn
           case false=>
            have HF:Hid (rs=8):=hI0 (if_ne0 HRS3.out (HF1.out (by decide)) (by decide))
            go_wp2_with fail
            go_ret
            exact ⟨by rw [HF.out];rfl,HBY.out⟩
           case true=>
            have HBXL:Hid (w.heap.size<y1.heap.size):=hI0 (gL0 HTB2.out)
            have HTL:Hid (wi.heap.size<y1.heap.size):=hI0 (gL0 HTD.out)
            go_upto_region 24 with (fail)
            by_cases hk0:k=0
            case pos=>
             exact zq15 0
            case neg=>
             obtain ⟨m,rfl⟩:∃m,k=m+1:=⟨k-1,by omega⟩
             have hml:m<tabs.length:=by omega
             obtain ⟨y,hy⟩:=eN0 (tabs[m])
             have hcy:=HCL.out m hml
             have hpo:=HPO.out
             rw [prevA_succ hml,←hy] at hpo
             rw [←hy] at hcy
             clear hy
             obtain ⟨yn,yA,yc,yo⟩:=y
             have HP2:Hid (po=bleS dn yn):=hI0 hpo
             have p0:y1.cell? ⟨b,off+m*2,none⟩=some (.string yn):=(World.cell?_of_block (HBI.out.block b HBL0.out)).trans (hcy 0 _ (by decide) rfl)
             have HBL:Hid (b<y1.heap.size):=hI0 (Nat.lt_of_lt_of_le HBL0.out HBI.out.size)
             have hm63:m≤9223372036854775807:=by omega
             have hm64:(m:Int)≤9223372036854775807:=by omega
             have hm65: -9223372036854775808≤(m:Int):=by omega
             clear hcy hpo HPO
             rcases hlt1:Go.Op.bytesLess dn.toList yn.toList with _|_<;>rcases heq1:(dn.toList==yn.toList) with _|_
             all_goals
              have HLE:Hid (bleS dn yn=(Go.Op.bytesLess dn.toList yn.toList||(dn.toList==yn.toList))):=hI0 rfl
              rw [hlt1,heq1] at HLE
              refine rB0 y1 (fun zh=>?_)
              refine hT 0 108 ?_
              refine hU 1 109 (v:=?_) zh ?_ ?_
              rotate_left
              ·exact zq37
              refine hT 2 110 ?_
              refine hT 3 111 ?_
              refine hU 4 112 (v:=?_) zh ?_ ?_
              rotate_left
              ·exact zq36
              refine hT 5 113 ?_
              refine hU 6 114 (v:=?_) zh ?_ ?_
              rotate_left
              ·intro w' hSw;(try dsimp only at hSw);have q:=(World.cell?_of_block (hSw.block _ HBXL.out)).trans (cW0 y1 w.heap.size 6 _ _ _ HTB2.out);go_simp<;>with_reducible rfl
              refine hT 7 115 ?_
              refine hU 8 116 (v:=?_) zh ?_ ?_
              rotate_left
              ·exact zq27
              refine hT 9 117 ?_
              refine hT 10 118 ?_
              refine hU 11 119 (v:=?_) zh ?_ ?_
              rotate_left
              ·exact zq38
              refine hT 12 120 ?_
              refine hT 13 121 ?_
              refine rD0 ?_
              clear zh p0
             case false.false=>
              exact zq15 1
             all_goals
              have HPT:Hid (po=true):=hI0 (by rw [HP2.out];exact HLE.out)
              have HF:Hid (rs=9):=hI0 (if_ne0 HRS3.out (HF2.out rfl HPT.out) (by decide))
              go_wp2_with fail
              go_ret
              exact ⟨by rw [HF.out];rfl,HBY.out.drew⟩
          have hlt2:¬(k:Int)<(tabs.length:Int):=by omega
          have hE0:E3=0:=by
           have h:=HG.out
           rw [ordF_end (by omega)] at h
           exact h.symm
          have KH:=checkHolds_any _ pla wi (HI.out.pla.below HB.out)
          have KR:=fun V (h:Bl w V)=>checkRest_any _ _ pol hor V (HI.out.pol.below h) (HI.out.hor.below h)
          obtain ⟨h1,hh1⟩:=eN0 (holdsF pla)
          rw [←hh1] at KH
          have HR5:Hid (rs=if h1≠0 then h1 else restF pol hor):=hI0 (by rw [if_eq0 HRS3.out hE0,HR4.out,←hh1])
          clear hh1
          have c7:=cW1 7 HTB.out rfl
          go_wp2_with fail
          (with_reducible refine KH.mono ?_)
          rintro _ y1 ⟨rfl,hz⟩
          have HB1:=bT0 HB hz
          have HTB1:=hI0 ((hz.block w.heap.size (gL0 HTB.out)).trans HTB.out)
          clear hz KH c7 hlt2
          by_cases e1:h1=0
          case neg=>
           have HF:Hid (rs=h1):=hI0 (by rw [HR5.out,if_pos e1])
           go_wp2_with fail
           go_ret
           exact ⟨by rw [HF.out];rfl,HB1.out⟩
          have HR6:Hid (rs=restF pol hor):=hI0 (by rw [HR5.out,if_neg (by simpa using e1)])
          subst e1
          have c8:=cW1 8 HTB1.out rfl
          have c9:=cW1 9 HTB1.out rfl
          have KR:=KR y1 HB1.out
          go_wp2_with fail
          (with_reducible refine KR.mono ?_)
          rintro _ y3 ⟨rfl,hz⟩
          have HB3:=bT0 HB1 hz
          clear hz KR c8 c9
          go_wp2_with fail
          go_ret
          exact ⟨by rw [HR6.out];rfl,HB3.out⟩
end
end Go.Proofs.YtgfhknnklapldaaGreatDoor
