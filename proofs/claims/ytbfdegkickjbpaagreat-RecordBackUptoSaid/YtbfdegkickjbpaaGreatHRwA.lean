/-
 RwA
-/
import Derived.Test.YtbfdegkickjbpaaGreatHRcG
namespace Go.Proofs.YtbfdegkickjbpaaGreat
set_option maxRecDepth 1000000
set_option maxHeartbeats 32000000
open Go.RowKit Go.Lib Go.IntWalk Go.Sort Go.Shelf
theorem zq10 {P:Prop} (i:Nat) (h:Tg i→P:=by
 intro zT10
 have hBl:=h.lt
 obtain ⟨hc1,hc2⟩:=RdE.bd hv
 have HLn:=hI0 hl
 have HV:=hI0 hv
 have HONE:=hI0 hone
 clear hl hv hone
 have KI:=bufInt_any base B l xs.length w hbB h (by omega) (by omega) (by have:=HLn.out;simp only [List.length_append] at this ⊢;omega)
 first
  |guard_hyp zT10:Tg 5
   go_enter Tryz.func206,Tryz.ntmps206
  |guard_hyp zT10:Tg 4
   go_enter Tryz.func154,Tryz.ntmps154
  |guard_hyp zT10:Tg 3
   go_enter Tryz.func49,Tryz.ntmps49
  |guard_hyp zT10:Tg 2
   go_enter Tryz.func51,Tryz.ntmps51
  |guard_hyp zT10:Tg 1
   go_enter Tryz.func209,Tryz.ntmps209
  |go_enter Tryz.func47,Tryz.ntmps47
 go_wp2_with fail
 (with_reducible refine KI.mono ?_)
 rintro _ w1 ⟨rfl,hA1,hb1,hk1⟩
 have HA1:Hid (BufAt w1 base B (l++encI xs.length++(xs.take 0).flatMap en)):=hI0 (by simpa using hA1)
 have HB1:=hI0 hb1
 have HK1:=hI0 hk1
 clear KI h hA1 hb1 hk1
 go_wp2_with fail
 go_loopw [16] (fun i wr=>∃k:Nat,i=.int .i64 (k:Int)∧k≤xs.length∧Hid (BufAt wr base B (l++encI xs.length++(xs.take k).flatMap en))∧Hid (Below base w wr)∧Hid (KeepO B w wr)) (fun i _=>xs.length-(intOf i).toNat)
 case atStart=>exact ⟨0,rfl,Nat.zero_le _,HA1,HB1,HK1⟩
 obtain ⟨k,rfl,hk,HI,HB,HK⟩:=hrel
 obtain ⟨wo,rfl⟩:∃wo:World,wo=wr:=⟨_,rfl⟩
 have hBo:=HI.out.lt
 by_cases hlt:k<xs.length
 case neg=>
  exact zq53
 have hlti:(k:Int)<(xs.length:Int):=by omega
 first
  |guard_hyp zT10:Tg 5
   obtain ⟨b,off,rfl,hF,hcl⟩:=RdE.at_ (K:=3) (enc:=RCol.enc) (fun _=>rfl) (by omega) (HV.out.keep (Keeps.below HB.out)) hlt
  |guard_hyp zT10:Tg 4
   obtain ⟨b,off,rfl,hF,hcl⟩:=RdE.at_ (K:=3) (enc:=RF.enc) (fun _=>rfl) (by omega) (HV.out.keep (Keeps.below HB.out)) hlt
  |guard_hyp zT10:Tg 3
   obtain ⟨b,off,rfl,hF,hcl⟩:=RdE.at_ (K:=3) (enc:=RDl.enc) (fun _=>rfl) (by omega) (HV.out.keep (Keeps.below HB.out)) hlt
  |guard_hyp zT10:Tg 2
   obtain ⟨b,off,rfl,hF,hcl⟩:=RdE.at_ (K:=6) (enc:=Hld.enc) (fun _=>rfl) (by omega) (HV.out.keep (Keeps.below HB.out)) hlt
  |guard_hyp zT10:Tg 1
   obtain ⟨b,off,rfl,hF,hcl⟩:=RdE.at_ (K:=7) (enc:=RE.enc) RE.enc_length (by omega) (HV.out.keep (Keeps.below HB.out)) hlt
  |obtain ⟨b,off,rfl,hF,hcl⟩:=RdE.at_ (K:=16) (enc:=REn.enc) (fun _=>rfl) (by omega) (HV.out.keep (Keeps.below HB.out)) hlt
 have hcx:=hcl k hlt
 have hmem:=List.getElem_mem hlt
 have hsn:=flat_snoc en hlt
 have hle:=flat_le en hlt
 obtain ⟨x,hx⟩:∃x,x=xs[k]:=⟨_,rfl⟩
 rw [←hx] at hcx hmem hsn hle
 have HSN:=hI0 hsn
 have HL2:Hid ((l++encI xs.length++(xs.take k).flatMap en++en x).length+4000≤140737488300000):=hI0 (by
  have:=HLn.out
  simp only [List.length_append] at this ⊢
  omega)
 clear hcl hx hF hsn hle
 first
  |guard_hyp zT10:Tg 5
   obtain ⟨s1,n1,b1⟩:=x
   have g0:wo.cell? ⟨b,off+k*3,none⟩=some (.string s1):=hcx 0 _ (by decide) rfl
   have g1:wo.cell? ⟨b,off+k*3+1,none⟩=some (.int .i64 n1):=hcx 1 _ (by decide) rfl
   have g2:wo.cell? ⟨b,off+k*3+2,none⟩=some (.bool b1):=hcx 2 _ (by decide) rfl
   obtain ⟨W1,hW1⟩:∃W1,W1=wo.alloc (.cells #[.string s1,.int .i64 n1,.bool b1] 77):=⟨_,rfl⟩
  |guard_hyp zT10:Tg 4
   obtain ⟨rA,rn,rc,row,n1,n2⟩:=x
   have g0:wo.cell? ⟨b,off+k*3,none⟩=some (.slice rA rn rc):=hcx 0 _ (by decide) rfl
   have g1:wo.cell? ⟨b,off+k*3+1,none⟩=some (.int .i64 n1):=hcx 1 _ (by decide) rfl
   have g2:wo.cell? ⟨b,off+k*3+2,none⟩=some (.int .i64 n2):=hcx 2 _ (by decide) rfl
   obtain ⟨W1,hW1⟩:∃W1,W1=wo.alloc (.cells #[.slice rA rn rc,.int .i64 n1,.int .i64 n2] 68):=⟨_,rfl⟩
  |guard_hyp zT10:Tg 3
   obtain ⟨dn,cA,cc,cl,oA,oc,ops⟩:=x
   have g0:wo.cell? ⟨b,off+k*3,none⟩=some (.string dn):=hcx 0 _ (by decide) rfl
   have g1:wo.cell? ⟨b,off+k*3+1,none⟩=some (.slice cA cl.length cc):=hcx 1 _ (by decide) rfl
   have g2:wo.cell? ⟨b,off+k*3+2,none⟩=some (.slice oA ops.length oc):=hcx 2 _ (by decide) rfl
   obtain ⟨W1,hW1⟩:∃W1,W1=wo.alloc (.cells #[.string dn,.slice cA cl.length cc,.slice oA ops.length oc] 63):=⟨_,rfl⟩
  |guard_hyp zT10:Tg 2
   obtain ⟨s1,s2,n1,n2,n3,n4⟩:=x
   have g0:wo.cell? ⟨b,off+k*6,none⟩=some (.string s1):=hcx 0 _ (by decide) rfl
   have g1:wo.cell? ⟨b,off+k*6+1,none⟩=some (.string s2):=hcx 1 _ (by decide) rfl
   have g2:wo.cell? ⟨b,off+k*6+2,none⟩=some (.int .i64 n1):=hcx 2 _ (by decide) rfl
   have g3:wo.cell? ⟨b,off+k*6+3,none⟩=some (.int .i64 n2):=hcx 3 _ (by decide) rfl
   have g4:wo.cell? ⟨b,off+k*6+4,none⟩=some (.int .i64 n3):=hcx 4 _ (by decide) rfl
   have g5:wo.cell? ⟨b,off+k*6+5,none⟩=some (.int .i64 n4):=hcx 5 _ (by decide) rfl
   obtain ⟨W1,hW1⟩:∃W1,W1=wo.alloc (.cells #[.string s1,.string s2,.int .i64 n1,.int .i64 n2,.int .i64 n3,.int .i64 n4] 109):=⟨_,rfl⟩
  |guard_hyp zT10:Tg 1
   obtain ⟨op,it,⟨vk,vi,vs⟩,nm,aA,ac,args⟩:=x
   have g0:wo.cell? ⟨b,off+k*7,none⟩=some (.int .i64 op):=hcx 0 _ (by decide) rfl
   have g1:wo.cell? ⟨b,off+k*7+1,none⟩=some (.int .i64 it):=hcx 1 _ (by decide) rfl
   have g2:wo.cell? ⟨b,off+k*7+2,none⟩=some (.int .i64 vk):=hcx 2 _ (by decide) rfl
   have g3:wo.cell? ⟨b,off+k*7+3,none⟩=some (.int .i64 vi):=hcx 3 _ (by decide) rfl
   have g4:wo.cell? ⟨b,off+k*7+4,none⟩=some (.string vs):=hcx 4 _ (by decide) rfl
   have g5:wo.cell? ⟨b,off+k*7+5,none⟩=some (.string nm):=hcx 5 _ (by decide) rfl
   have g6:wo.cell? ⟨b,off+k*7+6,none⟩=some (.slice aA args.length ac):=hcx 6 _ (by decide) rfl
   obtain ⟨W1,hW1⟩:∃W1,W1=wo.alloc (.cells #[.int .i64 op,.int .i64 it,.int .i64 vk,.int .i64 vi,.string vs,.string nm,.slice aA args.length ac] 212):=⟨_,rfl⟩
  |obtain ⟨tm,tb,⟨nm,colA,colC,cols,keyA,keyC,key,forA,forC,fors,chkA,chkC,chks⟩,⟨x1,x2,x3,x4,x5,x6,⟨x7,x8,x9⟩⟩⟩:=x
   have g0:wo.cell? ⟨b,off+k*16,none⟩=some (.int .i64 tm):=hcx 0 _ (by decide) rfl
   have g1:wo.cell? ⟨b,off+k*16+1,none⟩=some (.string tb):=hcx 1 _ (by decide) rfl
   have g2:wo.cell? ⟨b,off+k*16+2,none⟩=some (.string nm):=hcx 2 _ (by decide) rfl
   have g3:wo.cell? ⟨b,off+k*16+3,none⟩=some (.slice colA cols.length colC):=hcx 3 _ (by decide) rfl
   have g4:wo.cell? ⟨b,off+k*16+4,none⟩=some (.slice keyA key.length keyC):=hcx 4 _ (by decide) rfl
   have g5:wo.cell? ⟨b,off+k*16+5,none⟩=some (.slice forA fors.length forC):=hcx 5 _ (by decide) rfl
   have g6:wo.cell? ⟨b,off+k*16+6,none⟩=some (.slice chkA chks.length chkC):=hcx 6 _ (by decide) rfl
   have g7:wo.cell? ⟨b,off+k*16+7,none⟩=some (.int .i64 x1):=hcx 7 _ (by decide) rfl
   have g8:wo.cell? ⟨b,off+k*16+8,none⟩=some (.string x2):=hcx 8 _ (by decide) rfl
   have g9:wo.cell? ⟨b,off+k*16+9,none⟩=some (.string x3):=hcx 9 _ (by decide) rfl
   have g10:wo.cell? ⟨b,off+k*16+10,none⟩=some (.string x4):=hcx 10 _ (by decide) rfl
   have g11:wo.cell? ⟨b,off+k*16+11,none⟩=some (.int .i64 x5):=hcx 11 _ (by decide) rfl
   have g12:wo.cell? ⟨b,off+k*16+12,none⟩=some (.bool x6):=hcx 12 _ (by decide) rfl
   have g13:wo.cell? ⟨b,off+k*16+13,none⟩=some (.int .i64 x7):=hcx 13 _ (by decide) rfl
   have g14:wo.cell? ⟨b,off+k*16+14,none⟩=some (.int .i64 x8):=hcx 14 _ (by decide) rfl
   have g15:wo.cell? ⟨b,off+k*16+15,none⟩=some (.string x9):=hcx 15 _ (by decide) rfl
   obtain ⟨W1,hW1⟩:∃W1,W1=wo.alloc (.cells #[.int .i64 tm,.string tb,.string nm,.slice colA cols.length colC,.slice keyA key.length keyC,.slice forA fors.length forC,.slice chkA chks.length chkC,.int .i64 x1,.string x2,.string x3,.string x4,.int .i64 x5,.bool x6,.int .i64 x7,.int .i64 x8,.string x9] 83):=⟨_,rfl⟩
 have hbW:Below wo.heap.size wo W1:=by subst hW1;exact Below.of_alloc _
 have hBW:Below base wo W1:=hbW.mono (by omega)
 have HBW:=hI0 (HB.out.trans hBW)
 have HKW:=hI0 (HK.out.trans (KeepO.of_below hbW))
 first
  |guard_hyp zT10:Tg 5
   have KV:Calls Tryz.prog 150 #[.pointer (some ⟨B,0,none⟩),.agg #[.string s1,.int .i64 n1,.bool b1]] W1 (BufOut base B (l++encI xs.length++(xs.take k).flatMap en++en ⟨s1,n1,b1⟩) W1):=HONE.out _ hmem W1 _ (HI.out.below hbW) HBW.out HKW.out HL2.out
  |guard_hyp zT10:Tg 4
   have KV:Calls Tryz.prog 155 #[.pointer (some ⟨B,0,none⟩),.agg #[.slice rA rn rc,.int .i64 n1,.int .i64 n2]] W1 (BufOut base B (l++encI xs.length++(xs.take k).flatMap en++en ⟨rA,rn,rc,row,n1,n2⟩) W1):=HONE.out _ hmem W1 _ (HI.out.below hbW) HBW.out HKW.out HL2.out
  |guard_hyp zT10:Tg 3
   have KV:Calls Tryz.prog 50 #[.pointer (some ⟨B,0,none⟩),.agg #[.string dn,.slice cA cl.length cc,.slice oA ops.length oc]] W1 (BufOut base B (l++encI xs.length++(xs.take k).flatMap en++en ⟨dn,cA,cc,cl,oA,oc,ops⟩) W1):=HONE.out _ hmem W1 _ (HI.out.below hbW) HBW.out HKW.out HL2.out
  |guard_hyp zT10:Tg 2
   have KV:Calls Tryz.prog 52 #[.pointer (some ⟨B,0,none⟩),.agg #[.string s1,.string s2,.int .i64 n1,.int .i64 n2,.int .i64 n3,.int .i64 n4]] W1 (BufOut base B (l++encI xs.length++(xs.take k).flatMap en++en ⟨s1,s2,n1,n2,n3,n4⟩) W1):=HONE.out _ hmem W1 _ (HI.out.below hbW) HBW.out HKW.out HL2.out
  |guard_hyp zT10:Tg 1
   have KV:Calls Tryz.prog 210 #[.pointer (some ⟨B,0,none⟩),.agg #[.int .i64 op,.int .i64 it,.int .i64 vk,.int .i64 vi,.string vs,.string nm,.slice aA args.length ac]] W1 (BufOut base B (l++encI xs.length++(xs.take k).flatMap en++en ⟨op,it,⟨vk,vi,vs⟩,nm,aA,ac,args⟩) W1):=HONE.out _ hmem W1 _ (HI.out.below hbW) HBW.out HKW.out HL2.out
  |have KV:Calls Tryz.prog 48 #[.pointer (some ⟨B,0,none⟩),.agg #[.int .i64 tm,.string tb,.string nm,.slice colA cols.length colC,.slice keyA key.length keyC,.slice forA fors.length forC,.slice chkA chks.length chkC,.int .i64 x1,.string x2,.string x3,.string x4,.int .i64 x5,.bool x6,.int .i64 x7,.int .i64 x8,.string x9]] W1 (BufOut base B (l++encI xs.length++(xs.take k).flatMap en++en ⟨tm,tb,⟨nm,colA,colC,cols,keyA,keyC,key,forA,forC,fors,chkA,chkC,chks⟩,⟨x1,x2,x3,x4,x5,x6,⟨x7,x8,x9⟩⟩⟩) W1):=HONE.out _ hmem W1 _ (HI.out.below hbW) HBW.out HKW.out HL2.out
 clear hcx hmem
 go_wp2_with fail
 rw [←hW1]
 (with_reducible refine KV.mono ?_)
 rintro _ w2 ⟨rfl,hA2,hb2,hk2⟩
 have HA2:Hid (BufAt w2 base B (l++encI xs.length++(xs.take (k+1)).flatMap en)):=hI0 (by rw [HSN.out,←List.append_assoc];exact hA2)
 have HB2:=hI0 (HBW.out.trans hb2)
 have HK2:=hI0 (HKW.out.trans hk2)
 clear hA2 hb2 hk2 KV hW1
 go_wp2_with fail
 go_roundw
 case rel=>exact ⟨k+1,by go_num,by omega,HA2,HB2,HK2⟩
 case measure=>simp [intOf];omega) : P := h ⟨⟩
theorem zq16 {P:Prop} (i:Nat) (h:Tg i→P:=by
 intro zT16
 have hBl:=h.lt
 obtain ⟨hc1,hc2⟩:=RdE.bd hv
 have HLn:=hI0 hl
 have HV:=hI0 hv
 have HONE:=hI0 hone
 clear hl hv hone
 have KI:=bufInt_any base B l xs.length w hbB h (by omega) (by omega) (by have:=HLn.out;simp only [List.length_append] at this ⊢;omega)
 first
  |guard_hyp zT16:Tg 4
   go_enter Tryz.func152,Tryz.ntmps152
  |guard_hyp zT16:Tg 3
   go_enter Tryz.func53,Tryz.ntmps53
  |guard_hyp zT16:Tg 2
   go_enter Tryz.func55,Tryz.ntmps55
  |guard_hyp zT16:Tg 1
   go_enter Tryz.func57,Tryz.ntmps57
  |go_enter Tryz.func207,Tryz.ntmps207
 go_wp2_with fail
 (with_reducible refine KI.mono ?_)
 rintro _ w1 ⟨rfl,hA1,hb1,hk1⟩
 have HA1:Hid (BufAt w1 base B (l++encI xs.length++(xs.take 0).flatMap en)):=hI0 (by simpa using hA1)
 have HB1:=hI0 hb1
 have HK1:=hI0 hk1
 clear KI h hA1 hb1 hk1
 go_wp2_with fail
 go_loopw [16] (fun i wr=>∃k:Nat,i=.int .i64 (k:Int)∧k≤xs.length∧Hid (BufAt wr base B (l++encI xs.length++(xs.take k).flatMap en))∧Hid (Below base w wr)∧Hid (KeepO B w wr)) (fun i _=>xs.length-(intOf i).toNat)
 case atStart=>exact ⟨0,rfl,Nat.zero_le _,HA1,HB1,HK1⟩
 obtain ⟨k,rfl,hk,HI,HB,HK⟩:=hrel
 obtain ⟨wo,rfl⟩:∃wo:World,wo=wr:=⟨_,rfl⟩
 have hBo:=HI.out.lt
 by_cases hlt:k<xs.length
 case neg=>
  exact zq53
 have hlti:(k:Int)<(xs.length:Int):=by omega
 first
  |guard_hyp zT16:Tg 4
   obtain ⟨b,off,rfl,hF,hcl⟩:=RdE.at_ (K:=1) (enc:=intE) (fun _=>rfl) (by omega) (HV.out.keep (Keeps.below HB.out)) hlt
  |guard_hyp zT16:Tg 3
   obtain ⟨b,off,rfl,hF,hcl⟩:=RdE.at_ (K:=1) (enc:=strE) (fun _=>rfl) (by omega) (HV.out.keep (Keeps.below HB.out)) hlt
  |guard_hyp zT16:Tg 2
   obtain ⟨b,off,rfl,hF,hcl⟩:=RdE.at_ (K:=2) (enc:=Pol.enc) (fun _=>rfl) (by omega) (HV.out.keep (Keeps.below HB.out)) hlt
  |guard_hyp zT16:Tg 1
   obtain ⟨b,off,rfl,hF,hcl⟩:=RdE.at_ (K:=2) (enc:=Hor.enc) (fun _=>rfl) (by omega) (HV.out.keep (Keeps.below HB.out)) hlt
  |obtain ⟨b,off,rfl,hF,hcl⟩:=RdE.at_ (K:=2) (enc:=RFor.enc) (fun _=>rfl) (by omega) (HV.out.keep (Keeps.below HB.out)) hlt
 have hcx:=hcl k hlt
 have hmem:=List.getElem_mem hlt
 have hsn:=flat_snoc en hlt
 have hle:=flat_le en hlt
 obtain ⟨x,hx⟩:∃x,x=xs[k]:=⟨_,rfl⟩
 rw [←hx] at hcx hmem hsn hle
 have HSN:=hI0 hsn
 have HL2:Hid ((l++encI xs.length++(xs.take k).flatMap en++en x).length+4000≤140737488300000):=hI0 (by
  have:=HLn.out
  simp only [List.length_append] at this ⊢
  omega)
 clear hcl hx hF hsn hle
 first
  |guard_hyp zT16:Tg 4
   obtain x:=x
   have g0:wo.cell? ⟨b,off+k,none⟩=some (.int .i64 x):=by have h:=hcx 0 _ (by decide) rfl;rw [Nat.mul_one] at h;exact h
   obtain ⟨W1,hW1⟩:∃W1,W1=wo:=⟨_,rfl⟩
   have HBW:Hid (Below base w W1):=hI0 (by rw [hW1];exact HB.out)
   have HKW:Hid (KeepO B w W1):=hI0 (by rw [hW1];exact HK.out)
   have KV:Calls Tryz.prog 153 #[.pointer (some ⟨B,0,none⟩),.int .i64 x] W1 (BufOut base B (l++encI xs.length++(xs.take k).flatMap en++en x) W1):=HONE.out _ hmem W1 _ (by rw [hW1];exact HI.out) HBW.out HKW.out HL2.out
  |guard_hyp zT16:Tg 3
   obtain x:=x
   have g0:wo.cell? ⟨b,off+k,none⟩=some (.string x):=by have h:=hcx 0 _ (by decide) rfl;rw [Nat.mul_one] at h;exact h
   obtain ⟨W1,hW1⟩:∃W1,W1=wo:=⟨_,rfl⟩
   have HBW:Hid (Below base w W1):=hI0 (by rw [hW1];exact HB.out)
   have HKW:Hid (KeepO B w W1):=hI0 (by rw [hW1];exact HK.out)
   have KV:Calls Tryz.prog 54 #[.pointer (some ⟨B,0,none⟩),.string x] W1 (BufOut base B (l++encI xs.length++(xs.take k).flatMap en++en x) W1):=HONE.out _ hmem W1 _ (by rw [hW1];exact HI.out) HBW.out HKW.out HL2.out
  |first
    |guard_hyp zT16:Tg 2
     obtain ⟨s1,n1⟩:=x
     have g0:wo.cell? ⟨b,off+k*2,none⟩=some (.string s1):=hcx 0 _ (by decide) rfl
     have g1:wo.cell? ⟨b,off+k*2+1,none⟩=some (.int .i64 n1):=hcx 1 _ (by decide) rfl
     obtain ⟨W1,hW1⟩:∃W1,W1=wo.alloc (.cells #[.string s1,.int .i64 n1] 117):=⟨_,rfl⟩
    |guard_hyp zT16:Tg 1
     obtain ⟨s1,n1⟩:=x
     have g0:wo.cell? ⟨b,off+k*2,none⟩=some (.string s1):=hcx 0 _ (by decide) rfl
     have g1:wo.cell? ⟨b,off+k*2+1,none⟩=some (.int .i64 n1):=hcx 1 _ (by decide) rfl
     obtain ⟨W1,hW1⟩:∃W1,W1=wo.alloc (.cells #[.string s1,.int .i64 n1] 122):=⟨_,rfl⟩
    |obtain ⟨fA,fc,fl,s1⟩:=x
     have g0:wo.cell? ⟨b,off+k*2,none⟩=some (.slice fA fl.length fc):=hcx 0 _ (by decide) rfl
     have g1:wo.cell? ⟨b,off+k*2+1,none⟩=some (.string s1):=hcx 1 _ (by decide) rfl
     obtain ⟨W1,hW1⟩:∃W1,W1=wo.alloc (.cells #[.slice fA fl.length fc,.string s1] 278):=⟨_,rfl⟩
   have hbW:Below wo.heap.size wo W1:=by subst hW1;exact Below.of_alloc _
   have hBW:Below base wo W1:=hbW.mono (by omega)
   have HBW:=hI0 (HB.out.trans hBW)
   have HKW:=hI0 (HK.out.trans (KeepO.of_below hbW))
   first
    |guard_hyp zT16:Tg 2
     have KV:Calls Tryz.prog 56 #[.pointer (some ⟨B,0,none⟩),.agg #[.string s1,.int .i64 n1]] W1 (BufOut base B (l++encI xs.length++(xs.take k).flatMap en++en ⟨s1,n1⟩) W1):=HONE.out _ hmem W1 _ (HI.out.below hbW) HBW.out HKW.out HL2.out
    |guard_hyp zT16:Tg 1
     have KV:Calls Tryz.prog 58 #[.pointer (some ⟨B,0,none⟩),.agg #[.string s1,.int .i64 n1]] W1 (BufOut base B (l++encI xs.length++(xs.take k).flatMap en++en ⟨s1,n1⟩) W1):=HONE.out _ hmem W1 _ (HI.out.below hbW) HBW.out HKW.out HL2.out
    |have KV:Calls Tryz.prog 208 #[.pointer (some ⟨B,0,none⟩),.agg #[.slice fA fl.length fc,.string s1]] W1 (BufOut base B (l++encI xs.length++(xs.take k).flatMap en++en ⟨fA,fc,fl,s1⟩) W1):=HONE.out _ hmem W1 _ (HI.out.below hbW) HBW.out HKW.out HL2.out
 clear hcx hmem
 go_wp2_with fail
 first
  |guard_hyp zT16:Tg 4
   (try rw [←hW1])
  |guard_hyp zT16:Tg 3
   (try rw [←hW1])
  |rw [←hW1]
 (with_reducible refine KV.mono ?_)
 rintro _ w2 ⟨rfl,hA2,hb2,hk2⟩
 have HA2:Hid (BufAt w2 base B (l++encI xs.length++(xs.take (k+1)).flatMap en)):=hI0 (by rw [HSN.out,←List.append_assoc];exact hA2)
 have HB2:=hI0 (HBW.out.trans hb2)
 have HK2:=hI0 (HKW.out.trans hk2)
 clear hA2 hb2 hk2 KV hW1
 go_wp2_with fail
 go_roundw
 case rel=>exact ⟨k+1,by go_num,by omega,HA2,HB2,HK2⟩
 case measure=>simp [intOf];omega) : P := h ⟨⟩
theorem zq53 {P:Prop} (h:P:=by
 have hlti:¬(k:Int)<(xs.length:Int):=by omega
 have HF:Hid (BufAt wo base B (l++(encI xs.length++xs.flatMap en))):=hI0 (by
  have h:=HI.out
  rw [List.take_of_length_le (by omega),List.append_assoc] at h
  exact h)
 go_wp2_with fail
 go_end0
 exact ⟨rfl,HF.out,HB.out,HK.out⟩) : P := h
theorem flat_snoc {α:Type} (f:α→List UInt8) {xs:List α} {k:Nat} (h:k<xs.length):(xs.take (k+1)).flatMap f=(xs.take k).flatMap f++f xs[k]:=by
 rw [List.take_succ_eq_append_getElem h,List.flatMap_append]
 simp
theorem flat_le {α:Type} (f:α→List UInt8) {xs:List α} {k:Nat} (h:k<xs.length):((xs.take k).flatMap f).length+(f xs[k]).length≤(xs.flatMap f).length:=by
 have e:xs.flatMap f=(xs.take (k+1)).flatMap f++(xs.drop (k+1)).flatMap f:=by rw [←List.flatMap_append,List.take_append_drop]
 rw [e,flat_snoc f h,List.length_append,List.length_append]
 omega
theorem putEnt (base B:Nat) (l:List UInt8) (A:Option Addr) (c:Nat) (xs:List REn) (en:REn→List UInt8) (w:World) (hbB:base≤B) (h:BufAt w base B l) (hv:RdE 16 REn.enc w (·<base) (.slice A xs.length c) xs)
  (hone:∀x∈xs,∀(W:World) (m:List UInt8),BufAt W base B m→Below base w W→KeepO B w W→(m++en x).length+4000≤140737488300000→Calls Tryz.prog 48 #[.pointer (some ⟨B,0,none⟩),.agg (REn.enc x).toArray] W (BufOut base B (m++en x) W))
  (hl:(l++(encI xs.length++xs.flatMap en)).length+4000≤140737488300000):
  Calls Tryz.prog 47 #[.pointer (some ⟨B,0,none⟩),.slice A xs.length c,.func (.func 48) #[] #[]] w (BufOut base B (l++(encI xs.length++xs.flatMap en)) w):=by
 exact zq10 0
theorem putDel (base B:Nat) (l:List UInt8) (A:Option Addr) (c:Nat) (xs:List RDl) (en:RDl→List UInt8) (w:World) (hbB:base≤B) (h:BufAt w base B l) (hv:RdE 3 RDl.enc w (·<base) (.slice A xs.length c) xs)
  (hone:∀x∈xs,∀(W:World) (m:List UInt8),BufAt W base B m→Below base w W→KeepO B w W→(m++en x).length+4000≤140737488300000→Calls Tryz.prog 50 #[.pointer (some ⟨B,0,none⟩),.agg (RDl.enc x).toArray] W (BufOut base B (m++en x) W))
  (hl:(l++(encI xs.length++xs.flatMap en)).length+4000≤140737488300000):
  Calls Tryz.prog 49 #[.pointer (some ⟨B,0,none⟩),.slice A xs.length c,.func (.func 50) #[] #[]] w (BufOut base B (l++(encI xs.length++xs.flatMap en)) w):=by
 exact zq10 3
theorem putHld (base B:Nat) (l:List UInt8) (A:Option Addr) (c:Nat) (xs:List Hld) (en:Hld→List UInt8) (w:World) (hbB:base≤B) (h:BufAt w base B l) (hv:RdE 6 Hld.enc w (·<base) (.slice A xs.length c) xs)
  (hone:∀x∈xs,∀(W:World) (m:List UInt8),BufAt W base B m→Below base w W→KeepO B w W→(m++en x).length+4000≤140737488300000→Calls Tryz.prog 52 #[.pointer (some ⟨B,0,none⟩),.agg (Hld.enc x).toArray] W (BufOut base B (m++en x) W))
  (hl:(l++(encI xs.length++xs.flatMap en)).length+4000≤140737488300000):
  Calls Tryz.prog 51 #[.pointer (some ⟨B,0,none⟩),.slice A xs.length c,.func (.func 52) #[] #[]] w (BufOut base B (l++(encI xs.length++xs.flatMap en)) w):=by
 exact zq10 2
theorem putStr (base B:Nat) (l:List UInt8) (A:Option Addr) (c:Nat) (xs:List ByteArray) (en:ByteArray→List UInt8) (w:World) (hbB:base≤B) (h:BufAt w base B l) (hv:RdE 1 strE w (·<base) (.slice A xs.length c) xs)
  (hone:∀x∈xs,∀(W:World) (m:List UInt8),BufAt W base B m→Below base w W→KeepO B w W→(m++en x).length+4000≤140737488300000→Calls Tryz.prog 54 #[.pointer (some ⟨B,0,none⟩),.string x] W (BufOut base B (m++en x) W))
  (hl:(l++(encI xs.length++xs.flatMap en)).length+4000≤140737488300000):
  Calls Tryz.prog 53 #[.pointer (some ⟨B,0,none⟩),.slice A xs.length c,.func (.func 54) #[] #[]] w (BufOut base B (l++(encI xs.length++xs.flatMap en)) w):=by
 exact zq16 3
theorem putPol (base B:Nat) (l:List UInt8) (A:Option Addr) (c:Nat) (xs:List Pol) (en:Pol→List UInt8) (w:World) (hbB:base≤B) (h:BufAt w base B l) (hv:RdE 2 Pol.enc w (·<base) (.slice A xs.length c) xs)
  (hone:∀x∈xs,∀(W:World) (m:List UInt8),BufAt W base B m→Below base w W→KeepO B w W→(m++en x).length+4000≤140737488300000→Calls Tryz.prog 56 #[.pointer (some ⟨B,0,none⟩),.agg (Pol.enc x).toArray] W (BufOut base B (m++en x) W))
  (hl:(l++(encI xs.length++xs.flatMap en)).length+4000≤140737488300000):
  Calls Tryz.prog 55 #[.pointer (some ⟨B,0,none⟩),.slice A xs.length c,.func (.func 56) #[] #[]] w (BufOut base B (l++(encI xs.length++xs.flatMap en)) w):=by
 exact zq16 2
theorem putHor (base B:Nat) (l:List UInt8) (A:Option Addr) (c:Nat) (xs:List Hor) (en:Hor→List UInt8) (w:World) (hbB:base≤B) (h:BufAt w base B l) (hv:RdE 2 Hor.enc w (·<base) (.slice A xs.length c) xs)
  (hone:∀x∈xs,∀(W:World) (m:List UInt8),BufAt W base B m→Below base w W→KeepO B w W→(m++en x).length+4000≤140737488300000→Calls Tryz.prog 58 #[.pointer (some ⟨B,0,none⟩),.agg (Hor.enc x).toArray] W (BufOut base B (m++en x) W))
  (hl:(l++(encI xs.length++xs.flatMap en)).length+4000≤140737488300000):
  Calls Tryz.prog 57 #[.pointer (some ⟨B,0,none⟩),.slice A xs.length c,.func (.func 58) #[] #[]] w (BufOut base B (l++(encI xs.length++xs.flatMap en)) w):=by
 exact zq16 1
theorem putNum (base B:Nat) (l:List UInt8) (A:Option Addr) (c:Nat) (xs:List Int) (en:Int→List UInt8) (w:World) (hbB:base≤B) (h:BufAt w base B l) (hv:RdE 1 intE w (·<base) (.slice A xs.length c) xs)
  (hone:∀x∈xs,∀(W:World) (m:List UInt8),BufAt W base B m→Below base w W→KeepO B w W→(m++en x).length+4000≤140737488300000→Calls Tryz.prog 153 #[.pointer (some ⟨B,0,none⟩),.int .i64 x] W (BufOut base B (m++en x) W))
  (hl:(l++(encI xs.length++xs.flatMap en)).length+4000≤140737488300000):
  Calls Tryz.prog 152 #[.pointer (some ⟨B,0,none⟩),.slice A xs.length c,.func (.func 153) #[] #[]] w (BufOut base B (l++(encI xs.length++xs.flatMap en)) w):=by
 exact zq16 4
theorem putFct (base B:Nat) (l:List UInt8) (A:Option Addr) (c:Nat) (xs:List RF) (en:RF→List UInt8) (w:World) (hbB:base≤B) (h:BufAt w base B l) (hv:RdE 3 RF.enc w (·<base) (.slice A xs.length c) xs)
  (hone:∀x∈xs,∀(W:World) (m:List UInt8),BufAt W base B m→Below base w W→KeepO B w W→(m++en x).length+4000≤140737488300000→Calls Tryz.prog 155 #[.pointer (some ⟨B,0,none⟩),.agg (RF.enc x).toArray] W (BufOut base B (m++en x) W))
  (hl:(l++(encI xs.length++xs.flatMap en)).length+4000≤140737488300000):
  Calls Tryz.prog 154 #[.pointer (some ⟨B,0,none⟩),.slice A xs.length c,.func (.func 155) #[] #[]] w (BufOut base B (l++(encI xs.length++xs.flatMap en)) w):=by
 exact zq10 4
theorem putCol (base B:Nat) (l:List UInt8) (A:Option Addr) (c:Nat) (xs:List RCol) (en:RCol→List UInt8) (w:World) (hbB:base≤B) (h:BufAt w base B l) (hv:RdE 3 RCol.enc w (·<base) (.slice A xs.length c) xs)
  (hone:∀x∈xs,∀(W:World) (m:List UInt8),BufAt W base B m→Below base w W→KeepO B w W→(m++en x).length+4000≤140737488300000→Calls Tryz.prog 150 #[.pointer (some ⟨B,0,none⟩),.agg (RCol.enc x).toArray] W (BufOut base B (m++en x) W))
  (hl:(l++(encI xs.length++xs.flatMap en)).length+4000≤140737488300000):
  Calls Tryz.prog 206 #[.pointer (some ⟨B,0,none⟩),.slice A xs.length c,.func (.func 150) #[] #[]] w (BufOut base B (l++(encI xs.length++xs.flatMap en)) w):=by
 exact zq10 5
theorem putFor (base B:Nat) (l:List UInt8) (A:Option Addr) (c:Nat) (xs:List RFor) (en:RFor→List UInt8) (w:World) (hbB:base≤B) (h:BufAt w base B l) (hv:RdE 2 RFor.enc w (·<base) (.slice A xs.length c) xs)
  (hone:∀x∈xs,∀(W:World) (m:List UInt8),BufAt W base B m→Below base w W→KeepO B w W→(m++en x).length+4000≤140737488300000→Calls Tryz.prog 208 #[.pointer (some ⟨B,0,none⟩),.agg (RFor.enc x).toArray] W (BufOut base B (m++en x) W))
  (hl:(l++(encI xs.length++xs.flatMap en)).length+4000≤140737488300000):
  Calls Tryz.prog 207 #[.pointer (some ⟨B,0,none⟩),.slice A xs.length c,.func (.func 208) #[] #[]] w (BufOut base B (l++(encI xs.length++xs.flatMap en)) w):=by
 exact zq16 0
theorem putExp (base B:Nat) (l:List UInt8) (A:Option Addr) (c:Nat) (xs:List RE) (en:RE→List UInt8) (w:World) (hbB:base≤B) (h:BufAt w base B l) (hv:RdE 7 RE.enc w (·<base) (.slice A xs.length c) xs)
  (hone:∀x∈xs,∀(W:World) (m:List UInt8),BufAt W base B m→Below base w W→KeepO B w W→(m++en x).length+4000≤140737488300000→Calls Tryz.prog 210 #[.pointer (some ⟨B,0,none⟩),.agg (RE.enc x).toArray] W (BufOut base B (m++en x) W))
  (hl:(l++(encI xs.length++xs.flatMap en)).length+4000≤140737488300000):
  Calls Tryz.prog 209 #[.pointer (some ⟨B,0,none⟩),.slice A xs.length c,.func (.func 210) #[] #[]] w (BufOut base B (l++(encI xs.length++xs.flatMap en)) w):=by
 exact zq10 1
end Go.Proofs.YtbfdegkickjbpaaGreat
