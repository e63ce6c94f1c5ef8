/-
 RwA
-/
import Derived.Test.YtgfhknnklapldaaGreatDoorBRc3
namespace Go.Proofs.YtgfhknnklapldaaGreatDoor
open Go.Proofs.Tryz
set_option maxRecDepth 99999
set_option maxHeartbeats 0
open Go.RowKit Go.Lib Go.IntWalk Go.Sort Go.Shelf
theorem zq5 {P:Prop} (i:Nat) (h:Tg i→P:=by
 intro zT5
 have hBl:=h.lt
 obtain ⟨hc1,hc2⟩:=RdE.bd hv
 have HLn:=hI0 hl
 have HV:=hI0 hv
 have HONE:=hI0 hone
 clear hl hv hone
 have KI:=bufInt_any base B l xs.length w hbB h (by omega) (by omega) zi0
 go_in
 go_wp2_with fail
 (with_reducible refine KI.mono ?_)
 rintro _ w1 ⟨rfl,hA1,hb1,hk1⟩
 have HA1:Hid (BufAt w1 base B (l++encI xs.length++(xs.take 0).flatMap en)):=hI0 (by simpa using hA1)
 have HB1:=hI0 hb1
 have HK1:=hI0 hk1
 clear KI h hA1 hb1 hk1
 go_wp2_with fail
 go_loopw [16] (fun i wr=>∃k:Nat,i=.int .i64 (k:Int)∧k≤xs.length∧Hid (BufAt wr base B (l++encI xs.length++(xs.take k).flatMap en))∧Hid (Below base w wr)∧Hid (KeepO B w wr)) (fun i _=>xs.length-(intOf i).toNat)
 case atStart=>exact ⟨0,rfl,Nat.zero_le _,HA1,HB1,HK1⟩
 obtain ⟨k,rfl,hk,HI,HB,HK⟩:=hrel
 obtain ⟨wo,rfl⟩:=eN0 wr
 have hBo:=HI.out.lt
 by_cases hlt:k<xs.length
 case neg=>
  exact zq22
 have hlti:(k:Int)<(xs.length:Int):=by omega
 first
  |guard_hyp zT5:Tg 7;obtain ⟨b,off,rfl,hF,hcl⟩:=RdE.at_ (K:=2) (enc:=Hor.enc) (fun _=>rfl) (by omega) (HV.out.keep (Keeps.below HB.out)) hlt
  |guard_hyp zT5:Tg 6;obtain ⟨b,off,rfl,hF,hcl⟩:=RdE.at_ (K:=2) (enc:=Stm.enc) (fun _=>rfl) (by omega) (HV.out.keep (Keeps.below HB.out)) hlt
  |guard_hyp zT5:Tg 5;obtain ⟨b,off,rfl,hF,hcl⟩:=RdE.at_ (K:=3) (enc:=RCol.enc) (fun _=>rfl) (by omega) (HV.out.keep (Keeps.below HB.out)) hlt
  |guard_hyp zT5:Tg 4;obtain ⟨b,off,rfl,hF,hcl⟩:=RdE.at_ (K:=2) (enc:=RFor.enc) (fun _=>rfl) (by omega) (HV.out.keep (Keeps.below HB.out)) hlt
  |guard_hyp zT5:Tg 3;obtain ⟨b,off,rfl,hF,hcl⟩:=RdE.at_ (K:=2) (enc:=RTv.enc) (fun _=>rfl) (by omega) (HV.out.keep (Keeps.below HB.out)) hlt
  |guard_hyp zT5:Tg 2;obtain ⟨b,off,rfl,hF,hcl⟩:=RdE.at_ (K:=6) (enc:=Hld.enc) (fun _=>rfl) (by omega) (HV.out.keep (Keeps.below HB.out)) hlt
  |guard_hyp zT5:Tg 1;obtain ⟨b,off,rfl,hF,hcl⟩:=RdE.at_ (K:=7) (enc:=RE.enc) RE.enc_length (by omega) (HV.out.keep (Keeps.below HB.out)) hlt
  |obtain ⟨b,off,rfl,hF,hcl⟩:=RdE.at_ (K:=16) (enc:=REn.enc) (fun _=>rfl) (by omega) (HV.out.keep (Keeps.below HB.out)) hlt
 have hcx:=hcl k hlt
 have hmem:=List.getElem_mem hlt
 have hsn:=flat_snoc en hlt
 have hle:=flat_le en hlt
 obtain ⟨x,hx⟩:=eN0 (xs[k])
 rw [←hx] at hcx hmem hsn hle
 have HSN:=hI0 hsn
 first
  |guard_hyp zT5:Tg 3;have HL2:Hid ((l++encI xs.length++(xs.take k).flatMap en++en x).length+30000000000≤140737488300000):=hI0 (by
    have:=HLn.out
    simp only [List.length_append] at this ⊢
    omega)
  |have HL2:Hid ((l++encI xs.length++(xs.take k).flatMap en++en x).length+4000≤140737488300000):=hI0 (by
    have:=HLn.out
    simp only [List.length_append] at this ⊢
    omega)
 clear hcl hx hF hsn hle
 first
  |guard_hyp zT5:Tg 7;obtain ⟨s1,n1⟩:=x
   obtain ⟨g0,g1⟩:=cK2 hcx (show _=[.string s1,.int .i64 n1] from rfl)
   obtain ⟨W1,hW1⟩:=eN0 (wo.alloc (.cells #[.string s1,.int .i64 n1] 93))
  |guard_hyp zT5:Tg 6;obtain ⟨n1,n2⟩:=x
   obtain ⟨g0,g1⟩:=cK2 hcx (show _=[.int .i64 n1,.int .i64 n2] from rfl)
   obtain ⟨W1,hW1⟩:=eN0 (wo.alloc (.cells #[.int .i64 n1,.int .i64 n2] 82))
  |guard_hyp zT5:Tg 5;obtain ⟨s1,n1,b1⟩:=x
   obtain ⟨g0,g1,g2⟩:=cK3 hcx (show _=[.string s1,.int .i64 n1,.bool b1] from rfl)
   obtain ⟨W1,hW1⟩:=eN0 (wo.alloc (.cells #[.string s1,.int .i64 n1,.bool b1] 75))
  |guard_hyp zT5:Tg 4;obtain ⟨fA,fc,fl,s1⟩:=x
   obtain ⟨g0,g1⟩:=cK2 hcx (show _=[.slice fA fl.length fc,.string s1] from rfl)
   obtain ⟨W1,hW1⟩:=eN0 (wo.alloc (.cells #[.slice fA fl.length fc,.string s1] 158))
  |guard_hyp zT5:Tg 3;obtain ⟨dn,oA,oc,ops⟩:=x
   obtain ⟨g0,g1⟩:=cK2 hcx (show _=[.string dn,.slice oA ops.length oc] from rfl)
   obtain ⟨W1,hW1⟩:=eN0 (wo.alloc (.cells #[.string dn,.slice oA ops.length oc] 37))
  |guard_hyp zT5:Tg 2;obtain ⟨s1,s2,n1,n2,n3,n4⟩:=x
   obtain ⟨g0,g1,g2,g3,g4,g5⟩:=cK6 hcx (show _=[.string s1,.string s2,.int .i64 n1,.int .i64 n2,.int .i64 n3,.int .i64 n4] from rfl)
   obtain ⟨W1,hW1⟩:=eN0 (wo.alloc (.cells #[.string s1,.string s2,.int .i64 n1,.int .i64 n2,.int .i64 n3,.int .i64 n4] 87))
  |guard_hyp zT5:Tg 1;obtain ⟨op,it,⟨vk,vi,vs⟩,nm,aA,ac,args⟩:=x
   obtain ⟨g0,g1,g2,g3,g4,g5,g6⟩:=cK7 hcx (show _=[.int .i64 op,.int .i64 it,.int .i64 vk,.int .i64 vi,.string vs,.string nm,.slice aA args.length ac] from rfl)
   obtain ⟨W1,hW1⟩:=eN0 (wo.alloc (.cells #[.int .i64 op,.int .i64 it,.int .i64 vk,.int .i64 vi,.string vs,.string nm,.slice aA args.length ac] 117))
  |obtain ⟨tm,tb,⟨nm,colA,colC,cols,keyA,keyC,key,forA,forC,fors,chkA,chkC,chks⟩,⟨x1,x2,x3,x4,x5,x6,⟨x7,x8,x9⟩⟩⟩:=x
   obtain ⟨g0,g1,g2,g3,g4,g5,g6,g7,g8,g9,g10,g11,g12,g13,g14,g15⟩:=cK16 hcx (show _=[.int .i64 tm,.string tb,.string nm,.slice colA cols.length colC,.slice keyA key.length keyC,.slice forA fors.length forC,.slice chkA chks.length chkC,.int .i64 x1,.string x2,.string x3,.string x4,.int .i64 x5,.bool x6,.int .i64 x7,.int .i64 x8,.string x9] from rfl)
   obtain ⟨W1,hW1⟩:=eN0 (wo.alloc (.cells #[.int .i64 tm,.string tb,.string nm,.slice colA cols.length colC,.slice keyA key.length keyC,.slice forA fors.length forC,.slice chkA chks.length chkC,.int .i64 x1,.string x2,.string x3,.string x4,.int .i64 x5,.bool x6,.int .i64 x7,.int .i64 x8,.string x9] 79))
 have hbW:Bl wo W1:=by subst hW1;exact Below.of_alloc _
 have hBW:Below base wo W1:=hbW.mono (by omega)
 have HBW:=hI0 (HB.out.trans hBW)
 have HKW:=hI0 (HK.out.trans (KeepO.of_below hbW))
 first
  |guard_hyp zT5:Tg 7;have KV:Calls prog 62 #[.pointer (some ⟨B,0,none⟩),.agg #[.string s1,.int .i64 n1]] W1 (BufOut base B (l++encI xs.length++(xs.take k).flatMap en++en ⟨s1,n1⟩) W1):=HONE.out _ hmem W1 _ (HI.out.below hbW) HBW.out HKW.out HL2.out
  |guard_hyp zT5:Tg 6;have KV:Calls prog 51 #[.pointer (some ⟨B,0,none⟩),.agg #[.int .i64 n1,.int .i64 n2]] W1 (BufOut base B (l++encI xs.length++(xs.take k).flatMap en++en ⟨n1,n2⟩) W1):=HONE.out _ hmem W1 _ (HI.out.below hbW) HBW.out HKW.out HL2.out
  |guard_hyp zT5:Tg 5;have KV:Calls prog 113 #[.pointer (some ⟨B,0,none⟩),.agg #[.string s1,.int .i64 n1,.bool b1]] W1 (BufOut base B (l++encI xs.length++(xs.take k).flatMap en++en ⟨s1,n1,b1⟩) W1):=HONE.out _ hmem W1 _ (HI.out.below hbW) HBW.out HKW.out HL2.out
  |guard_hyp zT5:Tg 4;have KV:Calls prog 174 #[.pointer (some ⟨B,0,none⟩),.agg #[.slice fA fl.length fc,.string s1]] W1 (BufOut base B (l++encI xs.length++(xs.take k).flatMap en++en ⟨fA,fc,fl,s1⟩) W1):=HONE.out _ hmem W1 _ (HI.out.below hbW) HBW.out HKW.out HL2.out
  |guard_hyp zT5:Tg 3;have KV:Calls prog 53 #[.pointer (some ⟨B,0,none⟩),.agg #[.string dn,.slice oA ops.length oc]] W1 (BufOut base B (l++encI xs.length++(xs.take k).flatMap en++en ⟨dn,oA,oc,ops⟩) W1):=HONE.out _ hmem W1 _ (HI.out.below hbW) HBW.out HKW.out HL2.out
  |guard_hyp zT5:Tg 2;have KV:Calls prog 58 #[.pointer (some ⟨B,0,none⟩),.agg #[.string s1,.string s2,.int .i64 n1,.int .i64 n2,.int .i64 n3,.int .i64 n4]] W1 (BufOut base B (l++encI xs.length++(xs.take k).flatMap en++en ⟨s1,s2,n1,n2,n3,n4⟩) W1):=HONE.out _ hmem W1 _ (HI.out.below hbW) HBW.out HKW.out HL2.out
  |guard_hyp zT5:Tg 1;have KV:Calls prog 176 #[.pointer (some ⟨B,0,none⟩),.agg #[.int .i64 op,.int .i64 it,.int .i64 vk,.int .i64 vi,.string vs,.string nm,.slice aA args.length ac]] W1 (BufOut base B (l++encI xs.length++(xs.take k).flatMap en++en ⟨op,it,⟨vk,vi,vs⟩,nm,aA,ac,args⟩) W1):=HONE.out _ hmem W1 _ (HI.out.below hbW) HBW.out HKW.out HL2.out
  |have KV:Calls prog 49 #[.pointer (some ⟨B,0,none⟩),.agg #[.int .i64 tm,.string tb,.string nm,.slice colA cols.length colC,.slice keyA key.length keyC,.slice forA fors.length forC,.slice chkA chks.length chkC,.int .i64 x1,.string x2,.string x3,.string x4,.int .i64 x5,.bool x6,.int .i64 x7,.int .i64 x8,.string x9]] W1 (BufOut base B (l++encI xs.length++(xs.take k).flatMap en++en ⟨tm,tb,⟨nm,colA,colC,cols,keyA,keyC,key,forA,forC,fors,chkA,chkC,chks⟩,⟨x1,x2,x3,x4,x5,x6,⟨x7,x8,x9⟩⟩⟩) W1):=HONE.out _ hmem W1 _ (HI.out.below hbW) HBW.out HKW.out HL2.out
 clear hcx hmem
 go_wp2_with fail
 rw [←hW1]
 (with_reducible refine KV.mono ?_)
 rintro _ w2 ⟨rfl,hA2,hb2,hk2⟩
 have HA2:Hid (BufAt w2 base B (l++encI xs.length++(xs.take (k+1)).flatMap en)):=hI0 zi5
 have HB2:=hI0 (HBW.out.trans hb2)
 have HK2:=hI0 (HKW.out.trans hk2)
 clear hA2 hb2 hk2 KV hW1
 go_wp2_with fail
 go_roundw
 case rel=>exact ⟨k+1,by go_num,by omega,HA2,HB2,HK2⟩
 case measure=>simp [intOf];omega) : P := h ⟨⟩
theorem zq6 {P:Prop} (i:Nat) (h:Tg i→P:=by
 intro zT6
 have hBl:=h.lt
 obtain ⟨hc1,hc2⟩:=RdE.bd hv
 have HLn:=hI0 hl
 have HV:=hI0 hv
 have HONE:=hI0 hone
 clear hl hv hone
 have KI:=bufInt_any base B l xs.length w hbB h (by omega) (by omega) zi0
 go_in
 go_wp2_with fail
 (with_reducible refine KI.mono ?_)
 rintro _ w1 ⟨rfl,hA1,hb1,hk1⟩
 have HA1:Hid (BufAt w1 base B (l++encI xs.length++(xs.take 0).flatMap en)):=hI0 (by simpa using hA1)
 have HB1:=hI0 hb1
 have HK1:=hI0 hk1
 clear KI h hA1 hb1 hk1
 go_wp2_with fail
 go_loopw [16] (fun i wr=>∃k:Nat,i=.int .i64 (k:Int)∧k≤xs.length∧Hid (BufAt wr base B (l++encI xs.length++(xs.take k).flatMap en))∧Hid (Below base w wr)∧Hid (KeepO B w wr)) (fun i _=>xs.length-(intOf i).toNat)
 case atStart=>exact ⟨0,rfl,Nat.zero_le _,HA1,HB1,HK1⟩
 obtain ⟨k,rfl,hk,HI,HB,HK⟩:=hrel
 obtain ⟨wo,rfl⟩:=eN0 wr
 have hBo:=HI.out.lt
 by_cases hlt:k<xs.length
 case neg=>
  exact zq22
 have hlti:(k:Int)<(xs.length:Int):=by omega
 first
  |guard_hyp zT6:Tg 1;obtain ⟨b,off,rfl,hF,hcl⟩:=RdE.at_ (K:=1) (enc:=intE) (fun _=>rfl) (by omega) (HV.out.keep (Keeps.below HB.out)) hlt
  |obtain ⟨b,off,rfl,hF,hcl⟩:=RdE.at_ (K:=2) (enc:=Pol.enc) (fun _=>rfl) (by omega) (HV.out.keep (Keeps.below HB.out)) hlt
 have hcx:=hcl k hlt
 have hmem:=List.getElem_mem hlt
 have hsn:=flat_snoc en hlt
 have hle:=flat_le en hlt
 obtain ⟨x,hx⟩:=eN0 (xs[k])
 rw [←hx] at hcx hmem hsn hle
 have HSN:=hI0 hsn
 have HL2:Hid ((l++encI xs.length++(xs.take k).flatMap en++en x).length+4000≤140737488300000):=hI0 (by
  have:=HLn.out
  simp only [List.length_append] at this ⊢
  omega)
 clear hcl hx hF hsn hle
 first
  |guard_hyp zT6:Tg 1;obtain x:=x
   have g0:wo.cell? ⟨b,off+k,none⟩=some (.int .i64 x):=by have h:=hcx 0 _ (by decide) rfl;rw [Nat.mul_one] at h;exact h
   obtain ⟨W1,hW1⟩:=eN0 wo
   have HBW:Hid (Below base w W1):=hI0 (by rw [hW1];exact HB.out)
   have HKW:Hid (KeepO B w W1):=hI0 (by rw [hW1];exact HK.out)
   have KV:Calls prog 172 #[.pointer (some ⟨B,0,none⟩),.int .i64 x] W1 (BufOut base B (l++encI xs.length++(xs.take k).flatMap en++en x) W1):=HONE.out _ hmem W1 _ (by rw [hW1];exact HI.out) HBW.out HKW.out HL2.out
  |obtain ⟨s1,n1⟩:=x
   obtain ⟨g0,g1⟩:=cK2 hcx (show _=[.string s1,.int .i64 n1] from rfl)
   obtain ⟨W1,hW1⟩:=eN0 (wo.alloc (.cells #[.string s1,.int .i64 n1] 90))
   have hbW:Bl wo W1:=by subst hW1;exact Below.of_alloc _
   have hBW:Below base wo W1:=hbW.mono (by omega)
   have HBW:=hI0 (HB.out.trans hBW)
   have HKW:=hI0 (HK.out.trans (KeepO.of_below hbW))
   have KV:Calls prog 60 #[.pointer (some ⟨B,0,none⟩),.agg #[.string s1,.int .i64 n1]] W1 (BufOut base B (l++encI xs.length++(xs.take k).flatMap en++en ⟨s1,n1⟩) W1):=HONE.out _ hmem W1 _ (HI.out.below hbW) HBW.out HKW.out HL2.out
 clear hcx hmem
 go_wp2_with fail
 first
  |guard_hyp zT6:Tg 1;(try rw [←hW1])
  |rw [←hW1]
 (with_reducible refine KV.mono ?_)
 rintro _ w2 ⟨rfl,hA2,hb2,hk2⟩
 have HA2:Hid (BufAt w2 base B (l++encI xs.length++(xs.take (k+1)).flatMap en)):=hI0 zi5
 have HB2:=hI0 (HBW.out.trans hb2)
 have HK2:=hI0 (HKW.out.trans hk2)
 clear hA2 hb2 hk2 KV hW1
 go_wp2_with fail
 go_roundw
 case rel=>exact ⟨k+1,by go_num,by omega,HA2,HB2,HK2⟩
 case measure=>simp [intOf];omega) : P := h ⟨⟩
theorem zq22 {P:Prop} (h:P:=by
 have hlti:¬(k:Int)<(xs.length:Int):=by omega
 have HF:Hid (BufAt wo base B (l++(encI xs.length++xs.flatMap en))):=hI0 (by
  have h:=HI.out
  rw [List.take_of_length_le (by omega),List.append_assoc] at h
  exact h)
 go_wp2_with fail
 go_end0
 exact ⟨rfl,HF.out,HB.out,HK.out⟩) : P := h
theorem zi0 {P:Prop} (h:P:=by have:=HLn.out;simp only [List.length_append] at this ⊢;omega):P:=h
theorem flat_snoc {α:Type} (f:α→List UInt8) {xs:List α} {k:Nat} (h:k<xs.length):(xs.take (k+1)).flatMap f=(xs.take k).flatMap f++f xs[k]:=by
 rw [List.take_succ_eq_append_getElem h,List.flatMap_append]
 simp
theorem flat_le {α:Type} (f:α→List UInt8) {xs:List α} {k:Nat} (h:k<xs.length):((xs.take k).flatMap f).length+(f xs[k]).length≤(xs.flatMap f).length:=by
 have e:xs.flatMap f=(xs.take (k+1)).flatMap f++(xs.drop (k+1)).flatMap f:=by rw [←List.flatMap_append,List.take_append_drop]
 rw [e,flat_snoc f h,List.length_append,List.length_append]
 omega
theorem putEnt (base B:Nat) (l:List UInt8) (A:Option Addr) (c:Nat) (xs:List REn) (en:REn→List UInt8) (w:World) (hbB:base≤B) (h:BufAt w base B l) (hv:RdE 16 REn.enc w (·<base) (.slice A xs.length c) xs)
  (hone:∀x∈xs,∀(W:World) (m:List UInt8),BufAt W base B m→Below base w W→KeepO B w W→(m++en x).length+4000≤140737488300000→Calls prog 49 #[.pointer (some ⟨B,0,none⟩),.agg (REn.enc x).toArray] W (BufOut base B (m++en x) W))
  (hl:(l++(encI xs.length++xs.flatMap en)).length+4000≤140737488300000):
  Calls prog 48 #[.pointer (some ⟨B,0,none⟩),.slice A xs.length c,.func (.func 49) #[] #[]] w (BufOut base B (l++(encI xs.length++xs.flatMap en)) w):=by
 exact zq5 0
theorem putHld (base B:Nat) (l:List UInt8) (A:Option Addr) (c:Nat) (xs:List Hld) (en:Hld→List UInt8) (w:World) (hbB:base≤B) (h:BufAt w base B l) (hv:RdE 6 Hld.enc w (·<base) (.slice A xs.length c) xs)
  (hone:∀x∈xs,∀(W:World) (m:List UInt8),BufAt W base B m→Below base w W→KeepO B w W→(m++en x).length+4000≤140737488300000→Calls prog 58 #[.pointer (some ⟨B,0,none⟩),.agg (Hld.enc x).toArray] W (BufOut base B (m++en x) W))
  (hl:(l++(encI xs.length++xs.flatMap en)).length+4000≤140737488300000):
  Calls prog 57 #[.pointer (some ⟨B,0,none⟩),.slice A xs.length c,.func (.func 58) #[] #[]] w (BufOut base B (l++(encI xs.length++xs.flatMap en)) w):=by
 exact zq5 2
theorem putPol (base B:Nat) (l:List UInt8) (A:Option Addr) (c:Nat) (xs:List Pol) (en:Pol→List UInt8) (w:World) (hbB:base≤B) (h:BufAt w base B l) (hv:RdE 2 Pol.enc w (·<base) (.slice A xs.length c) xs)
  (hone:∀x∈xs,∀(W:World) (m:List UInt8),BufAt W base B m→Below base w W→KeepO B w W→(m++en x).length+4000≤140737488300000→Calls prog 60 #[.pointer (some ⟨B,0,none⟩),.agg (Pol.enc x).toArray] W (BufOut base B (m++en x) W))
  (hl:(l++(encI xs.length++xs.flatMap en)).length+4000≤140737488300000):
  Calls prog 59 #[.pointer (some ⟨B,0,none⟩),.slice A xs.length c,.func (.func 60) #[] #[]] w (BufOut base B (l++(encI xs.length++xs.flatMap en)) w):=by
 exact zq6 0
theorem putHor (base B:Nat) (l:List UInt8) (A:Option Addr) (c:Nat) (xs:List Hor) (en:Hor→List UInt8) (w:World) (hbB:base≤B) (h:BufAt w base B l) (hv:RdE 2 Hor.enc w (·<base) (.slice A xs.length c) xs)
  (hone:∀x∈xs,∀(W:World) (m:List UInt8),BufAt W base B m→Below base w W→KeepO B w W→(m++en x).length+4000≤140737488300000→Calls prog 62 #[.pointer (some ⟨B,0,none⟩),.agg (Hor.enc x).toArray] W (BufOut base B (m++en x) W))
  (hl:(l++(encI xs.length++xs.flatMap en)).length+4000≤140737488300000):
  Calls prog 61 #[.pointer (some ⟨B,0,none⟩),.slice A xs.length c,.func (.func 62) #[] #[]] w (BufOut base B (l++(encI xs.length++xs.flatMap en)) w):=by
 exact zq5 7
theorem putNum (base B:Nat) (l:List UInt8) (A:Option Addr) (c:Nat) (xs:List Int) (en:Int→List UInt8) (w:World) (hbB:base≤B) (h:BufAt w base B l) (hv:RdE 1 intE w (·<base) (.slice A xs.length c) xs)
  (hone:∀x∈xs,∀(W:World) (m:List UInt8),BufAt W base B m→Below base w W→KeepO B w W→(m++en x).length+4000≤140737488300000→Calls prog 172 #[.pointer (some ⟨B,0,none⟩),.int .i64 x] W (BufOut base B (m++en x) W))
  (hl:(l++(encI xs.length++xs.flatMap en)).length+4000≤140737488300000):
  Calls prog 171 #[.pointer (some ⟨B,0,none⟩),.slice A xs.length c,.func (.func 172) #[] #[]] w (BufOut base B (l++(encI xs.length++xs.flatMap en)) w):=by
 exact zq6 1
theorem putCol (base B:Nat) (l:List UInt8) (A:Option Addr) (c:Nat) (xs:List RCol) (en:RCol→List UInt8) (w:World) (hbB:base≤B) (h:BufAt w base B l) (hv:RdE 3 RCol.enc w (·<base) (.slice A xs.length c) xs)
  (hone:∀x∈xs,∀(W:World) (m:List UInt8),BufAt W base B m→Below base w W→KeepO B w W→(m++en x).length+4000≤140737488300000→Calls prog 113 #[.pointer (some ⟨B,0,none⟩),.agg (RCol.enc x).toArray] W (BufOut base B (m++en x) W))
  (hl:(l++(encI xs.length++xs.flatMap en)).length+4000≤140737488300000):
  Calls prog 170 #[.pointer (some ⟨B,0,none⟩),.slice A xs.length c,.func (.func 113) #[] #[]] w (BufOut base B (l++(encI xs.length++xs.flatMap en)) w):=by
 exact zq5 5
theorem putFor (base B:Nat) (l:List UInt8) (A:Option Addr) (c:Nat) (xs:List RFor) (en:RFor→List UInt8) (w:World) (hbB:base≤B) (h:BufAt w base B l) (hv:RdE 2 RFor.enc w (·<base) (.slice A xs.length c) xs)
  (hone:∀x∈xs,∀(W:World) (m:List UInt8),BufAt W base B m→Below base w W→KeepO B w W→(m++en x).length+4000≤140737488300000→Calls prog 174 #[.pointer (some ⟨B,0,none⟩),.agg (RFor.enc x).toArray] W (BufOut base B (m++en x) W))
  (hl:(l++(encI xs.length++xs.flatMap en)).length+4000≤140737488300000):
  Calls prog 173 #[.pointer (some ⟨B,0,none⟩),.slice A xs.length c,.func (.func 174) #[] #[]] w (BufOut base B (l++(encI xs.length++xs.flatMap en)) w):=by
 exact zq5 4
theorem putExp (base B:Nat) (l:List UInt8) (A:Option Addr) (c:Nat) (xs:List RE) (en:RE→List UInt8) (w:World) (hbB:base≤B) (h:BufAt w base B l) (hv:RdE 7 RE.enc w (·<base) (.slice A xs.length c) xs)
  (hone:∀x∈xs,∀(W:World) (m:List UInt8),BufAt W base B m→Below base w W→KeepO B w W→(m++en x).length+4000≤140737488300000→Calls prog 176 #[.pointer (some ⟨B,0,none⟩),.agg (RE.enc x).toArray] W (BufOut base B (m++en x) W))
  (hl:(l++(encI xs.length++xs.flatMap en)).length+4000≤140737488300000):
  Calls prog 175 #[.pointer (some ⟨B,0,none⟩),.slice A xs.length c,.func (.func 176) #[] #[]] w (BufOut base B (l++(encI xs.length++xs.flatMap en)) w):=by
 exact zq5 1
end Go.Proofs.YtgfhknnklapldaaGreatDoor
