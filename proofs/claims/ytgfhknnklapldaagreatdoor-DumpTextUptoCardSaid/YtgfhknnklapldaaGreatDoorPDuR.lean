/-
 DuR
-/
import Derived.Test.YtgfhknnklapldaaGreatDoorPDuQ
import Derived.Test.YtgfhknnklapldaaGreatDoorPDuM
namespace Go.Proofs.YtgfhknnklapldaaGreatDoor
open Go.Proofs.Tryz
set_option maxRecDepth 99999
set_option maxHeartbeats 0
open Go.RowKit Go.Lib Go.IntWalk Go.Sort Go.Shelf
def VsOut (n:Nat) (w0:World) (e:Ending) (w:World):Prop:=(∃q:Bool,e=.returned (.bool q)∧(q=true→n≤60))∧Bl w0 w
theorem versions_any (A:Option Addr) (c:Nat) (ps:List VP) (w:World) (hv:RdVs w (ltw w) (.slice A ps.length c) ps):
  Calls prog 12 #[.slice A ps.length c] w (VsOut ps.length w):=by
 obtain ⟨A0,C0,hAc,z1,z2,_⟩:=hv.1.open_
 simp only [Value.slice.injEq] at hAc
 obtain ⟨rfl,-,rfl⟩:=hAc
 unfold maxLen at z2
 have HV:=hI0 hv
 clear hv
 go_in
 go_wp2_with fail
 go_loopw [3] (fun i wr=>∃k:Nat,i=.int .i64 (k:Int)∧k≤ps.length∧Hid (Bl w wr)) (fun i _=>ps.length-(intOf i).toNat)
 case atStart=>exact ⟨0,rfl,Nat.zero_le _,hI0 (Below.refl _ _)⟩
 obtain ⟨k,rfl,hk,HB⟩:=hrel
 obtain ⟨wi,rfl⟩:=eN0 wr
 by_cases hlt:k<ps.length
 case neg=>
  have hke:k=ps.length:=by omega
  by_cases h60:ps.length≤60
  case pos=>
   have q1:(ps.length:Int)≤60:=by omega
   have HL:=hI0 h60
   clear hke
   go_wp2_with fail
   go_ret
   exact ⟨⟨_,rfl,fun _=>HL.out⟩,HB.out⟩
  have q1:¬(ps.length:Int)≤60:=by omega
  have q2:¬ps.length≤60:=h60
  clear hke
  go_wp2_with fail
  go_ret
  exact ⟨⟨_,rfl,fun h=>absurd h (by decide)⟩,HB.out⟩
 by_cases h60:k<60
 case neg=>
  have q2:¬(k:Int)<60:=by omega
  by_cases h61:ps.length≤60
  case pos=>omega
  have q1:¬(ps.length:Int)≤60:=by omega
  go_wp2_with fail
  go_ret
  exact ⟨⟨_,rfl,fun h=>absurd h (by decide)⟩,HB.out⟩
 have q2:(k:Int)<60:=by omega
 obtain ⟨b2,off,rfl,hF,hcl,hx⟩:=RdVs.at_ (HV.out.below HB.out) hlt
 generalize ps[k]=p at *
 obtain ⟨⟨x1,x2,xA,xn,xc,x3,x4,x5,x6,x7,x8⟩,x⟩:=p
 simp only at hcl hx
 have g2:wi.cell? ⟨b2,off+k*9+2,none⟩=some (.slice xA xn xc):=hcl 2 _ (by decide) rfl
 clear hcl hx
 by_cases h20:xn≤20
 case pos=>
  have q3:¬(20:Int)<(xn:Int):=by omega
  have q4:¬ 20<xn:=by omega
  go_wp2_with fail
  go_roundw
  case rel=>exact ⟨k+1,by go_num,by omega,HB⟩
  case measure=>simp [intOf];omega
 have q3:(20:Int)<(xn:Int):=by omega
 have q4:20<xn:=by omega
 go_wp2_with fail
 go_ret
 exact ⟨⟨_,rfl,fun h=>absurd h (by decide)⟩,HB.out⟩
theorem lawTable_any (x:RTv) (w:World) (he:EnvD w) (hx:x.is w (ltw w)) (hZ:x.table.size≤maxLen):
  Calls prog 4 #[.agg x.enc.toArray] w fun e w'=>e=.returned (.bool true)∧Bl w w':=by
 have hTS:∀s:ByteArray,(s.toList==s.toList)=true:=fun s=>by simp
 obtain ⟨S,A,c,ps⟩:=x
 show Calls prog 4 #[.agg #[.string S,.slice A ps.length c]] w _
 have KW:Hid (∀W,Bl w W→Calls prog 9 #[] W fun e w'=>e=.returned (.bool true)∧Bl W w'):=hI0 (fun W hb=>works_any W (he.below hb))
 have hv:RdVs w (ltw w) (.slice A ps.length c) ps:=hx
 obtain ⟨W1,hW1⟩:=eN0 (w.alloc (.cells #[.string S,.slice A ps.length c] 37))
 have hbW1:=bN0 hW1
 have hnW1:=hN0 hW1
 have eW1:w.alloc (.cells #[.string S,.slice A ps.length c] 37)=W1:=by rw [hW1]
 clear hW1
 have HB1:=hI0 hbW1
 have HT1:=hI0 hnW1
 have HV:=hI0 hv
 have HX:Hid ((⟨S,A,c,ps⟩:RTv).is w (ltw w)):=hI0 hx
 have HE:=hI0 he
 have c1:=cW1 1 hnW1 rfl
 have KV:=hI0 (versions_any A c ps W1 (hv.below hbW1))
 clear hbW1 hnW1 hx he hv
 go_in
 go_wp2_with fail
 clear eW1 c1
 (with_reducible refine KV.out.mono ?_)
 rintro _ w2 ⟨⟨q,rfl,hq⟩,hb2⟩
 have HB2:=bT0 HB1 hb2
 have HT2:=hI0 (keepRow hb2 HT1.out)
 clear hb2 KV
 cases q
 case false=>
  clear hq
  go_wp2_with fail
  (with_reducible refine (KW.out w2 HB2.out).mono ?_)
  rintro _ w3 ⟨rfl,hb3⟩
  have HB3:=bT0 HB2 hb3
  go_wp2_with fail
  go_ret
  exact ⟨rfl,HB3.out⟩
 have hl:ps.length≤60:=hq rfl
 clear hq
 have c1:=cW1 1 HT2.out rfl
 have c0:=cW1 0 HT2.out rfl
 have KD:=hI0 (show Calls prog 13 #[.agg #[.string S,.slice A ps.length c]] w2 (DtOut ⟨S,A,c,ps⟩ w2) from dtable_any ⟨S,A,c,ps⟩ w2 (HE.out.below HB2.out) (HX.out.below HB2.out) (by show ps.length≤_;omega))
 have hl2:ps.length≤1048576:=by omega
 have HL2:=hI0 hl2
 clear hl hl2
 go_wp2_with fail
 clear c1 c0
 (with_reducible refine KD.out.mono ?_)
 rintro _ w3 ⟨rfl,hb3⟩
 have HB3:=bT0 HB2 hb3
 have HT3:=hI0 (keepRow hb3 HT2.out)
 have c1:=cW1 1 HT3.out rfl
 have c0:=cW1 0 HT3.out rfl
 have KR:=hI0 (show Calls prog 14 #[.agg #[.string S,.slice A ps.length c]] w3 (DtOut ⟨S,A,c,ps⟩ w3) from rtable_any ⟨S,A,c,ps⟩ w3 (HX.out.below HB3.out) hZ HL2.out)
 unfold DtOut at KR
 dsimp only at KR
 dsimp only
 generalize dtT ⟨S,A,c,ps⟩=txt at *
 generalize tabE S (ps.map (·.2))=er at *
 generalize strB txt=st at *
 clear hb3 KD
 go_wp2_with fail
 clear c1 c0
 (with_reducible refine KR.out.mono ?_)
 rintro _ w4 ⟨rfl,hb4⟩
 have HB4:=bT0 HB3 hb4
 have KW4:=hI0 (KW.out w4 HB4.out)
 clear hb4 KR
 go_wp2_with fail
 (with_reducible refine KW4.out.mono ?_)
 rintro _ w5 ⟨rfl,hb5⟩
 have HB5:=bT0 HB4 hb5
 go_wp2_with fail
 go_ret
 exact ⟨rfl,HB5.out⟩
end Go.Proofs.YtgfhknnklapldaaGreatDoor
