/-
 RrL
-/
import Derived.Test.YtbfdegkickjbpaaGreatGRrJ
import Derived.Test.YtbfdegkickjbpaaGreatGRrK
import Derived.Test.YtbfdegkickjbpaaGreatGSmP
import Derived.Test.YtbfdegkickjbpaaGreatGWkZ
import Derived.Test.YtbfdegkickjbpaaGreatGWk1
namespace Go.Proofs.YtbfdegkickjbpaaGreat
set_option maxRecDepth 1000000
set_option maxHeartbeats 32000000
open Go.RowKit Go.Lib Go.IntWalk Go.Sort Go.Shelf
theorem works35d (w:World):Calls Tryz.prog 13 #[] w fun e w'=>e=.returned (.bool true)∧Below w.heap.size w w':=
 works35z (fun V=>encNilV V) (fun D O R V hD hO hx=>encOpenV D O R V hD hO hx) w
theorem lawRDecode_any (v:Value) (l:List UInt8) (w:World) (hv:RdB w (·<w.heap.size) v l):Calls Tryz.prog 5 #[v] w fun e w'=>e=.returned (.bool true)∧Below w.heap.size w w':=by
 obtain ⟨Av,cv,rfl,y1,y2,y3⟩:=Rd.open_ hv
 unfold maxLen at y2
 have HV:=hI0 hv
 clear hv y3
 by_cases hb:2000<l.length
 case pos=>
  have hbi:(2000:Int)<(l.length:Int):=by omega
  go_enter Tryz.func5,Tryz.ntmps5
  go_wp2_with fail
  (with_reducible refine (works35d w).mono ?_)
  rintro _ z9 ⟨rfl,hb9⟩
  have HZ9:=hI0 hb9
  clear hb9
  go_wp2_with fail
  go_ret
  exact ⟨rfl,HZ9.out⟩
 have hbi:¬(2000:Int)<(l.length:Int):=by omega
 have K1:=decode_any _ l w HV.out
 have HL:=hI0 hb
 clear hb
 go_enter Tryz.func5,Tryz.ntmps5
 go_wp2_with fail
 clear hbi
 (with_reducible refine K1.mono ?_)
 rintro _ w1 ⟨c,rfl,hce,hci,hcx,hb1⟩
 obtain ⟨tx,tm,wa,fi,eA,eC,ents,dA,dC,dels,pA,pC,pla,rA,rC,rel,qA,qC,pol,hA,hC,hor⟩:=c
 simp only [RCm.enc]
 obtain ⟨W1,hW1⟩:∃V,V=w1.alloc (.cells #[.int .i64 tx,.int .i64 tm,.int .i64 wa,.int .i64 fi,.slice eA ents.length eC,.slice dA dels.length dC,.slice pA pla.length pC,.slice rA rel.length rC,.slice qA pol.length qC,.slice hA hor.length hC] 29):=⟨_,rfl⟩
 have hbW:Below w1.heap.size w1 W1:=by rw [hW1];exact Below.of_alloc _
 have HT:=hI0 (show W1.heap[w1.heap.size]? =some (.cells #[.int .i64 tx,.int .i64 tm,.int .i64 wa,.int .i64 fi,.slice eA ents.length eC,.slice dA dels.length dC,.slice pA pla.length pC,.slice rA rel.length rC,.slice qA pol.length qC,.slice hA hor.length hC] 29 (0,0)) by rw [hW1];exact heap_alloc_new _ _)
 have HCI:=hI0 (RCm.is_kw (w':=W1) (G:=(·<W1.heap.size)) hci (fun b hb=>hbW.block b hb.2) (fun b hb=>Nat.lt_of_lt_of_le hb.2 hbW.size))
 have HCX:=hI0 (fun x hx e he=>isK_X.wide (isK_X.keep (w':=W1) (hcx x hx e he) (fun b hb=>hbW.block b hb.2)) (G:=(·<W1.heap.size)) (fun b hb=>Nat.lt_of_lt_of_le hb.2 hbW.size))
 have HCE:=hI0 hce
 have HB1:=hI0 (hb1.trans (hbW.mono hb1.size))
 have HTL:=hI0 (show w1.heap.size<W1.heap.size by rw [hW1];simp)
 have K2:=rdecode_any _ l W1 (HV.out.below HB1.out) (by have:=HL.out;omega) (fun V C h1 h2 h3 h4=>lim_of (by have:=HL.out;omega) V C h1 h2 h4)
 have HW1:=hI0 hW1
 clear hce hci hcx hb1 hbW hW1 K1
 obtain ⟨e0,he0⟩:∃e,e=(decCm l).2:=⟨_,rfl⟩
 unfold DecRO at K2
 rw [←he0] at K2 ⊢
 clear he0
 go_upto_region 4 with (fail)
 rw [←HW1.out]
 go_wp2_with fail
 (with_reducible refine K2.mono ?_)
 rintro _ w2 ⟨d,rfl,hde,hdi,hdx,hb2⟩
 obtain ⟨utx,utm,uwa,ufi,ueA,ueC,uents,udA,udC,udels,upA,upC,upla,urA,urC,urel,uqA,uqC,upol,uhA,uhC,uhor⟩:=d
 simp only [RCm.enc]
 obtain ⟨W2,hW2⟩:∃V,V=w2.alloc (.cells #[.int .i64 utx,.int .i64 utm,.int .i64 uwa,.int .i64 ufi,.slice ueA uents.length ueC,.slice udA udels.length udC,.slice upA upla.length upC,.slice urA urel.length urC,.slice uqA upol.length uqC,.slice uhA uhor.length uhC] 29):=⟨_,rfl⟩
 have hbW:Below w2.heap.size w2 W2:=by rw [hW2];exact Below.of_alloc _
 have HU:=hI0 (show W2.heap[w2.heap.size]? =some (.cells #[.int .i64 utx,.int .i64 utm,.int .i64 uwa,.int .i64 ufi,.slice ueA uents.length ueC,.slice udA udels.length udC,.slice upA upla.length upC,.slice urA urel.length urC,.slice uqA upol.length uqC,.slice uhA uhor.length uhC] 29 (0,0)) by rw [hW2];exact heap_alloc_new _ _)
 have hb12:=hb2.trans (hbW.mono hb2.size)
 have HT2:=hI0 ((hb12.block _ HTL.out).trans HT.out)
 have KS:=like_any _ _ (HCE.out.trans hde.symm) W2 (HCI.out.below hb12) (RCm.is_kw (w':=W2) hdi (fun b hb=>hbW.block b hb.2) (fun b hb=>Nat.lt_of_lt_of_le hb.2 hbW.size)) (fun x hx e he=>isK_X.wide (isK_X.keep (w':=W2) (HCX.out x hx e he) (fun b hb=>hb12.block b hb)) (fun b hb=>Nat.lt_of_lt_of_le hb hb12.size)) (fun x hx e he=>isK_X.wide (isK_X.keep (w':=W2) (hdx x hx e he) (fun b hb=>hbW.block b hb.2)) (fun b hb=>Nat.lt_of_lt_of_le hb.2 hbW.size))
 simp only [RCm.enc] at KS
 have HB2:=hI0 (HB1.out.trans (hb12.mono HB1.out.size))
 have HW2:=hI0 hW2
 clear hde hdi hdx hb2 hbW hb12 hW2 K2
 go_upto_region 5 with (fail)
 rw [←HW2.out]
 go_wp2_with (first|(refine wpList_loadRow (cs:=#[.int .i64 tx,.int .i64 tm,.int .i64 wa,.int .i64 fi,.slice eA ents.length eC,.slice dA dels.length dC,.slice pA pla.length pC,.slice rA rel.length rC,.slice qA pol.length qC,.slice hA hor.length hC]) (.tmp 3) rfl rfl rfl sz_rcm ag_rcm HT2.out ?_)|(refine wpList_loadRow (cs:=#[.int .i64 utx,.int .i64 utm,.int .i64 uwa,.int .i64 ufi,.slice ueA uents.length ueC,.slice udA udels.length udC,.slice upA upla.length upC,.slice urA urel.length urC,.slice uqA upol.length uqC,.slice uhA uhor.length uhC]) (.tmp 5) rfl rfl rfl sz_rcm ag_rcm HU.out ?_))
 (with_reducible refine KS.mono ?_)
 rintro _ y4 ⟨rfl,hb4⟩
 have HB4:Hid (Below w.heap.size w y4):=hI0 (HB2.out.trans (hb4.mono HB2.out.size))
 clear hb4 KS
 go_wp2_with fail
 (with_reducible refine (works35d y4).mono ?_)
 rintro _ y5 ⟨rfl,hb5⟩
 go_wp2_with fail
 go_ret
 exact ⟨by simp,HB4.out.trans (hb5.mono HB4.out.size)⟩
end Go.Proofs.YtbfdegkickjbpaaGreat
