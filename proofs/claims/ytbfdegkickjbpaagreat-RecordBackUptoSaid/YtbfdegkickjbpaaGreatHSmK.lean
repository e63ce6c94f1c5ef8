/-
 SmK
-/
import Derived.Test.YtbfdegkickjbpaaGreatHSmE
import Derived.Test.YtbfdegkickjbpaaGreatHSmJ
import Derived.Test.YtbfdegkickjbpaaGreatHRlA
namespace Go.Proofs.YtbfdegkickjbpaaGreat
set_option maxRecDepth 1000000
set_option maxHeartbeats 32000000
open Go.RowKit Go.Lib Go.IntWalk Go.Sort Go.Shelf
theorem state_any (c:RSt) (w:World) (hc:c.is w (·<w.heap.size)) (hlm:c.lim w):Calls Tryz.prog 20 #[.agg c.enc.toArray] w (BoolO w):=by
 have HI0:=hI0 hc
 have HL0:=hI0 hlm
 obtain ⟨stx,stm,swl,snx,seA,seC,sents,ssA,ssC,sstms,stA,stC,stabs,spA,spC,spla,sqA,sqC,spol,shA,shC,shor⟩:=c
 have HI:Hid (RSt.is w (·<w.heap.size) ⟨stx,stm,swl,snx,seA,seC,sents,ssA,ssC,sstms,stA,stC,stabs,spA,spC,spla,sqA,sqC,spol,shA,shC,shor⟩):=HI0
 have HLM:Hid (RSt.lim w ⟨stx,stm,swl,snx,seA,seC,sents,ssA,ssC,sstms,stA,stC,stabs,spA,spC,spla,sqA,sqC,spol,shA,shC,shor⟩):=HL0
 have n1:=hlm.ents
 have n2:=hlm.stms
 have n3:=hlm.tabs
 have n4:=hlm.pla
 have n5:=hlm.pol
 have n6:=hlm.hor
 simp only at n1 n2 n3 n4 n5 n6
 show Calls Tryz.prog 20 #[.agg #[.int .i64 stx,.int .i64 stm,.int .i64 swl,.int .i64 snx,.slice seA sents.length seC,.slice ssA sstms.length ssC,.slice stA stabs.length stC,.slice spA spla.length spC,.slice sqA spol.length sqC,.slice shA shor.length shC]] w _
 clear hc hlm HI0 HL0
 obtain ⟨W,hW⟩:∃W,W=w.alloc (.cells #[.int .i64 stx,.int .i64 stm,.int .i64 swl,.int .i64 snx,.slice seA sents.length seC,.slice ssA sstms.length ssC,.slice stA stabs.length stC,.slice spA spla.length spC,.slice sqA spol.length sqC,.slice shA shor.length shC] 47):=⟨_,rfl⟩
 have HBW:Hid (Below w.heap.size w W):=hI0 (by rw [hW];exact Below.of_alloc _)
 have HT:Hid (W.heap[w.heap.size]? =some (.cells #[.int .i64 stx,.int .i64 stm,.int .i64 swl,.int .i64 snx,.slice seA sents.length seC,.slice ssA sstms.length ssC,.slice stA stabs.length stC,.slice spA spla.length spC,.slice sqA spol.length sqC,.slice shA shor.length shC] 47 (0,0))):=hI0 (by rw [hW];exact heap_alloc_new _ _)
 have c5:W.cell? ⟨w.heap.size,5,none⟩=some (.slice ssA sstms.length ssC):=cW0 W _ 5 _ _ _ HT.out
 have c6:W.cell? ⟨w.heap.size,6,none⟩=some (.slice stA stabs.length stC):=cW0 W _ 6 _ _ _ HT.out
 have c7:W.cell? ⟨w.heap.size,7,none⟩=some (.slice spA spla.length spC):=cW0 W _ 7 _ _ _ HT.out
 have c8:W.cell? ⟨w.heap.size,8,none⟩=some (.slice sqA spol.length sqC):=cW0 W _ 8 _ _ _ HT.out
 have c9:W.cell? ⟨w.heap.size,9,none⟩=some (.slice shA shor.length shC):=cW0 W _ 9 _ _ _ HT.out
 have i1:(sstms.length:Int)+(stabs.length:Int)≤9223372036854775807:=by omega
 have i2:(sstms.length:Int)+(stabs.length:Int)+(spla.length:Int)≤9223372036854775807:=by omega
 have i3:(sstms.length:Int)+(stabs.length:Int)+(spla.length:Int)+(spol.length:Int)≤9223372036854775807:=by omega
 have i4:(sstms.length:Int)+(stabs.length:Int)+(spla.length:Int)+(spol.length:Int)+(shor.length:Int)≤9223372036854775807:=by omega
 go_enter Tryz.func20,Tryz.ntmps20
 go_wp2_with fail
 rw [←hW]
 clear hW i1 i2 i3 i4 c5 c6 c7 c8 c9
 go_loopw [3,4] (fun n i wr=>∃(m:Int) (k:Nat),n=.int .i64 m∧i=.int .i64 (k:Int)∧k≤stabs.length∧0≤m∧m≤100000000∧Hid (Below w.heap.size w wr)∧Hid (wr.heap[w.heap.size]? =some (.cells #[.int .i64 stx,.int .i64 stm,.int .i64 swl,.int .i64 snx,.slice seA sents.length seC,.slice ssA sstms.length ssC,.slice stA stabs.length stC,.slice spA spla.length spC,.slice sqA spol.length sqC,.slice shA shor.length shC] 47 (0,0)))) (fun _ i _=>stabs.length-(intOf i).toNat)
 case atStart=>exact ⟨_,0,rfl,rfl,Nat.zero_le _,by omega,by omega,HBW,HT⟩
 obtain ⟨m,k,rfl,rfl,hk,hm0,hm1,HB,HTB⟩:=hrel
 obtain ⟨wi,rfl⟩:∃wi:World,wi=wr:=⟨_,rfl⟩
 have c6:wi.cell? ⟨w.heap.size,6,none⟩=some (.slice stA stabs.length stC):=cW0 wi _ 6 _ _ _ HTB.out
 have c4:wi.cell? ⟨w.heap.size,4,none⟩=some (.slice seA sents.length seC):=cW0 wi _ 4 _ _ _ HTB.out
 have KE:=entries_any (.slice seA sents.length seC) sents wi (HI.out.ents.below HB.out) (fun x hx=>((HI.out.entI x hx).below HB.out).create) (fun x hx e he=>⟨(HLM.out.exps x hx e he).1.below HB.out,(HLM.out.exps x hx e he).2⟩)
 by_cases hlt:k<stabs.length
 case neg=>
  exact zq50 0
 have hlt2:(k:Int)<(stabs.length:Int):=by omega
 by_cases h300:m≤300
 case neg=>
  go_wp2_with fail
  go_ret
  exact ⟨_,rfl,HB.out⟩
 clear KE c4
 obtain ⟨b,off,rfl,hF,hcl⟩:=RdE.at_ (K:=2) (enc:=RTv.enc) (fun _=>rfl) (by omega) (HI.out.tabs.below HB.out) hlt
 have hcx0:=hcl k hlt
 have hmem:=List.getElem_mem hlt
 obtain ⟨x,hx⟩:∃z,z=stabs[k]:=⟨_,rfl⟩
 rw [←hx] at hcx0 hmem
 have hdi:=HI.out.tabI _ hmem
 have hdr:=HLM.out.rows _ hmem
 clear hcl hF hx hmem
 obtain ⟨tb,vA,vC,vers⟩:=x
 simp only at hdr
 have HDI:Hid (RdVs w (·<w.heap.size) (.slice vA vers.length vC) vers):=hI0 hdi
 have HDR:=hI0 hdr
 have hf1:=hdr.1
 have g1:wi.cell? ⟨b,off+k*2+1,none⟩=some (.slice vA vers.length vC):=hcx0 1 _ (by decide) rfl
 clear hcx0 hdi hdr
 have i2:m+(vers.length:Int)≤9223372036854775807:=by omega
 have i3: -9223372036854775808≤m+(vers.length:Int):=by omega
 have HLK:=hI0 hlt
 have G1:=hI0 g1
 have HM:=hI0 hm0
 have h300':=h300
 go_wp2_with fail
 go_loopw [3,5] (fun n i wr=>∃(m:Int) (j:Nat),n=.int .i64 m∧i=.int .i64 (j:Int)∧j≤vers.length∧0≤m∧m≤3000000∧wr=wi) (fun _ i _=>vers.length-(intOf i).toNat)
 case atStart=>exact ⟨_,0,rfl,rfl,Nat.zero_le _,by omega,by omega,rfl⟩
 obtain ⟨m',j,rfl,rfl,hj,hm0',hm1',hw⟩:=hrel
 rw [hw]
 clear hw hlt g1 i2 i3 h300 h300'
 have g1:wi.cell? ⟨b,off+k*2+1,none⟩=some (.slice vA vers.length vC):=G1.out
 by_cases hlt:j<vers.length
 case neg=>
  have hn:¬(j:Int)<(vers.length:Int):=by omega
  go_wp2_with fail
  go_roundw
  case rel=>exact ⟨m',k+1,by go_num,by go_num,HLK.out,hm0',by omega,HB,HTB⟩
  case measure=>have:=HLK.out;simp [intOf];omega
 have hlt3:(j:Int)<(vers.length:Int):=by omega
 by_cases h300:m'≤300
 case neg=>
  go_wp2_with fail
  go_roundw
  case rel=>exact ⟨m',k+1,by go_num,by go_num,HLK.out,hm0',by omega,HB,HTB⟩
  case measure=>have:=HLK.out;simp [intOf];omega
 obtain ⟨b3,off3,rfl,hF,hcl,hxv⟩:=RdVs.at_ (HDI.out.below HB.out) hlt
 have hyr:=HDR.out.2 _ (List.getElem_mem hlt)
 obtain ⟨y,hy⟩:∃z,z=vers[j]:=⟨_,rfl⟩
 rw [←hy] at hcl hxv hyr
 clear hy
 obtain ⟨⟨y1,y2,yA,yn,yc,y3,y4,y5,y6,y7,y8⟩,y⟩:=y
 simp only at hcl hxv hyr
 have hrow:=hxv.row
 obtain ⟨r1,r2,r3,r4,r5⟩:=Rd.open_ (show Rd wi _ _ _ _ _ from hrow)
 have g9:wi.cell? ⟨b3,off3+j*9+2,none⟩=some (.slice yA yn yc):=hcl 2 _ (by decide) rfl
 have hfn:yn=y.row.length:=by injection r3
 clear hcl hF hxv hrow r4 r5
 have i1:m'+(yn:Int)≤9223372036854775807:=by omega
 have i2: -9223372036854775808≤m'+(yn:Int):=by omega
 go_wp2_with fail
 go_roundw
 case rel=>exact ⟨_,j+1,rfl,by go_num,hlt,by omega,by omega,by first|rfl|trivial⟩
 case measure=>simp [intOf];omega
end Go.Proofs.YtbfdegkickjbpaaGreat
