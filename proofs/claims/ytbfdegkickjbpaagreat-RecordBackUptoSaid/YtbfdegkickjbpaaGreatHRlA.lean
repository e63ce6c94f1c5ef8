/-
 RlA
-/
import Derived.Test.YtbfdegkickjbpaaGreatHRcG
import Derived.Test.YtbfdegkickjbpaaGreatHRcO
import Derived.Test.YtbfdegkickjbpaaGreatHWkD
namespace Go.Proofs.YtbfdegkickjbpaaGreat
set_option maxRecDepth 1000000
set_option maxHeartbeats 32000000
open Go.RowKit Go.Lib Go.IntWalk Go.Sort Go.Shelf
theorem zq50 {P:Prop} (i:Nat) (h:Tg i→P:=by
 intro zT50
 first
  |guard_hyp zT50:Tg 1
   have hn:¬(k:Int)<(dels.length:Int):=by omega
  |have hn:¬(k:Int)<(stabs.length:Int):=by omega
 by_cases h9:m≤300
 case neg=>
  go_wp2_with fail
  go_ret
  exact ⟨_,rfl,HB.out⟩
 go_wp2_with fail
 (with_reducible refine KE.mono ?_)
 rintro _ w2 ⟨r,rfl,hb2⟩
 have HB2:Hid (Below w.heap.size w w2):=hI0 (HB.out.trans (hb2.mono HB.out.size))
 clear hb2 KE
 go_wp2_with fail
 go_ret
 exact ⟨_,rfl,HB2.out⟩) : P := h ⟨⟩
def BetI (a b:Int) (w:World) (e:Ending) (w':World):Prop:=∃n:Int,e=.returned (.int .i64 n)∧a≤n∧n≤b∧Below w.heap.size w w'
def BoolO (w:World) (e:Ending) (w':World):Prop:=∃b:Bool,e=.returned (.bool b)∧Below w.heap.size w w'
theorem exAll.below {w w':World} {e:RE} (h:exAll w (·<w.heap.size) e) (hb:Below w.heap.size w w'):exAll w' (·<w'.heap.size) e:=fun d=>exIs_below hb d e (h d)
theorem exAll.args {w:World} {F:Nat→Prop} {op it:Int} {v:Val} {nm:ByteArray} {A:Option Addr} {c:Nat} {args:List RE} (h:exAll w F (.mk op it v nm A c args)):RdE 7 RE.enc w F (.slice A args.length c) args∧∀a∈args,exAll w F a:=
 ⟨(h 1).1,fun a ha d=>(h (d+1)).2.2.2 a ha⟩
theorem nodesL_take {l:List RE} {k:Nat} (h:k<l.length):nodesL (l.take (k+1))=nodesL (l.take k)+l[k].nodes:=by
 rw [nodesL_sum,nodesL_sum,List.take_succ_eq_append_getElem h,List.map_append,List.sum_append]
 simp
theorem nodesL_take_le (l:List RE) (k:Nat):nodesL (l.take k)≤nodesL l:=by
 rw [nodesL_sum,nodesL_sum]
 conv=>rhs;rw [←List.take_append_drop k l,List.map_append,List.sum_append]
 omega
theorem deep_any:∀(most:Nat) (e:RE) (mi:Int) (w:World),mi=most→most≤40→exAll w (·<w.heap.size) e→Calls Tryz.prog 127 #[.agg e.enc.toArray,.int .i64 mi] w (BetI 1 ((most:Int)+1) w):=by
 intro most
 induction most with
 |zero=>
  intro e mi w hmi _ _
  obtain ⟨op,it,⟨vk,vi,vs⟩,nm,A,c,args⟩:=e
  subst hmi
  show Calls Tryz.prog 127 #[.agg #[.int .i64 op,.int .i64 it,.int .i64 vk,.int .i64 vi,.string vs,.string nm,.slice A args.length c],.int .i64 ((0:Nat):Int)] w _
  obtain ⟨W,hW⟩:∃W,W=w.alloc (.cells #[.int .i64 op,.int .i64 it,.int .i64 vk,.int .i64 vi,.string vs,.string nm,.slice A args.length c] 212):=⟨_,rfl⟩
  have HBW:Hid (Below w.heap.size w W):=hI0 (by rw [hW];exact Below.of_alloc _)
  have HT:Hid (W.heap[w.heap.size]? =some (.cells #[.int .i64 op,.int .i64 it,.int .i64 vk,.int .i64 vi,.string vs,.string nm,.slice A args.length c] 212 (0,0))):=hI0 (by rw [hW];exact heap_alloc_new _ _)
  have c6:W.cell? ⟨w.heap.size,6,none⟩=some (.slice A args.length c):=cW0 W _ 6 _ _ _ HT.out
  by_cases h0:(0:Int)<(args.length:Int)
  case pos=>
   go_enter Tryz.func127,Tryz.ntmps127
   go_wp2_with fail
   rw [←hW]
   clear hW
   go_loopw [5,6] (fun n i wr=>n=.int .i64 0∧i=.int .i64 0∧wr=W) (fun _ _ _=>0)
   case atStart=>exact ⟨rfl,rfl,rfl⟩
   obtain ⟨rfl,rfl,hw⟩:=hrel
   rw [hw]
   clear hw
   go_wp2_with fail
   go_ret
   exact ⟨1,rfl,by omega,by omega,HBW.out⟩
  go_enter Tryz.func127,Tryz.ntmps127
  go_wp2_with fail
  rw [←hW]
  clear hW
  go_loopw [5,6] (fun n i wr=>n=.int .i64 0∧i=.int .i64 0∧wr=W) (fun _ _ _=>0)
  case atStart=>exact ⟨rfl,rfl,rfl⟩
  obtain ⟨rfl,rfl,hw⟩:=hrel
  rw [hw]
  clear hw
  go_wp2_with fail
  go_ret
  exact ⟨1,rfl,by omega,by omega,HBW.out⟩
 |succ most ih=>
  intro e mi w hmi h40 he
  obtain ⟨op,it,⟨vk,vi,vs⟩,nm,A,c,args⟩:=e
  have HAL:=hI0 he.args
  have IH:=hI0 ih
  obtain ⟨n1,n2⟩:=HAL.out.1.bd
  show Calls Tryz.prog 127 #[.agg #[.int .i64 op,.int .i64 it,.int .i64 vk,.int .i64 vi,.string vs,.string nm,.slice A args.length c],.int .i64 mi] w _
  have hmi1:mi-1≤9223372036854775807:=by omega
  have hmi2: -9223372036854775808≤mi-1:=by omega
  have HMI:=hI0 hmi
  have hmi40:mi≤41:=by omega
  have hmi0:0≤mi:=by omega
  clear ih he hmi
  obtain ⟨W,hW⟩:∃W,W=w.alloc (.cells #[.int .i64 op,.int .i64 it,.int .i64 vk,.int .i64 vi,.string vs,.string nm,.slice A args.length c] 212):=⟨_,rfl⟩
  have HBW:Hid (Below w.heap.size w W):=hI0 (by rw [hW];exact Below.of_alloc _)
  have HT:Hid (W.heap[w.heap.size]? =some (.cells #[.int .i64 op,.int .i64 it,.int .i64 vk,.int .i64 vi,.string vs,.string nm,.slice A args.length c] 212 (0,0))):=hI0 (by rw [hW];exact heap_alloc_new _ _)
  go_enter Tryz.func127,Tryz.ntmps127
  go_wp2_with fail
  rw [←hW]
  clear hW
  go_loopw [5,6] (fun n i wr=>∃(m:Int) (k:Nat),n=.int .i64 m∧i=.int .i64 (k:Int)∧k≤args.length∧0≤m∧m≤mi∧Hid (Below w.heap.size w wr)∧Hid (wr.heap[w.heap.size]? =some (.cells #[.int .i64 op,.int .i64 it,.int .i64 vk,.int .i64 vi,.string vs,.string nm,.slice A args.length c] 212 (0,0)))) (fun _ i _=>args.length-(intOf i).toNat)
  case atStart=>exact ⟨0,0,rfl,rfl,Nat.zero_le _,by omega,by omega,HBW,HT⟩
  obtain ⟨m,k,rfl,rfl,hk,hm0,hm1,HB,HTB⟩:=hrel
  obtain ⟨wi,rfl⟩:∃wi:World,wi=wr:=⟨_,rfl⟩
  have c6:wi.cell? ⟨w.heap.size,6,none⟩=some (.slice A args.length c):=cW0 wi _ 6 _ _ _ HTB.out
  by_cases hlt:k<args.length
  case neg=>
   have hn:¬(k:Int)<(args.length:Int):=by omega
   go_wp2_with fail
   go_ret
   exact ⟨m+1,rfl,by omega,by have:=HMI.out;omega,HB.out⟩
  have ihlt:(k:Int)<(args.length:Int):=by omega
  by_cases h100:k<100
  case neg=>
   have hn:¬(k:Int)<100:=by omega
   go_wp2_with fail
   go_ret
   exact ⟨m+1,rfl,by omega,by have:=HMI.out;omega,HB.out⟩
  have ih100:(k:Int)<100:=by omega
  by_cases hmm:m<mi
  case neg=>
   have hn:¬m<mi:=by omega
   go_wp2_with fail
   go_ret
   exact ⟨m+1,rfl,by omega,by have:=HMI.out;omega,HB.out⟩
  have ihmm:m<mi:=by omega
  obtain ⟨b,off,rfl,hF,hcl⟩:=RdE.at_ (K:=7) (enc:=RE.enc) RE.enc_length (by omega) (HAL.out.1.below HB.out) hlt
  have hcx0:=hcl k hlt
  have hmem:=List.getElem_mem hlt
  obtain ⟨x,hx⟩:∃z,z=args[k]:=⟨_,rfl⟩
  rw [←hx] at hcx0 hmem
  have hcx:∀jj u,jj<7→(RE.enc x)[jj]? =some u→wi.cell? ⟨b,off+k*7+jj,none⟩=some u:=hcx0
  clear hcl hF hcx0 hx
  have hxa:=HAL.out.2 _ hmem
  have KX:=IH.out x (mi-1) wi (by have:=HMI.out;omega) (by have:=HMI.out;omega) (hxa.below HB.out)
  obtain ⟨op2,it2,⟨vk2,vi2,vs2⟩,nm2,A2,c2,args2⟩:=x
  have g0:wi.cell? ⟨b,off+k*7,none⟩=some (.int .i64 op2):=hcx 0 _ (by decide) rfl
  have g1:wi.cell? ⟨b,off+k*7+1,none⟩=some (.int .i64 it2):=hcx 1 _ (by decide) rfl
  have g2:wi.cell? ⟨b,off+k*7+2,none⟩=some (.int .i64 vk2):=hcx 2 _ (by decide) rfl
  have g3:wi.cell? ⟨b,off+k*7+3,none⟩=some (.int .i64 vi2):=hcx 3 _ (by decide) rfl
  have g4:wi.cell? ⟨b,off+k*7+4,none⟩=some (.string vs2):=hcx 4 _ (by decide) rfl
  have g5:wi.cell? ⟨b,off+k*7+5,none⟩=some (.string nm2):=hcx 5 _ (by decide) rfl
  have g6:wi.cell? ⟨b,off+k*7+6,none⟩=some (.slice A2 args2.length c2):=hcx 6 _ (by decide) rfl
  clear hcx hmem hxa
  have KX:Calls Tryz.prog 127 #[.agg #[.int .i64 op2,.int .i64 it2,.int .i64 vk2,.int .i64 vi2,.string vs2,.string nm2,.slice A2 args2.length c2],.int .i64 (mi-1)] wi _:=KX
  go_wp2_with fail
  clear g0 g1 g2 g3 g4 g5 g6 c6
  (with_reducible refine KX.mono ?_)
  rintro _ w2 ⟨r,rfl,hr1,hr2,hb2⟩
  have HTB2:=hI0 ((hb2.block w.heap.size (Array.getElem?_eq_some_iff.1 HTB.out).1).trans HTB.out)
  have HB2:Hid (Below w.heap.size w w2):=hI0 (HB.out.trans (hb2.mono HB.out.size))
  clear hb2 KX
  go_wp2_with fail
  go_roundw
  case rel=>exact ⟨_,k+1,rfl,by go_num,by omega,by have:=HMI.out;first|omega|(split<;>omega),by have:=HMI.out;first|omega|(split<;>omega),HB2,HTB2⟩
  case measure=>simp [intOf];omega
theorem size_any:∀(n:Nat) (e:RE) (w:World),e.nodes≤n→e.nodes≤1048576→exAll w (·<w.heap.size) e→Calls Tryz.prog 128 #[.agg e.enc.toArray] w (BetI 1 e.nodes w):=by
 intro n
 induction n with
 |zero=>intro e w h;have:=e.nodes_pos;omega
 |succ n ih=>
  intro e w hn hmx he
  obtain ⟨op,it,⟨vk,vi,vs⟩,nm,A,c,args⟩:=e
  have HAL:=hI0 he.args
  have IH:=hI0 ih
  obtain ⟨n1,n2⟩:=HAL.out.1.bd
  have hnd:(RE.mk op it ⟨vk,vi,vs⟩ nm A c args).nodes=nodesL args+1:=by simp only [RE.nodes]
  rw [hnd] at hn hmx ⊢
  show Calls Tryz.prog 128 #[.agg #[.int .i64 op,.int .i64 it,.int .i64 vk,.int .i64 vi,.string vs,.string nm,.slice A args.length c]] w _
  clear ih he hnd
  obtain ⟨W,hW⟩:∃W,W=w.alloc (.cells #[.int .i64 op,.int .i64 it,.int .i64 vk,.int .i64 vi,.string vs,.string nm,.slice A args.length c] 212):=⟨_,rfl⟩
  have HBW:Hid (Below w.heap.size w W):=hI0 (by rw [hW];exact Below.of_alloc _)
  have HT:Hid (W.heap[w.heap.size]? =some (.cells #[.int .i64 op,.int .i64 it,.int .i64 vk,.int .i64 vi,.string vs,.string nm,.slice A args.length c] 212 (0,0))):=hI0 (by rw [hW];exact heap_alloc_new _ _)
  go_enter Tryz.func128,Tryz.ntmps128
  go_wp2_with fail
  rw [←hW]
  clear hW
  go_loopw [3,4] (fun n i wr=>∃(m:Int) (k:Nat),n=.int .i64 m∧i=.int .i64 (k:Int)∧k≤args.length∧1≤m∧m≤1+(nodesL (args.take k):Int)∧Hid (Below w.heap.size w wr)∧Hid (wr.heap[w.heap.size]? =some (.cells #[.int .i64 op,.int .i64 it,.int .i64 vk,.int .i64 vi,.string vs,.string nm,.slice A args.length c] 212 (0,0)))) (fun _ i _=>args.length-(intOf i).toNat)
  case atStart=>exact ⟨1,0,rfl,rfl,Nat.zero_le _,by omega,by simp [nodesL],HBW,HT⟩
  obtain ⟨m,k,rfl,rfl,hk,hm0,hm1,HB,HTB⟩:=hrel
  obtain ⟨wi,rfl⟩:∃wi:World,wi=wr:=⟨_,rfl⟩
  have c6:wi.cell? ⟨w.heap.size,6,none⟩=some (.slice A args.length c):=cW0 wi _ 6 _ _ _ HTB.out
  by_cases hlt:k<args.length
  case neg=>
   have hn:¬(k:Int)<(args.length:Int):=by omega
   go_wp2_with fail
   go_ret
   exact ⟨m,rfl,by omega,by have:=nodesL_take_le args k;omega,HB.out⟩
  have ihlt:(k:Int)<(args.length:Int):=by omega
  by_cases h500:m≤500
  case neg=>
   have hn:¬m≤500:=by omega
   go_wp2_with fail
   go_ret
   exact ⟨m,rfl,by omega,by have:=nodesL_take_le args k;omega,HB.out⟩
  have ih500:m≤500:=by omega
  obtain ⟨b,off,rfl,hF,hcl⟩:=RdE.at_ (K:=7) (enc:=RE.enc) RE.enc_length (by omega) (HAL.out.1.below HB.out) hlt
  have hcx0:=hcl k hlt
  have hmem:=List.getElem_mem hlt
  have hnt:=nodesL_take hlt
  have hnl:=nodesL_take_le args (k+1)
  obtain ⟨x,hx⟩:∃z,z=args[k]:=⟨_,rfl⟩
  rw [←hx] at hcx0 hmem hnt
  have hcx:∀jj u,jj<7→(RE.enc x)[jj]? =some u→wi.cell? ⟨b,off+k*7+jj,none⟩=some u:=hcx0
  clear hcl hF hcx0 hx
  have hxa:=HAL.out.2 _ hmem
  have KX:=IH.out x wi (by omega) (by omega) (hxa.below HB.out)
  obtain ⟨xn,hxn⟩:∃z,z=x.nodes:=⟨_,rfl⟩
  rw [←hxn] at KX hnt
  clear hxn
  obtain ⟨op2,it2,⟨vk2,vi2,vs2⟩,nm2,A2,c2,args2⟩:=x
  have g0:wi.cell? ⟨b,off+k*7,none⟩=some (.int .i64 op2):=hcx 0 _ (by decide) rfl
  have g1:wi.cell? ⟨b,off+k*7+1,none⟩=some (.int .i64 it2):=hcx 1 _ (by decide) rfl
  have g2:wi.cell? ⟨b,off+k*7+2,none⟩=some (.int .i64 vk2):=hcx 2 _ (by decide) rfl
  have g3:wi.cell? ⟨b,off+k*7+3,none⟩=some (.int .i64 vi2):=hcx 3 _ (by decide) rfl
  have g4:wi.cell? ⟨b,off+k*7+4,none⟩=some (.string vs2):=hcx 4 _ (by decide) rfl
  have g5:wi.cell? ⟨b,off+k*7+5,none⟩=some (.string nm2):=hcx 5 _ (by decide) rfl
  have g6:wi.cell? ⟨b,off+k*7+6,none⟩=some (.slice A2 args2.length c2):=hcx 6 _ (by decide) rfl
  clear hcx hmem hxa
  have KX:Calls Tryz.prog 128 #[.agg #[.int .i64 op2,.int .i64 it2,.int .i64 vk2,.int .i64 vi2,.string vs2,.string nm2,.slice A2 args2.length c2]] wi _:=KX
  go_wp2_with fail
  clear g0 g1 g2 g3 g4 g5 g6 c6
  (with_reducible refine KX.mono ?_)
  rintro _ w2 ⟨r,rfl,hr1,hr2,hb2⟩
  have HTB2:=hI0 ((hb2.block w.heap.size (Array.getElem?_eq_some_iff.1 HTB.out).1).trans HTB.out)
  have HB2:Hid (Below w.heap.size w w2):=hI0 (HB.out.trans (hb2.mono HB.out.size))
  clear hb2 KX
  have hov:m+r≤9223372036854775807:=by omega
  have hov2: -9223372036854775808≤m+r:=by omega
  go_wp2_with fail
  go_roundw
  case rel=>exact ⟨_,k+1,rfl,by go_num,by omega,by omega,by omega,HB2,HTB2⟩
  case measure=>simp [intOf];omega
theorem entries_any (v:Value) (l:List REn) (w:World) (hv:RdE 16 REn.enc w (·<w.heap.size) v l) (hi:∀x∈l,x.create.is w (·<w.heap.size)) (hx:∀x∈l,∀e∈x.create.chks,exAll w (·<w.heap.size) e∧e.nodes≤1048576):Calls Tryz.prog 30 #[v] w (BoolO w):=by
 obtain ⟨A,c,rfl,hc1,hc2,hc3⟩:=Rd.open_ (show Rd w _ 16 v l.length (l.flatMap REn.enc) from hv)
 unfold maxLen at hc2
 have HV:=hI0 hv
 have HI:=hI0 hi
 have HX:=hI0 hx
 clear hv hi hx hc3
 go_enter Tryz.func30,Tryz.ntmps30
 go_wp2_with fail
 go_loopw [10] (fun i wr=>∃k:Nat,i=.int .i64 (k:Int)∧k≤l.length∧Hid (Below w.heap.size w wr)) (fun i _=>l.length-(intOf i).toNat)
 case atStart=>exact ⟨0,rfl,Nat.zero_le _,hI0 (Below.refl _ _)⟩
 obtain ⟨k,rfl,hk,HB⟩:=hrel
 obtain ⟨wi,rfl⟩:∃wi:World,wi=wr:=⟨_,rfl⟩
 by_cases hlt:k<l.length
 case neg=>
  have hlt2:¬(k:Int)<(l.length:Int):=by omega
  go_wp2_with fail
  go_ret
  exact ⟨_,rfl,HB.out⟩
 have hlt2:(k:Int)<(l.length:Int):=by omega
 obtain ⟨b,off,rfl,hF,hcl⟩:=RdE.at_ (K:=16) (enc:=REn.enc) (fun _=>rfl) (by omega) (HV.out.below HB.out) hlt
 have hcx0:=hcl k hlt
 have hmem:=List.getElem_mem hlt
 obtain ⟨x,hx⟩:∃z,z=l[k]:=⟨_,rfl⟩
 rw [←hx] at hcx0 hmem
 have hcx:∀jj u,jj<16→(REn.enc x)[jj]? =some u→wi.cell? ⟨b,off+k*16+jj,none⟩=some u:=hcx0
 clear hcl hF hcx0 hx
 have hti:=HI.out _ hmem
 have htx:=HX.out _ hmem
 obtain ⟨tm2,tb,⟨nm,colA,colC,cols,keyA,keyC,key,forA,forC,fors,chkA,chkC,chks⟩,⟨x1,x2,x3,x4,x5,x6,⟨x7,x8,x9⟩⟩⟩:=x
 simp only at hti htx
 have HCK:Hid (RdE 7 RE.enc w (·<w.heap.size) (.slice chkA chks.length chkC) chks):=hI0 hti.chks
 have HCX:=hI0 htx
 obtain ⟨a1,a2⟩:=hti.cols.bd
 obtain ⟨b1,b2⟩:=hti.key.bd
 obtain ⟨d1,d2⟩:=hti.fors.bd
 obtain ⟨f1,f2⟩:=hti.chks.bd
 simp only at a1 a2 b1 b2 d1 d2 f1 f2
 have g0:wi.cell? ⟨b,off+k*16,none⟩=some (.int .i64 tm2):=hcx 0 _ (by decide) rfl
 have g1:wi.cell? ⟨b,off+k*16+1,none⟩=some (.string tb):=hcx 1 _ (by decide) rfl
 have g2:wi.cell? ⟨b,off+k*16+2,none⟩=some (.string nm):=hcx 2 _ (by decide) rfl
 have g3:wi.cell? ⟨b,off+k*16+3,none⟩=some (.slice colA cols.length colC):=hcx 3 _ (by decide) rfl
 have g4:wi.cell? ⟨b,off+k*16+4,none⟩=some (.slice keyA key.length keyC):=hcx 4 _ (by decide) rfl
 have g5:wi.cell? ⟨b,off+k*16+5,none⟩=some (.slice forA fors.length forC):=hcx 5 _ (by decide) rfl
 have g6:wi.cell? ⟨b,off+k*16+6,none⟩=some (.slice chkA chks.length chkC):=hcx 6 _ (by decide) rfl
 have g7:wi.cell? ⟨b,off+k*16+7,none⟩=some (.int .i64 x1):=hcx 7 _ (by decide) rfl
 have g8:wi.cell? ⟨b,off+k*16+8,none⟩=some (.string x2):=hcx 8 _ (by decide) rfl
 have g9:wi.cell? ⟨b,off+k*16+9,none⟩=some (.string x3):=hcx 9 _ (by decide) rfl
 have g10:wi.cell? ⟨b,off+k*16+10,none⟩=some (.string x4):=hcx 10 _ (by decide) rfl
 have g11:wi.cell? ⟨b,off+k*16+11,none⟩=some (.int .i64 x5):=hcx 11 _ (by decide) rfl
 have g12:wi.cell? ⟨b,off+k*16+12,none⟩=some (.bool x6):=hcx 12 _ (by decide) rfl
 have g13:wi.cell? ⟨b,off+k*16+13,none⟩=some (.int .i64 x7):=hcx 13 _ (by decide) rfl
 have g14:wi.cell? ⟨b,off+k*16+14,none⟩=some (.int .i64 x8):=hcx 14 _ (by decide) rfl
 have g15:wi.cell? ⟨b,off+k*16+15,none⟩=some (.string x9):=hcx 15 _ (by decide) rfl
 clear hcx hmem hti htx
 obtain ⟨W1,hW1⟩:∃W1,W1=wi.alloc (.cells #[.int .i64 tm2,.string tb,.string nm,.slice colA cols.length colC,.slice keyA key.length keyC,.slice forA fors.length forC,.slice chkA chks.length chkC,.int .i64 x1,.string x2,.string x3,.string x4,.int .i64 x5,.bool x6,.int .i64 x7,.int .i64 x8,.string x9] 83):=⟨_,rfl⟩
 have hb1:Below wi.heap.size wi W1:=by rw [hW1];exact Below.of_alloc _
 have hX1:W1.heap[wi.heap.size]? =some (.cells #[.int .i64 tm2,.string tb,.string nm,.slice colA cols.length colC,.slice keyA key.length keyC,.slice forA fors.length forC,.slice chkA chks.length chkC,.int .i64 x1,.string x2,.string x3,.string x4,.int .i64 x5,.bool x6,.int .i64 x7,.int .i64 x8,.string x9] 83 (0,0)):=by rw [hW1];exact heap_alloc_new _ _
 have HB1:Hid (Below w.heap.size w W1):=hI0 (HB.out.trans (hb1.mono HB.out.size))
 have HX1:=hI0 hX1
 clear hb1 hX1
 go_upto_region 4 with (fail)
 rw [←hW1]
 clear hW1 g0 g1 g2 g3 g4 g5 g6 g7 g8 g9 g10 g11 g12 g13 g14 g15
 have q2:W1.cell? ⟨wi.heap.size,2,none⟩=some (.string nm):=cW0 W1 _ 2 _ _ _ HX1.out
 have q3:W1.cell? ⟨wi.heap.size,3,none⟩=some (.slice colA cols.length colC):=cW0 W1 _ 3 _ _ _ HX1.out
 have q4:W1.cell? ⟨wi.heap.size,4,none⟩=some (.slice keyA key.length keyC):=cW0 W1 _ 4 _ _ _ HX1.out
 have q5:W1.cell? ⟨wi.heap.size,5,none⟩=some (.slice forA fors.length forC):=cW0 W1 _ 5 _ _ _ HX1.out
 have q6:W1.cell? ⟨wi.heap.size,6,none⟩=some (.slice chkA chks.length chkC):=cW0 W1 _ 6 _ _ _ HX1.out
 obtain ⟨W2,hW2⟩:∃W2,W2=W1.alloc (.cells #[.string nm,.slice colA cols.length colC,.slice keyA key.length keyC,.slice forA fors.length forC,.slice chkA chks.length chkC] 75):=⟨_,rfl⟩
 have hb2:Below W1.heap.size W1 W2:=by rw [hW2];exact Below.of_alloc _
 have hX2:W2.heap[W1.heap.size]? =some (.cells #[.string nm,.slice colA cols.length colC,.slice keyA key.length keyC,.slice forA fors.length forC,.slice chkA chks.length chkC] 75 (0,0)):=by rw [hW2];exact heap_alloc_new _ _
 have HB2:Hid (Below w.heap.size w W2):=hI0 (HB1.out.trans (hb2.mono HB1.out.size))
 have HX2:=hI0 hX2
 clear hb2 hX2
 go_upto_region 5 with (fail)
 rw [←hW2]
 clear hW2 q2 q3 q4 q5 q6
 have t0:W2.cell? ⟨W1.heap.size,0,none⟩=some (.string nm):=cW0 W2 _ 0 _ _ _ HX2.out
 have t1:W2.cell? ⟨W1.heap.size,1,none⟩=some (.slice colA cols.length colC):=cW0 W2 _ 1 _ _ _ HX2.out
 have t2:W2.cell? ⟨W1.heap.size,2,none⟩=some (.slice keyA key.length keyC):=cW0 W2 _ 2 _ _ _ HX2.out
 have t3:W2.cell? ⟨W1.heap.size,3,none⟩=some (.slice forA fors.length forC):=cW0 W2 _ 3 _ _ _ HX2.out
 have t4:W2.cell? ⟨W1.heap.size,4,none⟩=some (.slice chkA chks.length chkC):=cW0 W2 _ 4 _ _ _ HX2.out
 by_cases u0:(50:Int)<(cols.length:Int)
 case pos=>
  go_wp2_with fail
  go_ret
  exact ⟨_,rfl,HB2.out⟩
 by_cases u1:(50:Int)<(key.length:Int)
 case pos=>
  go_wp2_with fail
  go_ret
  exact ⟨_,rfl,HB2.out⟩
 by_cases u2:(20:Int)<(fors.length:Int)
 case pos=>
  go_wp2_with fail
  go_ret
  exact ⟨_,rfl,HB2.out⟩
 by_cases u3:(20:Int)<(chks.length:Int)
 case pos=>
  go_wp2_with fail
  go_ret
  exact ⟨_,rfl,HB2.out⟩
 by_cases u4:(300:Int)<(nm.size:Int)
 case pos=>
  go_wp2_with fail
  go_ret
  exact ⟨_,rfl,HB2.out⟩
 go_wp2_with fail
 clear t0 t1 t2 t3 t4 u0 u1 u2 u3 u4
 go_loopw [47] (fun i wr=>∃j:Nat,i=.int .i64 (j:Int)∧j≤chks.length∧Hid (Below w.heap.size w wr)) (fun i _=>chks.length-(intOf i).toNat)
 case atStart=>exact ⟨0,rfl,Nat.zero_le _,HB2⟩
 have HLK:=hI0 hlt
 clear hlt hlt2
 obtain ⟨j,rfl,hj,HBj⟩:=hrel
 obtain ⟨wj,rfl⟩:∃wj:World,wj=wr:=⟨_,rfl⟩
 by_cases hlt:j<chks.length
 case neg=>
  have hlt2:¬(j:Int)<(chks.length:Int):=by omega
  have hkl:=HLK.out
  have hkl2:(k:Int)<(l.length:Int):=by omega
  go_wp2_with fail
  go_roundw
  case rel=>exact ⟨k+1,by go_num,HLK.out,HBj⟩
  case measure=>have:=HLK.out;simp [intOf];omega
 have hlt2:(j:Int)<(chks.length:Int):=by omega
 obtain ⟨b3,off3,rfl,hF,hcl⟩:=RdE.at_ (K:=7) (enc:=RE.enc) RE.enc_length (by omega) (HCK.out.below HBj.out) hlt
 have hcx0:=hcl j hlt
 have hmem:=List.getElem_mem hlt
 obtain ⟨y,hy⟩:∃z,z=chks[j]:=⟨_,rfl⟩
 rw [←hy] at hcx0 hmem
 have hcx:∀jj u,jj<7→(RE.enc y)[jj]? =some u→wj.cell? ⟨b3,off3+j*7+jj,none⟩=some u:=hcx0
 clear hcl hF hcx0 hy
 have hya:=HCX.out _ hmem
 have KD:=fun (V:World) (hV:Below w.heap.size w V)=>deep_any 40 y 40 V rfl (by omega) (hya.1.below hV)
 have KS:=fun (V:World) (hV:Below w.heap.size w V)=>size_any _ y V (Nat.le_refl _) hya.2 (hya.1.below hV)
 have hyn:=hya.2
 obtain ⟨yn,hyn2⟩:∃z,z=y.nodes:=⟨_,rfl⟩
 rw [←hyn2] at KS hyn
 clear hyn2 hya
 obtain ⟨op2,it2,⟨vk2,vi2,vs2⟩,nm2,A2,c2,args2⟩:=y
 have g0:wj.cell? ⟨b3,off3+j*7,none⟩=some (.int .i64 op2):=hcx 0 _ (by decide) rfl
 have g1:wj.cell? ⟨b3,off3+j*7+1,none⟩=some (.int .i64 it2):=hcx 1 _ (by decide) rfl
 have g2:wj.cell? ⟨b3,off3+j*7+2,none⟩=some (.int .i64 vk2):=hcx 2 _ (by decide) rfl
 have g3:wj.cell? ⟨b3,off3+j*7+3,none⟩=some (.int .i64 vi2):=hcx 3 _ (by decide) rfl
 have g4:wj.cell? ⟨b3,off3+j*7+4,none⟩=some (.string vs2):=hcx 4 _ (by decide) rfl
 have g5:wj.cell? ⟨b3,off3+j*7+5,none⟩=some (.string nm2):=hcx 5 _ (by decide) rfl
 have g6:wj.cell? ⟨b3,off3+j*7+6,none⟩=some (.slice A2 args2.length c2):=hcx 6 _ (by decide) rfl
 clear hcx hmem
 obtain ⟨W3,hW3⟩:∃W3,W3=wj.alloc (.cells #[.int .i64 op2,.int .i64 it2,.int .i64 vk2,.int .i64 vi2,.string vs2,.string nm2,.slice A2 args2.length c2] 212):=⟨_,rfl⟩
 have hb3:Below wj.heap.size wj W3:=by rw [hW3];exact Below.of_alloc _
 have hX3:W3.heap[wj.heap.size]? =some (.cells #[.int .i64 op2,.int .i64 it2,.int .i64 vk2,.int .i64 vi2,.string vs2,.string nm2,.slice A2 args2.length c2] 212 (0,0)):=by rw [hW3];exact heap_alloc_new _ _
 have hL3:wj.heap.size<W3.heap.size:=by rw [hW3];simp
 have HB3:Hid (Below w.heap.size w W3):=hI0 (HBj.out.trans (hb3.mono HBj.out.size))
 have HX3:=hI0 hX3
 have HL3:=hI0 hL3
 clear hb3 hX3 hL3
 have KD:Calls Tryz.prog 127 #[.agg #[.int .i64 op2,.int .i64 it2,.int .i64 vk2,.int .i64 vi2,.string vs2,.string nm2,.slice A2 args2.length c2],.int .i64 40] W3 _:=KD W3 HB3.out
 go_upto_region 10 with (fail)
 rw [←hW3]
 clear hW3 g0 g1 g2 g3 g4 g5 g6
 have q0:W3.cell? ⟨wj.heap.size,0,none⟩=some (.int .i64 op2):=cW0 W3 _ 0 _ _ _ HX3.out
 have q1:W3.cell? ⟨wj.heap.size,1,none⟩=some (.int .i64 it2):=cW0 W3 _ 1 _ _ _ HX3.out
 have q2:W3.cell? ⟨wj.heap.size,2,none⟩=some (.int .i64 vk2):=cW0 W3 _ 2 _ _ _ HX3.out
 have q3:W3.cell? ⟨wj.heap.size,3,none⟩=some (.int .i64 vi2):=cW0 W3 _ 3 _ _ _ HX3.out
 have q4:W3.cell? ⟨wj.heap.size,4,none⟩=some (.string vs2):=cW0 W3 _ 4 _ _ _ HX3.out
 have q5:W3.cell? ⟨wj.heap.size,5,none⟩=some (.string nm2):=cW0 W3 _ 5 _ _ _ HX3.out
 have q6:W3.cell? ⟨wj.heap.size,6,none⟩=some (.slice A2 args2.length c2):=cW0 W3 _ 6 _ _ _ HX3.out
 go_wp2_with fail
 (with_reducible refine KD.mono ?_)
 rintro _ w4 ⟨r,rfl,hr1,hr2,hb4⟩
 have HB4:Hid (Below w.heap.size w w4):=hI0 (HB3.out.trans (hb4.mono HB3.out.size))
 have hX4:=(hb4.block _ HL3.out).trans HX3.out
 clear hb4 KD q0 q1 q2 q3 q4 q5 q6
 by_cases hr30:30<r
 case pos=>
  go_wp2_with fail
  go_ret
  exact ⟨_,rfl,HB4.out⟩
 have KS:Calls Tryz.prog 128 #[.agg #[.int .i64 op2,.int .i64 it2,.int .i64 vk2,.int .i64 vi2,.string vs2,.string nm2,.slice A2 args2.length c2]] w4 _:=KS w4 HB4.out
 have q0:w4.cell? ⟨wj.heap.size,0,none⟩=some (.int .i64 op2):=cW0 w4 _ 0 _ _ _ hX4
 have q1:w4.cell? ⟨wj.heap.size,1,none⟩=some (.int .i64 it2):=cW0 w4 _ 1 _ _ _ hX4
 have q2:w4.cell? ⟨wj.heap.size,2,none⟩=some (.int .i64 vk2):=cW0 w4 _ 2 _ _ _ hX4
 have q3:w4.cell? ⟨wj.heap.size,3,none⟩=some (.int .i64 vi2):=cW0 w4 _ 3 _ _ _ hX4
 have q4:w4.cell? ⟨wj.heap.size,4,none⟩=some (.string vs2):=cW0 w4 _ 4 _ _ _ hX4
 have q5:w4.cell? ⟨wj.heap.size,5,none⟩=some (.string nm2):=cW0 w4 _ 5 _ _ _ hX4
 have q6:w4.cell? ⟨wj.heap.size,6,none⟩=some (.slice A2 args2.length c2):=cW0 w4 _ 6 _ _ _ hX4
 go_wp2_with fail
 (with_reducible refine KS.mono ?_)
 rintro _ w5 ⟨r2,rfl,hs1,hs2,hb5⟩
 have HB5:Hid (Below w.heap.size w w5):=hI0 (HB4.out.trans (hb5.mono HB4.out.size))
 clear hb5 KS hX4 q0 q1 q2 q3 q4 q5 q6
 by_cases hr5:500<r2
 case pos=>
  go_wp2_with fail
  go_ret
  exact ⟨_,rfl,HB5.out⟩
 go_wp2_with fail
 go_roundw
 case rel=>exact ⟨j+1,by go_num,hlt,HB5⟩
 case measure=>simp [intOf];omega
theorem small_any (c:RCm) (w:World) (hc:c.is w (·<w.heap.size)) (hlm:c.lim w):Calls Tryz.prog 10 #[.agg c.enc.toArray] w (BoolO w):=by
 have HI0:=hI0 hc
 have HL0:=hI0 hlm
 obtain ⟨tx,tm,wa,fi,eA,eC,ents,dA,dC,dels,pA,pC,pla,rA,rC,rel,qA,qC,pol,hA,hC2,hor⟩:=c
 have HI:Hid (RCm.is w (·<w.heap.size) ⟨tx,tm,wa,fi,eA,eC,ents,dA,dC,dels,pA,pC,pla,rA,rC,rel,qA,qC,pol,hA,hC2,hor⟩):=HI0
 have HLM:Hid (RCm.lim w ⟨tx,tm,wa,fi,eA,eC,ents,dA,dC,dels,pA,pC,pla,rA,rC,rel,qA,qC,pol,hA,hC2,hor⟩):=HL0
 have n1:=hlm.ents
 have n2:=hlm.dels
 have n3:=hlm.pla
 have n4:=hlm.rel
 have n5:=hlm.pol
 have n6:=hlm.hor
 simp only at n1 n2 n3 n4 n5 n6
 show Calls Tryz.prog 10 #[.agg #[.int .i64 tx,.int .i64 tm,.int .i64 wa,.int .i64 fi,.slice eA ents.length eC,.slice dA dels.length dC,.slice pA pla.length pC,.slice rA rel.length rC,.slice qA pol.length qC,.slice hA hor.length hC2]] w _
 clear hc hlm HI0 HL0
 obtain ⟨W,hW⟩:∃W,W=w.alloc (.cells #[.int .i64 tx,.int .i64 tm,.int .i64 wa,.int .i64 fi,.slice eA ents.length eC,.slice dA dels.length dC,.slice pA pla.length pC,.slice rA rel.length rC,.slice qA pol.length qC,.slice hA hor.length hC2] 29):=⟨_,rfl⟩
 have HBW:Hid (Below w.heap.size w W):=hI0 (by rw [hW];exact Below.of_alloc _)
 have HT:Hid (W.heap[w.heap.size]? =some (.cells #[.int .i64 tx,.int .i64 tm,.int .i64 wa,.int .i64 fi,.slice eA ents.length eC,.slice dA dels.length dC,.slice pA pla.length pC,.slice rA rel.length rC,.slice qA pol.length qC,.slice hA hor.length hC2] 29 (0,0))):=hI0 (by rw [hW];exact heap_alloc_new _ _)
 have c5:W.cell? ⟨w.heap.size,5,none⟩=some (.slice dA dels.length dC):=cW0 W _ 5 _ _ _ HT.out
 have c6:W.cell? ⟨w.heap.size,6,none⟩=some (.slice pA pla.length pC):=cW0 W _ 6 _ _ _ HT.out
 have c7:W.cell? ⟨w.heap.size,7,none⟩=some (.slice rA rel.length rC):=cW0 W _ 7 _ _ _ HT.out
 have c8:W.cell? ⟨w.heap.size,8,none⟩=some (.slice qA pol.length qC):=cW0 W _ 8 _ _ _ HT.out
 have c9:W.cell? ⟨w.heap.size,9,none⟩=some (.slice hA hor.length hC2):=cW0 W _ 9 _ _ _ HT.out
 have i1:(dels.length:Int)+(pla.length:Int)≤9223372036854775807:=by omega
 have i2:(dels.length:Int)+(pla.length:Int)+(rel.length:Int)≤9223372036854775807:=by omega
 have i3:(dels.length:Int)+(pla.length:Int)+(rel.length:Int)+(pol.length:Int)≤9223372036854775807:=by omega
 have i4:(dels.length:Int)+(pla.length:Int)+(rel.length:Int)+(pol.length:Int)+(hor.length:Int)≤9223372036854775807:=by omega
 go_enter Tryz.func10,Tryz.ntmps10
 go_wp2_with fail
 rw [←hW]
 clear hW i1 i2 i3 i4 c5 c6 c7 c8 c9
 go_loopw [3,4] (fun n i wr=>∃(m:Int) (k:Nat),n=.int .i64 m∧i=.int .i64 (k:Int)∧k≤dels.length∧0≤m∧m≤100000000000∧Hid (Below w.heap.size w wr)∧Hid (wr.heap[w.heap.size]? =some (.cells #[.int .i64 tx,.int .i64 tm,.int .i64 wa,.int .i64 fi,.slice eA ents.length eC,.slice dA dels.length dC,.slice pA pla.length pC,.slice rA rel.length rC,.slice qA pol.length qC,.slice hA hor.length hC2] 29 (0,0)))) (fun _ i _=>dels.length-(intOf i).toNat)
 case atStart=>exact ⟨_,0,rfl,rfl,Nat.zero_le _,by omega,by omega,HBW,HT⟩
 obtain ⟨m,k,rfl,rfl,hk,hm0,hm1,HB,HTB⟩:=hrel
 obtain ⟨wi,rfl⟩:∃wi:World,wi=wr:=⟨_,rfl⟩
 have c5:wi.cell? ⟨w.heap.size,5,none⟩=some (.slice dA dels.length dC):=cW0 wi _ 5 _ _ _ HTB.out
 have c4:wi.cell? ⟨w.heap.size,4,none⟩=some (.slice eA ents.length eC):=cW0 wi _ 4 _ _ _ HTB.out
 have KE:=entries_any (.slice eA ents.length eC) ents wi (HI.out.ents.below HB.out) (fun x hx=>((HI.out.entI x hx).below HB.out).create) (fun x hx e he=>⟨(HLM.out.exps x hx e he).1.below HB.out,(HLM.out.exps x hx e he).2⟩)
 by_cases hlt:k<dels.length
 case neg=>
  exact zq50 1
 have hlt2:(k:Int)<(dels.length:Int):=by omega
 by_cases h300:m≤300
 case neg=>
  go_wp2_with fail
  go_ret
  exact ⟨_,rfl,HB.out⟩
 clear KE c4
 obtain ⟨b,off,rfl,hF,hcl⟩:=RdE.at_ (K:=3) (enc:=RDl.enc) (fun _=>rfl) (by omega) (HI.out.dels.below HB.out) hlt
 have hcx0:=hcl k hlt
 have hmem:=List.getElem_mem hlt
 obtain ⟨x,hx⟩:∃z,z=dels[k]:=⟨_,rfl⟩
 rw [←hx] at hcx0 hmem
 have hcx:∀jj u,jj<3→(RDl.enc x)[jj]? =some u→wi.cell? ⟨b,off+k*3+jj,none⟩=some u:=hcx0
 have HBL:Hid (b<wi.heap.size):=hI0 hF
 clear hcl hF hcx0 hx
 have hdi:=HI.out.delI _ hmem
 have hdr:=HLM.out.rows _ hmem
 obtain ⟨dn,cA,cc,cl,oA,oc,ops⟩:=x
 simp only at hdr
 have HDI:Hid (RDl.is w (·<w.heap.size) ⟨dn,cA,cc,cl,oA,oc,ops⟩):=hI0 hdi
 have HDR:=hI0 hdr
 obtain ⟨hf1,hf2⟩:=hdi.few
 simp only at hf1 hf2
 have g1:wi.cell? ⟨b,off+k*3+1,none⟩=some (.slice cA cl.length cc):=hcx 1 _ (by decide) rfl
 have g2:wi.cell? ⟨b,off+k*3+2,none⟩=some (.slice oA ops.length oc):=hcx 2 _ (by decide) rfl
 clear hcx hmem hdi hdr
 have i1:(cl.length:Int)+(ops.length:Int)≤9223372036854775807:=by omega
 have i2:m+((cl.length:Int)+(ops.length:Int))≤9223372036854775807:=by omega
 have i3: -9223372036854775808≤m+((cl.length:Int)+(ops.length:Int)):=by omega
 have HTL:Hid (w.heap.size<wi.heap.size):=hI0 (Array.getElem?_eq_some_iff.1 HTB.out).1
 go_upto_region 5 with (fail)
 refine wp_region_noPanic ?_
 refine wp_region_held_drew (S:=(fun w'=>Below wi.heap.size wi w')) (by kernel_rfl) ?_ (fun hHeld=>?_)
 ·exact (Below.refl _ _).drew
 refine hT 0 36 hHeld ?_
 simp only [aP]
 refine hT 1 37 hHeld ?_
 simp only [aP]
 refine hU 2 38 (v:=?_) hHeld ?_ ?_
 rotate_left
 ·intro w' hSw;(try dsimp only at hSw);have q:=(World.cell?_of_block (hSw.block _ HTL.out)).trans c5;go_simp<;>with_reducible rfl
 simp only [aP]
 refine hT 3 39 hHeld ?_
 simp only [aP]
 refine hT 4 40 hHeld ?_
 simp only [aP]
 refine hT 5 41 hHeld ?_
 simp only [aP]
 refine hU 6 42 (v:=?_) hHeld ?_ ?_
 rotate_left
 ·intro w' hSw;(try dsimp only at hSw);have q:=(World.cell?_of_block (hSw.block _ HBL.out)).trans g1;go_simp<;>with_reducible rfl
 simp only [aP]
 refine hT 7 43 hHeld ?_
 simp only [aP]
 refine hT 8 44 hHeld ?_
 simp only [aP]
 refine hU 9 45 (v:=?_) hHeld ?_ ?_
 rotate_left
 ·intro w' hSw;(try dsimp only at hSw);have q:=(World.cell?_of_block (hSw.block _ HTL.out)).trans c5;go_simp<;>with_reducible rfl
 simp only [aP]
 refine hT 10 46 hHeld ?_
 simp only [aP]
 refine hT 11 47 hHeld ?_
 simp only [aP]
 refine hT 12 48 hHeld ?_
 simp only [aP]
 refine hU 13 49 (v:=?_) hHeld ?_ ?_
 rotate_left
 ·intro w' hSw;(try dsimp only at hSw);have q:=(World.cell?_of_block (hSw.block _ HBL.out)).trans g2;go_simp<;>with_reducible rfl
 simp only [aP]
 refine hT 14 50 hHeld ?_
 simp only [aP]
 refine hT 15 51 hHeld ?_
 simp only [aP]
 refine hT 16 52 hHeld ?_
 simp only [aP]
 refine hT 17 3 hHeld ?_
 simp only [aP]
 refine wpAnyH_done (by kernel_rfl) ?_ _
 refine NoPanic.normal ?_
 have hv:IntKind.i64.wrap (m+IntKind.i64.wrap ((cl.length:Int)+(ops.length:Int)))=m+((cl.length:Int)+(ops.length:Int)):=by
  first
  |(rw [IntKind.wrap_i64,IntKind.wrap_i64];omega)
  |(simp only [IntKind.wrap_i64];omega)
 rw [hv]
 clear hHeld g1 i1 i2 i3 c5 hv
 obtain ⟨m2,hm2⟩:∃z,z=m+((cl.length:Int)+(ops.length:Int)):=⟨_,rfl⟩
 have g2:wi.drew.cell? ⟨b,off+k*3+2,none⟩=some (.slice oA ops.length oc):=g2
 have G2:=hI0 g2
 rw [←hm2]
 have hm20:0≤m2:=by omega
 have hm21:m2≤30000000000:=by omega
 have HLK:=hI0 hlt
 have HB9:Hid (Below w.heap.size w wi.drew):=hI0 HB.out.drew
 have HTB9:=HTB
 have HBB:Hid (wi.drew.heap[b]? =some (wi.heap[b]'HBL.out)):=hI0 (Array.getElem?_eq_getElem HBL.out)
 clear hm2 hm0 hm1 h300
 go_wp2_with fail
 clear g2
 go_loopw [3,5] (fun n i wr=>∃(m:Int) (j:Nat),n=.int .i64 m∧i=.int .i64 (j:Int)∧j≤ops.length∧0≤m∧m≤30000000000∧wr=wi.drew) (fun _ i _=>ops.length-(intOf i).toNat)
 case atStart=>exact ⟨m2,0,rfl,rfl,Nat.zero_le _,hm20,hm21,rfl⟩
 obtain ⟨m,j,rfl,rfl,hj,hm0,hm1,hw⟩:=hrel
 rw [hw]
 clear hw hlt
 have g2:wi.drew.cell? ⟨b,off+k*3+2,none⟩=some (.slice oA ops.length oc):=G2.out
 have c5:wi.drew.cell? ⟨w.heap.size,5,none⟩=some (.slice (some ⟨b,off,none⟩) dels.length dC):=cW0 wi.drew _ 5 _ _ _ (show wi.drew.heap[w.heap.size]? =_ from HTB9.out)
 by_cases hlt:j<ops.length
 case neg=>
  have hn:¬(j:Int)<(ops.length:Int):=by omega
  go_wp2_with fail
  go_roundw
  case rel=>exact ⟨m,k+1,by go_num,by go_num,HLK.out,hm0,by omega,HB9,HTB9⟩
  case measure=>have:=HLK.out;simp [intOf];omega
 have hlt3:(j:Int)<(ops.length:Int):=by omega
 by_cases h300:m≤300
 case neg=>
  go_wp2_with fail
  go_roundw
  case rel=>exact ⟨m,k+1,by go_num,by go_num,HLK.out,hm0,by omega,HB9,HTB9⟩
  case measure=>have:=HLK.out;simp [intOf];omega
 obtain ⟨b3,off3,rfl,hF,hcl⟩:=RdE.at_ (K:=3) (enc:=RF.enc) (fun _=>rfl) (by omega) (HDI.out.opens.1.below HB9.out) hlt
 have hcx0:=hcl j hlt
 have hmem:=List.getElem_mem hlt
 obtain ⟨y,hy⟩:∃z,z=ops[j]:=⟨_,rfl⟩
 rw [←hy] at hcx0 hmem
 have hyr:=HDR.out _ hmem
 have hyi:=HDI.out.opens.2 _ hmem
 obtain ⟨fA,fn,fc,row,f1,f2⟩:=y
 simp only [RF.is] at hyr hyi
 obtain ⟨r1,r2,r3,r4,r5⟩:=Rd.open_ (show Rd w _ _ _ _ _ from hyi.1)
 have g9:wi.drew.cell? ⟨b3,off3+j*3,none⟩=some (.slice fA fn fc):=hcx0 0 _ (by decide) rfl
 have hfn:fn=row.length:=by injection r3
 clear hcl hcx0 hF hmem hyi
 have i1:m+(fn:Int)≤9223372036854775807:=by omega
 have i2: -9223372036854775808≤m+(fn:Int):=by omega
 go_wp2_with fail
 go_roundw
 case rel=>exact ⟨_,j+1,rfl,by go_num,hlt,by omega,by omega,by first|rfl|trivial⟩
 case measure=>simp [intOf];omega
theorem RCm.lim.below {w w':World} {c:RCm} (h:c.lim w) (hb:Below w.heap.size w w'):c.lim w':=
 ⟨h.ents,h.dels,h.pla,h.rel,h.pol,h.hor,h.rows,fun x hx e he=>⟨(h.exps x hx e he).1.below hb,(h.exps x hx e he).2⟩,h.entS,h.delS,h.plaS,h.relS,h.polS,h.horS,h.entZ,h.delZ⟩
end Go.Proofs.YtbfdegkickjbpaaGreat
