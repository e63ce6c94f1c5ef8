/-
 Rl1
-/
import Derived.Test.YtbfdegkickjbpaaGreatVWk1
import Derived.Test.YtbfdegkickjbpaaGreatVRk1
import Derived.Test.YtbfdegkickjbpaaGreatVRcO
namespace Go.Proofs.YtbfdegkickjbpaaGreat
open Go.Proofs.Tryz
set_option maxRecDepth 99999
set_option maxHeartbeats 0
open Go.RowKit Go.Lib Go.IntWalk Go.Sort Go.Shelf
def xs7:List Val:=[⟨1,7,⟨#[]⟩⟩]
theorem equal35_any (va vb:Value) (l:List UInt8) (F G:Nat→Prop) (w:World) (ha:RdB w F va l) (hb:RdB w G vb l):
  Calls prog 16 #[va,vb] w fun e w'=>e=.returned (.bool true)∧w'=w:=by
 have h1:=run_bytes_str ha
 have h2:=run_bytes_str hb
 go_in
 go_wp2_with fail
 go_ret
 exact ⟨by simp,rfl⟩
def BetI (a b:Int) (w:World) (e:Ending) (w':World):Prop:=∃n:Int,e=.returned (.int .i64 n)∧a≤n∧n≤b∧Bl w w'
def BoolO (w:World) (e:Ending) (w':World):Prop:=∃b:Bool,e=.returned (.bool b)∧Bl w w'
theorem exAll.below {w w':World} {e:RE} (h:exAll w (ltw w) e) (hb:Bl w w'):exAll w' (ltw w') e:=fun d=>exIs_below hb d e (h d)
theorem exAll.args {w:World} {F:Nat→Prop} {op it:Int} {v:Val} {nm:ByteArray} {A:Option Addr} {c:Nat} {args:List RE} (h:exAll w F (.mk op it v nm A c args)):RdE 7 RE.enc w F (.slice A args.length c) args∧∀a∈args,exAll w F a:=
 ⟨(h 1).1,fun a ha d=>(h (d+1)).2.2.2 a ha⟩
theorem nodesL_take {l:List RE} {k:Nat} (h:k<l.length):nodesL (l.take (k+1))=nodesL (l.take k)+l[k].nodes:=by
 rw [nodesL_sum,nodesL_sum,List.take_succ_eq_append_getElem h,List.map_append,List.sum_append]
 simp
theorem nodesL_take_le (l:List RE) (k:Nat):nodesL (l.take k)≤nodesL l:=by
 rw [nodesL_sum,nodesL_sum]
 conv=>rhs;rw [←List.take_append_drop k l,List.map_append,List.sum_append]
 omega
theorem deep_any:∀(most:Nat) (e:RE) (mi:Int) (w:World),mi=most→most≤40→exAll w (ltw w) e→Calls prog 127 #[.agg e.enc.toArray,.int .i64 mi] w (BetI 1 ((most:Int)+1) w):=by
 intro most
 induction most with
 |zero=>
  intro e mi w hmi _ _
  obtain ⟨op,it,⟨vk,vi,vs⟩,nm,A,c,args⟩:=e
  subst hmi
  show Calls prog 127 #[.agg #[.int .i64 op,.int .i64 it,.int .i64 vk,.int .i64 vi,.string vs,.string nm,.slice A args.length c],.int .i64 ((0:Nat):Int)] w _
  obtain ⟨W,hW⟩:=eN0 (w.alloc (.cells #[.int .i64 op,.int .i64 it,.int .i64 vk,.int .i64 vi,.string vs,.string nm,.slice A args.length c] 212))
  have HBW:Hid (Bl w W):=hI0 zi25
  have HT:Hid (W.heap[w.heap.size]? =some (.cells #[.int .i64 op,.int .i64 it,.int .i64 vk,.int .i64 vi,.string vs,.string nm,.slice A args.length c] 212 (0,0))):=hI0 zi23
  have c6:=cW1 6 HT.out rfl
  by_cases h0:(0:Int)<(args.length:Int)
  case pos=>
   go_in
   go_wp2_with fail
   rw [←hW]
   clear hW
   go_loopw [5,6] (fun n i wr=>n=.int .i64 0∧i=.int .i64 0∧wr=W) (fun _ _ _=>0)
   case atStart=>exact ⟨rfl,rfl,rfl⟩
   obtain ⟨rfl,rfl,hw⟩:=hrel
   rw [hw]
   clear hw
   go_wp2_with fail
   go_ret
   exact ⟨1,rfl,by omega,by omega,HBW.out⟩
  go_in
  go_wp2_with fail
  rw [←hW]
  clear hW
  go_loopw [5,6] (fun n i wr=>n=.int .i64 0∧i=.int .i64 0∧wr=W) (fun _ _ _=>0)
  case atStart=>exact ⟨rfl,rfl,rfl⟩
  obtain ⟨rfl,rfl,hw⟩:=hrel
  rw [hw]
  clear hw
  go_wp2_with fail
  go_ret
  exact ⟨1,rfl,by omega,by omega,HBW.out⟩
 |succ most ih=>
  intro e mi w hmi h40 he
  obtain ⟨op,it,⟨vk,vi,vs⟩,nm,A,c,args⟩:=e
  have HAL:=hI0 he.args
  have IH:=hI0 ih
  obtain ⟨n1,n2⟩:=HAL.out.1.bd
  show Calls prog 127 #[.agg #[.int .i64 op,.int .i64 it,.int .i64 vk,.int .i64 vi,.string vs,.string nm,.slice A args.length c],.int .i64 mi] w _
  have hmi1:mi-1≤9223372036854775807:=by omega
  have hmi2: -9223372036854775808≤mi-1:=by omega
  have HMI:=hI0 hmi
  have hmi40:mi≤41:=by omega
  have hmi0:0≤mi:=by omega
  clear ih he hmi
  obtain ⟨W,hW⟩:=eN0 (w.alloc (.cells #[.int .i64 op,.int .i64 it,.int .i64 vk,.int .i64 vi,.string vs,.string nm,.slice A args.length c] 212))
  have HBW:Hid (Bl w W):=hI0 zi25
  have HT:Hid (W.heap[w.heap.size]? =some (.cells #[.int .i64 op,.int .i64 it,.int .i64 vk,.int .i64 vi,.string vs,.string nm,.slice A args.length c] 212 (0,0))):=hI0 zi23
  go_in
  go_wp2_with fail
  rw [←hW]
  clear hW
  go_loopw [5,6] (fun n i wr=>∃(m:Int) (k:Nat),n=.int .i64 m∧i=.int .i64 (k:Int)∧k≤args.length∧0≤m∧m≤mi∧Hid (Bl w wr)∧Hid (wr.heap[w.heap.size]? =some (.cells #[.int .i64 op,.int .i64 it,.int .i64 vk,.int .i64 vi,.string vs,.string nm,.slice A args.length c] 212 (0,0)))) (fun _ i _=>args.length-(intOf i).toNat)
  case atStart=>exact ⟨0,0,rfl,rfl,Nat.zero_le _,by omega,by omega,HBW,HT⟩
  obtain ⟨m,k,rfl,rfl,hk,hm0,hm1,HB,HTB⟩:=hrel
  obtain ⟨wi,rfl⟩:=eN0 wr
  have c6:=cW1 6 HTB.out rfl
  by_cases hlt:k<args.length
  case neg=>
   have hn:¬(k:Int)<(args.length:Int):=by omega
   go_wp2_with fail
   go_ret
   exact ⟨m+1,rfl,by omega,by have:=HMI.out;omega,HB.out⟩
  have ihlt:(k:Int)<(args.length:Int):=by omega
  by_cases h100:k<100
  case neg=>
   have hn:¬(k:Int)<100:=by omega
   go_wp2_with fail
   go_ret
   exact ⟨m+1,rfl,by omega,by have:=HMI.out;omega,HB.out⟩
  have ih100:(k:Int)<100:=by omega
  by_cases hmm:m<mi
  case neg=>
   have hn:¬m<mi:=by omega
   go_wp2_with fail
   go_ret
   exact ⟨m+1,rfl,by omega,by have:=HMI.out;omega,HB.out⟩
  have ihmm:m<mi:=by omega
  obtain ⟨b,off,rfl,hF,hcl⟩:=RdE.at_ (K:=7) (enc:=RE.enc) RE.enc_length (by omega) (HAL.out.1.below HB.out) hlt
  have hcx0:=hcl k hlt
  have hmem:=List.getElem_mem hlt
  obtain ⟨x,hx⟩:=eN0 (args[k])
  rw [←hx] at hcx0 hmem
  have hcx:∀jj u,jj<7→(RE.enc x)[jj]? =some u→wi.cell? ⟨b,off+k*7+jj,none⟩=some u:=hcx0
  clear hcl hF hcx0 hx
  have hxa:=HAL.out.2 _ hmem
  have KX:=IH.out x (mi-1) wi (by have:=HMI.out;omega) (by have:=HMI.out;omega) (hxa.below HB.out)
  obtain ⟨op2,it2,⟨vk2,vi2,vs2⟩,nm2,A2,c2,args2⟩:=x
  obtain ⟨g0,g1,g2,g3,g4,g5,g6⟩:=cK7 hcx (show _=[.int .i64 op2,.int .i64 it2,.int .i64 vk2,.int .i64 vi2,.string vs2,.string nm2,.slice A2 args2.length c2] from rfl)
  clear hcx hmem hxa
  have KX:Calls prog 127 #[.agg #[.int .i64 op2,.int .i64 it2,.int .i64 vk2,.int .i64 vi2,.string vs2,.string nm2,.slice A2 args2.length c2],.int .i64 (mi-1)] wi _:=KX
  go_wp2_with fail
  clear g0 g1 g2 g3 g4 g5 g6 c6
  (with_reducible refine KX.mono ?_)
  rintro _ w2 ⟨r,rfl,hr1,hr2,hb2⟩
  have HTB2:=hI0 ((hb2.block w.heap.size (gL0 HTB.out)).trans HTB.out)
  have HB2:=bT0 HB hb2
  clear hb2 KX
  go_wp2_with fail
  go_roundw
  case rel=>exact ⟨_,k+1,rfl,by go_num,by omega,by have:=HMI.out;first|omega|(split<;>omega),by have:=HMI.out;first|omega|(split<;>omega),HB2,HTB2⟩
  case measure=>simp [intOf];omega
theorem size_any:∀(n:Nat) (e:RE) (w:World),e.nodes≤n→e.nodes≤1048576→exAll w (ltw w) e→Calls prog 128 #[.agg e.enc.toArray] w (BetI 1 e.nodes w):=by
 intro n
 induction n with
 |zero=>intro e w h;have:=e.nodes_pos;omega
 |succ n ih=>
  intro e w hn hmx he
  obtain ⟨op,it,⟨vk,vi,vs⟩,nm,A,c,args⟩:=e
  have HAL:=hI0 he.args
  have IH:=hI0 ih
  obtain ⟨n1,n2⟩:=HAL.out.1.bd
  have hnd:(RE.mk op it ⟨vk,vi,vs⟩ nm A c args).nodes=nodesL args+1:=by simp only [RE.nodes]
  rw [hnd] at hn hmx ⊢
  show Calls prog 128 #[.agg #[.int .i64 op,.int .i64 it,.int .i64 vk,.int .i64 vi,.string vs,.string nm,.slice A args.length c]] w _
  clear ih he hnd
  obtain ⟨W,hW⟩:=eN0 (w.alloc (.cells #[.int .i64 op,.int .i64 it,.int .i64 vk,.int .i64 vi,.string vs,.string nm,.slice A args.length c] 212))
  have HBW:Hid (Bl w W):=hI0 zi25
  have HT:Hid (W.heap[w.heap.size]? =some (.cells #[.int .i64 op,.int .i64 it,.int .i64 vk,.int .i64 vi,.string vs,.string nm,.slice A args.length c] 212 (0,0))):=hI0 zi23
  go_in
  go_wp2_with fail
  rw [←hW]
  clear hW
  go_loopw [3,4] (fun n i wr=>∃(m:Int) (k:Nat),n=.int .i64 m∧i=.int .i64 (k:Int)∧k≤args.length∧1≤m∧m≤1+(nodesL (args.take k):Int)∧Hid (Bl w wr)∧Hid (wr.heap[w.heap.size]? =some (.cells #[.int .i64 op,.int .i64 it,.int .i64 vk,.int .i64 vi,.string vs,.string nm,.slice A args.length c] 212 (0,0)))) (fun _ i _=>args.length-(intOf i).toNat)
  case atStart=>exact ⟨1,0,rfl,rfl,Nat.zero_le _,by omega,by simp [nodesL],HBW,HT⟩
  obtain ⟨m,k,rfl,rfl,hk,hm0,hm1,HB,HTB⟩:=hrel
  obtain ⟨wi,rfl⟩:=eN0 wr
  have c6:=cW1 6 HTB.out rfl
  by_cases hlt:k<args.length
  case neg=>
   have hn:¬(k:Int)<(args.length:Int):=by omega
   go_wp2_with fail
   go_ret
   exact ⟨m,rfl,by omega,by have:=nodesL_take_le args k;omega,HB.out⟩
  have ihlt:(k:Int)<(args.length:Int):=by omega
  by_cases h500:m≤500
  case neg=>
   have hn:¬m≤500:=by omega
   go_wp2_with fail
   go_ret
   exact ⟨m,rfl,by omega,by have:=nodesL_take_le args k;omega,HB.out⟩
  have ih500:m≤500:=by omega
  obtain ⟨b,off,rfl,hF,hcl⟩:=RdE.at_ (K:=7) (enc:=RE.enc) RE.enc_length (by omega) (HAL.out.1.below HB.out) hlt
  have hcx0:=hcl k hlt
  have hmem:=List.getElem_mem hlt
  have hnt:=nodesL_take hlt
  have hnl:=nodesL_take_le args (k+1)
  obtain ⟨x,hx⟩:=eN0 (args[k])
  rw [←hx] at hcx0 hmem hnt
  have hcx:∀jj u,jj<7→(RE.enc x)[jj]? =some u→wi.cell? ⟨b,off+k*7+jj,none⟩=some u:=hcx0
  clear hcl hF hcx0 hx
  have hxa:=HAL.out.2 _ hmem
  have KX:=IH.out x wi (by omega) (by omega) (hxa.below HB.out)
  obtain ⟨xn,hxn⟩:=eN0 x.nodes
  rw [←hxn] at KX hnt
  clear hxn
  obtain ⟨op2,it2,⟨vk2,vi2,vs2⟩,nm2,A2,c2,args2⟩:=x
  obtain ⟨g0,g1,g2,g3,g4,g5,g6⟩:=cK7 hcx (show _=[.int .i64 op2,.int .i64 it2,.int .i64 vk2,.int .i64 vi2,.string vs2,.string nm2,.slice A2 args2.length c2] from rfl)
  clear hcx hmem hxa
  have KX:Calls prog 128 #[.agg #[.int .i64 op2,.int .i64 it2,.int .i64 vk2,.int .i64 vi2,.string vs2,.string nm2,.slice A2 args2.length c2]] wi _:=KX
  go_wp2_with fail
  clear g0 g1 g2 g3 g4 g5 g6 c6
  (with_reducible refine KX.mono ?_)
  rintro _ w2 ⟨r,rfl,hr1,hr2,hb2⟩
  have HTB2:=hI0 ((hb2.block w.heap.size (gL0 HTB.out)).trans HTB.out)
  have HB2:=bT0 HB hb2
  clear hb2 KX
  have hov:m+r≤9223372036854775807:=by omega
  have hov2: -9223372036854775808≤m+r:=by omega
  go_wp2_with fail
  go_roundw
  case rel=>exact ⟨_,k+1,rfl,by go_num,by omega,by omega,by omega,HB2,HTB2⟩
  case measure=>simp [intOf];omega
theorem entries_any (v:Value) (l:List REn) (w:World) (hv:RdE 16 REn.enc w (ltw w) v l) (hi:∀x∈l,x.create.is w (ltw w)) (hx:∀x∈l,∀e∈x.create.chks,exAll w (ltw w) e∧e.nodes≤1048576):Calls prog 30 #[v] w (BoolO w):=by
 obtain ⟨A,c,rfl,hc1,hc2,hc3⟩:=Rd.open_ (show Rd w _ 16 v l.length (l.flatMap REn.enc) from hv)
 unfold maxLen at hc2
 have HV:=hI0 hv
 have HI:=hI0 hi
 have HX:=hI0 hx
 clear hv hi hx hc3
 go_in
 go_wp2_with fail
 go_loopw [10] (fun i wr=>∃k:Nat,i=.int .i64 (k:Int)∧k≤l.length∧Hid (Bl w wr)) (fun i _=>l.length-(intOf i).toNat)
 case atStart=>exact ⟨0,rfl,Nat.zero_le _,hI0 (Below.refl _ _)⟩
 obtain ⟨k,rfl,hk,HB⟩:=hrel
 obtain ⟨wi,rfl⟩:=eN0 wr
 by_cases hlt:k<l.length
 case neg=>
  have hlt2:¬(k:Int)<(l.length:Int):=by omega
  go_wp2_with fail
  go_ret
  exact ⟨_,rfl,HB.out⟩
 have hlt2:(k:Int)<(l.length:Int):=by omega
 obtain ⟨b,off,rfl,hF,hcl⟩:=RdE.at_ (K:=16) (enc:=REn.enc) (fun _=>rfl) (by omega) (HV.out.below HB.out) hlt
 have hcx0:=hcl k hlt
 have hmem:=List.getElem_mem hlt
 obtain ⟨x,hx⟩:=eN0 (l[k])
 rw [←hx] at hcx0 hmem
 have hcx:∀jj u,jj<16→(REn.enc x)[jj]? =some u→wi.cell? ⟨b,off+k*16+jj,none⟩=some u:=hcx0
 clear hcl hF hcx0 hx
 have hti:=HI.out _ hmem
 have htx:=HX.out _ hmem
 obtain ⟨tm2,tb,⟨nm,colA,colC,cols,keyA,keyC,key,forA,forC,fors,chkA,chkC,chks⟩,⟨x1,x2,x3,x4,x5,x6,⟨x7,x8,x9⟩⟩⟩:=x
 simp only at hti htx
 have HCK:Hid (RdE 7 RE.enc w (ltw w) (.slice chkA chks.length chkC) chks):=hI0 hti.chks
 have HCX:=hI0 htx
 obtain ⟨a1,a2⟩:=hti.cols.bd
 obtain ⟨b1,b2⟩:=hti.key.bd
 obtain ⟨d1,d2⟩:=hti.fors.bd
 obtain ⟨f1,f2⟩:=hti.chks.bd
 simp only at a1 a2 b1 b2 d1 d2 f1 f2
 obtain ⟨g0,g1,g2,g3,g4,g5,g6,g7,g8,g9,g10,g11,g12,g13,g14,g15⟩:=cK16 hcx (show _=[.int .i64 tm2,.string tb,.string nm,.slice colA cols.length colC,.slice keyA key.length keyC,.slice forA fors.length forC,.slice chkA chks.length chkC,.int .i64 x1,.string x2,.string x3,.string x4,.int .i64 x5,.bool x6,.int .i64 x7,.int .i64 x8,.string x9] from rfl)
 clear hcx hmem hti htx
 obtain ⟨W1,hW1⟩:=eN0 (wi.alloc (.cells #[.int .i64 tm2,.string tb,.string nm,.slice colA cols.length colC,.slice keyA key.length keyC,.slice forA fors.length forC,.slice chkA chks.length chkC,.int .i64 x1,.string x2,.string x3,.string x4,.int .i64 x5,.bool x6,.int .i64 x7,.int .i64 x8,.string x9] 83))
 have hb1:=bN0 hW1
 have hX1:=hN0 hW1
 have HB1:=bT0 HB hb1
 have HX1:=hI0 hX1
 clear hb1 hX1
 go_upto_region 4 with (fail)
 rw [←hW1]
 clear hW1 g0 g1 g2 g3 g4 g5 g6 g7 g8 g9 g10 g11 g12 g13 g14 g15
 have q2:=cW1 2 HX1.out rfl
 have q3:=cW1 3 HX1.out rfl
 have q4:=cW1 4 HX1.out rfl
 have q5:=cW1 5 HX1.out rfl
 have q6:=cW1 6 HX1.out rfl
 obtain ⟨W2,hW2⟩:=eN0 (W1.alloc (.cells #[.string nm,.slice colA cols.length colC,.slice keyA key.length keyC,.slice forA fors.length forC,.slice chkA chks.length chkC] 75))
 have hb2:=bN0 hW2
 have hX2:=hN0 hW2
 have HB2:=bT0 HB1 hb2
 have HX2:=hI0 hX2
 clear hb2 hX2
 go_upto_region 5 with (fail)
 rw [←hW2]
 clear hW2 q2 q3 q4 q5 q6
 obtain ⟨t0,t1,t2,t3,t4⟩:=cX5 HX2.out
 by_cases u0:(50:Int)<(cols.length:Int)
 case pos=>
  go_wp2_with fail
  go_ret
  exact ⟨_,rfl,HB2.out⟩
 by_cases u1:(50:Int)<(key.length:Int)
 case pos=>
  go_wp2_with fail
  go_ret
  exact ⟨_,rfl,HB2.out⟩
 by_cases u2:(20:Int)<(fors.length:Int)
 case pos=>
  go_wp2_with fail
  go_ret
  exact ⟨_,rfl,HB2.out⟩
 by_cases u3:(20:Int)<(chks.length:Int)
 case pos=>
  go_wp2_with fail
  go_ret
  exact ⟨_,rfl,HB2.out⟩
 by_cases u4:(300:Int)<(nm.size:Int)
 case pos=>
  go_wp2_with fail
  go_ret
  exact ⟨_,rfl,HB2.out⟩
 go_wp2_with fail
 clear t0 t1 t2 t3 t4 u0 u1 u2 u3 u4
 go_loopw [47] (fun i wr=>∃j:Nat,i=.int .i64 (j:Int)∧j≤chks.length∧Hid (Bl w wr)) (fun i _=>chks.length-(intOf i).toNat)
 case atStart=>exact ⟨0,rfl,Nat.zero_le _,HB2⟩
 have HLK:=hI0 hlt
 clear hlt hlt2
 obtain ⟨j,rfl,hj,HBj⟩:=hrel
 obtain ⟨wj,rfl⟩:=eN0 wr
 by_cases hlt:j<chks.length
 case neg=>
  have hlt2:¬(j:Int)<(chks.length:Int):=by omega
  have hkl:=HLK.out
  have hkl2:(k:Int)<(l.length:Int):=by omega
  go_wp2_with fail
  go_roundw
  case rel=>exact ⟨k+1,by go_num,HLK.out,HBj⟩
  case measure=>have:=HLK.out;simp [intOf];omega
 have hlt2:(j:Int)<(chks.length:Int):=by omega
 obtain ⟨b3,off3,rfl,hF,hcl⟩:=RdE.at_ (K:=7) (enc:=RE.enc) RE.enc_length (by omega) (HCK.out.below HBj.out) hlt
 have hcx0:=hcl j hlt
 have hmem:=List.getElem_mem hlt
 obtain ⟨y,hy⟩:=eN0 (chks[j])
 rw [←hy] at hcx0 hmem
 have hcx:∀jj u,jj<7→(RE.enc y)[jj]? =some u→wj.cell? ⟨b3,off3+j*7+jj,none⟩=some u:=hcx0
 clear hcl hF hcx0 hy
 have hya:=HCX.out _ hmem
 have KD:=fun (V:World) (hV:Bl w V)=>deep_any 40 y 40 V rfl (by omega) (hya.1.below hV)
 have KS:=fun (V:World) (hV:Bl w V)=>size_any _ y V (Nat.le_refl _) hya.2 (hya.1.below hV)
 have hyn:=hya.2
 obtain ⟨yn,hyn2⟩:=eN0 y.nodes
 rw [←hyn2] at KS hyn
 clear hyn2 hya
 obtain ⟨op2,it2,⟨vk2,vi2,vs2⟩,nm2,A2,c2,args2⟩:=y
 obtain ⟨g0,g1,g2,g3,g4,g5,g6⟩:=cK7 hcx (show _=[.int .i64 op2,.int .i64 it2,.int .i64 vk2,.int .i64 vi2,.string vs2,.string nm2,.slice A2 args2.length c2] from rfl)
 clear hcx hmem
 obtain ⟨W3,hW3⟩:=eN0 (wj.alloc (.cells #[.int .i64 op2,.int .i64 it2,.int .i64 vk2,.int .i64 vi2,.string vs2,.string nm2,.slice A2 args2.length c2] 212))
 have hb3:=bN0 hW3
 have hX3:=hN0 hW3
 have hL3:wj.heap.size<W3.heap.size:=by rw [hW3];simp
 have HB3:=bT0 HBj hb3
 have HX3:=hI0 hX3
 have HL3:=hI0 hL3
 clear hb3 hX3 hL3
 have KD:Calls prog 127 #[.agg #[.int .i64 op2,.int .i64 it2,.int .i64 vk2,.int .i64 vi2,.string vs2,.string nm2,.slice A2 args2.length c2],.int .i64 40] W3 _:=KD W3 HB3.out
 go_upto_region 10 with (fail)
 rw [←hW3]
 clear hW3 g0 g1 g2 g3 g4 g5 g6
 obtain ⟨q0,q1,q2,q3,q4,q5,q6⟩:=cX7 HX3.out
 go_wp2_with fail
 (with_reducible refine KD.mono ?_)
 rintro _ w4 ⟨r,rfl,hr1,hr2,hb4⟩
 have HB4:=bT0 HB3 hb4
 have hX4:=(hb4.block _ HL3.out).trans HX3.out
 clear hb4 KD q0 q1 q2 q3 q4 q5 q6
 by_cases hr30:30<r
 case pos=>
  go_wp2_with fail
  go_ret
  exact ⟨_,rfl,HB4.out⟩
 have KS:Calls prog 128 #[.agg #[.int .i64 op2,.int .i64 it2,.int .i64 vk2,.int .i64 vi2,.string vs2,.string nm2,.slice A2 args2.length c2]] w4 _:=KS w4 HB4.out
 obtain ⟨q0,q1,q2,q3,q4,q5,q6⟩:=cX7 hX4
 go_wp2_with fail
 (with_reducible refine KS.mono ?_)
 rintro _ w5 ⟨r2,rfl,hs1,hs2,hb5⟩
 have HB5:=bT0 HB4 hb5
 clear hb5 KS hX4 q0 q1 q2 q3 q4 q5 q6
 by_cases hr5:500<r2
 case pos=>
  go_wp2_with fail
  go_ret
  exact ⟨_,rfl,HB5.out⟩
 go_wp2_with fail
 go_roundw
 case rel=>exact ⟨j+1,by go_num,hlt,HB5⟩
 case measure=>simp [intOf];omega
theorem RCm.lim.below {w w':World} {c:RCm} (h:c.lim w) (hb:Bl w w'):c.lim w':=
 ⟨h.ents,h.dels,h.pla,h.rel,h.pol,h.hor,h.rows,fun x hx e he=>⟨(h.exps x hx e he).1.below hb,(h.exps x hx e he).2⟩,h.entS,h.delS,h.plaS,h.relS,h.polS,h.horS,h.entZ,h.delZ⟩
end Go.Proofs.YtbfdegkickjbpaaGreat
