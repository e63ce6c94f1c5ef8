/-
 DcD
-/
import Derived.Test.YtbfdegkickjbpaaGreatGDcC
namespace Go.Proofs.YtbfdegkickjbpaaGreat
set_option maxRecDepth 1000000
set_option maxHeartbeats 32000000
open Go.RowKit Go.Lib Go.IntWalk Go.Sort Go.Shelf
theorem info_Exp:(Tryz.prog.info? 212).map (fun i=>(i.zero,i.size,i.bytes))=some (some (.agg #[.int .i64 0,.int .i64 0,.int .i64 0,.int .i64 0,.string ⟨#[]⟩,.string ⟨#[]⟩,.slice none 0 0]),7,88):=by kernel_rfl
theorem getExp_any (R:Nat) (v:Value) (l:List UInt8) (rd:Int×Int→RE×Int×Int) (f:FuncId) (hf:EntF f) (s:Int×Int) (w:World) (h:SrcAt w R v s) (hv:RdB w (·<R) v l) (hl:l.length≤10000000000) (hmon:Mon l rd)
  (hone:∀s V,SrcAt V R v s→Chg (·=R) w V→Calls Tryz.prog f #[.pointer (some ⟨R,0,none⟩)] V (OneE (fun x:RE=>.agg x.enc.toArray) exAll RE.er R v (rd s) V)):
  Calls Tryz.prog 217 #[.pointer (some ⟨R,0,none⟩),.func (.func f) #[] #[]] w (GetE 7 RE.enc exAll RE.er R v (rdL l rd s) w):=by
 rcases h1:rdI l s with ⟨n,k1,e1⟩
 have hR:=h.lt
 have KI:Calls Tryz.prog 60 #[.pointer (some ⟨R,0,none⟩)] w fun x w'=>x=.returned (.int .i64 n)∧SrcAt w' R v (k1,e1)∧Chg (·=R) w w':=by
  have k:=srcInt_any R v l s w h hv
  rw [h1] at k
  exact k
 have KV:∀s x s' V,rd s=(x,s')→SrcAt V R v s→Chg (·=R) w V→Calls Tryz.prog f #[.pointer (some ⟨R,0,none⟩)] V fun e w'=>∃xo xi x1 x2 x3 xn xA xc xas,e=.returned (.agg #[.int .i64 xo,.int .i64 xi,.int .i64 x1,.int .i64 x2,.string x3,.string xn,.slice xA xas.length xc])∧exAll w' (fun b=>V.heap.size≤b∧b<w'.heap.size) (⟨xo,xi,⟨x1,x2,x3⟩,xn,xA,xc,xas⟩:RE)∧RE.er (⟨xo,xi,⟨x1,x2,x3⟩,xn,xA,xc,xas⟩:RE)=x∧SrcAt w' R v s'∧Chg (·=R) V w':=fun s x s' V he hs hV=>by
  have k:=hone s V hs hV
  rw [he] at k
  exact k.mono fun e w' ⟨r,a1,a2,a3,a4,a5⟩=>by
   obtain ⟨xo,xi,⟨x1,x2,x3⟩,xn,xA,xc,xas⟩:=r
   exact ⟨_,_,_,_,_,_,_,_,_,a1,a2,a3,a4,a5⟩
 clear h hv hone
 by_cases hneg:e1=0∧n<0
 case pos=>
  obtain ⟨rfl,hn⟩:=hneg
  rw [show rdL l rd s=([],k1,1) from by unfold rdL;rw [h1];exact if_pos ⟨rfl,hn⟩]
  clear KV h1 hf
  go_enter Tryz.func217,Tryz.ntmps217
  go_wp2_with fail
  (with_reducible refine KI.mono ?_)
  rintro _ w1 ⟨rfl,hs1,hc1⟩
  have c2:w1.cell? ⟨R,2,none⟩=some (.int .i64 0):=cW0 w1 R 2 _ _ _ hs1
  have f2:w1.frozen? ⟨R,2,none⟩=false:=fW0 w1 R 2 _ _ hs1
  have HS1:=hI0 hs1
  have HC1:=hI0 hc1
  clear hs1 hc1 KI
  go_wp2_with fail
  go_loopw [6,7] (fun o i wr=>o=.slice none 0 0∧i=.int .i64 0∧wr=w1.setCell ⟨R,2,none⟩ (.int .i64 1)) (fun _ _ _=>0)
  case atStart=>exact ⟨rfl,rfl,rfl⟩
  obtain ⟨rfl,rfl,hw⟩:=hrel
  rw [hw]
  clear hw
  have hnn:¬(0:Int)<n:=by omega
  go_wp2_with fail
  go_ret
  exact ⟨_,[],rfl,Rd.nil _ _ _,(fun p hp=>by cases hp),rfl,HS1.out.set2 1,Chg.setCell (S:=(·=R)) (p:=⟨R,2,none⟩) HC1.out (.inl rfl) _⟩
 have hn0:0≤n:=by
  by_cases he:e1=0
  ·have:¬n<0:=fun h=>hneg ⟨he,h⟩
   omega
  ·have:=rdI_err (l:=l) (s:=s) (by rw [h1];exact he)
   rw [h1] at this
   simp only at this
   omega
 obtain ⟨N,rfl⟩:=Int.eq_ofNat_of_zero_le hn0
 have hbd:=decI_bd l s.1
 have hN:(N:Int)≤9223372036854775807:=by
  have e:(N:Int)=(rdI l s).1:=by rw [h1]
  rw [e]
  unfold rdI rdS
  split
  ·omega
  ·split<;>exact hbd.2.1
 have hk1:e1=0→0≤k1∧k1≤l.length:=fun he=>by
  subst he
  have g:=rdI_mono h1
  obtain ⟨a,r,hl2,_,hm⟩:=decI_got g.2.2
  have:l.length=(a++encI N).length+r.length:=by rw [hl2];simp [Nat.add_assoc]
  omega
 rw [show rdL l rd s=getS rd N (k1,e1) from by unfold rdL;rw [h1];exact if_neg hneg]
 obtain ⟨res,hres⟩:∃r,r=getS rd N (k1,e1):=⟨_,rfl⟩
 rw [←hres]
 have HRES:=hI0 hres
 have HNEG:=hI0 hneg
 have HK1:=hI0 hk1
 obtain ⟨i0,hi,hz0,hz1,hz2⟩:=info_parts info_Exp
 have HI:=hI0 hi
 have HZ0:=hI0 hz0
 have HZ1:=hI0 hz1
 have HZ2:=hI0 hz2
 have KK:=hI0 KV
 have HMON:=hI0 hmon
 have HF_:=hI0 hf
 clear hf hi hz0 hz1 hz2 hres hneg hk1 hbd h1 KV hn0 hmon
 go_enter Tryz.func217,Tryz.ntmps217
 go_wp2_with fail
 (with_reducible refine KI.mono ?_)
 rintro _ w1 ⟨rfl,hs1,hc1⟩
 have c2:w1.cell? ⟨R,2,none⟩=some (.int .i64 e1):=cW0 w1 R 2 _ _ _ hs1
 have HS1:=hI0 hs1
 have HC1:=hI0 hc1
 clear hs1 hc1 KI
 have hcond:e1=0→¬(N:Int)<0:=fun _=>by omega
 have hN0:¬(N:Int)<0:=by omega
 go_wp2_with fail
 all_goals skip
 all_goals
  go_loopw [6,7] (fun o i wr=>∃(i':Nat) (Q:List RE) (st:Int×Int),i=.int .i64 (i':Int)∧i'≤N∧Q.length=i'∧Hid (OwnE 212 7 RE.enc wr w.heap.size o Q)∧Hid (∀p∈Q,exAll wr (fun b=>w.heap.size≤b∧b<wr.heap.size∧some b≠Value.ownBlock o) p)∧Hid (SrcAt wr R v st)∧Hid (Chg (·=R) w wr)∧Hid ((Q.map RE.er++(getS rd (N-i') st).1,(getS rd (N-i') st).2)=res)∧i'≤l.length+1∧(st.2=0→(i':Int)≤st.1∧st.1≤l.length)) (fun _ i _=>N-(intOf i).toNat)
  case atStart=>exact ⟨0,[],(k1,e1),rfl,Nat.zero_le _,rfl,hI0 (World.ownsRow_nil _ _ _ _),hI0 (fun p hp=>by cases hp),HS1,HC1,hI0 HRES.out.symm,by omega,HK1.out⟩
  obtain ⟨i',Q,⟨k,er⟩,rfl,hi',hQl,HO,HR,HS,HC,HG,hil,hik⟩:=hrel
  obtain ⟨wi,rfl⟩:∃wi:World,wi=wr:=⟨_,rfl⟩
  obtain ⟨Ao,co,rfl,o1,o2,o3⟩:=Rd.open_ (Rd.of_own HO.out)
  rw [hQl] at o1
  have HRd:Hid (RdE 7 RE.enc wi (fun b=>w.heap.size≤b∧b<wi.heap.size) (.slice Ao i' co) Q∧∀p∈Q,exAll wi (fun b=>w.heap.size≤b∧b<wi.heap.size) p):=hI0 (by rw [←hQl];exact ⟨(Rd.of_own HO.out),fun p hp=>isK_X.wide (HR.out p hp) fun b hb=>⟨hb.1,hb.2.1⟩⟩)
  have c2:wi.cell? ⟨R,2,none⟩=some (.int .i64 er):=cW0 wi R 2 _ _ _ HS.out
  clear o3 o2
  by_cases hlt:i'<N
  case neg=>
   have hie:i'=N:=by omega
   have hil2:¬(i':Int)<(N:Int):=by omega
   have HF:Hid (res=(Q.map RE.er,(k,er))):=hI0 (by rw [←HG.out,getS_stop (.inl (by omega))];simp)
   have HIE:=hI0 hie
   go_wp2_with fail
   go_ret
   rw [HF.out]
   exact ⟨_,Q,rfl,(by first|exact HRd.out.1|(have h:=HRd.out.1;rw [HIE.out] at h;exact h)),HRd.out.2,rfl,HS.out,HC.out⟩
  have hil2:(i':Int)<(N:Int):=by omega
  by_cases her:er=0
  case neg=>
   have HF:Hid (res=(Q.map RE.er,(k,er))):=hI0 (by rw [←HG.out,getS_stop (.inr her)];simp)
   go_wp2_with fail
   go_ret
   rw [HF.out]
   exact ⟨_,Q,rfl,HRd.out.1,HRd.out.2,rfl,HS.out,HC.out⟩
  subst her
  have hik2:=hik rfl
  simp only at hik2
  rcases hx:rd (k,0) with ⟨x,st'⟩
  have hst:st'.2=0→(i':Int)+1≤st'.1∧st'.1≤l.length:=fun he=>by
   have:=HMON.out (k,0) (by rw [hx];exact he)
   rw [hx] at this
   simp only at this
   omega
  have KV:=KK.out (k,0) x st' wi hx HS.out HC.out
  have hgs:getS rd (N-i') (k,0)=(x::(getS rd (N-(i'+1)) st').1,(getS rd (N-(i'+1)) st').2):=by
   rw [show N-i'=(N-(i'+1))+1 by omega]
   exact getS_step rfl hx
  have HGS:=hI0 hgs
  have HST:=hI0 hst
  have HN:=hI0 (And.intro hil hik2)
  clear hgs hst hx hik hik2
  have hent:∀(args:Array Value) (V:World),(callFunc f args).run Tryz.prog V=.ok (.enter f args) V:=HF_.out
  go_wp2_with fail
  (with_reducible refine KV.mono ?_)
  rintro _ w2 ⟨xo,xi,x1,x2,x3,xn,xA,xc,xas,rfl,hX,hxe,hs2,hc2⟩
  have hz2:=hc2.size
  have HX:=hI0 hX
  have HXE:=hI0 hxe
  have HS2:=hI0 hs2
  have HC2:=hI0 hc2
  clear hX hxe hs2 hc2 KV hent
  have hwi:w.heap.size≤wi.heap.size:=HC.out.size
  have HOA:=hI0 (getA (O:=(.cells #[.int .i64 xo,.int .i64 xi,.int .i64 x1,.int .i64 x2,.string x3,.string xn,.slice xA xas.length xc] 212)) hQl hR HO.out HC2.out)
  have HNEW:=hI0 (Rd.new' w2 w2.heap.size rfl [.int .i64 xo,.int .i64 xi,.int .i64 x1,.int .i64 x2,.string x3,.string xn,.slice xA xas.length xc] 212 7 1 rfl (by decide))
  have hi5:i'≤10000000001:=by have:=HN.out.1;omega
  go_wp2_with (at_builtin;refine wpList_append_app (w2.alloc (.cells #[.int .i64 xo,.int .i64 xi,.int .i64 x1,.int .i64 x2,.string x3,.string xn,.slice xA xas.length xc] 212)) rfl (.tmp 39) (.tmp 43) 73 rfl w.heap.size 212 i0 _ 7 88 Tryz.underlying73 HI.out HZ0.out HZ1.out HZ2.out rfl (by omega) (.slice Ao i' co) i' (Q.flatMap RE.enc) rfl (.inl HOA.out) (·=w2.heap.size) _ 1 [.int .i64 xo,.int .i64 xi,.int .i64 x1,.int .i64 x2,.string x3,.string xn,.slice xA xas.length xc] rfl HNEW.out (fun u hu=>by simp only [List.mem_cons,List.not_mem_nil,or_false] at hu;rcases hu with rfl|rfl|rfl|rfl|rfl|rfl|rfl<;>rfl) (by unfold maxLen;omega) (by omega) (by simp;omega) ?_;intro v3 w3 _ hO3 hg3 hb3 hv3)
  all_goals skip
  have HB4:=hI0 (getB (x:=(⟨xo,xi,⟨x1,x2,x3⟩,xn,xA,xc,xas⟩:RE)) isK_X hQl hR HO.out HR.out HC.out HX.out HS2.out HC2.out (hO3 (.inl (by omega))) hg3 hv3)
  clear hO3 hg3 hb3 hv3
  go_wp2_with fail
  go_roundw
  case rel=>
   refine ⟨i'+1,Q++[(⟨xo,xi,⟨x1,x2,x3⟩,xn,xA,xc,xas⟩:RE)],st',by go_num,by omega,by simp [hQl],hI0 HB4.out.1,hI0 HB4.out.2.1,hI0 HB4.out.2.2.1,hI0 HB4.out.2.2.2,hI0 ?_,?_,?_⟩
   ·rw [←HG.out,HGS.out,List.map_append,List.map_singleton,HXE.out];simp
   ·have:=HN.out;omega
   ·intro he;have:=HST.out he;omega
  case measure=>simp [intOf];omega
theorem getExpC_any (R LB:Nat) (v:Value) (l:List UInt8) (rd:Int×Int→RE×Int×Int) (f:FuncId) (hf:EntF f) (s:Int×Int) (w:World) (h:SrcAt w R v s) (hv:RdB w (·<R) v l) (hl:l.length≤10000000000) (hmon:Mon l rd)
  (hone:∀s V,SrcAt V R v s→Chg (·=R) w V→Calls Tryz.prog f #[.pointer (some ⟨R,0,none⟩),.pointer (some ⟨LB,0,none⟩)] V (OneE (fun x:RE=>.agg x.enc.toArray) exAll RE.er R v (rd s) V)):
  Calls Tryz.prog 217 #[.pointer (some ⟨R,0,none⟩),.func (.func f) #[] #[.pointer (some ⟨LB,0,none⟩)]] w (GetE 7 RE.enc exAll RE.er R v (rdL l rd s) w):=by
 rcases h1:rdI l s with ⟨n,k1,e1⟩
 have hR:=h.lt
 have KI:Calls Tryz.prog 60 #[.pointer (some ⟨R,0,none⟩)] w fun x w'=>x=.returned (.int .i64 n)∧SrcAt w' R v (k1,e1)∧Chg (·=R) w w':=by
  have k:=srcInt_any R v l s w h hv
  rw [h1] at k
  exact k
 have KV:∀s x s' V,rd s=(x,s')→SrcAt V R v s→Chg (·=R) w V→Calls Tryz.prog f #[.pointer (some ⟨R,0,none⟩),.pointer (some ⟨LB,0,none⟩)] V fun e w'=>∃xo xi x1 x2 x3 xn xA xc xas,e=.returned (.agg #[.int .i64 xo,.int .i64 xi,.int .i64 x1,.int .i64 x2,.string x3,.string xn,.slice xA xas.length xc])∧exAll w' (fun b=>V.heap.size≤b∧b<w'.heap.size) (⟨xo,xi,⟨x1,x2,x3⟩,xn,xA,xc,xas⟩:RE)∧RE.er (⟨xo,xi,⟨x1,x2,x3⟩,xn,xA,xc,xas⟩:RE)=x∧SrcAt w' R v s'∧Chg (·=R) V w':=fun s x s' V he hs hV=>by
  have k:=hone s V hs hV
  rw [he] at k
  exact k.mono fun e w' ⟨r,a1,a2,a3,a4,a5⟩=>by
   obtain ⟨xo,xi,⟨x1,x2,x3⟩,xn,xA,xc,xas⟩:=r
   exact ⟨_,_,_,_,_,_,_,_,_,a1,a2,a3,a4,a5⟩
 clear h hv hone
 by_cases hneg:e1=0∧n<0
 case pos=>
  obtain ⟨rfl,hn⟩:=hneg
  rw [show rdL l rd s=([],k1,1) from by unfold rdL;rw [h1];exact if_pos ⟨rfl,hn⟩]
  clear KV h1 hf
  go_enter Tryz.func217,Tryz.ntmps217
  go_wp2_with fail
  (with_reducible refine KI.mono ?_)
  rintro _ w1 ⟨rfl,hs1,hc1⟩
  have c2:w1.cell? ⟨R,2,none⟩=some (.int .i64 0):=cW0 w1 R 2 _ _ _ hs1
  have f2:w1.frozen? ⟨R,2,none⟩=false:=fW0 w1 R 2 _ _ hs1
  have HS1:=hI0 hs1
  have HC1:=hI0 hc1
  clear hs1 hc1 KI
  go_wp2_with fail
  go_loopw [6,7] (fun o i wr=>o=.slice none 0 0∧i=.int .i64 0∧wr=w1.setCell ⟨R,2,none⟩ (.int .i64 1)) (fun _ _ _=>0)
  case atStart=>exact ⟨rfl,rfl,rfl⟩
  obtain ⟨rfl,rfl,hw⟩:=hrel
  rw [hw]
  clear hw
  have hnn:¬(0:Int)<n:=by omega
  go_wp2_with fail
  go_ret
  exact ⟨_,[],rfl,Rd.nil _ _ _,(fun p hp=>by cases hp),rfl,HS1.out.set2 1,Chg.setCell (S:=(·=R)) (p:=⟨R,2,none⟩) HC1.out (.inl rfl) _⟩
 have hn0:0≤n:=by
  by_cases he:e1=0
  ·have:¬n<0:=fun h=>hneg ⟨he,h⟩
   omega
  ·have:=rdI_err (l:=l) (s:=s) (by rw [h1];exact he)
   rw [h1] at this
   simp only at this
   omega
 obtain ⟨N,rfl⟩:=Int.eq_ofNat_of_zero_le hn0
 have hbd:=decI_bd l s.1
 have hN:(N:Int)≤9223372036854775807:=by
  have e:(N:Int)=(rdI l s).1:=by rw [h1]
  rw [e]
  unfold rdI rdS
  split
  ·omega
  ·split<;>exact hbd.2.1
 have hk1:e1=0→0≤k1∧k1≤l.length:=fun he=>by
  subst he
  have g:=rdI_mono h1
  obtain ⟨a,r,hl2,_,hm⟩:=decI_got g.2.2
  have:l.length=(a++encI N).length+r.length:=by rw [hl2];simp [Nat.add_assoc]
  omega
 rw [show rdL l rd s=getS rd N (k1,e1) from by unfold rdL;rw [h1];exact if_neg hneg]
 obtain ⟨res,hres⟩:∃r,r=getS rd N (k1,e1):=⟨_,rfl⟩
 rw [←hres]
 have HRES:=hI0 hres
 have HNEG:=hI0 hneg
 have HK1:=hI0 hk1
 obtain ⟨i0,hi,hz0,hz1,hz2⟩:=info_parts info_Exp
 have HI:=hI0 hi
 have HZ0:=hI0 hz0
 have HZ1:=hI0 hz1
 have HZ2:=hI0 hz2
 have KK:=hI0 KV
 have HMON:=hI0 hmon
 have HF_:=hI0 hf
 clear hf hi hz0 hz1 hz2 hres hneg hk1 hbd h1 KV hn0 hmon
 go_enter Tryz.func217,Tryz.ntmps217
 go_wp2_with fail
 (with_reducible refine KI.mono ?_)
 rintro _ w1 ⟨rfl,hs1,hc1⟩
 have c2:w1.cell? ⟨R,2,none⟩=some (.int .i64 e1):=cW0 w1 R 2 _ _ _ hs1
 have HS1:=hI0 hs1
 have HC1:=hI0 hc1
 clear hs1 hc1 KI
 have hcond:e1=0→¬(N:Int)<0:=fun _=>by omega
 have hN0:¬(N:Int)<0:=by omega
 go_wp2_with fail
 all_goals skip
 all_goals
  go_loopw [6,7] (fun o i wr=>∃(i':Nat) (Q:List RE) (st:Int×Int),i=.int .i64 (i':Int)∧i'≤N∧Q.length=i'∧Hid (OwnE 212 7 RE.enc wr w.heap.size o Q)∧Hid (∀p∈Q,exAll wr (fun b=>w.heap.size≤b∧b<wr.heap.size∧some b≠Value.ownBlock o) p)∧Hid (SrcAt wr R v st)∧Hid (Chg (·=R) w wr)∧Hid ((Q.map RE.er++(getS rd (N-i') st).1,(getS rd (N-i') st).2)=res)∧i'≤l.length+1∧(st.2=0→(i':Int)≤st.1∧st.1≤l.length)) (fun _ i _=>N-(intOf i).toNat)
  case atStart=>exact ⟨0,[],(k1,e1),rfl,Nat.zero_le _,rfl,hI0 (World.ownsRow_nil _ _ _ _),hI0 (fun p hp=>by cases hp),HS1,HC1,hI0 HRES.out.symm,by omega,HK1.out⟩
  obtain ⟨i',Q,⟨k,er⟩,rfl,hi',hQl,HO,HR,HS,HC,HG,hil,hik⟩:=hrel
  obtain ⟨wi,rfl⟩:∃wi:World,wi=wr:=⟨_,rfl⟩
  obtain ⟨Ao,co,rfl,o1,o2,o3⟩:=Rd.open_ (Rd.of_own HO.out)
  rw [hQl] at o1
  have HRd:Hid (RdE 7 RE.enc wi (fun b=>w.heap.size≤b∧b<wi.heap.size) (.slice Ao i' co) Q∧∀p∈Q,exAll wi (fun b=>w.heap.size≤b∧b<wi.heap.size) p):=hI0 (by rw [←hQl];exact ⟨(Rd.of_own HO.out),fun p hp=>isK_X.wide (HR.out p hp) fun b hb=>⟨hb.1,hb.2.1⟩⟩)
  have c2:wi.cell? ⟨R,2,none⟩=some (.int .i64 er):=cW0 wi R 2 _ _ _ HS.out
  clear o3 o2
  by_cases hlt:i'<N
  case neg=>
   have hie:i'=N:=by omega
   have hil2:¬(i':Int)<(N:Int):=by omega
   have HF:Hid (res=(Q.map RE.er,(k,er))):=hI0 (by rw [←HG.out,getS_stop (.inl (by omega))];simp)
   have HIE:=hI0 hie
   go_wp2_with fail
   go_ret
   rw [HF.out]
   exact ⟨_,Q,rfl,(by first|exact HRd.out.1|(have h:=HRd.out.1;rw [HIE.out] at h;exact h)),HRd.out.2,rfl,HS.out,HC.out⟩
  have hil2:(i':Int)<(N:Int):=by omega
  by_cases her:er=0
  case neg=>
   have HF:Hid (res=(Q.map RE.er,(k,er))):=hI0 (by rw [←HG.out,getS_stop (.inr her)];simp)
   go_wp2_with fail
   go_ret
   rw [HF.out]
   exact ⟨_,Q,rfl,HRd.out.1,HRd.out.2,rfl,HS.out,HC.out⟩
  subst her
  have hik2:=hik rfl
  simp only at hik2
  rcases hx:rd (k,0) with ⟨x,st'⟩
  have hst:st'.2=0→(i':Int)+1≤st'.1∧st'.1≤l.length:=fun he=>by
   have:=HMON.out (k,0) (by rw [hx];exact he)
   rw [hx] at this
   simp only at this
   omega
  have KV:=KK.out (k,0) x st' wi hx HS.out HC.out
  have hgs:getS rd (N-i') (k,0)=(x::(getS rd (N-(i'+1)) st').1,(getS rd (N-(i'+1)) st').2):=by
   rw [show N-i'=(N-(i'+1))+1 by omega]
   exact getS_step rfl hx
  have HGS:=hI0 hgs
  have HST:=hI0 hst
  have HN:=hI0 (And.intro hil hik2)
  clear hgs hst hx hik hik2
  have hent:∀(args:Array Value) (V:World),(callFunc f args).run Tryz.prog V=.ok (.enter f args) V:=HF_.out
  go_wp2_with fail
  (with_reducible refine KV.mono ?_)
  rintro _ w2 ⟨xo,xi,x1,x2,x3,xn,xA,xc,xas,rfl,hX,hxe,hs2,hc2⟩
  have hz2:=hc2.size
  have HX:=hI0 hX
  have HXE:=hI0 hxe
  have HS2:=hI0 hs2
  have HC2:=hI0 hc2
  clear hX hxe hs2 hc2 KV hent
  have hwi:w.heap.size≤wi.heap.size:=HC.out.size
  have HOA:=hI0 (getA (O:=(.cells #[.int .i64 xo,.int .i64 xi,.int .i64 x1,.int .i64 x2,.string x3,.string xn,.slice xA xas.length xc] 212)) hQl hR HO.out HC2.out)
  have HNEW:=hI0 (Rd.new' w2 w2.heap.size rfl [.int .i64 xo,.int .i64 xi,.int .i64 x1,.int .i64 x2,.string x3,.string xn,.slice xA xas.length xc] 212 7 1 rfl (by decide))
  have hi5:i'≤10000000001:=by have:=HN.out.1;omega
  go_wp2_with (at_builtin;refine wpList_append_app (w2.alloc (.cells #[.int .i64 xo,.int .i64 xi,.int .i64 x1,.int .i64 x2,.string x3,.string xn,.slice xA xas.length xc] 212)) rfl (.tmp 39) (.tmp 43) 73 rfl w.heap.size 212 i0 _ 7 88 Tryz.underlying73 HI.out HZ0.out HZ1.out HZ2.out rfl (by omega) (.slice Ao i' co) i' (Q.flatMap RE.enc) rfl (.inl HOA.out) (·=w2.heap.size) _ 1 [.int .i64 xo,.int .i64 xi,.int .i64 x1,.int .i64 x2,.string x3,.string xn,.slice xA xas.length xc] rfl HNEW.out (fun u hu=>by simp only [List.mem_cons,List.not_mem_nil,or_false] at hu;rcases hu with rfl|rfl|rfl|rfl|rfl|rfl|rfl<;>rfl) (by unfold maxLen;omega) (by omega) (by simp;omega) ?_;intro v3 w3 _ hO3 hg3 hb3 hv3)
  all_goals skip
  have HB4:=hI0 (getB (x:=(⟨xo,xi,⟨x1,x2,x3⟩,xn,xA,xc,xas⟩:RE)) isK_X hQl hR HO.out HR.out HC.out HX.out HS2.out HC2.out (hO3 (.inl (by omega))) hg3 hv3)
  clear hO3 hg3 hb3 hv3
  go_wp2_with fail
  go_roundw
  case rel=>
   refine ⟨i'+1,Q++[(⟨xo,xi,⟨x1,x2,x3⟩,xn,xA,xc,xas⟩:RE)],st',by go_num,by omega,by simp [hQl],hI0 HB4.out.1,hI0 HB4.out.2.1,hI0 HB4.out.2.2.1,hI0 HB4.out.2.2.2,hI0 ?_,?_,?_⟩
   ·rw [←HG.out,HGS.out,List.map_append,List.map_singleton,HXE.out];simp
   ·have:=HN.out;omega
   ·intro he;have:=HST.out he;omega
  case measure=>simp [intOf];omega
theorem info_Fct:(Tryz.prog.info? 68).map (fun i=>(i.zero,i.size,i.bytes))=some (some (.agg #[.slice none 0 0,.int .i64 0,.int .i64 0]),3,40):=by kernel_rfl
theorem getFct_any (R:Nat) (v:Value) (l:List UInt8) (rd:Int×Int→RF×Int×Int) (f:FuncId) (hf:EntF f) (s:Int×Int) (w:World) (h:SrcAt w R v s) (hv:RdB w (·<R) v l) (hl:l.length≤10000000000) (hmon:Mon l rd)
  (hone:∀s V,SrcAt V R v s→Chg (·=R) w V→Calls Tryz.prog f #[.pointer (some ⟨R,0,none⟩)] V (OneE (fun x:RF=>.agg x.enc.toArray) RF.is RF.er R v (rd s) V)):
  Calls Tryz.prog 167 #[.pointer (some ⟨R,0,none⟩),.func (.func f) #[] #[]] w (GetE 3 RF.enc RF.is RF.er R v (rdL l rd s) w):=by
 rcases h1:rdI l s with ⟨n,k1,e1⟩
 have hR:=h.lt
 have KI:Calls Tryz.prog 60 #[.pointer (some ⟨R,0,none⟩)] w fun x w'=>x=.returned (.int .i64 n)∧SrcAt w' R v (k1,e1)∧Chg (·=R) w w':=by
  have k:=srcInt_any R v l s w h hv
  rw [h1] at k
  exact k
 have KV:∀s x s' V,rd s=(x,s')→SrcAt V R v s→Chg (·=R) w V→Calls Tryz.prog f #[.pointer (some ⟨R,0,none⟩)] V fun e w'=>∃xA xn xc xr x1 x2,e=.returned (.agg #[.slice xA xn xc,.int .i64 x1,.int .i64 x2])∧RF.is w' (fun b=>V.heap.size≤b∧b<w'.heap.size) (⟨xA,xn,xc,xr,x1,x2⟩:RF)∧RF.er (⟨xA,xn,xc,xr,x1,x2⟩:RF)=x∧SrcAt w' R v s'∧Chg (·=R) V w':=fun s x s' V he hs hV=>by
  have k:=hone s V hs hV
  rw [he] at k
  exact k.mono fun e w' ⟨r,a1,a2,a3,a4,a5⟩=>by
   obtain ⟨xA,xn,xc,xr,x1,x2⟩:=r
   exact ⟨_,_,_,_,_,_,a1,a2,a3,a4,a5⟩
 clear h hv hone
 by_cases hneg:e1=0∧n<0
 case pos=>
  obtain ⟨rfl,hn⟩:=hneg
  rw [show rdL l rd s=([],k1,1) from by unfold rdL;rw [h1];exact if_pos ⟨rfl,hn⟩]
  clear KV h1 hf
  go_enter Tryz.func167,Tryz.ntmps167
  go_wp2_with fail
  (with_reducible refine KI.mono ?_)
  rintro _ w1 ⟨rfl,hs1,hc1⟩
  have c2:w1.cell? ⟨R,2,none⟩=some (.int .i64 0):=cW0 w1 R 2 _ _ _ hs1
  have f2:w1.frozen? ⟨R,2,none⟩=false:=fW0 w1 R 2 _ _ hs1
  have HS1:=hI0 hs1
  have HC1:=hI0 hc1
  clear hs1 hc1 KI
  go_wp2_with fail
  go_loopw [6,7] (fun o i wr=>o=.slice none 0 0∧i=.int .i64 0∧wr=w1.setCell ⟨R,2,none⟩ (.int .i64 1)) (fun _ _ _=>0)
  case atStart=>exact ⟨rfl,rfl,rfl⟩
  obtain ⟨rfl,rfl,hw⟩:=hrel
  rw [hw]
  clear hw
  have hnn:¬(0:Int)<n:=by omega
  go_wp2_with fail
  go_ret
  exact ⟨_,[],rfl,Rd.nil _ _ _,(fun p hp=>by cases hp),rfl,HS1.out.set2 1,Chg.setCell (S:=(·=R)) (p:=⟨R,2,none⟩) HC1.out (.inl rfl) _⟩
 have hn0:0≤n:=by
  by_cases he:e1=0
  ·have:¬n<0:=fun h=>hneg ⟨he,h⟩
   omega
  ·have:=rdI_err (l:=l) (s:=s) (by rw [h1];exact he)
   rw [h1] at this
   simp only at this
   omega
 obtain ⟨N,rfl⟩:=Int.eq_ofNat_of_zero_le hn0
 have hbd:=decI_bd l s.1
 have hN:(N:Int)≤9223372036854775807:=by
  have e:(N:Int)=(rdI l s).1:=by rw [h1]
  rw [e]
  unfold rdI rdS
  split
  ·omega
  ·split<;>exact hbd.2.1
 have hk1:e1=0→0≤k1∧k1≤l.length:=fun he=>by
  subst he
  have g:=rdI_mono h1
  obtain ⟨a,r,hl2,_,hm⟩:=decI_got g.2.2
  have:l.length=(a++encI N).length+r.length:=by rw [hl2];simp [Nat.add_assoc]
  omega
 rw [show rdL l rd s=getS rd N (k1,e1) from by unfold rdL;rw [h1];exact if_neg hneg]
 obtain ⟨res,hres⟩:∃r,r=getS rd N (k1,e1):=⟨_,rfl⟩
 rw [←hres]
 have HRES:=hI0 hres
 have HNEG:=hI0 hneg
 have HK1:=hI0 hk1
 obtain ⟨i0,hi,hz0,hz1,hz2⟩:=info_parts info_Fct
 have HI:=hI0 hi
 have HZ0:=hI0 hz0
 have HZ1:=hI0 hz1
 have HZ2:=hI0 hz2
 have KK:=hI0 KV
 have HMON:=hI0 hmon
 have HF_:=hI0 hf
 clear hf hi hz0 hz1 hz2 hres hneg hk1 hbd h1 KV hn0 hmon
 go_enter Tryz.func167,Tryz.ntmps167
 go_wp2_with fail
 (with_reducible refine KI.mono ?_)
 rintro _ w1 ⟨rfl,hs1,hc1⟩
 have c2:w1.cell? ⟨R,2,none⟩=some (.int .i64 e1):=cW0 w1 R 2 _ _ _ hs1
 have HS1:=hI0 hs1
 have HC1:=hI0 hc1
 clear hs1 hc1 KI
 have hcond:e1=0→¬(N:Int)<0:=fun _=>by omega
 have hN0:¬(N:Int)<0:=by omega
 go_wp2_with fail
 all_goals skip
 all_goals
  go_loopw [6,7] (fun o i wr=>∃(i':Nat) (Q:List RF) (st:Int×Int),i=.int .i64 (i':Int)∧i'≤N∧Q.length=i'∧Hid (OwnE 68 3 RF.enc wr w.heap.size o Q)∧Hid (∀p∈Q,RF.is wr (fun b=>w.heap.size≤b∧b<wr.heap.size∧some b≠Value.ownBlock o) p)∧Hid (SrcAt wr R v st)∧Hid (Chg (·=R) w wr)∧Hid ((Q.map RF.er++(getS rd (N-i') st).1,(getS rd (N-i') st).2)=res)∧i'≤l.length+1∧(st.2=0→(i':Int)≤st.1∧st.1≤l.length)) (fun _ i _=>N-(intOf i).toNat)
  case atStart=>exact ⟨0,[],(k1,e1),rfl,Nat.zero_le _,rfl,hI0 (World.ownsRow_nil _ _ _ _),hI0 (fun p hp=>by cases hp),HS1,HC1,hI0 HRES.out.symm,by omega,HK1.out⟩
  obtain ⟨i',Q,⟨k,er⟩,rfl,hi',hQl,HO,HR,HS,HC,HG,hil,hik⟩:=hrel
  obtain ⟨wi,rfl⟩:∃wi:World,wi=wr:=⟨_,rfl⟩
  obtain ⟨Ao,co,rfl,o1,o2,o3⟩:=Rd.open_ (Rd.of_own HO.out)
  rw [hQl] at o1
  have HRd:Hid (RdE 3 RF.enc wi (fun b=>w.heap.size≤b∧b<wi.heap.size) (.slice Ao i' co) Q∧∀p∈Q,RF.is wi (fun b=>w.heap.size≤b∧b<wi.heap.size) p):=hI0 (by rw [←hQl];exact ⟨(Rd.of_own HO.out),fun p hp=>isK_F.wide (HR.out p hp) fun b hb=>⟨hb.1,hb.2.1⟩⟩)
  have c2:wi.cell? ⟨R,2,none⟩=some (.int .i64 er):=cW0 wi R 2 _ _ _ HS.out
  clear o3 o2
  by_cases hlt:i'<N
  case neg=>
   have hie:i'=N:=by omega
   have hil2:¬(i':Int)<(N:Int):=by omega
   have HF:Hid (res=(Q.map RF.er,(k,er))):=hI0 (by rw [←HG.out,getS_stop (.inl (by omega))];simp)
   have HIE:=hI0 hie
   go_wp2_with fail
   go_ret
   rw [HF.out]
   exact ⟨_,Q,rfl,(by first|exact HRd.out.1|(have h:=HRd.out.1;rw [HIE.out] at h;exact h)),HRd.out.2,rfl,HS.out,HC.out⟩
  have hil2:(i':Int)<(N:Int):=by omega
  by_cases her:er=0
  case neg=>
   have HF:Hid (res=(Q.map RF.er,(k,er))):=hI0 (by rw [←HG.out,getS_stop (.inr her)];simp)
   go_wp2_with fail
   go_ret
   rw [HF.out]
   exact ⟨_,Q,rfl,HRd.out.1,HRd.out.2,rfl,HS.out,HC.out⟩
  subst her
  have hik2:=hik rfl
  simp only at hik2
  rcases hx:rd (k,0) with ⟨x,st'⟩
  have hst:st'.2=0→(i':Int)+1≤st'.1∧st'.1≤l.length:=fun he=>by
   have:=HMON.out (k,0) (by rw [hx];exact he)
   rw [hx] at this
   simp only at this
   omega
  have KV:=KK.out (k,0) x st' wi hx HS.out HC.out
  have hgs:getS rd (N-i') (k,0)=(x::(getS rd (N-(i'+1)) st').1,(getS rd (N-(i'+1)) st').2):=by
   rw [show N-i'=(N-(i'+1))+1 by omega]
   exact getS_step rfl hx
  have HGS:=hI0 hgs
  have HST:=hI0 hst
  have HN:=hI0 (And.intro hil hik2)
  clear hgs hst hx hik hik2
  have hent:∀(args:Array Value) (V:World),(callFunc f args).run Tryz.prog V=.ok (.enter f args) V:=HF_.out
  go_wp2_with fail
  (with_reducible refine KV.mono ?_)
  rintro _ w2 ⟨xA,xn,xc,xr,x1,x2,rfl,hX,hxe,hs2,hc2⟩
  have hz2:=hc2.size
  have HX:=hI0 hX
  have HXE:=hI0 hxe
  have HS2:=hI0 hs2
  have HC2:=hI0 hc2
  clear hX hxe hs2 hc2 KV hent
  have hwi:w.heap.size≤wi.heap.size:=HC.out.size
  have HOA:=hI0 (getA (O:=(.cells #[.slice xA xn xc,.int .i64 x1,.int .i64 x2] 68)) hQl hR HO.out HC2.out)
  have HNEW:=hI0 (Rd.new' w2 w2.heap.size rfl [.slice xA xn xc,.int .i64 x1,.int .i64 x2] 68 3 1 rfl (by decide))
  have hi5:i'≤10000000001:=by have:=HN.out.1;omega
  go_wp2_with (at_builtin;refine wpList_append_app (w2.alloc (.cells #[.slice xA xn xc,.int .i64 x1,.int .i64 x2] 68)) rfl (.tmp 39) (.tmp 43) 61 rfl w.heap.size 68 i0 _ 3 40 Tryz.underlying61 HI.out HZ0.out HZ1.out HZ2.out rfl (by omega) (.slice Ao i' co) i' (Q.flatMap RF.enc) rfl (.inl HOA.out) (·=w2.heap.size) _ 1 [.slice xA xn xc,.int .i64 x1,.int .i64 x2] rfl HNEW.out (fun u hu=>by simp only [List.mem_cons,List.not_mem_nil,or_false] at hu;rcases hu with rfl|rfl|rfl<;>rfl) (by unfold maxLen;omega) (by omega) (by simp;omega) ?_;intro v3 w3 _ hO3 hg3 hb3 hv3)
  all_goals skip
  have HB4:=hI0 (getB (x:=(⟨xA,xn,xc,xr,x1,x2⟩:RF)) isK_F hQl hR HO.out HR.out HC.out HX.out HS2.out HC2.out (hO3 (.inl (by omega))) hg3 hv3)
  clear hO3 hg3 hb3 hv3
  go_wp2_with fail
  go_roundw
  case rel=>
   refine ⟨i'+1,Q++[(⟨xA,xn,xc,xr,x1,x2⟩:RF)],st',by go_num,by omega,by simp [hQl],hI0 HB4.out.1,hI0 HB4.out.2.1,hI0 HB4.out.2.2.1,hI0 HB4.out.2.2.2,hI0 ?_,?_,?_⟩
   ·rw [←HG.out,HGS.out,List.map_append,List.map_singleton,HXE.out];simp
   ·have:=HN.out;omega
   ·intro he;have:=HST.out he;omega
  case measure=>simp [intOf];omega
theorem info_Hld:(Tryz.prog.info? 109).map (fun i=>(i.zero,i.size,i.bytes))=some (some (.agg #[.string ⟨#[]⟩,.string ⟨#[]⟩,.int .i64 0,.int .i64 0,.int .i64 0,.int .i64 0]),6,64):=by kernel_rfl
theorem getHld_any (R:Nat) (v:Value) (l:List UInt8) (rd:Int×Int→Hld×Int×Int) (f:FuncId) (hf:EntF f) (s:Int×Int) (w:World) (h:SrcAt w R v s) (hv:RdB w (·<R) v l) (hl:l.length≤10000000000) (hmon:Mon l rd)
  (hone:∀s V,SrcAt V R v s→Chg (·=R) w V→Calls Tryz.prog f #[.pointer (some ⟨R,0,none⟩)] V (OneE (fun x:Hld=>.agg x.enc.toArray) isT id R v (rd s) V)):
  Calls Tryz.prog 65 #[.pointer (some ⟨R,0,none⟩),.func (.func f) #[] #[]] w (GetE 6 Hld.enc isT id R v (rdL l rd s) w):=by
 rcases h1:rdI l s with ⟨n,k1,e1⟩
 have hR:=h.lt
 have KI:Calls Tryz.prog 60 #[.pointer (some ⟨R,0,none⟩)] w fun x w'=>x=.returned (.int .i64 n)∧SrcAt w' R v (k1,e1)∧Chg (·=R) w w':=by
  have k:=srcInt_any R v l s w h hv
  rw [h1] at k
  exact k
 have KV:∀s x s' V,rd s=(x,s')→SrcAt V R v s→Chg (·=R) w V→Calls Tryz.prog f #[.pointer (some ⟨R,0,none⟩)] V fun e w'=>∃x1 x2 x3 x4 x5 x6,e=.returned (.agg #[.string x1,.string x2,.int .i64 x3,.int .i64 x4,.int .i64 x5,.int .i64 x6])∧isT w' (fun b=>V.heap.size≤b∧b<w'.heap.size) (⟨x1,x2,x3,x4,x5,x6⟩:Hld)∧id (⟨x1,x2,x3,x4,x5,x6⟩:Hld)=x∧SrcAt w' R v s'∧Chg (·=R) V w':=fun s x s' V he hs hV=>by
  have k:=hone s V hs hV
  rw [he] at k
  exact k.mono fun e w' ⟨r,a1,a2,a3,a4,a5⟩=>by
   obtain ⟨x1,x2,x3,x4,x5,x6⟩:=r
   exact ⟨_,_,_,_,_,_,a1,a2,a3,a4,a5⟩
 clear h hv hone
 by_cases hneg:e1=0∧n<0
 case pos=>
  obtain ⟨rfl,hn⟩:=hneg
  rw [show rdL l rd s=([],k1,1) from by unfold rdL;rw [h1];exact if_pos ⟨rfl,hn⟩]
  clear KV h1 hf
  go_enter Tryz.func65,Tryz.ntmps65
  go_wp2_with fail
  (with_reducible refine KI.mono ?_)
  rintro _ w1 ⟨rfl,hs1,hc1⟩
  have c2:w1.cell? ⟨R,2,none⟩=some (.int .i64 0):=cW0 w1 R 2 _ _ _ hs1
  have f2:w1.frozen? ⟨R,2,none⟩=false:=fW0 w1 R 2 _ _ hs1
  have HS1:=hI0 hs1
  have HC1:=hI0 hc1
  clear hs1 hc1 KI
  go_wp2_with fail
  go_loopw [6,7] (fun o i wr=>o=.slice none 0 0∧i=.int .i64 0∧wr=w1.setCell ⟨R,2,none⟩ (.int .i64 1)) (fun _ _ _=>0)
  case atStart=>exact ⟨rfl,rfl,rfl⟩
  obtain ⟨rfl,rfl,hw⟩:=hrel
  rw [hw]
  clear hw
  have hnn:¬(0:Int)<n:=by omega
  go_wp2_with fail
  go_ret
  exact ⟨_,[],rfl,Rd.nil _ _ _,(fun p hp=>by cases hp),rfl,HS1.out.set2 1,Chg.setCell (S:=(·=R)) (p:=⟨R,2,none⟩) HC1.out (.inl rfl) _⟩
 have hn0:0≤n:=by
  by_cases he:e1=0
  ·have:¬n<0:=fun h=>hneg ⟨he,h⟩
   omega
  ·have:=rdI_err (l:=l) (s:=s) (by rw [h1];exact he)
   rw [h1] at this
   simp only at this
   omega
 obtain ⟨N,rfl⟩:=Int.eq_ofNat_of_zero_le hn0
 have hbd:=decI_bd l s.1
 have hN:(N:Int)≤9223372036854775807:=by
  have e:(N:Int)=(rdI l s).1:=by rw [h1]
  rw [e]
  unfold rdI rdS
  split
  ·omega
  ·split<;>exact hbd.2.1
 have hk1:e1=0→0≤k1∧k1≤l.length:=fun he=>by
  subst he
  have g:=rdI_mono h1
  obtain ⟨a,r,hl2,_,hm⟩:=decI_got g.2.2
  have:l.length=(a++encI N).length+r.length:=by rw [hl2];simp [Nat.add_assoc]
  omega
 rw [show rdL l rd s=getS rd N (k1,e1) from by unfold rdL;rw [h1];exact if_neg hneg]
 obtain ⟨res,hres⟩:∃r,r=getS rd N (k1,e1):=⟨_,rfl⟩
 rw [←hres]
 have HRES:=hI0 hres
 have HNEG:=hI0 hneg
 have HK1:=hI0 hk1
 obtain ⟨i0,hi,hz0,hz1,hz2⟩:=info_parts info_Hld
 have HI:=hI0 hi
 have HZ0:=hI0 hz0
 have HZ1:=hI0 hz1
 have HZ2:=hI0 hz2
 have KK:=hI0 KV
 have HMON:=hI0 hmon
 have HF_:=hI0 hf
 clear hf hi hz0 hz1 hz2 hres hneg hk1 hbd h1 KV hn0 hmon
 go_enter Tryz.func65,Tryz.ntmps65
 go_wp2_with fail
 (with_reducible refine KI.mono ?_)
 rintro _ w1 ⟨rfl,hs1,hc1⟩
 have c2:w1.cell? ⟨R,2,none⟩=some (.int .i64 e1):=cW0 w1 R 2 _ _ _ hs1
 have HS1:=hI0 hs1
 have HC1:=hI0 hc1
 clear hs1 hc1 KI
 have hcond:e1=0→¬(N:Int)<0:=fun _=>by omega
 have hN0:¬(N:Int)<0:=by omega
 go_wp2_with fail
 all_goals skip
 all_goals
  go_loopw [6,7] (fun o i wr=>∃(i':Nat) (Q:List Hld) (st:Int×Int),i=.int .i64 (i':Int)∧i'≤N∧Q.length=i'∧Hid (OwnE 109 6 Hld.enc wr w.heap.size o Q)∧Hid (∀p∈Q,isT wr (fun b=>w.heap.size≤b∧b<wr.heap.size∧some b≠Value.ownBlock o) p)∧Hid (SrcAt wr R v st)∧Hid (Chg (·=R) w wr)∧Hid ((Q.map id++(getS rd (N-i') st).1,(getS rd (N-i') st).2)=res)∧i'≤l.length+1∧(st.2=0→(i':Int)≤st.1∧st.1≤l.length)) (fun _ i _=>N-(intOf i).toNat)
  case atStart=>exact ⟨0,[],(k1,e1),rfl,Nat.zero_le _,rfl,hI0 (World.ownsRow_nil _ _ _ _),hI0 (fun p hp=>by cases hp),HS1,HC1,hI0 HRES.out.symm,by omega,HK1.out⟩
  obtain ⟨i',Q,⟨k,er⟩,rfl,hi',hQl,HO,HR,HS,HC,HG,hil,hik⟩:=hrel
  obtain ⟨wi,rfl⟩:∃wi:World,wi=wr:=⟨_,rfl⟩
  obtain ⟨Ao,co,rfl,o1,o2,o3⟩:=Rd.open_ (Rd.of_own HO.out)
  rw [hQl] at o1
  have HRd:Hid (RdE 6 Hld.enc wi (fun b=>w.heap.size≤b∧b<wi.heap.size) (.slice Ao i' co) Q∧∀p∈Q,isT wi (fun b=>w.heap.size≤b∧b<wi.heap.size) p):=hI0 (by rw [←hQl];exact ⟨(Rd.of_own HO.out),fun p hp=>isK_T.wide (HR.out p hp) fun b hb=>⟨hb.1,hb.2.1⟩⟩)
  have c2:wi.cell? ⟨R,2,none⟩=some (.int .i64 er):=cW0 wi R 2 _ _ _ HS.out
  clear o3 o2
  by_cases hlt:i'<N
  case neg=>
   have hie:i'=N:=by omega
   have hil2:¬(i':Int)<(N:Int):=by omega
   have HF:Hid (res=(Q.map id,(k,er))):=hI0 (by rw [←HG.out,getS_stop (.inl (by omega))];simp)
   have HIE:=hI0 hie
   go_wp2_with fail
   go_ret
   rw [HF.out]
   exact ⟨_,Q,rfl,(by first|exact HRd.out.1|(have h:=HRd.out.1;rw [HIE.out] at h;exact h)),HRd.out.2,rfl,HS.out,HC.out⟩
  have hil2:(i':Int)<(N:Int):=by omega
  by_cases her:er=0
  case neg=>
   have HF:Hid (res=(Q.map id,(k,er))):=hI0 (by rw [←HG.out,getS_stop (.inr her)];simp)
   go_wp2_with fail
   go_ret
   rw [HF.out]
   exact ⟨_,Q,rfl,HRd.out.1,HRd.out.2,rfl,HS.out,HC.out⟩
  subst her
  have hik2:=hik rfl
  simp only at hik2
  rcases hx:rd (k,0) with ⟨x,st'⟩
  have hst:st'.2=0→(i':Int)+1≤st'.1∧st'.1≤l.length:=fun he=>by
   have:=HMON.out (k,0) (by rw [hx];exact he)
   rw [hx] at this
   simp only at this
   omega
  have KV:=KK.out (k,0) x st' wi hx HS.out HC.out
  have hgs:getS rd (N-i') (k,0)=(x::(getS rd (N-(i'+1)) st').1,(getS rd (N-(i'+1)) st').2):=by
   rw [show N-i'=(N-(i'+1))+1 by omega]
   exact getS_step rfl hx
  have HGS:=hI0 hgs
  have HST:=hI0 hst
  have HN:=hI0 (And.intro hil hik2)
  clear hgs hst hx hik hik2
  have hent:∀(args:Array Value) (V:World),(callFunc f args).run Tryz.prog V=.ok (.enter f args) V:=HF_.out
  go_wp2_with fail
  (with_reducible refine KV.mono ?_)
  rintro _ w2 ⟨x1,x2,x3,x4,x5,x6,rfl,hX,hxe,hs2,hc2⟩
  have hz2:=hc2.size
  have HX:=hI0 hX
  have HXE:=hI0 hxe
  have HS2:=hI0 hs2
  have HC2:=hI0 hc2
  clear hX hxe hs2 hc2 KV hent
  have hwi:w.heap.size≤wi.heap.size:=HC.out.size
  have HOA:=hI0 (getA (O:=(.cells #[.string x1,.string x2,.int .i64 x3,.int .i64 x4,.int .i64 x5,.int .i64 x6] 109)) hQl hR HO.out HC2.out)
  have HNEW:=hI0 (Rd.new' w2 w2.heap.size rfl [.string x1,.string x2,.int .i64 x3,.int .i64 x4,.int .i64 x5,.int .i64 x6] 109 6 1 rfl (by decide))
  have hi5:i'≤10000000001:=by have:=HN.out.1;omega
  go_wp2_with (at_builtin;refine wpList_append_app (w2.alloc (.cells #[.string x1,.string x2,.int .i64 x3,.int .i64 x4,.int .i64 x5,.int .i64 x6] 109)) rfl (.tmp 39) (.tmp 43) 24 rfl w.heap.size 109 i0 _ 6 64 Tryz.underlying24 HI.out HZ0.out HZ1.out HZ2.out rfl (by omega) (.slice Ao i' co) i' (Q.flatMap Hld.enc) rfl (.inl HOA.out) (·=w2.heap.size) _ 1 [.string x1,.string x2,.int .i64 x3,.int .i64 x4,.int .i64 x5,.int .i64 x6] rfl HNEW.out (fun u hu=>by simp only [List.mem_cons,List.not_mem_nil,or_false] at hu;rcases hu with rfl|rfl|rfl|rfl|rfl|rfl<;>rfl) (by unfold maxLen;omega) (by omega) (by simp;omega) ?_;intro v3 w3 _ hO3 hg3 hb3 hv3)
  all_goals skip
  have HB4:=hI0 (getB (x:=(⟨x1,x2,x3,x4,x5,x6⟩:Hld)) isK_T hQl hR HO.out HR.out HC.out HX.out HS2.out HC2.out (hO3 (.inl (by omega))) hg3 hv3)
  clear hO3 hg3 hb3 hv3
  go_wp2_with fail
  go_roundw
  case rel=>
   refine ⟨i'+1,Q++[(⟨x1,x2,x3,x4,x5,x6⟩:Hld)],st',by go_num,by omega,by simp [hQl],hI0 HB4.out.1,hI0 HB4.out.2.1,hI0 HB4.out.2.2.1,hI0 HB4.out.2.2.2,hI0 ?_,?_,?_⟩
   ·rw [←HG.out,HGS.out,List.map_append,List.map_singleton,HXE.out];simp
   ·have:=HN.out;omega
   ·intro he;have:=HST.out he;omega
  case measure=>simp [intOf];omega
theorem info_Str:(Tryz.prog.info? 9).map (fun i=>(i.zero,i.size,i.bytes))=some (some (.string ⟨#[]⟩),1,16):=by kernel_rfl
theorem getStr_any (R:Nat) (v:Value) (l:List UInt8) (rd:Int×Int→ByteArray×Int×Int) (f:FuncId) (hf:EntF f) (s:Int×Int) (w:World) (h:SrcAt w R v s) (hv:RdB w (·<R) v l) (hl:l.length≤10000000000) (hmon:Mon l rd)
  (hone:∀s V,SrcAt V R v s→Chg (·=R) w V→Calls Tryz.prog f #[.pointer (some ⟨R,0,none⟩)] V (OneE (fun x:ByteArray=>.string x) isT id R v (rd s) V)):
  Calls Tryz.prog 67 #[.pointer (some ⟨R,0,none⟩),.func (.func f) #[] #[]] w (GetE 1 strE isT id R v (rdL l rd s) w):=by
 rcases h1:rdI l s with ⟨n,k1,e1⟩
 have hR:=h.lt
 have KI:Calls Tryz.prog 60 #[.pointer (some ⟨R,0,none⟩)] w fun x w'=>x=.returned (.int .i64 n)∧SrcAt w' R v (k1,e1)∧Chg (·=R) w w':=by
  have k:=srcInt_any R v l s w h hv
  rw [h1] at k
  exact k
 have KV:∀s x s' V,rd s=(x,s')→SrcAt V R v s→Chg (·=R) w V→Calls Tryz.prog f #[.pointer (some ⟨R,0,none⟩)] V fun e w'=>∃x1,e=.returned (.string x1)∧isT w' (fun b=>V.heap.size≤b∧b<w'.heap.size) (x1:ByteArray)∧id (x1:ByteArray)=x∧SrcAt w' R v s'∧Chg (·=R) V w':=fun s x s' V he hs hV=>by
  have k:=hone s V hs hV
  rw [he] at k
  exact k.mono fun e w' ⟨r,a1,a2,a3,a4,a5⟩=>by
   exact ⟨_,a1,a2,a3,a4,a5⟩
 clear h hv hone
 by_cases hneg:e1=0∧n<0
 case pos=>
  obtain ⟨rfl,hn⟩:=hneg
  rw [show rdL l rd s=([],k1,1) from by unfold rdL;rw [h1];exact if_pos ⟨rfl,hn⟩]
  clear KV h1 hf
  go_enter Tryz.func67,Tryz.ntmps67
  go_wp2_with fail
  (with_reducible refine KI.mono ?_)
  rintro _ w1 ⟨rfl,hs1,hc1⟩
  have c2:w1.cell? ⟨R,2,none⟩=some (.int .i64 0):=cW0 w1 R 2 _ _ _ hs1
  have f2:w1.frozen? ⟨R,2,none⟩=false:=fW0 w1 R 2 _ _ hs1
  have HS1:=hI0 hs1
  have HC1:=hI0 hc1
  clear hs1 hc1 KI
  go_wp2_with fail
  go_loopw [6,7] (fun o i wr=>o=.slice none 0 0∧i=.int .i64 0∧wr=w1.setCell ⟨R,2,none⟩ (.int .i64 1)) (fun _ _ _=>0)
  case atStart=>exact ⟨rfl,rfl,rfl⟩
  obtain ⟨rfl,rfl,hw⟩:=hrel
  rw [hw]
  clear hw
  have hnn:¬(0:Int)<n:=by omega
  go_wp2_with fail
  go_ret
  exact ⟨_,[],rfl,Rd.nil _ _ _,(fun p hp=>by cases hp),rfl,HS1.out.set2 1,Chg.setCell (S:=(·=R)) (p:=⟨R,2,none⟩) HC1.out (.inl rfl) _⟩
 have hn0:0≤n:=by
  by_cases he:e1=0
  ·have:¬n<0:=fun h=>hneg ⟨he,h⟩
   omega
  ·have:=rdI_err (l:=l) (s:=s) (by rw [h1];exact he)
   rw [h1] at this
   simp only at this
   omega
 obtain ⟨N,rfl⟩:=Int.eq_ofNat_of_zero_le hn0
 have hbd:=decI_bd l s.1
 have hN:(N:Int)≤9223372036854775807:=by
  have e:(N:Int)=(rdI l s).1:=by rw [h1]
  rw [e]
  unfold rdI rdS
  split
  ·omega
  ·split<;>exact hbd.2.1
 have hk1:e1=0→0≤k1∧k1≤l.length:=fun he=>by
  subst he
  have g:=rdI_mono h1
  obtain ⟨a,r,hl2,_,hm⟩:=decI_got g.2.2
  have:l.length=(a++encI N).length+r.length:=by rw [hl2];simp [Nat.add_assoc]
  omega
 rw [show rdL l rd s=getS rd N (k1,e1) from by unfold rdL;rw [h1];exact if_neg hneg]
 obtain ⟨res,hres⟩:∃r,r=getS rd N (k1,e1):=⟨_,rfl⟩
 rw [←hres]
 have HRES:=hI0 hres
 have HNEG:=hI0 hneg
 have HK1:=hI0 hk1
 obtain ⟨i0,hi,hz0,hz1,hz2⟩:=info_parts info_Str
 have HI:=hI0 hi
 have HZ0:=hI0 hz0
 have HZ1:=hI0 hz1
 have HZ2:=hI0 hz2
 have KK:=hI0 KV
 have HMON:=hI0 hmon
 have HF_:=hI0 hf
 clear hf hi hz0 hz1 hz2 hres hneg hk1 hbd h1 KV hn0 hmon
 go_enter Tryz.func67,Tryz.ntmps67
 go_wp2_with fail
 (with_reducible refine KI.mono ?_)
 rintro _ w1 ⟨rfl,hs1,hc1⟩
 have c2:w1.cell? ⟨R,2,none⟩=some (.int .i64 e1):=cW0 w1 R 2 _ _ _ hs1
 have HS1:=hI0 hs1
 have HC1:=hI0 hc1
 clear hs1 hc1 KI
 have hcond:e1=0→¬(N:Int)<0:=fun _=>by omega
 have hN0:¬(N:Int)<0:=by omega
 go_wp2_with fail
 all_goals skip
 all_goals
  go_loopw [6,7] (fun o i wr=>∃(i':Nat) (Q:List ByteArray) (st:Int×Int),i=.int .i64 (i':Int)∧i'≤N∧Q.length=i'∧Hid (OwnE 9 1 strE wr w.heap.size o Q)∧Hid (∀p∈Q,isT wr (fun b=>w.heap.size≤b∧b<wr.heap.size∧some b≠Value.ownBlock o) p)∧Hid (SrcAt wr R v st)∧Hid (Chg (·=R) w wr)∧Hid ((Q.map id++(getS rd (N-i') st).1,(getS rd (N-i') st).2)=res)∧i'≤l.length+1∧(st.2=0→(i':Int)≤st.1∧st.1≤l.length)) (fun _ i _=>N-(intOf i).toNat)
  case atStart=>exact ⟨0,[],(k1,e1),rfl,Nat.zero_le _,rfl,hI0 (World.ownsRow_nil _ _ _ _),hI0 (fun p hp=>by cases hp),HS1,HC1,hI0 HRES.out.symm,by omega,HK1.out⟩
  obtain ⟨i',Q,⟨k,er⟩,rfl,hi',hQl,HO,HR,HS,HC,HG,hil,hik⟩:=hrel
  obtain ⟨wi,rfl⟩:∃wi:World,wi=wr:=⟨_,rfl⟩
  obtain ⟨Ao,co,rfl,o1,o2,o3⟩:=Rd.open_ (Rd.of_own HO.out)
  rw [hQl] at o1
  have HRd:Hid (RdE 1 strE wi (fun b=>w.heap.size≤b∧b<wi.heap.size) (.slice Ao i' co) Q∧∀p∈Q,isT wi (fun b=>w.heap.size≤b∧b<wi.heap.size) p):=hI0 (by rw [←hQl];exact ⟨(Rd.of_own HO.out),fun p hp=>isK_T.wide (HR.out p hp) fun b hb=>⟨hb.1,hb.2.1⟩⟩)
  have c2:wi.cell? ⟨R,2,none⟩=some (.int .i64 er):=cW0 wi R 2 _ _ _ HS.out
  clear o3 o2
  by_cases hlt:i'<N
  case neg=>
   have hie:i'=N:=by omega
   have hil2:¬(i':Int)<(N:Int):=by omega
   have HF:Hid (res=(Q.map id,(k,er))):=hI0 (by rw [←HG.out,getS_stop (.inl (by omega))];simp)
   have HIE:=hI0 hie
   go_wp2_with fail
   go_ret
   rw [HF.out]
   exact ⟨_,Q,rfl,(by first|exact HRd.out.1|(have h:=HRd.out.1;rw [HIE.out] at h;exact h)),HRd.out.2,rfl,HS.out,HC.out⟩
  have hil2:(i':Int)<(N:Int):=by omega
  by_cases her:er=0
  case neg=>
   have HF:Hid (res=(Q.map id,(k,er))):=hI0 (by rw [←HG.out,getS_stop (.inr her)];simp)
   go_wp2_with fail
   go_ret
   rw [HF.out]
   exact ⟨_,Q,rfl,HRd.out.1,HRd.out.2,rfl,HS.out,HC.out⟩
  subst her
  have hik2:=hik rfl
  simp only at hik2
  rcases hx:rd (k,0) with ⟨x,st'⟩
  have hst:st'.2=0→(i':Int)+1≤st'.1∧st'.1≤l.length:=fun he=>by
   have:=HMON.out (k,0) (by rw [hx];exact he)
   rw [hx] at this
   simp only at this
   omega
  have KV:=KK.out (k,0) x st' wi hx HS.out HC.out
  have hgs:getS rd (N-i') (k,0)=(x::(getS rd (N-(i'+1)) st').1,(getS rd (N-(i'+1)) st').2):=by
   rw [show N-i'=(N-(i'+1))+1 by omega]
   exact getS_step rfl hx
  have HGS:=hI0 hgs
  have HST:=hI0 hst
  have HN:=hI0 (And.intro hil hik2)
  clear hgs hst hx hik hik2
  have hent:∀(args:Array Value) (V:World),(callFunc f args).run Tryz.prog V=.ok (.enter f args) V:=HF_.out
  go_wp2_with fail
  (with_reducible refine KV.mono ?_)
  rintro _ w2 ⟨x1,rfl,hX,hxe,hs2,hc2⟩
  have hz2:=hc2.size
  have HX:=hI0 hX
  have HXE:=hI0 hxe
  have HS2:=hI0 hs2
  have HC2:=hI0 hc2
  clear hX hxe hs2 hc2 KV hent
  have hwi:w.heap.size≤wi.heap.size:=HC.out.size
  have HOA:=hI0 (getA (O:=(.cells #[.string x1] 9)) hQl hR HO.out HC2.out)
  have HNEW:=hI0 (Rd.new' w2 w2.heap.size rfl [.string x1] 9 1 1 rfl (by decide))
  have hi5:i'≤10000000001:=by have:=HN.out.1;omega
  go_wp2_with (at_builtin;refine wpList_append_app (w2.alloc (.cells #[.string x1] 9)) rfl (.tmp 39) (.tmp 43) 25 rfl w.heap.size 9 i0 _ 1 16 Tryz.underlying25 HI.out HZ0.out HZ1.out HZ2.out rfl (by omega) (.slice Ao i' co) i' (Q.flatMap strE) rfl (.inl HOA.out) (·=w2.heap.size) _ 1 [.string x1] rfl HNEW.out (fun u hu=>by simp only [List.mem_cons,List.not_mem_nil,or_false] at hu;rcases hu with rfl<;>rfl) (by unfold maxLen;omega) (by omega) (by simp;omega) ?_;intro v3 w3 _ hO3 hg3 hb3 hv3)
  all_goals skip
  have HB4:=hI0 (getB (x:=(x1:ByteArray)) isK_T hQl hR HO.out HR.out HC.out HX.out HS2.out HC2.out (hO3 (.inl (by omega))) hg3 hv3)
  clear hO3 hg3 hb3 hv3
  go_wp2_with fail
  go_roundw
  case rel=>
   refine ⟨i'+1,Q++[(x1:ByteArray)],st',by go_num,by omega,by simp [hQl],hI0 HB4.out.1,hI0 HB4.out.2.1,hI0 HB4.out.2.2.1,hI0 HB4.out.2.2.2,hI0 ?_,?_,?_⟩
   ·rw [←HG.out,HGS.out,List.map_append,List.map_singleton,HXE.out];simp
   ·have:=HN.out;omega
   ·intro he;have:=HST.out he;omega
  case measure=>simp [intOf];omega
theorem info_Pol:(Tryz.prog.info? 117).map (fun i=>(i.zero,i.size,i.bytes))=some (some (.agg #[.string ⟨#[]⟩,.int .i64 0]),2,24):=by kernel_rfl
theorem getPol_any (R:Nat) (v:Value) (l:List UInt8) (rd:Int×Int→Pol×Int×Int) (f:FuncId) (hf:EntF f) (s:Int×Int) (w:World) (h:SrcAt w R v s) (hv:RdB w (·<R) v l) (hl:l.length≤10000000000) (hmon:Mon l rd)
  (hone:∀s V,SrcAt V R v s→Chg (·=R) w V→Calls Tryz.prog f #[.pointer (some ⟨R,0,none⟩)] V (OneE (fun x:Pol=>.agg x.enc.toArray) isT id R v (rd s) V)):
  Calls Tryz.prog 69 #[.pointer (some ⟨R,0,none⟩),.func (.func f) #[] #[]] w (GetE 2 Pol.enc isT id R v (rdL l rd s) w):=by
 rcases h1:rdI l s with ⟨n,k1,e1⟩
 have hR:=h.lt
 have KI:Calls Tryz.prog 60 #[.pointer (some ⟨R,0,none⟩)] w fun x w'=>x=.returned (.int .i64 n)∧SrcAt w' R v (k1,e1)∧Chg (·=R) w w':=by
  have k:=srcInt_any R v l s w h hv
  rw [h1] at k
  exact k
 have KV:∀s x s' V,rd s=(x,s')→SrcAt V R v s→Chg (·=R) w V→Calls Tryz.prog f #[.pointer (some ⟨R,0,none⟩)] V fun e w'=>∃x1 x2,e=.returned (.agg #[.string x1,.int .i64 x2])∧isT w' (fun b=>V.heap.size≤b∧b<w'.heap.size) (⟨x1,x2⟩:Pol)∧id (⟨x1,x2⟩:Pol)=x∧SrcAt w' R v s'∧Chg (·=R) V w':=fun s x s' V he hs hV=>by
  have k:=hone s V hs hV
  rw [he] at k
  exact k.mono fun e w' ⟨r,a1,a2,a3,a4,a5⟩=>by
   obtain ⟨x1,x2⟩:=r
   exact ⟨_,_,a1,a2,a3,a4,a5⟩
 clear h hv hone
 by_cases hneg:e1=0∧n<0
 case pos=>
  obtain ⟨rfl,hn⟩:=hneg
  rw [show rdL l rd s=([],k1,1) from by unfold rdL;rw [h1];exact if_pos ⟨rfl,hn⟩]
  clear KV h1 hf
  go_enter Tryz.func69,Tryz.ntmps69
  go_wp2_with fail
  (with_reducible refine KI.mono ?_)
  rintro _ w1 ⟨rfl,hs1,hc1⟩
  have c2:w1.cell? ⟨R,2,none⟩=some (.int .i64 0):=cW0 w1 R 2 _ _ _ hs1
  have f2:w1.frozen? ⟨R,2,none⟩=false:=fW0 w1 R 2 _ _ hs1
  have HS1:=hI0 hs1
  have HC1:=hI0 hc1
  clear hs1 hc1 KI
  go_wp2_with fail
  go_loopw [6,7] (fun o i wr=>o=.slice none 0 0∧i=.int .i64 0∧wr=w1.setCell ⟨R,2,none⟩ (.int .i64 1)) (fun _ _ _=>0)
  case atStart=>exact ⟨rfl,rfl,rfl⟩
  obtain ⟨rfl,rfl,hw⟩:=hrel
  rw [hw]
  clear hw
  have hnn:¬(0:Int)<n:=by omega
  go_wp2_with fail
  go_ret
  exact ⟨_,[],rfl,Rd.nil _ _ _,(fun p hp=>by cases hp),rfl,HS1.out.set2 1,Chg.setCell (S:=(·=R)) (p:=⟨R,2,none⟩) HC1.out (.inl rfl) _⟩
 have hn0:0≤n:=by
  by_cases he:e1=0
  ·have:¬n<0:=fun h=>hneg ⟨he,h⟩
   omega
  ·have:=rdI_err (l:=l) (s:=s) (by rw [h1];exact he)
   rw [h1] at this
   simp only at this
   omega
 obtain ⟨N,rfl⟩:=Int.eq_ofNat_of_zero_le hn0
 have hbd:=decI_bd l s.1
 have hN:(N:Int)≤9223372036854775807:=by
  have e:(N:Int)=(rdI l s).1:=by rw [h1]
  rw [e]
  unfold rdI rdS
  split
  ·omega
  ·split<;>exact hbd.2.1
 have hk1:e1=0→0≤k1∧k1≤l.length:=fun he=>by
  subst he
  have g:=rdI_mono h1
  obtain ⟨a,r,hl2,_,hm⟩:=decI_got g.2.2
  have:l.length=(a++encI N).length+r.length:=by rw [hl2];simp [Nat.add_assoc]
  omega
 rw [show rdL l rd s=getS rd N (k1,e1) from by unfold rdL;rw [h1];exact if_neg hneg]
 obtain ⟨res,hres⟩:∃r,r=getS rd N (k1,e1):=⟨_,rfl⟩
 rw [←hres]
 have HRES:=hI0 hres
 have HNEG:=hI0 hneg
 have HK1:=hI0 hk1
 obtain ⟨i0,hi,hz0,hz1,hz2⟩:=info_parts info_Pol
 have HI:=hI0 hi
 have HZ0:=hI0 hz0
 have HZ1:=hI0 hz1
 have HZ2:=hI0 hz2
 have KK:=hI0 KV
 have HMON:=hI0 hmon
 have HF_:=hI0 hf
 clear hf hi hz0 hz1 hz2 hres hneg hk1 hbd h1 KV hn0 hmon
 go_enter Tryz.func69,Tryz.ntmps69
 go_wp2_with fail
 (with_reducible refine KI.mono ?_)
 rintro _ w1 ⟨rfl,hs1,hc1⟩
 have c2:w1.cell? ⟨R,2,none⟩=some (.int .i64 e1):=cW0 w1 R 2 _ _ _ hs1
 have HS1:=hI0 hs1
 have HC1:=hI0 hc1
 clear hs1 hc1 KI
 have hcond:e1=0→¬(N:Int)<0:=fun _=>by omega
 have hN0:¬(N:Int)<0:=by omega
 go_wp2_with fail
 all_goals skip
 all_goals
  go_loopw [6,7] (fun o i wr=>∃(i':Nat) (Q:List Pol) (st:Int×Int),i=.int .i64 (i':Int)∧i'≤N∧Q.length=i'∧Hid (OwnE 117 2 Pol.enc wr w.heap.size o Q)∧Hid (∀p∈Q,isT wr (fun b=>w.heap.size≤b∧b<wr.heap.size∧some b≠Value.ownBlock o) p)∧Hid (SrcAt wr R v st)∧Hid (Chg (·=R) w wr)∧Hid ((Q.map id++(getS rd (N-i') st).1,(getS rd (N-i') st).2)=res)∧i'≤l.length+1∧(st.2=0→(i':Int)≤st.1∧st.1≤l.length)) (fun _ i _=>N-(intOf i).toNat)
  case atStart=>exact ⟨0,[],(k1,e1),rfl,Nat.zero_le _,rfl,hI0 (World.ownsRow_nil _ _ _ _),hI0 (fun p hp=>by cases hp),HS1,HC1,hI0 HRES.out.symm,by omega,HK1.out⟩
  obtain ⟨i',Q,⟨k,er⟩,rfl,hi',hQl,HO,HR,HS,HC,HG,hil,hik⟩:=hrel
  obtain ⟨wi,rfl⟩:∃wi:World,wi=wr:=⟨_,rfl⟩
  obtain ⟨Ao,co,rfl,o1,o2,o3⟩:=Rd.open_ (Rd.of_own HO.out)
  rw [hQl] at o1
  have HRd:Hid (RdE 2 Pol.enc wi (fun b=>w.heap.size≤b∧b<wi.heap.size) (.slice Ao i' co) Q∧∀p∈Q,isT wi (fun b=>w.heap.size≤b∧b<wi.heap.size) p):=hI0 (by rw [←hQl];exact ⟨(Rd.of_own HO.out),fun p hp=>isK_T.wide (HR.out p hp) fun b hb=>⟨hb.1,hb.2.1⟩⟩)
  have c2:wi.cell? ⟨R,2,none⟩=some (.int .i64 er):=cW0 wi R 2 _ _ _ HS.out
  clear o3 o2
  by_cases hlt:i'<N
  case neg=>
   have hie:i'=N:=by omega
   have hil2:¬(i':Int)<(N:Int):=by omega
   have HF:Hid (res=(Q.map id,(k,er))):=hI0 (by rw [←HG.out,getS_stop (.inl (by omega))];simp)
   have HIE:=hI0 hie
   go_wp2_with fail
   go_ret
   rw [HF.out]
   exact ⟨_,Q,rfl,(by first|exact HRd.out.1|(have h:=HRd.out.1;rw [HIE.out] at h;exact h)),HRd.out.2,rfl,HS.out,HC.out⟩
  have hil2:(i':Int)<(N:Int):=by omega
  by_cases her:er=0
  case neg=>
   have HF:Hid (res=(Q.map id,(k,er))):=hI0 (by rw [←HG.out,getS_stop (.inr her)];simp)
   go_wp2_with fail
   go_ret
   rw [HF.out]
   exact ⟨_,Q,rfl,HRd.out.1,HRd.out.2,rfl,HS.out,HC.out⟩
  subst her
  have hik2:=hik rfl
  simp only at hik2
  rcases hx:rd (k,0) with ⟨x,st'⟩
  have hst:st'.2=0→(i':Int)+1≤st'.1∧st'.1≤l.length:=fun he=>by
   have:=HMON.out (k,0) (by rw [hx];exact he)
   rw [hx] at this
   simp only at this
   omega
  have KV:=KK.out (k,0) x st' wi hx HS.out HC.out
  have hgs:getS rd (N-i') (k,0)=(x::(getS rd (N-(i'+1)) st').1,(getS rd (N-(i'+1)) st').2):=by
   rw [show N-i'=(N-(i'+1))+1 by omega]
   exact getS_step rfl hx
  have HGS:=hI0 hgs
  have HST:=hI0 hst
  have HN:=hI0 (And.intro hil hik2)
  clear hgs hst hx hik hik2
  have hent:∀(args:Array Value) (V:World),(callFunc f args).run Tryz.prog V=.ok (.enter f args) V:=HF_.out
  go_wp2_with fail
  (with_reducible refine KV.mono ?_)
  rintro _ w2 ⟨x1,x2,rfl,hX,hxe,hs2,hc2⟩
  have hz2:=hc2.size
  have HX:=hI0 hX
  have HXE:=hI0 hxe
  have HS2:=hI0 hs2
  have HC2:=hI0 hc2
  clear hX hxe hs2 hc2 KV hent
  have hwi:w.heap.size≤wi.heap.size:=HC.out.size
  have HOA:=hI0 (getA (O:=(.cells #[.string x1,.int .i64 x2] 117)) hQl hR HO.out HC2.out)
  have HNEW:=hI0 (Rd.new' w2 w2.heap.size rfl [.string x1,.int .i64 x2] 117 2 1 rfl (by decide))
  have hi5:i'≤10000000001:=by have:=HN.out.1;omega
  go_wp2_with (at_builtin;refine wpList_append_app (w2.alloc (.cells #[.string x1,.int .i64 x2] 117)) rfl (.tmp 39) (.tmp 43) 26 rfl w.heap.size 117 i0 _ 2 24 Tryz.underlying26 HI.out HZ0.out HZ1.out HZ2.out rfl (by omega) (.slice Ao i' co) i' (Q.flatMap Pol.enc) rfl (.inl HOA.out) (·=w2.heap.size) _ 1 [.string x1,.int .i64 x2] rfl HNEW.out (fun u hu=>by simp only [List.mem_cons,List.not_mem_nil,or_false] at hu;rcases hu with rfl|rfl<;>rfl) (by unfold maxLen;omega) (by omega) (by simp;omega) ?_;intro v3 w3 _ hO3 hg3 hb3 hv3)
  all_goals skip
  have HB4:=hI0 (getB (x:=(⟨x1,x2⟩:Pol)) isK_T hQl hR HO.out HR.out HC.out HX.out HS2.out HC2.out (hO3 (.inl (by omega))) hg3 hv3)
  clear hO3 hg3 hb3 hv3
  go_wp2_with fail
  go_roundw
  case rel=>
   refine ⟨i'+1,Q++[(⟨x1,x2⟩:Pol)],st',by go_num,by omega,by simp [hQl],hI0 HB4.out.1,hI0 HB4.out.2.1,hI0 HB4.out.2.2.1,hI0 HB4.out.2.2.2,hI0 ?_,?_,?_⟩
   ·rw [←HG.out,HGS.out,List.map_append,List.map_singleton,HXE.out];simp
   ·have:=HN.out;omega
   ·intro he;have:=HST.out he;omega
  case measure=>simp [intOf];omega
theorem info_Hor:(Tryz.prog.info? 122).map (fun i=>(i.zero,i.size,i.bytes))=some (some (.agg #[.string ⟨#[]⟩,.int .i64 0]),2,24):=by kernel_rfl
theorem getHor_any (R:Nat) (v:Value) (l:List UInt8) (rd:Int×Int→Hor×Int×Int) (f:FuncId) (hf:EntF f) (s:Int×Int) (w:World) (h:SrcAt w R v s) (hv:RdB w (·<R) v l) (hl:l.length≤10000000000) (hmon:Mon l rd)
  (hone:∀s V,SrcAt V R v s→Chg (·=R) w V→Calls Tryz.prog f #[.pointer (some ⟨R,0,none⟩)] V (OneE (fun x:Hor=>.agg x.enc.toArray) isT id R v (rd s) V)):
  Calls Tryz.prog 71 #[.pointer (some ⟨R,0,none⟩),.func (.func f) #[] #[]] w (GetE 2 Hor.enc isT id R v (rdL l rd s) w):=by
 rcases h1:rdI l s with ⟨n,k1,e1⟩
 have hR:=h.lt
 have KI:Calls Tryz.prog 60 #[.pointer (some ⟨R,0,none⟩)] w fun x w'=>x=.returned (.int .i64 n)∧SrcAt w' R v (k1,e1)∧Chg (·=R) w w':=by
  have k:=srcInt_any R v l s w h hv
  rw [h1] at k
  exact k
 have KV:∀s x s' V,rd s=(x,s')→SrcAt V R v s→Chg (·=R) w V→Calls Tryz.prog f #[.pointer (some ⟨R,0,none⟩)] V fun e w'=>∃x1 x2,e=.returned (.agg #[.string x1,.int .i64 x2])∧isT w' (fun b=>V.heap.size≤b∧b<w'.heap.size) (⟨x1,x2⟩:Hor)∧id (⟨x1,x2⟩:Hor)=x∧SrcAt w' R v s'∧Chg (·=R) V w':=fun s x s' V he hs hV=>by
  have k:=hone s V hs hV
  rw [he] at k
  exact k.mono fun e w' ⟨r,a1,a2,a3,a4,a5⟩=>by
   obtain ⟨x1,x2⟩:=r
   exact ⟨_,_,a1,a2,a3,a4,a5⟩
 clear h hv hone
 by_cases hneg:e1=0∧n<0
 case pos=>
  obtain ⟨rfl,hn⟩:=hneg
  rw [show rdL l rd s=([],k1,1) from by unfold rdL;rw [h1];exact if_pos ⟨rfl,hn⟩]
  clear KV h1 hf
  go_enter Tryz.func71,Tryz.ntmps71
  go_wp2_with fail
  (with_reducible refine KI.mono ?_)
  rintro _ w1 ⟨rfl,hs1,hc1⟩
  have c2:w1.cell? ⟨R,2,none⟩=some (.int .i64 0):=cW0 w1 R 2 _ _ _ hs1
  have f2:w1.frozen? ⟨R,2,none⟩=false:=fW0 w1 R 2 _ _ hs1
  have HS1:=hI0 hs1
  have HC1:=hI0 hc1
  clear hs1 hc1 KI
  go_wp2_with fail
  go_loopw [6,7] (fun o i wr=>o=.slice none 0 0∧i=.int .i64 0∧wr=w1.setCell ⟨R,2,none⟩ (.int .i64 1)) (fun _ _ _=>0)
  case atStart=>exact ⟨rfl,rfl,rfl⟩
  obtain ⟨rfl,rfl,hw⟩:=hrel
  rw [hw]
  clear hw
  have hnn:¬(0:Int)<n:=by omega
  go_wp2_with fail
  go_ret
  exact ⟨_,[],rfl,Rd.nil _ _ _,(fun p hp=>by cases hp),rfl,HS1.out.set2 1,Chg.setCell (S:=(·=R)) (p:=⟨R,2,none⟩) HC1.out (.inl rfl) _⟩
 have hn0:0≤n:=by
  by_cases he:e1=0
  ·have:¬n<0:=fun h=>hneg ⟨he,h⟩
   omega
  ·have:=rdI_err (l:=l) (s:=s) (by rw [h1];exact he)
   rw [h1] at this
   simp only at this
   omega
 obtain ⟨N,rfl⟩:=Int.eq_ofNat_of_zero_le hn0
 have hbd:=decI_bd l s.1
 have hN:(N:Int)≤9223372036854775807:=by
  have e:(N:Int)=(rdI l s).1:=by rw [h1]
  rw [e]
  unfold rdI rdS
  split
  ·omega
  ·split<;>exact hbd.2.1
 have hk1:e1=0→0≤k1∧k1≤l.length:=fun he=>by
  subst he
  have g:=rdI_mono h1
  obtain ⟨a,r,hl2,_,hm⟩:=decI_got g.2.2
  have:l.length=(a++encI N).length+r.length:=by rw [hl2];simp [Nat.add_assoc]
  omega
 rw [show rdL l rd s=getS rd N (k1,e1) from by unfold rdL;rw [h1];exact if_neg hneg]
 obtain ⟨res,hres⟩:∃r,r=getS rd N (k1,e1):=⟨_,rfl⟩
 rw [←hres]
 have HRES:=hI0 hres
 have HNEG:=hI0 hneg
 have HK1:=hI0 hk1
 obtain ⟨i0,hi,hz0,hz1,hz2⟩:=info_parts info_Hor
 have HI:=hI0 hi
 have HZ0:=hI0 hz0
 have HZ1:=hI0 hz1
 have HZ2:=hI0 hz2
 have KK:=hI0 KV
 have HMON:=hI0 hmon
 have HF_:=hI0 hf
 clear hf hi hz0 hz1 hz2 hres hneg hk1 hbd h1 KV hn0 hmon
 go_enter Tryz.func71,Tryz.ntmps71
 go_wp2_with fail
 (with_reducible refine KI.mono ?_)
 rintro _ w1 ⟨rfl,hs1,hc1⟩
 have c2:w1.cell? ⟨R,2,none⟩=some (.int .i64 e1):=cW0 w1 R 2 _ _ _ hs1
 have HS1:=hI0 hs1
 have HC1:=hI0 hc1
 clear hs1 hc1 KI
 have hcond:e1=0→¬(N:Int)<0:=fun _=>by omega
 have hN0:¬(N:Int)<0:=by omega
 go_wp2_with fail
 all_goals skip
 all_goals
  go_loopw [6,7] (fun o i wr=>∃(i':Nat) (Q:List Hor) (st:Int×Int),i=.int .i64 (i':Int)∧i'≤N∧Q.length=i'∧Hid (OwnE 122 2 Hor.enc wr w.heap.size o Q)∧Hid (∀p∈Q,isT wr (fun b=>w.heap.size≤b∧b<wr.heap.size∧some b≠Value.ownBlock o) p)∧Hid (SrcAt wr R v st)∧Hid (Chg (·=R) w wr)∧Hid ((Q.map id++(getS rd (N-i') st).1,(getS rd (N-i') st).2)=res)∧i'≤l.length+1∧(st.2=0→(i':Int)≤st.1∧st.1≤l.length)) (fun _ i _=>N-(intOf i).toNat)
  case atStart=>exact ⟨0,[],(k1,e1),rfl,Nat.zero_le _,rfl,hI0 (World.ownsRow_nil _ _ _ _),hI0 (fun p hp=>by cases hp),HS1,HC1,hI0 HRES.out.symm,by omega,HK1.out⟩
  obtain ⟨i',Q,⟨k,er⟩,rfl,hi',hQl,HO,HR,HS,HC,HG,hil,hik⟩:=hrel
  obtain ⟨wi,rfl⟩:∃wi:World,wi=wr:=⟨_,rfl⟩
  obtain ⟨Ao,co,rfl,o1,o2,o3⟩:=Rd.open_ (Rd.of_own HO.out)
  rw [hQl] at o1
  have HRd:Hid (RdE 2 Hor.enc wi (fun b=>w.heap.size≤b∧b<wi.heap.size) (.slice Ao i' co) Q∧∀p∈Q,isT wi (fun b=>w.heap.size≤b∧b<wi.heap.size) p):=hI0 (by rw [←hQl];exact ⟨(Rd.of_own HO.out),fun p hp=>isK_T.wide (HR.out p hp) fun b hb=>⟨hb.1,hb.2.1⟩⟩)
  have c2:wi.cell? ⟨R,2,none⟩=some (.int .i64 er):=cW0 wi R 2 _ _ _ HS.out
  clear o3 o2
  by_cases hlt:i'<N
  case neg=>
   have hie:i'=N:=by omega
   have hil2:¬(i':Int)<(N:Int):=by omega
   have HF:Hid (res=(Q.map id,(k,er))):=hI0 (by rw [←HG.out,getS_stop (.inl (by omega))];simp)
   have HIE:=hI0 hie
   go_wp2_with fail
   go_ret
   rw [HF.out]
   exact ⟨_,Q,rfl,(by first|exact HRd.out.1|(have h:=HRd.out.1;rw [HIE.out] at h;exact h)),HRd.out.2,rfl,HS.out,HC.out⟩
  have hil2:(i':Int)<(N:Int):=by omega
  by_cases her:er=0
  case neg=>
   have HF:Hid (res=(Q.map id,(k,er))):=hI0 (by rw [←HG.out,getS_stop (.inr her)];simp)
   go_wp2_with fail
   go_ret
   rw [HF.out]
   exact ⟨_,Q,rfl,HRd.out.1,HRd.out.2,rfl,HS.out,HC.out⟩
  subst her
  have hik2:=hik rfl
  simp only at hik2
  rcases hx:rd (k,0) with ⟨x,st'⟩
  have hst:st'.2=0→(i':Int)+1≤st'.1∧st'.1≤l.length:=fun he=>by
   have:=HMON.out (k,0) (by rw [hx];exact he)
   rw [hx] at this
   simp only at this
   omega
  have KV:=KK.out (k,0) x st' wi hx HS.out HC.out
  have hgs:getS rd (N-i') (k,0)=(x::(getS rd (N-(i'+1)) st').1,(getS rd (N-(i'+1)) st').2):=by
   rw [show N-i'=(N-(i'+1))+1 by omega]
   exact getS_step rfl hx
  have HGS:=hI0 hgs
  have HST:=hI0 hst
  have HN:=hI0 (And.intro hil hik2)
  clear hgs hst hx hik hik2
  have hent:∀(args:Array Value) (V:World),(callFunc f args).run Tryz.prog V=.ok (.enter f args) V:=HF_.out
  go_wp2_with fail
  (with_reducible refine KV.mono ?_)
  rintro _ w2 ⟨x1,x2,rfl,hX,hxe,hs2,hc2⟩
  have hz2:=hc2.size
  have HX:=hI0 hX
  have HXE:=hI0 hxe
  have HS2:=hI0 hs2
  have HC2:=hI0 hc2
  clear hX hxe hs2 hc2 KV hent
  have hwi:w.heap.size≤wi.heap.size:=HC.out.size
  have HOA:=hI0 (getA (O:=(.cells #[.string x1,.int .i64 x2] 122)) hQl hR HO.out HC2.out)
  have HNEW:=hI0 (Rd.new' w2 w2.heap.size rfl [.string x1,.int .i64 x2] 122 2 1 rfl (by decide))
  have hi5:i'≤10000000001:=by have:=HN.out.1;omega
  go_wp2_with (at_builtin;refine wpList_append_app (w2.alloc (.cells #[.string x1,.int .i64 x2] 122)) rfl (.tmp 39) (.tmp 43) 27 rfl w.heap.size 122 i0 _ 2 24 Tryz.underlying27 HI.out HZ0.out HZ1.out HZ2.out rfl (by omega) (.slice Ao i' co) i' (Q.flatMap Hor.enc) rfl (.inl HOA.out) (·=w2.heap.size) _ 1 [.string x1,.int .i64 x2] rfl HNEW.out (fun u hu=>by simp only [List.mem_cons,List.not_mem_nil,or_false] at hu;rcases hu with rfl|rfl<;>rfl) (by unfold maxLen;omega) (by omega) (by simp;omega) ?_;intro v3 w3 _ hO3 hg3 hb3 hv3)
  all_goals skip
  have HB4:=hI0 (getB (x:=(⟨x1,x2⟩:Hor)) isK_T hQl hR HO.out HR.out HC.out HX.out HS2.out HC2.out (hO3 (.inl (by omega))) hg3 hv3)
  clear hO3 hg3 hb3 hv3
  go_wp2_with fail
  go_roundw
  case rel=>
   refine ⟨i'+1,Q++[(⟨x1,x2⟩:Hor)],st',by go_num,by omega,by simp [hQl],hI0 HB4.out.1,hI0 HB4.out.2.1,hI0 HB4.out.2.2.1,hI0 HB4.out.2.2.2,hI0 ?_,?_,?_⟩
   ·rw [←HG.out,HGS.out,List.map_append,List.map_singleton,HXE.out];simp
   ·have:=HN.out;omega
   ·intro he;have:=HST.out he;omega
  case measure=>simp [intOf];omega
end Go.Proofs.YtbfdegkickjbpaaGreat
