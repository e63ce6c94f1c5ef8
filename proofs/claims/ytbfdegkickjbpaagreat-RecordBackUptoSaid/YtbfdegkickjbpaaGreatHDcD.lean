/-
 DcD
-/
import Derived.Test.YtbfdegkickjbpaaGreatHDcC
namespace Go.Proofs.YtbfdegkickjbpaaGreat
set_option maxRecDepth 1000000
set_option maxHeartbeats 32000000
open Go.RowKit Go.Lib Go.IntWalk Go.Sort Go.Shelf
theorem zq4 {P:Prop} (i:Nat) (h:Tg i→P:=by
 intro zT4
 rcases h1:rdI l s with ⟨n,k1,e1⟩
 have hR:=h.lt
 have KI:Calls Tryz.prog 60 #[.pointer (some ⟨R,0,none⟩)] w fun x w'=>x=.returned (.int .i64 n)∧SrcAt w' R v (k1,e1)∧Chg (·=R) w w':=by
  have k:=srcInt_any R v l s w h hv
  rw [h1] at k
  exact k
 first
  |guard_hyp zT4:Tg 5
   have KV:∀s x s' V,rd s=(x,s')→SrcAt V R v s→Chg (·=R) w V→Calls Tryz.prog f #[.pointer (some ⟨R,0,none⟩)] V fun e w'=>∃xA xn xc xr x1 x2,e=.returned (.agg #[.slice xA xn xc,.int .i64 x1,.int .i64 x2])∧RF.is w' (fun b=>V.heap.size≤b∧b<w'.heap.size) (⟨xA,xn,xc,xr,x1,x2⟩:RF)∧RF.er (⟨xA,xn,xc,xr,x1,x2⟩:RF)=x∧SrcAt w' R v s'∧Chg (·=R) V w':=fun s x s' V he hs hV=>by
    have k:=hone s V hs hV
    rw [he] at k
    exact k.mono fun e w' ⟨r,a1,a2,a3,a4,a5⟩=>by
     obtain ⟨xA,xn,xc,xr,x1,x2⟩:=r
     exact ⟨_,_,_,_,_,_,a1,a2,a3,a4,a5⟩
  |guard_hyp zT4:Tg 4
   have KV:∀s x s' V,rd s=(x,s')→SrcAt V R v s→Chg (·=R) w V→Calls Tryz.prog f #[.pointer (some ⟨R,0,none⟩)] V fun e w'=>∃x1 x2 x3 x4 x5 x6,e=.returned (.agg #[.string x1,.string x2,.int .i64 x3,.int .i64 x4,.int .i64 x5,.int .i64 x6])∧isT w' (fun b=>V.heap.size≤b∧b<w'.heap.size) (⟨x1,x2,x3,x4,x5,x6⟩:Hld)∧id (⟨x1,x2,x3,x4,x5,x6⟩:Hld)=x∧SrcAt w' R v s'∧Chg (·=R) V w':=fun s x s' V he hs hV=>by
    have k:=hone s V hs hV
    rw [he] at k
    exact k.mono fun e w' ⟨r,a1,a2,a3,a4,a5⟩=>by
     obtain ⟨x1,x2,x3,x4,x5,x6⟩:=r
     exact ⟨_,_,_,_,_,_,a1,a2,a3,a4,a5⟩
  |guard_hyp zT4:Tg 3
   have KV:∀s x s' V,rd s=(x,s')→SrcAt V R v s→Chg (·=R) w V→Calls Tryz.prog f #[.pointer (some ⟨R,0,none⟩)] V fun e w'=>∃xn xcA xcc xcl xoA xoc xops,e=.returned (.agg #[.string xn,.slice xcA xcl.length xcc,.slice xoA xops.length xoc])∧delIs w' (fun b=>V.heap.size≤b∧b<w'.heap.size) (⟨xn,xcA,xcc,xcl,xoA,xoc,xops⟩:RDl)∧RDl.er (⟨xn,xcA,xcc,xcl,xoA,xoc,xops⟩:RDl)=x∧SrcAt w' R v s'∧Chg (·=R) V w':=fun s x s' V he hs hV=>by
    have k:=hone s V hs hV
    rw [he] at k
    exact k.mono fun e w' ⟨r,a1,a2,a3,a4,a5⟩=>by
     obtain ⟨xn,xcA,xcc,xcl,xoA,xoc,xops⟩:=r
     exact ⟨_,_,_,_,_,_,_,a1,a2,a3,a4,a5⟩
  |guard_hyp zT4:Tg 2
   have KV:∀s x s' V,rd s=(x,s')→SrcAt V R v s→Chg (·=R) w V→Calls Tryz.prog f #[.pointer (some ⟨R,0,none⟩)] V fun e w'=>∃xo xi x1 x2 x3 xn xA xc xas,e=.returned (.agg #[.int .i64 xo,.int .i64 xi,.int .i64 x1,.int .i64 x2,.string x3,.string xn,.slice xA xas.length xc])∧exAll w' (fun b=>V.heap.size≤b∧b<w'.heap.size) (⟨xo,xi,⟨x1,x2,x3⟩,xn,xA,xc,xas⟩:RE)∧RE.er (⟨xo,xi,⟨x1,x2,x3⟩,xn,xA,xc,xas⟩:RE)=x∧SrcAt w' R v s'∧Chg (·=R) V w':=fun s x s' V he hs hV=>by
    exact zq60
  |guard_hyp zT4:Tg 1
   have KV:∀s x s' V,rd s=(x,s')→SrcAt V R v s→Chg (·=R) w V→Calls Tryz.prog f #[.pointer (some ⟨R,0,none⟩),.pointer (some ⟨LB,0,none⟩)] V fun e w'=>∃xo xi x1 x2 x3 xn xA xc xas,e=.returned (.agg #[.int .i64 xo,.int .i64 xi,.int .i64 x1,.int .i64 x2,.string x3,.string xn,.slice xA xas.length xc])∧exAll w' (fun b=>V.heap.size≤b∧b<w'.heap.size) (⟨xo,xi,⟨x1,x2,x3⟩,xn,xA,xc,xas⟩:RE)∧RE.er (⟨xo,xi,⟨x1,x2,x3⟩,xn,xA,xc,xas⟩:RE)=x∧SrcAt w' R v s'∧Chg (·=R) V w':=fun s x s' V he hs hV=>by
    exact zq60
  |have KV:∀s x s' V,rd s=(x,s')→SrcAt V R v s→Chg (·=R) w V→Calls Tryz.prog f #[.pointer (some ⟨R,0,none⟩)] V fun e w'=>∃xtm xtb xnm xcolA xcolC xcols xkeyA xkeyC xkey xforA xforC xfors xchkA xchkC xchks x1 x2 x3 x4 x5 x6 x7 x8 x9,e=.returned (.agg #[.int .i64 xtm,.string xtb,.string xnm,.slice xcolA xcols.length xcolC,.slice xkeyA xkey.length xkeyC,.slice xforA xfors.length xforC,.slice xchkA xchks.length xchkC,.int .i64 x1,.string x2,.string x3,.string x4,.int .i64 x5,.bool x6,.int .i64 x7,.int .i64 x8,.string x9])∧enIs w' (fun b=>V.heap.size≤b∧b<w'.heap.size) (⟨xtm,xtb,⟨xnm,xcolA,xcolC,xcols,xkeyA,xkeyC,xkey,xforA,xforC,xfors,xchkA,xchkC,xchks⟩,⟨x1,x2,x3,x4,x5,x6,⟨x7,x8,x9⟩⟩⟩:REn)∧REn.er (⟨xtm,xtb,⟨xnm,xcolA,xcolC,xcols,xkeyA,xkeyC,xkey,xforA,xforC,xfors,xchkA,xchkC,xchks⟩,⟨x1,x2,x3,x4,x5,x6,⟨x7,x8,x9⟩⟩⟩:REn)=x∧SrcAt w' R v s'∧Chg (·=R) V w':=fun s x s' V he hs hV=>by
    have k:=hone s V hs hV
    rw [he] at k
    exact k.mono fun e w' ⟨r,a1,a2,a3,a4,a5⟩=>by
     obtain ⟨xtm,xtb,⟨xnm,xcolA,xcolC,xcols,xkeyA,xkeyC,xkey,xforA,xforC,xfors,xchkA,xchkC,xchks⟩,⟨x1,x2,x3,x4,x5,x6,⟨x7,x8,x9⟩⟩⟩:=r
     exact ⟨_,_,_,_,_,_,_,_,_,_,_,_,_,_,_,_,_,_,_,_,_,_,_,_,a1,a2,a3,a4,a5⟩
 clear h hv hone
 by_cases hneg:e1=0∧n<0
 case pos=>
  exact zq33 0
 have hn0:0≤n:=by
  exact zq63
 obtain ⟨N,rfl⟩:=Int.eq_ofNat_of_zero_le hn0
 have hbd:=decI_bd l s.1
 have hN:(N:Int)≤9223372036854775807:=by
  have e:(N:Int)=(rdI l s).1:=by rw [h1]
  rw [e]
  unfold rdI rdS
  split
  ·omega
  ·split<;>exact hbd.2.1
 have hk1:e1=0→0≤k1∧k1≤l.length:=fun he=>by
  exact zq65
 rw [show rdL l rd s=getS rd N (k1,e1) from by unfold rdL;rw [h1];exact if_neg hneg]
 obtain ⟨res,hres⟩:∃r,r=getS rd N (k1,e1):=⟨_,rfl⟩
 rw [←hres]
 have HRES:=hI0 hres
 have HNEG:=hI0 hneg
 have HK1:=hI0 hk1
 first
  |guard_hyp zT4:Tg 5
   obtain ⟨i0,hi,hz0,hz1,hz2⟩:=info_parts info_Fct
  |guard_hyp zT4:Tg 4
   obtain ⟨i0,hi,hz0,hz1,hz2⟩:=info_parts info_Hld
  |guard_hyp zT4:Tg 3
   obtain ⟨i0,hi,hz0,hz1,hz2⟩:=info_parts info_Del
  |guard_hyp zT4:Tg 2
   obtain ⟨i0,hi,hz0,hz1,hz2⟩:=info_parts info_Exp
  |guard_hyp zT4:Tg 1
   obtain ⟨i0,hi,hz0,hz1,hz2⟩:=info_parts info_Exp
  |obtain ⟨i0,hi,hz0,hz1,hz2⟩:=info_parts info_Ent
 have HI:=hI0 hi
 have HZ0:=hI0 hz0
 have HZ1:=hI0 hz1
 have HZ2:=hI0 hz2
 have KK:=hI0 KV
 have HMON:=hI0 hmon
 have HF_:=hI0 hf
 clear hf hi hz0 hz1 hz2 hres hneg hk1 hbd h1 KV hn0 hmon
 first
  |guard_hyp zT4:Tg 5
   go_enter Tryz.func167,Tryz.ntmps167
  |guard_hyp zT4:Tg 4
   go_enter Tryz.func65,Tryz.ntmps65
  |guard_hyp zT4:Tg 3
   go_enter Tryz.func63,Tryz.ntmps63
  |guard_hyp zT4:Tg 2
   go_enter Tryz.func217,Tryz.ntmps217
  |guard_hyp zT4:Tg 1
   go_enter Tryz.func217,Tryz.ntmps217
  |go_enter Tryz.func61,Tryz.ntmps61
 go_wp2_with fail
 (with_reducible refine KI.mono ?_)
 rintro _ w1 ⟨rfl,hs1,hc1⟩
 have c2:w1.cell? ⟨R,2,none⟩=some (.int .i64 e1):=cW0 w1 R 2 _ _ _ hs1
 have HS1:=hI0 hs1
 have HC1:=hI0 hc1
 clear hs1 hc1 KI
 have hcond:e1=0→¬(N:Int)<0:=fun _=>by omega
 have hN0:¬(N:Int)<0:=by omega
 go_wp2_with fail
 all_goals skip
 all_goals
  first
   |guard_hyp zT4:Tg 5
    go_loopw [6,7] (fun o i wr=>∃(i':Nat) (Q:List RF) (st:Int×Int),i=.int .i64 (i':Int)∧i'≤N∧Q.length=i'∧Hid (OwnE 68 3 RF.enc wr w.heap.size o Q)∧Hid (∀p∈Q,RF.is wr (fun b=>w.heap.size≤b∧b<wr.heap.size∧some b≠Value.ownBlock o) p)∧Hid (SrcAt wr R v st)∧Hid (Chg (·=R) w wr)∧Hid ((Q.map RF.er++(getS rd (N-i') st).1,(getS rd (N-i') st).2)=res)∧i'≤l.length+1∧(st.2=0→(i':Int)≤st.1∧st.1≤l.length)) (fun _ i _=>N-(intOf i).toNat)
   |guard_hyp zT4:Tg 4
    go_loopw [6,7] (fun o i wr=>∃(i':Nat) (Q:List Hld) (st:Int×Int),i=.int .i64 (i':Int)∧i'≤N∧Q.length=i'∧Hid (OwnE 109 6 Hld.enc wr w.heap.size o Q)∧Hid (∀p∈Q,isT wr (fun b=>w.heap.size≤b∧b<wr.heap.size∧some b≠Value.ownBlock o) p)∧Hid (SrcAt wr R v st)∧Hid (Chg (·=R) w wr)∧Hid ((Q.map id++(getS rd (N-i') st).1,(getS rd (N-i') st).2)=res)∧i'≤l.length+1∧(st.2=0→(i':Int)≤st.1∧st.1≤l.length)) (fun _ i _=>N-(intOf i).toNat)
   |guard_hyp zT4:Tg 3
    go_loopw [6,7] (fun o i wr=>∃(i':Nat) (Q:List RDl) (st:Int×Int),i=.int .i64 (i':Int)∧i'≤N∧Q.length=i'∧Hid (OwnE 63 3 RDl.enc wr w.heap.size o Q)∧Hid (∀p∈Q,delIs wr (fun b=>w.heap.size≤b∧b<wr.heap.size∧some b≠Value.ownBlock o) p)∧Hid (SrcAt wr R v st)∧Hid (Chg (·=R) w wr)∧Hid ((Q.map RDl.er++(getS rd (N-i') st).1,(getS rd (N-i') st).2)=res)∧i'≤l.length+1∧(st.2=0→(i':Int)≤st.1∧st.1≤l.length)) (fun _ i _=>N-(intOf i).toNat)
   |guard_hyp zT4:Tg 2
    go_loopw [6,7] (fun o i wr=>∃(i':Nat) (Q:List RE) (st:Int×Int),i=.int .i64 (i':Int)∧i'≤N∧Q.length=i'∧Hid (OwnE 212 7 RE.enc wr w.heap.size o Q)∧Hid (∀p∈Q,exAll wr (fun b=>w.heap.size≤b∧b<wr.heap.size∧some b≠Value.ownBlock o) p)∧Hid (SrcAt wr R v st)∧Hid (Chg (·=R) w wr)∧Hid ((Q.map RE.er++(getS rd (N-i') st).1,(getS rd (N-i') st).2)=res)∧i'≤l.length+1∧(st.2=0→(i':Int)≤st.1∧st.1≤l.length)) (fun _ i _=>N-(intOf i).toNat)
   |guard_hyp zT4:Tg 1
    go_loopw [6,7] (fun o i wr=>∃(i':Nat) (Q:List RE) (st:Int×Int),i=.int .i64 (i':Int)∧i'≤N∧Q.length=i'∧Hid (OwnE 212 7 RE.enc wr w.heap.size o Q)∧Hid (∀p∈Q,exAll wr (fun b=>w.heap.size≤b∧b<wr.heap.size∧some b≠Value.ownBlock o) p)∧Hid (SrcAt wr R v st)∧Hid (Chg (·=R) w wr)∧Hid ((Q.map RE.er++(getS rd (N-i') st).1,(getS rd (N-i') st).2)=res)∧i'≤l.length+1∧(st.2=0→(i':Int)≤st.1∧st.1≤l.length)) (fun _ i _=>N-(intOf i).toNat)
   |go_loopw [6,7] (fun o i wr=>∃(i':Nat) (Q:List REn) (st:Int×Int),i=.int .i64 (i':Int)∧i'≤N∧Q.length=i'∧Hid (OwnE 83 16 REn.enc wr w.heap.size o Q)∧Hid (∀p∈Q,enIs wr (fun b=>w.heap.size≤b∧b<wr.heap.size∧some b≠Value.ownBlock o) p)∧Hid (SrcAt wr R v st)∧Hid (Chg (·=R) w wr)∧Hid ((Q.map REn.er++(getS rd (N-i') st).1,(getS rd (N-i') st).2)=res)∧i'≤l.length+1∧(st.2=0→(i':Int)≤st.1∧st.1≤l.length)) (fun _ i _=>N-(intOf i).toNat)
  case atStart=>exact ⟨0,[],(k1,e1),rfl,Nat.zero_le _,rfl,hI0 (World.ownsRow_nil _ _ _ _),hI0 (fun p hp=>by cases hp),HS1,HC1,hI0 HRES.out.symm,by omega,HK1.out⟩
  obtain ⟨i',Q,⟨k,er⟩,rfl,hi',hQl,HO,HR,HS,HC,HG,hil,hik⟩:=hrel
  obtain ⟨wi,rfl⟩:∃wi:World,wi=wr:=⟨_,rfl⟩
  obtain ⟨Ao,co,rfl,o1,o2,o3⟩:=Rd.open_ (Rd.of_own HO.out)
  rw [hQl] at o1
  first
   |guard_hyp zT4:Tg 5
    have HRd:Hid (RdE 3 RF.enc wi (fun b=>w.heap.size≤b∧b<wi.heap.size) (.slice Ao i' co) Q∧∀p∈Q,RF.is wi (fun b=>w.heap.size≤b∧b<wi.heap.size) p):=hI0 (by rw [←hQl];exact ⟨(Rd.of_own HO.out),fun p hp=>isK_F.wide (HR.out p hp) fun b hb=>⟨hb.1,hb.2.1⟩⟩)
   |guard_hyp zT4:Tg 4
    have HRd:Hid (RdE 6 Hld.enc wi (fun b=>w.heap.size≤b∧b<wi.heap.size) (.slice Ao i' co) Q∧∀p∈Q,isT wi (fun b=>w.heap.size≤b∧b<wi.heap.size) p):=hI0 (by rw [←hQl];exact ⟨(Rd.of_own HO.out),fun p hp=>isK_T.wide (HR.out p hp) fun b hb=>⟨hb.1,hb.2.1⟩⟩)
   |guard_hyp zT4:Tg 3
    have HRd:Hid (RdE 3 RDl.enc wi (fun b=>w.heap.size≤b∧b<wi.heap.size) (.slice Ao i' co) Q∧∀p∈Q,delIs wi (fun b=>w.heap.size≤b∧b<wi.heap.size) p):=hI0 (by rw [←hQl];exact ⟨(Rd.of_own HO.out),fun p hp=>isK_D.wide (HR.out p hp) fun b hb=>⟨hb.1,hb.2.1⟩⟩)
   |guard_hyp zT4:Tg 2
    have HRd:Hid (RdE 7 RE.enc wi (fun b=>w.heap.size≤b∧b<wi.heap.size) (.slice Ao i' co) Q∧∀p∈Q,exAll wi (fun b=>w.heap.size≤b∧b<wi.heap.size) p):=hI0 (by rw [←hQl];exact ⟨(Rd.of_own HO.out),fun p hp=>isK_X.wide (HR.out p hp) fun b hb=>⟨hb.1,hb.2.1⟩⟩)
   |guard_hyp zT4:Tg 1
    have HRd:Hid (RdE 7 RE.enc wi (fun b=>w.heap.size≤b∧b<wi.heap.size) (.slice Ao i' co) Q∧∀p∈Q,exAll wi (fun b=>w.heap.size≤b∧b<wi.heap.size) p):=hI0 (by rw [←hQl];exact ⟨(Rd.of_own HO.out),fun p hp=>isK_X.wide (HR.out p hp) fun b hb=>⟨hb.1,hb.2.1⟩⟩)
   |have HRd:Hid (RdE 16 REn.enc wi (fun b=>w.heap.size≤b∧b<wi.heap.size) (.slice Ao i' co) Q∧∀p∈Q,enIs wi (fun b=>w.heap.size≤b∧b<wi.heap.size) p):=hI0 (by rw [←hQl];exact ⟨(Rd.of_own HO.out),fun p hp=>isK_En.wide (HR.out p hp) fun b hb=>⟨hb.1,hb.2.1⟩⟩)
  have c2:wi.cell? ⟨R,2,none⟩=some (.int .i64 er):=cW0 wi R 2 _ _ _ HS.out
  clear o3 o2
  by_cases hlt:i'<N
  case neg=>
   have hie:i'=N:=by omega
   have hil2:¬(i':Int)<(N:Int):=by omega
   first
    |guard_hyp zT4:Tg 5
     have HF:Hid (res=(Q.map RF.er,(k,er))):=hI0 (by rw [←HG.out,getS_stop (.inl (by omega))];simp)
    |guard_hyp zT4:Tg 4
     have HF:Hid (res=(Q.map id,(k,er))):=hI0 (by rw [←HG.out,getS_stop (.inl (by omega))];simp)
    |guard_hyp zT4:Tg 3
     have HF:Hid (res=(Q.map RDl.er,(k,er))):=hI0 (by rw [←HG.out,getS_stop (.inl (by omega))];simp)
    |guard_hyp zT4:Tg 2
     have HF:Hid (res=(Q.map RE.er,(k,er))):=hI0 (by rw [←HG.out,getS_stop (.inl (by omega))];simp)
    |guard_hyp zT4:Tg 1
     have HF:Hid (res=(Q.map RE.er,(k,er))):=hI0 (by rw [←HG.out,getS_stop (.inl (by omega))];simp)
    |have HF:Hid (res=(Q.map REn.er,(k,er))):=hI0 (by rw [←HG.out,getS_stop (.inl (by omega))];simp)
   have HIE:=hI0 hie
   go_wp2_with fail
   go_ret
   rw [HF.out]
   exact ⟨_,Q,rfl,(by first|exact HRd.out.1|(have h:=HRd.out.1;rw [HIE.out] at h;exact h)),HRd.out.2,rfl,HS.out,HC.out⟩
  have hil2:(i':Int)<(N:Int):=by omega
  by_cases her:er=0
  case neg=>
   first
    |guard_hyp zT4:Tg 5
     have HF:Hid (res=(Q.map RF.er,(k,er))):=hI0 (by rw [←HG.out,getS_stop (.inr her)];simp)
    |guard_hyp zT4:Tg 4
     have HF:Hid (res=(Q.map id,(k,er))):=hI0 (by rw [←HG.out,getS_stop (.inr her)];simp)
    |guard_hyp zT4:Tg 3
     have HF:Hid (res=(Q.map RDl.er,(k,er))):=hI0 (by rw [←HG.out,getS_stop (.inr her)];simp)
    |guard_hyp zT4:Tg 2
     have HF:Hid (res=(Q.map RE.er,(k,er))):=hI0 (by rw [←HG.out,getS_stop (.inr her)];simp)
    |guard_hyp zT4:Tg 1
     have HF:Hid (res=(Q.map RE.er,(k,er))):=hI0 (by rw [←HG.out,getS_stop (.inr her)];simp)
    |have HF:Hid (res=(Q.map REn.er,(k,er))):=hI0 (by rw [←HG.out,getS_stop (.inr her)];simp)
   go_wp2_with fail
   go_ret
   rw [HF.out]
   exact ⟨_,Q,rfl,HRd.out.1,HRd.out.2,rfl,HS.out,HC.out⟩
  subst her
  have hik2:=hik rfl
  simp only at hik2
  rcases hx:rd (k,0) with ⟨x,st'⟩
  have hst:st'.2=0→(i':Int)+1≤st'.1∧st'.1≤l.length:=fun he=>by
   have:=HMON.out (k,0) (by rw [hx];exact he)
   rw [hx] at this
   simp only at this
   omega
  have KV:=KK.out (k,0) x st' wi hx HS.out HC.out
  have hgs:getS rd (N-i') (k,0)=(x::(getS rd (N-(i'+1)) st').1,(getS rd (N-(i'+1)) st').2):=by
   rw [show N-i'=(N-(i'+1))+1 by omega]
   exact getS_step rfl hx
  have HGS:=hI0 hgs
  have HST:=hI0 hst
  have HN:=hI0 (And.intro hil hik2)
  clear hgs hst hx hik hik2
  have hent:∀(args:Array Value) (V:World),(callFunc f args).run Tryz.prog V=.ok (.enter f args) V:=HF_.out
  go_wp2_with fail
  (with_reducible refine KV.mono ?_)
  first
   |guard_hyp zT4:Tg 5
    rintro _ w2 ⟨xA,xn,xc,xr,x1,x2,rfl,hX,hxe,hs2,hc2⟩
    skip
   |guard_hyp zT4:Tg 4
    rintro _ w2 ⟨x1,x2,x3,x4,x5,x6,rfl,hX,hxe,hs2,hc2⟩
    skip
   |guard_hyp zT4:Tg 3
    rintro _ w2 ⟨xn,xcA,xcc,xcl,xoA,xoc,xops,rfl,hX,hxe,hs2,hc2⟩
    skip
   |guard_hyp zT4:Tg 2
    rintro _ w2 ⟨xo,xi,x1,x2,x3,xn,xA,xc,xas,rfl,hX,hxe,hs2,hc2⟩
    skip
   |guard_hyp zT4:Tg 1
    rintro _ w2 ⟨xo,xi,x1,x2,x3,xn,xA,xc,xas,rfl,hX,hxe,hs2,hc2⟩
    skip
   |rintro _ w2 ⟨xtm,xtb,xnm,xcolA,xcolC,xcols,xkeyA,xkeyC,xkey,xforA,xforC,xfors,xchkA,xchkC,xchks,x1,x2,x3,x4,x5,x6,x7,x8,x9,rfl,hX,hxe,hs2,hc2⟩
  have hz2:=hc2.size
  have HX:=hI0 hX
  have HXE:=hI0 hxe
  have HS2:=hI0 hs2
  have HC2:=hI0 hc2
  clear hX hxe hs2 hc2 KV hent
  have hwi:w.heap.size≤wi.heap.size:=HC.out.size
  first
   |guard_hyp zT4:Tg 5
    have HOA:=hI0 (getA (O:=(.cells #[.slice xA xn xc,.int .i64 x1,.int .i64 x2] 68)) hQl hR HO.out HC2.out)
    have HNEW:=hI0 (Rd.new' w2 w2.heap.size rfl [.slice xA xn xc,.int .i64 x1,.int .i64 x2] 68 3 1 rfl (by decide))
   |guard_hyp zT4:Tg 4
    have HOA:=hI0 (getA (O:=(.cells #[.string x1,.string x2,.int .i64 x3,.int .i64 x4,.int .i64 x5,.int .i64 x6] 109)) hQl hR HO.out HC2.out)
    have HNEW:=hI0 (Rd.new' w2 w2.heap.size rfl [.string x1,.string x2,.int .i64 x3,.int .i64 x4,.int .i64 x5,.int .i64 x6] 109 6 1 rfl (by decide))
   |guard_hyp zT4:Tg 3
    have HOA:=hI0 (getA (O:=(.cells #[.string xn,.slice xcA xcl.length xcc,.slice xoA xops.length xoc] 63)) hQl hR HO.out HC2.out)
    have HNEW:=hI0 (Rd.new' w2 w2.heap.size rfl [.string xn,.slice xcA xcl.length xcc,.slice xoA xops.length xoc] 63 3 1 rfl (by decide))
   |guard_hyp zT4:Tg 2
    have HOA:=hI0 (getA (O:=(.cells #[.int .i64 xo,.int .i64 xi,.int .i64 x1,.int .i64 x2,.string x3,.string xn,.slice xA xas.length xc] 212)) hQl hR HO.out HC2.out)
    have HNEW:=hI0 (Rd.new' w2 w2.heap.size rfl [.int .i64 xo,.int .i64 xi,.int .i64 x1,.int .i64 x2,.string x3,.string xn,.slice xA xas.length xc] 212 7 1 rfl (by decide))
   |guard_hyp zT4:Tg 1
    have HOA:=hI0 (getA (O:=(.cells #[.int .i64 xo,.int .i64 xi,.int .i64 x1,.int .i64 x2,.string x3,.string xn,.slice xA xas.length xc] 212)) hQl hR HO.out HC2.out)
    have HNEW:=hI0 (Rd.new' w2 w2.heap.size rfl [.int .i64 xo,.int .i64 xi,.int .i64 x1,.int .i64 x2,.string x3,.string xn,.slice xA xas.length xc] 212 7 1 rfl (by decide))
   |have HOA:=hI0 (getA (O:=(.cells #[.int .i64 xtm,.string xtb,.string xnm,.slice xcolA xcols.length xcolC,.slice xkeyA xkey.length xkeyC,.slice xforA xfors.length xforC,.slice xchkA xchks.length xchkC,.int .i64 x1,.string x2,.string x3,.string x4,.int .i64 x5,.bool x6,.int .i64 x7,.int .i64 x8,.string x9] 83)) hQl hR HO.out HC2.out)
    have HNEW:=hI0 (Rd.new' w2 w2.heap.size rfl [.int .i64 xtm,.string xtb,.string xnm,.slice xcolA xcols.length xcolC,.slice xkeyA xkey.length xkeyC,.slice xforA xfors.length xforC,.slice xchkA xchks.length xchkC,.int .i64 x1,.string x2,.string x3,.string x4,.int .i64 x5,.bool x6,.int .i64 x7,.int .i64 x8,.string x9] 83 16 1 rfl (by decide))
  have hi5:i'≤10000000001:=by have:=HN.out.1;omega
  first
   |guard_hyp zT4:Tg 5
    go_wp2_with (at_builtin;refine wpList_append_app (w2.alloc (.cells #[.slice xA xn xc,.int .i64 x1,.int .i64 x2] 68)) rfl (.tmp 39) (.tmp 43) 61 rfl w.heap.size 68 i0 _ 3 40 Tryz.underlying61 HI.out HZ0.out HZ1.out HZ2.out rfl (by omega) (.slice Ao i' co) i' (Q.flatMap RF.enc) rfl (.inl HOA.out) (·=w2.heap.size) _ 1 [.slice xA xn xc,.int .i64 x1,.int .i64 x2] rfl HNEW.out (fun u hu=>by simp only [List.mem_cons,List.not_mem_nil,or_false] at hu;rcases hu with rfl|rfl|rfl<;>rfl) (by unfold maxLen;omega) (by omega) (by simp;omega) ?_;intro v3 w3 _ hO3 hg3 hb3 hv3)
    skip
   |guard_hyp zT4:Tg 4
    go_wp2_with (at_builtin;refine wpList_append_app (w2.alloc (.cells #[.string x1,.string x2,.int .i64 x3,.int .i64 x4,.int .i64 x5,.int .i64 x6] 109)) rfl (.tmp 39) (.tmp 43) 24 rfl w.heap.size 109 i0 _ 6 64 Tryz.underlying24 HI.out HZ0.out HZ1.out HZ2.out rfl (by omega) (.slice Ao i' co) i' (Q.flatMap Hld.enc) rfl (.inl HOA.out) (·=w2.heap.size) _ 1 [.string x1,.string x2,.int .i64 x3,.int .i64 x4,.int .i64 x5,.int .i64 x6] rfl HNEW.out (fun u hu=>by simp only [List.mem_cons,List.not_mem_nil,or_false] at hu;rcases hu with rfl|rfl|rfl|rfl|rfl|rfl<;>rfl) (by unfold maxLen;omega) (by omega) (by simp;omega) ?_;intro v3 w3 _ hO3 hg3 hb3 hv3)
    skip
   |guard_hyp zT4:Tg 3
    go_wp2_with (at_builtin;refine wpList_append_app (w2.alloc (.cells #[.string xn,.slice xcA xcl.length xcc,.slice xoA xops.length xoc] 63)) rfl (.tmp 39) (.tmp 43) 23 rfl w.heap.size 63 i0 _ 3 64 Tryz.underlying23 HI.out HZ0.out HZ1.out HZ2.out rfl (by omega) (.slice Ao i' co) i' (Q.flatMap RDl.enc) rfl (.inl HOA.out) (·=w2.heap.size) _ 1 [.string xn,.slice xcA xcl.length xcc,.slice xoA xops.length xoc] rfl HNEW.out (fun u hu=>by simp only [List.mem_cons,List.not_mem_nil,or_false] at hu;rcases hu with rfl|rfl|rfl<;>rfl) (by unfold maxLen;omega) (by omega) (by simp;omega) ?_;intro v3 w3 _ hO3 hg3 hb3 hv3)
    skip
   |guard_hyp zT4:Tg 2
    go_wp2_with (at_builtin;refine wpList_append_app (w2.alloc (.cells #[.int .i64 xo,.int .i64 xi,.int .i64 x1,.int .i64 x2,.string x3,.string xn,.slice xA xas.length xc] 212)) rfl (.tmp 39) (.tmp 43) 73 rfl w.heap.size 212 i0 _ 7 88 Tryz.underlying73 HI.out HZ0.out HZ1.out HZ2.out rfl (by omega) (.slice Ao i' co) i' (Q.flatMap RE.enc) rfl (.inl HOA.out) (·=w2.heap.size) _ 1 [.int .i64 xo,.int .i64 xi,.int .i64 x1,.int .i64 x2,.string x3,.string xn,.slice xA xas.length xc] rfl HNEW.out (fun u hu=>by simp only [List.mem_cons,List.not_mem_nil,or_false] at hu;rcases hu with rfl|rfl|rfl|rfl|rfl|rfl|rfl<;>rfl) (by unfold maxLen;omega) (by omega) (by simp;omega) ?_;intro v3 w3 _ hO3 hg3 hb3 hv3)
    skip
   |guard_hyp zT4:Tg 1
    go_wp2_with (at_builtin;refine wpList_append_app (w2.alloc (.cells #[.int .i64 xo,.int .i64 xi,.int .i64 x1,.int .i64 x2,.string x3,.string xn,.slice xA xas.length xc] 212)) rfl (.tmp 39) (.tmp 43) 73 rfl w.heap.size 212 i0 _ 7 88 Tryz.underlying73 HI.out HZ0.out HZ1.out HZ2.out rfl (by omega) (.slice Ao i' co) i' (Q.flatMap RE.enc) rfl (.inl HOA.out) (·=w2.heap.size) _ 1 [.int .i64 xo,.int .i64 xi,.int .i64 x1,.int .i64 x2,.string x3,.string xn,.slice xA xas.length xc] rfl HNEW.out (fun u hu=>by simp only [List.mem_cons,List.not_mem_nil,or_false] at hu;rcases hu with rfl|rfl|rfl|rfl|rfl|rfl|rfl<;>rfl) (by unfold maxLen;omega) (by omega) (by simp;omega) ?_;intro v3 w3 _ hO3 hg3 hb3 hv3)
    skip
   |go_wp2_with (at_builtin;refine wpList_append_app (w2.alloc (.cells #[.int .i64 xtm,.string xtb,.string xnm,.slice xcolA xcols.length xcolC,.slice xkeyA xkey.length xkeyC,.slice xforA xfors.length xforC,.slice xchkA xchks.length xchkC,.int .i64 x1,.string x2,.string x3,.string x4,.int .i64 x5,.bool x6,.int .i64 x7,.int .i64 x8,.string x9] 83)) rfl (.tmp 39) (.tmp 43) 22 rfl w.heap.size 83 i0 _ 16 240 Tryz.underlying22 HI.out HZ0.out HZ1.out HZ2.out rfl (by omega) (.slice Ao i' co) i' (Q.flatMap REn.enc) rfl (.inl HOA.out) (·=w2.heap.size) _ 1 [.int .i64 xtm,.string xtb,.string xnm,.slice xcolA xcols.length xcolC,.slice xkeyA xkey.length xkeyC,.slice xforA xfors.length xforC,.slice xchkA xchks.length xchkC,.int .i64 x1,.string x2,.string x3,.string x4,.int .i64 x5,.bool x6,.int .i64 x7,.int .i64 x8,.string x9] rfl HNEW.out (fun u hu=>by simp only [List.mem_cons,List.not_mem_nil,or_false] at hu;rcases hu with rfl|rfl|rfl|rfl|rfl|rfl|rfl|rfl|rfl|rfl|rfl|rfl|rfl|rfl|rfl|rfl<;>rfl) (by unfold maxLen;omega) (by omega) (by simp;omega) ?_;intro v3 w3 _ hO3 hg3 hb3 hv3)
  all_goals skip
  first
   |guard_hyp zT4:Tg 5
    have HB4:=hI0 (getB (x:=(⟨xA,xn,xc,xr,x1,x2⟩:RF)) isK_F hQl hR HO.out HR.out HC.out HX.out HS2.out HC2.out (hO3 (.inl (by omega))) hg3 hv3)
   |guard_hyp zT4:Tg 4
    have HB4:=hI0 (getB (x:=(⟨x1,x2,x3,x4,x5,x6⟩:Hld)) isK_T hQl hR HO.out HR.out HC.out HX.out HS2.out HC2.out (hO3 (.inl (by omega))) hg3 hv3)
   |guard_hyp zT4:Tg 3
    have HB4:=hI0 (getB (x:=(⟨xn,xcA,xcc,xcl,xoA,xoc,xops⟩:RDl)) isK_D hQl hR HO.out HR.out HC.out HX.out HS2.out HC2.out (hO3 (.inl (by omega))) hg3 hv3)
   |guard_hyp zT4:Tg 2
    have HB4:=hI0 (getB (x:=(⟨xo,xi,⟨x1,x2,x3⟩,xn,xA,xc,xas⟩:RE)) isK_X hQl hR HO.out HR.out HC.out HX.out HS2.out HC2.out (hO3 (.inl (by omega))) hg3 hv3)
   |guard_hyp zT4:Tg 1
    have HB4:=hI0 (getB (x:=(⟨xo,xi,⟨x1,x2,x3⟩,xn,xA,xc,xas⟩:RE)) isK_X hQl hR HO.out HR.out HC.out HX.out HS2.out HC2.out (hO3 (.inl (by omega))) hg3 hv3)
   |have HB4:=hI0 (getB (x:=(⟨xtm,xtb,⟨xnm,xcolA,xcolC,xcols,xkeyA,xkeyC,xkey,xforA,xforC,xfors,xchkA,xchkC,xchks⟩,⟨x1,x2,x3,x4,x5,x6,⟨x7,x8,x9⟩⟩⟩:REn)) isK_En hQl hR HO.out HR.out HC.out HX.out HS2.out HC2.out (hO3 (.inl (by omega))) hg3 hv3)
  clear hO3 hg3 hb3 hv3
  go_wp2_with fail
  go_roundw
  case rel=>
   first
    |guard_hyp zT4:Tg 5
     refine ⟨i'+1,Q++[(⟨xA,xn,xc,xr,x1,x2⟩:RF)],st',by go_num,by omega,by simp [hQl],hI0 HB4.out.1,hI0 HB4.out.2.1,hI0 HB4.out.2.2.1,hI0 HB4.out.2.2.2,hI0 ?_,?_,?_⟩
    |guard_hyp zT4:Tg 4
     refine ⟨i'+1,Q++[(⟨x1,x2,x3,x4,x5,x6⟩:Hld)],st',by go_num,by omega,by simp [hQl],hI0 HB4.out.1,hI0 HB4.out.2.1,hI0 HB4.out.2.2.1,hI0 HB4.out.2.2.2,hI0 ?_,?_,?_⟩
    |guard_hyp zT4:Tg 3
     refine ⟨i'+1,Q++[(⟨xn,xcA,xcc,xcl,xoA,xoc,xops⟩:RDl)],st',by go_num,by omega,by simp [hQl],hI0 HB4.out.1,hI0 HB4.out.2.1,hI0 HB4.out.2.2.1,hI0 HB4.out.2.2.2,hI0 ?_,?_,?_⟩
    |guard_hyp zT4:Tg 2
     refine ⟨i'+1,Q++[(⟨xo,xi,⟨x1,x2,x3⟩,xn,xA,xc,xas⟩:RE)],st',by go_num,by omega,by simp [hQl],hI0 HB4.out.1,hI0 HB4.out.2.1,hI0 HB4.out.2.2.1,hI0 HB4.out.2.2.2,hI0 ?_,?_,?_⟩
    |guard_hyp zT4:Tg 1
     refine ⟨i'+1,Q++[(⟨xo,xi,⟨x1,x2,x3⟩,xn,xA,xc,xas⟩:RE)],st',by go_num,by omega,by simp [hQl],hI0 HB4.out.1,hI0 HB4.out.2.1,hI0 HB4.out.2.2.1,hI0 HB4.out.2.2.2,hI0 ?_,?_,?_⟩
    |refine ⟨i'+1,Q++[(⟨xtm,xtb,⟨xnm,xcolA,xcolC,xcols,xkeyA,xkeyC,xkey,xforA,xforC,xfors,xchkA,xchkC,xchks⟩,⟨x1,x2,x3,x4,x5,x6,⟨x7,x8,x9⟩⟩⟩:REn)],st',by go_num,by omega,by simp [hQl],hI0 HB4.out.1,hI0 HB4.out.2.1,hI0 HB4.out.2.2.1,hI0 HB4.out.2.2.2,hI0 ?_,?_,?_⟩
   ·rw [←HG.out,HGS.out,List.map_append,List.map_singleton,HXE.out];simp
   ·have:=HN.out;omega
   ·intro he;have:=HST.out he;omega
  case measure=>simp [intOf];omega) : P := h ⟨⟩
theorem zq60 {P:Prop} (h:P:=by
 have k:=hone s V hs hV
 rw [he] at k
 exact k.mono fun e w' ⟨r,a1,a2,a3,a4,a5⟩=>by
  obtain ⟨xo,xi,⟨x1,x2,x3⟩,xn,xA,xc,xas⟩:=r
  exact ⟨_,_,_,_,_,_,_,_,_,a1,a2,a3,a4,a5⟩) : P := h
theorem info_Exp:(Tryz.prog.info? 212).map (fun i=>(i.zero,i.size,i.bytes))=some (some (.agg #[.int .i64 0,.int .i64 0,.int .i64 0,.int .i64 0,.string ⟨#[]⟩,.string ⟨#[]⟩,.slice none 0 0]),7,88):=by kernel_rfl
theorem getExp_any (R:Nat) (v:Value) (l:List UInt8) (rd:Int×Int→RE×Int×Int) (f:FuncId) (hf:EntF f) (s:Int×Int) (w:World) (h:SrcAt w R v s) (hv:RdB w (·<R) v l) (hl:l.length≤10000000000) (hmon:Mon l rd)
  (hone:∀s V,SrcAt V R v s→Chg (·=R) w V→Calls Tryz.prog f #[.pointer (some ⟨R,0,none⟩)] V (OneE (fun x:RE=>.agg x.enc.toArray) exAll RE.er R v (rd s) V)):
  Calls Tryz.prog 217 #[.pointer (some ⟨R,0,none⟩),.func (.func f) #[] #[]] w (GetE 7 RE.enc exAll RE.er R v (rdL l rd s) w):=by
 exact zq4 2
theorem getExpC_any (R LB:Nat) (v:Value) (l:List UInt8) (rd:Int×Int→RE×Int×Int) (f:FuncId) (hf:EntF f) (s:Int×Int) (w:World) (h:SrcAt w R v s) (hv:RdB w (·<R) v l) (hl:l.length≤10000000000) (hmon:Mon l rd)
  (hone:∀s V,SrcAt V R v s→Chg (·=R) w V→Calls Tryz.prog f #[.pointer (some ⟨R,0,none⟩),.pointer (some ⟨LB,0,none⟩)] V (OneE (fun x:RE=>.agg x.enc.toArray) exAll RE.er R v (rd s) V)):
  Calls Tryz.prog 217 #[.pointer (some ⟨R,0,none⟩),.func (.func f) #[] #[.pointer (some ⟨LB,0,none⟩)]] w (GetE 7 RE.enc exAll RE.er R v (rdL l rd s) w):=by
 exact zq4 1
theorem info_Fct:(Tryz.prog.info? 68).map (fun i=>(i.zero,i.size,i.bytes))=some (some (.agg #[.slice none 0 0,.int .i64 0,.int .i64 0]),3,40):=by kernel_rfl
theorem getFct_any (R:Nat) (v:Value) (l:List UInt8) (rd:Int×Int→RF×Int×Int) (f:FuncId) (hf:EntF f) (s:Int×Int) (w:World) (h:SrcAt w R v s) (hv:RdB w (·<R) v l) (hl:l.length≤10000000000) (hmon:Mon l rd)
  (hone:∀s V,SrcAt V R v s→Chg (·=R) w V→Calls Tryz.prog f #[.pointer (some ⟨R,0,none⟩)] V (OneE (fun x:RF=>.agg x.enc.toArray) RF.is RF.er R v (rd s) V)):
  Calls Tryz.prog 167 #[.pointer (some ⟨R,0,none⟩),.func (.func f) #[] #[]] w (GetE 3 RF.enc RF.is RF.er R v (rdL l rd s) w):=by
 exact zq4 5
theorem info_Hld:(Tryz.prog.info? 109).map (fun i=>(i.zero,i.size,i.bytes))=some (some (.agg #[.string ⟨#[]⟩,.string ⟨#[]⟩,.int .i64 0,.int .i64 0,.int .i64 0,.int .i64 0]),6,64):=by kernel_rfl
theorem getHld_any (R:Nat) (v:Value) (l:List UInt8) (rd:Int×Int→Hld×Int×Int) (f:FuncId) (hf:EntF f) (s:Int×Int) (w:World) (h:SrcAt w R v s) (hv:RdB w (·<R) v l) (hl:l.length≤10000000000) (hmon:Mon l rd)
  (hone:∀s V,SrcAt V R v s→Chg (·=R) w V→Calls Tryz.prog f #[.pointer (some ⟨R,0,none⟩)] V (OneE (fun x:Hld=>.agg x.enc.toArray) isT id R v (rd s) V)):
  Calls Tryz.prog 65 #[.pointer (some ⟨R,0,none⟩),.func (.func f) #[] #[]] w (GetE 6 Hld.enc isT id R v (rdL l rd s) w):=by
 exact zq4 4
theorem info_Str:(Tryz.prog.info? 9).map (fun i=>(i.zero,i.size,i.bytes))=some (some (.string ⟨#[]⟩),1,16):=by kernel_rfl
theorem getStr_any (R:Nat) (v:Value) (l:List UInt8) (rd:Int×Int→ByteArray×Int×Int) (f:FuncId) (hf:EntF f) (s:Int×Int) (w:World) (h:SrcAt w R v s) (hv:RdB w (·<R) v l) (hl:l.length≤10000000000) (hmon:Mon l rd)
  (hone:∀s V,SrcAt V R v s→Chg (·=R) w V→Calls Tryz.prog f #[.pointer (some ⟨R,0,none⟩)] V (OneE (fun x:ByteArray=>.string x) isT id R v (rd s) V)):
  Calls Tryz.prog 67 #[.pointer (some ⟨R,0,none⟩),.func (.func f) #[] #[]] w (GetE 1 strE isT id R v (rdL l rd s) w):=by
 exact zq7 4
theorem info_Pol:(Tryz.prog.info? 117).map (fun i=>(i.zero,i.size,i.bytes))=some (some (.agg #[.string ⟨#[]⟩,.int .i64 0]),2,24):=by kernel_rfl
theorem getPol_any (R:Nat) (v:Value) (l:List UInt8) (rd:Int×Int→Pol×Int×Int) (f:FuncId) (hf:EntF f) (s:Int×Int) (w:World) (h:SrcAt w R v s) (hv:RdB w (·<R) v l) (hl:l.length≤10000000000) (hmon:Mon l rd)
  (hone:∀s V,SrcAt V R v s→Chg (·=R) w V→Calls Tryz.prog f #[.pointer (some ⟨R,0,none⟩)] V (OneE (fun x:Pol=>.agg x.enc.toArray) isT id R v (rd s) V)):
  Calls Tryz.prog 69 #[.pointer (some ⟨R,0,none⟩),.func (.func f) #[] #[]] w (GetE 2 Pol.enc isT id R v (rdL l rd s) w):=by
 exact zq7 3
theorem info_Hor:(Tryz.prog.info? 122).map (fun i=>(i.zero,i.size,i.bytes))=some (some (.agg #[.string ⟨#[]⟩,.int .i64 0]),2,24):=by kernel_rfl
theorem getHor_any (R:Nat) (v:Value) (l:List UInt8) (rd:Int×Int→Hor×Int×Int) (f:FuncId) (hf:EntF f) (s:Int×Int) (w:World) (h:SrcAt w R v s) (hv:RdB w (·<R) v l) (hl:l.length≤10000000000) (hmon:Mon l rd)
  (hone:∀s V,SrcAt V R v s→Chg (·=R) w V→Calls Tryz.prog f #[.pointer (some ⟨R,0,none⟩)] V (OneE (fun x:Hor=>.agg x.enc.toArray) isT id R v (rd s) V)):
  Calls Tryz.prog 71 #[.pointer (some ⟨R,0,none⟩),.func (.func f) #[] #[]] w (GetE 2 Hor.enc isT id R v (rdL l rd s) w):=by
 exact zq7 2
end Go.Proofs.YtbfdegkickjbpaaGreat
