/-
 Dc2
-/
import Derived.Test.YtbfdegkickjbpaaGreatVDcC
namespace Go.Proofs.YtbfdegkickjbpaaGreat
open Go.Proofs.Tryz
set_option maxRecDepth 99999
set_option maxHeartbeats 0
open Go.RowKit Go.Lib Go.IntWalk Go.Sort Go.Shelf
theorem zq5 {P:Prop} (i:Nat) (h:Tg i→P:=by
 intro zT5
 rcases h1:rdI l s with ⟨n,k1,e1⟩
 have hR:=h.lt
 have KI:Calls prog 60 #[.pointer (some ⟨R,0,none⟩)] w fun x w'=>x=.returned (.int .i64 n)∧SrcAt w' R v (k1,e1)∧Chg (·=R) w w':=by
  have k:=srcInt_any R v l s w h hv
  rw [h1] at k
  exact k
 first
  |guard_hyp zT5:Tg 5;have KV:∀s x s' V,rd s=(x,s')→SrcAt V R v s→Chg (·=R) w V→Calls prog f #[.pointer (some ⟨R,0,none⟩)] V fun e w'=>∃x1 x2 x3 x4 x5 x6,e=.returned (.agg #[.string x1,.string x2,.int .i64 x3,.int .i64 x4,.int .i64 x5,.int .i64 x6])∧isT w' (fun b=>V.heap.size≤b∧b<w'.heap.size) (⟨x1,x2,x3,x4,x5,x6⟩:Hld)∧id (⟨x1,x2,x3,x4,x5,x6⟩:Hld)=x∧SrcAt w' R v s'∧Chg (·=R) V w':=fun s x s' V he hs hV=>by
    have k:=hone s V hs hV
    rw [he] at k
    exact k.mono fun e w' ⟨r,a1,a2,a3,a4,a5⟩=>by
     obtain ⟨x1,x2,x3,x4,x5,x6⟩:=r
     exact ⟨_,_,_,_,_,_,a1,a2,a3,a4,a5⟩
  |guard_hyp zT5:Tg 4;have KV:∀s x s' V,rd s=(x,s')→SrcAt V R v s→Chg (·=R) w V→Calls prog f #[.pointer (some ⟨R,0,none⟩)] V fun e w'=>∃xn xcA xcc xcl xoA xoc xops,e=.returned (.agg #[.string xn,.slice xcA xcl.length xcc,.slice xoA xops.length xoc])∧delIs w' (fun b=>V.heap.size≤b∧b<w'.heap.size) (⟨xn,xcA,xcc,xcl,xoA,xoc,xops⟩:RDl)∧RDl.er (⟨xn,xcA,xcc,xcl,xoA,xoc,xops⟩:RDl)=x∧SrcAt w' R v s'∧Chg (·=R) V w':=fun s x s' V he hs hV=>by
    have k:=hone s V hs hV
    rw [he] at k
    exact k.mono fun e w' ⟨r,a1,a2,a3,a4,a5⟩=>by
     obtain ⟨xn,xcA,xcc,xcl,xoA,xoc,xops⟩:=r
     exact ⟨_,_,_,_,_,_,_,a1,a2,a3,a4,a5⟩
  |guard_hyp zT5:Tg 3;have KV:∀s x s' V,rd s=(x,s')→SrcAt V R v s→Chg (·=R) w V→Calls prog f #[.pointer (some ⟨R,0,none⟩)] V fun e w'=>∃xo xi x1 x2 x3 xn xA xc xas,e=.returned (.agg #[.int .i64 xo,.int .i64 xi,.int .i64 x1,.int .i64 x2,.string x3,.string xn,.slice xA xas.length xc])∧exAll w' (fun b=>V.heap.size≤b∧b<w'.heap.size) (⟨xo,xi,⟨x1,x2,x3⟩,xn,xA,xc,xas⟩:RE)∧RE.er (⟨xo,xi,⟨x1,x2,x3⟩,xn,xA,xc,xas⟩:RE)=x∧SrcAt w' R v s'∧Chg (·=R) V w':=fun s x s' V he hs hV=>by
    exact zq89
  |guard_hyp zT5:Tg 2;have KV:∀s x s' V,rd s=(x,s')→SrcAt V R v s→Chg (·=R) w V→Calls prog f #[.pointer (some ⟨R,0,none⟩),.pointer (some ⟨LB,0,none⟩)] V fun e w'=>∃xo xi x1 x2 x3 xn xA xc xas,e=.returned (.agg #[.int .i64 xo,.int .i64 xi,.int .i64 x1,.int .i64 x2,.string x3,.string xn,.slice xA xas.length xc])∧exAll w' (fun b=>V.heap.size≤b∧b<w'.heap.size) (⟨xo,xi,⟨x1,x2,x3⟩,xn,xA,xc,xas⟩:RE)∧RE.er (⟨xo,xi,⟨x1,x2,x3⟩,xn,xA,xc,xas⟩:RE)=x∧SrcAt w' R v s'∧Chg (·=R) V w':=fun s x s' V he hs hV=>by
    exact zq89
  |guard_hyp zT5:Tg 1;have KV:∀s x s' V,rd s=(x,s')→SrcAt V R v s→Chg (·=R) w V→Calls prog f #[.pointer (some ⟨R,0,none⟩)] V fun e w'=>∃x1 x2 xA xn xc x3 x4 x5 x6 x7 x8 xv,e=.returned (.agg #[.int .i64 x1,.int .i64 x2,.slice xA xn xc,.int .i64 x3,.int .i64 x4,.int .i64 x5,.int .i64 x6,.int .i64 x7,.int .i64 x8])∧verIs w' (fun b=>V.heap.size≤b∧b<w'.heap.size) (⟨⟨x1,x2,xA,xn,xc,x3,x4,x5,x6,x7,x8⟩,xv⟩:VP)∧verEr (⟨⟨x1,x2,xA,xn,xc,x3,x4,x5,x6,x7,x8⟩,xv⟩:VP)=x∧SrcAt w' R v s'∧Chg (·=R) V w':=fun s x s' V he hs hV=>by
    have k:=hone s V hs hV
    rw [he] at k
    exact k.mono fun e w' ⟨r,a1,a2,a3,a4,a5⟩=>by
     obtain ⟨⟨x1,x2,xA,xn,xc,x3,x4,x5,x6,x7,x8⟩,xv⟩:=r
     exact ⟨_,_,_,_,_,_,_,_,_,_,_,_,a1,a2,a3,a4,a5⟩
  |have KV:∀s x s' V,rd s=(x,s')→SrcAt V R v s→Chg (·=R) w V→Calls prog f #[.pointer (some ⟨R,0,none⟩)] V fun e w'=>∃xtm xtb xnm xcolA xcolC xcols xkeyA xkeyC xkey xforA xforC xfors xchkA xchkC xchks x1 x2 x3 x4 x5 x6 x7 x8 x9,e=.returned (.agg #[.int .i64 xtm,.string xtb,.string xnm,.slice xcolA xcols.length xcolC,.slice xkeyA xkey.length xkeyC,.slice xforA xfors.length xforC,.slice xchkA xchks.length xchkC,.int .i64 x1,.string x2,.string x3,.string x4,.int .i64 x5,.bool x6,.int .i64 x7,.int .i64 x8,.string x9])∧enIs w' (fun b=>V.heap.size≤b∧b<w'.heap.size) (⟨xtm,xtb,⟨xnm,xcolA,xcolC,xcols,xkeyA,xkeyC,xkey,xforA,xforC,xfors,xchkA,xchkC,xchks⟩,⟨x1,x2,x3,x4,x5,x6,⟨x7,x8,x9⟩⟩⟩:REn)∧REn.er (⟨xtm,xtb,⟨xnm,xcolA,xcolC,xcols,xkeyA,xkeyC,xkey,xforA,xforC,xfors,xchkA,xchkC,xchks⟩,⟨x1,x2,x3,x4,x5,x6,⟨x7,x8,x9⟩⟩⟩:REn)=x∧SrcAt w' R v s'∧Chg (·=R) V w':=fun s x s' V he hs hV=>by
    have k:=hone s V hs hV
    rw [he] at k
    exact k.mono fun e w' ⟨r,a1,a2,a3,a4,a5⟩=>by
     obtain ⟨xtm,xtb,⟨xnm,xcolA,xcolC,xcols,xkeyA,xkeyC,xkey,xforA,xforC,xfors,xchkA,xchkC,xchks⟩,⟨x1,x2,x3,x4,x5,x6,⟨x7,x8,x9⟩⟩⟩:=r
     exact ⟨_,_,_,_,_,_,_,_,_,_,_,_,_,_,_,_,_,_,_,_,_,_,_,_,a1,a2,a3,a4,a5⟩
 clear h hv hone
 by_cases hneg:e1=0∧n<0
 case pos=>
  exact zq62
 have hn0:0≤n:=by
  exact zq96
 obtain ⟨N,rfl⟩:=Int.eq_ofNat_of_zero_le hn0
 have hbd:=decI_bd l s.1
 have hN:(N:Int)≤9223372036854775807:=by
  exact zq110
 have hk1:e1=0→0≤k1∧k1≤l.length:=fun he=>by
  exact zq99
 rw [show rdL l rd s=getS rd N (k1,e1) from by unfold rdL;rw [h1];exact if_neg hneg]
 obtain ⟨res,hres⟩:=eN0 (getS rd N (k1,e1))
 rw [←hres]
 have HRES:=hI0 hres
 have HNEG:=hI0 hneg
 have HK1:=hI0 hk1
 first
  |guard_hyp zT5:Tg 5;obtain ⟨i0,hi,hz0,hz1,hz2⟩:=info_parts info_Hld
  |guard_hyp zT5:Tg 4;obtain ⟨i0,hi,hz0,hz1,hz2⟩:=info_parts info_Del
  |guard_hyp zT5:Tg 1;obtain ⟨i0,hi,hz0,hz1,hz2⟩:=info_parts info_Ver
  |guard_hyp zT5:Tg 0;obtain ⟨i0,hi,hz0,hz1,hz2⟩:=info_parts info_Ent
  |obtain ⟨i0,hi,hz0,hz1,hz2⟩:=info_parts info_Exp
 have HI:=hI0 hi
 have HZ0:=hI0 hz0
 have HZ1:=hI0 hz1
 have HZ2:=hI0 hz2
 have KK:=hI0 KV
 have HMON:=hI0 hmon
 have HF_:=hI0 hf
 clear hf hi hz0 hz1 hz2 hres hneg hk1 hbd h1 KV hn0 hmon
 go_in
 go_wp2_with fail
 (with_reducible refine KI.mono ?_)
 rintro _ w1 ⟨rfl,hs1,hc1⟩
 have c2:=cW1 2 hs1 rfl
 have HS1:=hI0 hs1
 have HC1:=hI0 hc1
 clear hs1 hc1 KI
 have hcond:e1=0→¬(N:Int)<0:=fun _=>by omega
 have hN0:¬(N:Int)<0:=by omega
 go_wp2_with fail
 all_goals skip
 all_goals
  first
   |guard_hyp zT5:Tg 5;go_loopw [6,7] (fun o i wr=>∃(i':Nat) (Q:List Hld) (st:Int×Int),i=.int .i64 (i':Int)∧i'≤N∧Q.length=i'∧Hid (OwnE 109 6 Hld.enc wr w.heap.size o Q)∧Hid (∀p∈Q,isT wr (fun b=>w.heap.size≤b∧b<wr.heap.size∧some b≠Value.ownBlock o) p)∧Hid (SrcAt wr R v st)∧Hid (Chg (·=R) w wr)∧Hid ((Q.map id++(getS rd (N-i') st).1,(getS rd (N-i') st).2)=res)∧i'≤l.length+1∧(st.2=0→(i':Int)≤st.1∧st.1≤l.length)) (fun _ i _=>N-(intOf i).toNat)
   |guard_hyp zT5:Tg 4;go_loopw [6,7] (fun o i wr=>∃(i':Nat) (Q:List RDl) (st:Int×Int),i=.int .i64 (i':Int)∧i'≤N∧Q.length=i'∧Hid (OwnE 63 3 RDl.enc wr w.heap.size o Q)∧Hid (∀p∈Q,delIs wr (fun b=>w.heap.size≤b∧b<wr.heap.size∧some b≠Value.ownBlock o) p)∧Hid (SrcAt wr R v st)∧Hid (Chg (·=R) w wr)∧Hid ((Q.map RDl.er++(getS rd (N-i') st).1,(getS rd (N-i') st).2)=res)∧i'≤l.length+1∧(st.2=0→(i':Int)≤st.1∧st.1≤l.length)) (fun _ i _=>N-(intOf i).toNat)
   |guard_hyp zT5:Tg 1;go_loopw [6,7] (fun o i wr=>∃(i':Nat) (Q:List VP) (st:Int×Int),i=.int .i64 (i':Int)∧i'≤N∧Q.length=i'∧Hid (OwnE 167 9 encVP wr w.heap.size o Q)∧Hid (∀p∈Q,verIs wr (fun b=>w.heap.size≤b∧b<wr.heap.size∧some b≠Value.ownBlock o) p)∧Hid (SrcAt wr R v st)∧Hid (Chg (·=R) w wr)∧Hid ((Q.map verEr++(getS rd (N-i') st).1,(getS rd (N-i') st).2)=res)∧i'≤l.length+1∧(st.2=0→(i':Int)≤st.1∧st.1≤l.length)) (fun _ i _=>N-(intOf i).toNat)
   |guard_hyp zT5:Tg 0;go_loopw [6,7] (fun o i wr=>∃(i':Nat) (Q:List REn) (st:Int×Int),i=.int .i64 (i':Int)∧i'≤N∧Q.length=i'∧Hid (OwnE 83 16 REn.enc wr w.heap.size o Q)∧Hid (∀p∈Q,enIs wr (fun b=>w.heap.size≤b∧b<wr.heap.size∧some b≠Value.ownBlock o) p)∧Hid (SrcAt wr R v st)∧Hid (Chg (·=R) w wr)∧Hid ((Q.map REn.er++(getS rd (N-i') st).1,(getS rd (N-i') st).2)=res)∧i'≤l.length+1∧(st.2=0→(i':Int)≤st.1∧st.1≤l.length)) (fun _ i _=>N-(intOf i).toNat)
   |go_loopw [6,7] (fun o i wr=>∃(i':Nat) (Q:List RE) (st:Int×Int),i=.int .i64 (i':Int)∧i'≤N∧Q.length=i'∧Hid (OwnE 212 7 RE.enc wr w.heap.size o Q)∧Hid (∀p∈Q,exAll wr (fun b=>w.heap.size≤b∧b<wr.heap.size∧some b≠Value.ownBlock o) p)∧Hid (SrcAt wr R v st)∧Hid (Chg (·=R) w wr)∧Hid ((Q.map RE.er++(getS rd (N-i') st).1,(getS rd (N-i') st).2)=res)∧i'≤l.length+1∧(st.2=0→(i':Int)≤st.1∧st.1≤l.length)) (fun _ i _=>N-(intOf i).toNat)
  case atStart=>exact ⟨0,[],(k1,e1),rfl,Nat.zero_le _,rfl,hI0 (World.ownsRow_nil _ _ _ _),hI0 (fun p hp=>by cases hp),HS1,HC1,hI0 HRES.out.symm,by omega,HK1.out⟩
  obtain ⟨i',Q,⟨k,er⟩,rfl,hi',hQl,HO,HR,HS,HC,HG,hil,hik⟩:=hrel
  obtain ⟨wi,rfl⟩:=eN0 wr
  obtain ⟨Ao,co,rfl,o1,o2,o3⟩:=Rd.open_ (Rd.of_own HO.out)
  rw [hQl] at o1
  first
   |guard_hyp zT5:Tg 5;have HRd:Hid (RdE 6 Hld.enc wi (fun b=>w.heap.size≤b∧b<wi.heap.size) (.slice Ao i' co) Q∧∀p∈Q,isT wi (fun b=>w.heap.size≤b∧b<wi.heap.size) p):=hI0 zi7
   |guard_hyp zT5:Tg 4;have HRd:Hid (RdE 3 RDl.enc wi (fun b=>w.heap.size≤b∧b<wi.heap.size) (.slice Ao i' co) Q∧∀p∈Q,delIs wi (fun b=>w.heap.size≤b∧b<wi.heap.size) p):=hI0 (by rw [←hQl];exact ⟨(Rd.of_own HO.out),fun p hp=>isK_D.wide (HR.out p hp) fun b hb=>⟨hb.1,hb.2.1⟩⟩)
   |guard_hyp zT5:Tg 1;have HRd:Hid (RdE 9 encVP wi (fun b=>w.heap.size≤b∧b<wi.heap.size) (.slice Ao i' co) Q∧∀p∈Q,verIs wi (fun b=>w.heap.size≤b∧b<wi.heap.size) p):=hI0 (by rw [←hQl];exact ⟨(Rd.of_own HO.out),fun p hp=>isK_V.wide (HR.out p hp) fun b hb=>⟨hb.1,hb.2.1⟩⟩)
   |guard_hyp zT5:Tg 0;have HRd:Hid (RdE 16 REn.enc wi (fun b=>w.heap.size≤b∧b<wi.heap.size) (.slice Ao i' co) Q∧∀p∈Q,enIs wi (fun b=>w.heap.size≤b∧b<wi.heap.size) p):=hI0 (by rw [←hQl];exact ⟨(Rd.of_own HO.out),fun p hp=>isK_En.wide (HR.out p hp) fun b hb=>⟨hb.1,hb.2.1⟩⟩)
   |have HRd:Hid (RdE 7 RE.enc wi (fun b=>w.heap.size≤b∧b<wi.heap.size) (.slice Ao i' co) Q∧∀p∈Q,exAll wi (fun b=>w.heap.size≤b∧b<wi.heap.size) p):=hI0 zi30
  have c2:=cW1 2 HS.out rfl
  clear o3 o2
  by_cases hlt:i'<N
  case neg=>
   exact zq70 0
  have hil2:(i':Int)<(N:Int):=by omega
  by_cases her:er=0
  case neg=>
   first
    |guard_hyp zT5:Tg 5;have HF:Hid (res=(Q.map id,(k,er))):=hI0 zi8
    |guard_hyp zT5:Tg 4;have HF:Hid (res=(Q.map RDl.er,(k,er))):=hI0 zi8
    |guard_hyp zT5:Tg 1;have HF:Hid (res=(Q.map verEr,(k,er))):=hI0 zi8
    |guard_hyp zT5:Tg 0;have HF:Hid (res=(Q.map REn.er,(k,er))):=hI0 zi8
    |have HF:Hid (res=(Q.map RE.er,(k,er))):=hI0 zi8
   go_wp2_with fail
   go_ret
   rw [HF.out]
   exact ⟨_,Q,rfl,HRd.out.1,HRd.out.2,rfl,HS.out,HC.out⟩
  subst her
  have hik2:=hik rfl
  simp only at hik2
  rcases hx:rd (k,0) with ⟨x,st'⟩
  have hst:st'.2=0→(i':Int)+1≤st'.1∧st'.1≤l.length:=fun he=>by
   exact zq113
  have KV:=KK.out (k,0) x st' wi hx HS.out HC.out
  have hgs:getS rd (N-i') (k,0)=(x::(getS rd (N-(i'+1)) st').1,(getS rd (N-(i'+1)) st').2):=by
   rw [show N-i'=(N-(i'+1))+1 by omega]
   exact getS_step rfl hx
  have HGS:=hI0 hgs
  have HST:=hI0 hst
  have HN:=hI0 (And.intro hil hik2)
  clear hgs hst hx hik hik2
  have hent:∀(args:Array Value) (V:World),(callFunc f args).run prog V=.ok (.enter f args) V:=HF_.out
  go_wp2_with fail
  (with_reducible refine KV.mono ?_)
  first
   |guard_hyp zT5:Tg 5;rintro _ w2 ⟨x1,x2,x3,x4,x5,x6,rfl,hX,hxe,hs2,hc2⟩
    skip
   |guard_hyp zT5:Tg 4;rintro _ w2 ⟨xn,xcA,xcc,xcl,xoA,xoc,xops,rfl,hX,hxe,hs2,hc2⟩
    skip
   |guard_hyp zT5:Tg 1;rintro _ w2 ⟨x1,x2,xA,xn,xc,x3,x4,x5,x6,x7,x8,xv,rfl,hX,hxe,hs2,hc2⟩
    skip
   |guard_hyp zT5:Tg 0;rintro _ w2 ⟨xtm,xtb,xnm,xcolA,xcolC,xcols,xkeyA,xkeyC,xkey,xforA,xforC,xfors,xchkA,xchkC,xchks,x1,x2,x3,x4,x5,x6,x7,x8,x9,rfl,hX,hxe,hs2,hc2⟩
    skip
   |rintro _ w2 ⟨xo,xi,x1,x2,x3,xn,xA,xc,xas,rfl,hX,hxe,hs2,hc2⟩
  have hz2:=hc2.size
  have HX:=hI0 hX
  have HXE:=hI0 hxe
  have HS2:=hI0 hs2
  have HC2:=hI0 hc2
  clear hX hxe hs2 hc2 KV hent
  have hwi:w.heap.size≤wi.heap.size:=HC.out.size
  first
   |guard_hyp zT5:Tg 5;have HOA:=hI0 (getA (O:=(.cells #[.string x1,.string x2,.int .i64 x3,.int .i64 x4,.int .i64 x5,.int .i64 x6] 109)) hQl hR HO.out HC2.out)
    have HNEW:=hI0 (Rd.new' w2 w2.heap.size rfl [.string x1,.string x2,.int .i64 x3,.int .i64 x4,.int .i64 x5,.int .i64 x6] 109 6 1 rfl (by decide))
   |guard_hyp zT5:Tg 4;have HOA:=hI0 (getA (O:=(.cells #[.string xn,.slice xcA xcl.length xcc,.slice xoA xops.length xoc] 63)) hQl hR HO.out HC2.out)
    have HNEW:=hI0 (Rd.new' w2 w2.heap.size rfl [.string xn,.slice xcA xcl.length xcc,.slice xoA xops.length xoc] 63 3 1 rfl (by decide))
   |guard_hyp zT5:Tg 1;have HOA:=hI0 (getA (O:=(.cells #[.int .i64 x1,.int .i64 x2,.slice xA xn xc,.int .i64 x3,.int .i64 x4,.int .i64 x5,.int .i64 x6,.int .i64 x7,.int .i64 x8] 167)) hQl hR HO.out HC2.out)
    have HNEW:=hI0 (Rd.new' w2 w2.heap.size rfl [.int .i64 x1,.int .i64 x2,.slice xA xn xc,.int .i64 x3,.int .i64 x4,.int .i64 x5,.int .i64 x6,.int .i64 x7,.int .i64 x8] 167 9 1 rfl (by decide))
   |guard_hyp zT5:Tg 0;have HOA:=hI0 (getA (O:=(.cells #[.int .i64 xtm,.string xtb,.string xnm,.slice xcolA xcols.length xcolC,.slice xkeyA xkey.length xkeyC,.slice xforA xfors.length xforC,.slice xchkA xchks.length xchkC,.int .i64 x1,.string x2,.string x3,.string x4,.int .i64 x5,.bool x6,.int .i64 x7,.int .i64 x8,.string x9] 83)) hQl hR HO.out HC2.out)
    have HNEW:=hI0 (Rd.new' w2 w2.heap.size rfl [.int .i64 xtm,.string xtb,.string xnm,.slice xcolA xcols.length xcolC,.slice xkeyA xkey.length xkeyC,.slice xforA xfors.length xforC,.slice xchkA xchks.length xchkC,.int .i64 x1,.string x2,.string x3,.string x4,.int .i64 x5,.bool x6,.int .i64 x7,.int .i64 x8,.string x9] 83 16 1 rfl (by decide))
   |have HOA:=hI0 (getA (O:=(.cells #[.int .i64 xo,.int .i64 xi,.int .i64 x1,.int .i64 x2,.string x3,.string xn,.slice xA xas.length xc] 212)) hQl hR HO.out HC2.out)
    have HNEW:=hI0 (Rd.new' w2 w2.heap.size rfl [.int .i64 xo,.int .i64 xi,.int .i64 x1,.int .i64 x2,.string x3,.string xn,.slice xA xas.length xc] 212 7 1 rfl (by decide))
  have hi5:i'≤10000000001:=by have:=HN.out.1;omega
  first
   |guard_hyp zT5:Tg 5;go_wp2_with (at_builtin;refine wpList_append_app (w2.alloc (.cells #[.string x1,.string x2,.int .i64 x3,.int .i64 x4,.int .i64 x5,.int .i64 x6] 109)) rfl (.tmp 39) (.tmp 43) 24 rfl w.heap.size 109 i0 _ 6 64 underlying24 HI.out HZ0.out HZ1.out HZ2.out rfl (by omega) (.slice Ao i' co) i' (Q.flatMap Hld.enc) rfl (.inl HOA.out) (·=w2.heap.size) _ 1 [.string x1,.string x2,.int .i64 x3,.int .i64 x4,.int .i64 x5,.int .i64 x6] rfl HNEW.out (fun u hu=>by simp only [List.mem_cons,List.not_mem_nil,or_false] at hu;rcases hu with rfl|rfl|rfl|rfl|rfl|rfl<;>rfl) (by unfold maxLen;omega) (by omega) (by simp;omega) ?_;intro v3 w3 _ hO3 hg3 hb3 hv3)
    skip
   |guard_hyp zT5:Tg 4;go_wp2_with (at_builtin;refine wpList_append_app (w2.alloc (.cells #[.string xn,.slice xcA xcl.length xcc,.slice xoA xops.length xoc] 63)) rfl (.tmp 39) (.tmp 43) 23 rfl w.heap.size 63 i0 _ 3 64 underlying23 HI.out HZ0.out HZ1.out HZ2.out rfl (by omega) (.slice Ao i' co) i' (Q.flatMap RDl.enc) rfl (.inl HOA.out) (·=w2.heap.size) _ 1 [.string xn,.slice xcA xcl.length xcc,.slice xoA xops.length xoc] rfl HNEW.out (fun u hu=>by simp only [List.mem_cons,List.not_mem_nil,or_false] at hu;rcases hu with rfl|rfl|rfl<;>rfl) (by unfold maxLen;omega) (by omega) (by simp;omega) ?_;intro v3 w3 _ hO3 hg3 hb3 hv3)
    skip
   |guard_hyp zT5:Tg 1;go_wp2_with (at_builtin;refine wpList_append_app (w2.alloc (.cells #[.int .i64 x1,.int .i64 x2,.slice xA xn xc,.int .i64 x3,.int .i64 x4,.int .i64 x5,.int .i64 x6,.int .i64 x7,.int .i64 x8] 167)) rfl (.tmp 39) (.tmp 43) 55 rfl w.heap.size 167 i0 _ 9 88 underlying55 HI.out HZ0.out HZ1.out HZ2.out rfl (by omega) (.slice Ao i' co) i' (Q.flatMap encVP) rfl (.inl HOA.out) (·=w2.heap.size) _ 1 [.int .i64 x1,.int .i64 x2,.slice xA xn xc,.int .i64 x3,.int .i64 x4,.int .i64 x5,.int .i64 x6,.int .i64 x7,.int .i64 x8] rfl HNEW.out (fun u hu=>by simp only [List.mem_cons,List.not_mem_nil,or_false] at hu;rcases hu with rfl|rfl|rfl|rfl|rfl|rfl|rfl|rfl|rfl<;>rfl) (by unfold maxLen;omega) (by omega) (by simp;omega) ?_;intro v3 w3 _ hO3 hg3 hb3 hv3)
    skip
   |guard_hyp zT5:Tg 0;go_wp2_with (at_builtin;refine wpList_append_app (w2.alloc (.cells #[.int .i64 xtm,.string xtb,.string xnm,.slice xcolA xcols.length xcolC,.slice xkeyA xkey.length xkeyC,.slice xforA xfors.length xforC,.slice xchkA xchks.length xchkC,.int .i64 x1,.string x2,.string x3,.string x4,.int .i64 x5,.bool x6,.int .i64 x7,.int .i64 x8,.string x9] 83)) rfl (.tmp 39) (.tmp 43) 22 rfl w.heap.size 83 i0 _ 16 240 underlying22 HI.out HZ0.out HZ1.out HZ2.out rfl (by omega) (.slice Ao i' co) i' (Q.flatMap REn.enc) rfl (.inl HOA.out) (·=w2.heap.size) _ 1 [.int .i64 xtm,.string xtb,.string xnm,.slice xcolA xcols.length xcolC,.slice xkeyA xkey.length xkeyC,.slice xforA xfors.length xforC,.slice xchkA xchks.length xchkC,.int .i64 x1,.string x2,.string x3,.string x4,.int .i64 x5,.bool x6,.int .i64 x7,.int .i64 x8,.string x9] rfl HNEW.out (fun u hu=>by simp only [List.mem_cons,List.not_mem_nil,or_false] at hu;rcases hu with rfl|rfl|rfl|rfl|rfl|rfl|rfl|rfl|rfl|rfl|rfl|rfl|rfl|rfl|rfl|rfl<;>rfl) (by unfold maxLen;omega) (by omega) (by simp;omega) ?_;intro v3 w3 _ hO3 hg3 hb3 hv3)
    skip
   |go_wp2_with (at_builtin;refine wpList_append_app (w2.alloc (.cells #[.int .i64 xo,.int .i64 xi,.int .i64 x1,.int .i64 x2,.string x3,.string xn,.slice xA xas.length xc] 212)) rfl (.tmp 39) (.tmp 43) 73 rfl w.heap.size 212 i0 _ 7 88 underlying73 HI.out HZ0.out HZ1.out HZ2.out rfl (by omega) (.slice Ao i' co) i' (Q.flatMap RE.enc) rfl (.inl HOA.out) (·=w2.heap.size) _ 1 [.int .i64 xo,.int .i64 xi,.int .i64 x1,.int .i64 x2,.string x3,.string xn,.slice xA xas.length xc] rfl HNEW.out (fun u hu=>by simp only [List.mem_cons,List.not_mem_nil,or_false] at hu;rcases hu with rfl|rfl|rfl|rfl|rfl|rfl|rfl<;>rfl) (by unfold maxLen;omega) (by omega) (by simp;omega) ?_;intro v3 w3 _ hO3 hg3 hb3 hv3)
  all_goals skip
  first
   |guard_hyp zT5:Tg 5;have HB4:=hI0 (getB (x:=(⟨x1,x2,x3,x4,x5,x6⟩:Hld)) isK_T hQl hR HO.out HR.out HC.out HX.out HS2.out HC2.out (hO3 (.inl (by omega))) hg3 hv3)
   |guard_hyp zT5:Tg 4;have HB4:=hI0 (getB (x:=(⟨xn,xcA,xcc,xcl,xoA,xoc,xops⟩:RDl)) isK_D hQl hR HO.out HR.out HC.out HX.out HS2.out HC2.out (hO3 (.inl (by omega))) hg3 hv3)
   |guard_hyp zT5:Tg 1;have HB4:=hI0 (getB (x:=(⟨⟨x1,x2,xA,xn,xc,x3,x4,x5,x6,x7,x8⟩,xv⟩:VP)) isK_V hQl hR HO.out HR.out HC.out HX.out HS2.out HC2.out (hO3 (.inl (by omega))) hg3 hv3)
   |guard_hyp zT5:Tg 0;have HB4:=hI0 (getB (x:=(⟨xtm,xtb,⟨xnm,xcolA,xcolC,xcols,xkeyA,xkeyC,xkey,xforA,xforC,xfors,xchkA,xchkC,xchks⟩,⟨x1,x2,x3,x4,x5,x6,⟨x7,x8,x9⟩⟩⟩:REn)) isK_En hQl hR HO.out HR.out HC.out HX.out HS2.out HC2.out (hO3 (.inl (by omega))) hg3 hv3)
   |have HB4:=hI0 (getB (x:=(⟨xo,xi,⟨x1,x2,x3⟩,xn,xA,xc,xas⟩:RE)) isK_X hQl hR HO.out HR.out HC.out HX.out HS2.out HC2.out (hO3 (.inl (by omega))) hg3 hv3)
  clear hO3 hg3 hb3 hv3
  go_wp2_with fail
  go_roundw
  case rel=>
   first
    |guard_hyp zT5:Tg 5;refine ⟨i'+1,Q++[(⟨x1,x2,x3,x4,x5,x6⟩:Hld)],st',by go_num,by omega,by simp [hQl],hI0 HB4.out.1,hI0 HB4.out.2.1,hI0 HB4.out.2.2.1,hI0 HB4.out.2.2.2,hI0 ?_,?_,?_⟩
    |guard_hyp zT5:Tg 4;refine ⟨i'+1,Q++[(⟨xn,xcA,xcc,xcl,xoA,xoc,xops⟩:RDl)],st',by go_num,by omega,by simp [hQl],hI0 HB4.out.1,hI0 HB4.out.2.1,hI0 HB4.out.2.2.1,hI0 HB4.out.2.2.2,hI0 ?_,?_,?_⟩
    |guard_hyp zT5:Tg 1;refine ⟨i'+1,Q++[(⟨⟨x1,x2,xA,xn,xc,x3,x4,x5,x6,x7,x8⟩,xv⟩:VP)],st',by go_num,by omega,by simp [hQl],hI0 HB4.out.1,hI0 HB4.out.2.1,hI0 HB4.out.2.2.1,hI0 HB4.out.2.2.2,hI0 ?_,?_,?_⟩
    |guard_hyp zT5:Tg 0;refine ⟨i'+1,Q++[(⟨xtm,xtb,⟨xnm,xcolA,xcolC,xcols,xkeyA,xkeyC,xkey,xforA,xforC,xfors,xchkA,xchkC,xchks⟩,⟨x1,x2,x3,x4,x5,x6,⟨x7,x8,x9⟩⟩⟩:REn)],st',by go_num,by omega,by simp [hQl],hI0 HB4.out.1,hI0 HB4.out.2.1,hI0 HB4.out.2.2.1,hI0 HB4.out.2.2.2,hI0 ?_,?_,?_⟩
    |refine ⟨i'+1,Q++[(⟨xo,xi,⟨x1,x2,x3⟩,xn,xA,xc,xas⟩:RE)],st',by go_num,by omega,by simp [hQl],hI0 HB4.out.1,hI0 HB4.out.2.1,hI0 HB4.out.2.2.1,hI0 HB4.out.2.2.2,hI0 ?_,?_,?_⟩
   ·rw [←HG.out,HGS.out,List.map_append,List.map_singleton,HXE.out];simp
   ·have:=HN.out;omega
   ·intro he;have:=HST.out he;omega
  case measure=>simp [intOf];omega) : P := h ⟨⟩
theorem zq49 {P:Prop} (i:Nat) (h:Tg i→P:=by
 intro zT49
 first
  |done
  |guard_hyp zT49:Tg 1
  |refine runF 13 (some 3) (v:=.pointer (some ⟨W.drew.heap.size,0,none⟩)) (w':=W.drew.alloc (.cells #[.int .i64 0,.int .i64 0,.string ⟨#[]⟩] 79)) rfl rfl (by rfl) ?_ ?_
   ·go_simp<;>with_reducible rfl
   obtain ⟨T,hTe⟩:=eN0 W.drew.heap.size
   rw [←hTe]
   obtain ⟨x3,hx3⟩:=eN0 (W.drew.alloc (.cells #[.int .i64 0,.int .i64 0,.string ⟨#[]⟩] 79))
   rw [←hx3]
   have hB1:Bl W x3:=by rw [hx3];exact hB0.alloc hB0.size _
   have hT:x3.heap[T]? =some (.cells #[.int .i64 0,.int .i64 0,.string ⟨#[]⟩] 79 (0,0)):=by rw [hx3,hTe];exact heap_alloc_new _ _
   have hTl:T<x3.heap.size:=by rw [hx3,hTe];simp
   have hTW:W.heap.size≤T:=by rw [hTe];exact hB0.size
   clear hx3 hTe
   refine rA0 hB1 ?_
   clear zh
   intro zh
   simp only [aP]
   refine fork1 8 (by kernel_rfl) ?_
 refine fC 8 21 ?_
 first
  |guard_hyp zT49:Tg 1;(with_reducible refine (KI _ hB0).mono ?_)
  |(with_reducible refine (KI _ hB1).mono ?_)
 rintro _ w3 ⟨rfl,hb3'⟩
 first
  |guard_hyp zT49:Tg 1;have hB3:Bl W w3:=hB0.trans (hb3'.mono hB0.size)
   refine ⟨_,rfl,rA0 hB3 ?_⟩
  |have hB3:Bl W w3:=hB1.trans (hb3'.mono hB1.size)
   have hT3:w3.heap[T]? =some (.cells #[.int .i64 0,.int .i64 0,.string ⟨#[]⟩] 79 (0,0)):=(hb3'.block T hTl).trans hT
   obtain ⟨X,hX⟩:=eN0 w3
   rw [←hX]
   have hBX:Bl W X:=by rw [hX];exact hB3
   have hTX:X.heap[T]? =some (.cells #[.int .i64 0,.int .i64 0,.string ⟨#[]⟩] 79 (0,0)):=by rw [hX];exact hT3
   clear hX hB3 hT3 hB1 hT
   refine ⟨_,rfl,rA0 hBX ?_⟩
 clear zh
 intro zh
 simp only [aP]
 refine tT 9 12 ?_
 refine tT 10 22 ?_
 refine tT 11 23 ?_
 refine tT 12 24 ?_
 first
  |done
  |guard_hyp zT49:Tg 1;refine fork1 13 (by kernel_rfl) ?_
   refine runF 13 (some 3) (v:=.pointer (some ⟨w3.heap.size,0,none⟩)) (w':=w3.alloc (.cells #[.int .i64 0,.int .i64 0,.string ⟨#[]⟩] 79)) rfl rfl (by rfl) ?_ ?_
   ·go_simp<;>with_reducible rfl
   obtain ⟨T,hTe⟩:=eN0 w3.heap.size
   rw [←hTe]
   obtain ⟨X,hX⟩:=eN0 (w3.alloc (.cells #[.int .i64 0,.int .i64 0,.string ⟨#[]⟩] 79))
   rw [←hX]
   have hBX:Bl W X:=by rw [hX];exact hB3.alloc hB3.size _
   have hTX:X.heap[T]? =some (.cells #[.int .i64 0,.int .i64 0,.string ⟨#[]⟩] 79 (0,0)):=by rw [hX,hTe];exact heap_alloc_new _ _
   have hTl:T<X.heap.size:=by rw [hX,hTe];simp
   have hTW:W.heap.size≤T:=by rw [hTe];exact hB3.size
   clear hX hTe
   refine rA0 hBX ?_
   clear zh
   intro zh
   simp only [aP]
  |skip
 refine fork1 14 (by kernel_rfl) ?_
 refine skipRunF 14 none (w':=(((X.setCell ⟨T,0,none⟩ (.int .i64 f)).setCell ⟨T,1,none⟩ (.int .i64 t)).setCell ⟨T,2,none⟩ (.string u))) rfl rfl (by rfl) ?_ ?_
 ·have q0:X.cell? ⟨T,0,none⟩=some (.int .i64 0):=cW0 X T 0 _ _ _ hTX;have q1:X.cell? ⟨T,1,none⟩=some (.int .i64 0):=cW0 X T 1 _ _ _ hTX;have q2:X.cell? ⟨T,2,none⟩=some (.string ⟨#[]⟩):=cW0 X T 2 _ _ _ hTX;have p0:X.frozen? ⟨T,0,none⟩=false:=fW0 X T 0 _ _ hTX;have p1:X.frozen? ⟨T,1,none⟩=false:=fW0 X T 1 _ _ hTX;have p2:X.frozen? ⟨T,2,none⟩=false:=fW0 X T 2 _ _ hTX;go_simp<;>with_reducible rfl
 obtain ⟨Y,hY⟩:=eN0 ((((X.setCell ⟨T,0,none⟩ (.int .i64 f)).setCell ⟨T,1,none⟩ (.int .i64 t)).setCell ⟨T,2,none⟩ (.string u)))
 rw [←hY]
 have hBY:Bl W Y:=by rw [hY];exact ((hBX.setCell (p:=⟨T,0,none⟩) hTW _).setCell (p:=⟨T,1,none⟩) hTW _).setCell (p:=⟨T,2,none⟩) hTW _
 have hTY:Y.heap[T]? =some (.cells #[.int .i64 f,.int .i64 t,.string u] 79 (0,0)):=by rw [hY];exact three_set hTX _ _ _
 clear hY
 refine rA0 hBY ?_
 clear zh
 intro zh
 simp only [Act.put]
 refine tT 15 4 ?_
 refine fork1 16 (by kernel_rfl) ?_
 refine runF 16 (some 5) (v:=?_) (w':=?_) rfl rfl (by rfl) ?_ ?_
 rotate_left 2
 ·go_simp<;>first|with_reducible rfl|(constructor<;>with_reducible rfl)
 refine ⟨fun h=>absurd rfl h,?_⟩
 clear zh
 simp only [aP]
 refine doneT (by kernel_rfl) ?_ _
 refine NoPanic.normal ?_
 go_wp2_with fail
 (with_reducible refine (HS.out _ (SrcAt.below HW.out hBY)).mono ?_)
 rintro _ w2 ⟨⟨b2,rfl⟩,hs2,hc2⟩
 have hlY:T<Y.heap.size:=(Array.getElem?_eq_some_iff.1 hTY).1
 have hT2:w2.heap[T]? =some (.cells #[.int .i64 f,.int .i64 t,.string u] 79 (0,0)):=(hc2.block T hlY (by omega)).trans hTY
 have hsY:=hBY.size
 have hQ2:w2.heap[w.heap.size]? =some (.cells #[.int .i64 0,.int .i64 0,.string ⟨#[]⟩] 79 (0,0)):=(hc2.block w.heap.size (by omega) (by omega)).trans ((hBY.block w.heap.size (by omega)).trans HQ.out)
 obtain ⟨q0,q1,q2⟩:=cX3 hT2
 obtain ⟨p0,p1,p2⟩:=cX3 hQ2
 have g0:w2.frozen? ⟨w.heap.size,0,none⟩=false:=fW0 w2 _ 0 _ _ hQ2
 have g1:w2.frozen? ⟨w.heap.size,1,none⟩=false:=fW0 w2 _ 1 _ _ hQ2
 have g2:w2.frozen? ⟨w.heap.size,2,none⟩=false:=fW0 w2 _ 2 _ _ hQ2
 have HS2:=hI0 hs2
 have HC2:=hI0 hc2
 have HBY:=hI0 hBY
 have HQ3:=hI0 (three_set hQ2 (.int .i64 f) (.int .i64 t) (.string u))
 clear hs2 hc2 hBY hT2 hQ2 hTY
 go_wp2_with fail
 have r0:(((w2.setCell ⟨w.heap.size,0,none⟩ (.int .i64 f)).setCell ⟨w.heap.size,1,none⟩ (.int .i64 t)).setCell ⟨w.heap.size,2,none⟩ (.string u)).cell? ⟨w.heap.size,0,none⟩=some (.int .i64 f):=cW0 (((w2.setCell ⟨w.heap.size,0,none⟩ (.int .i64 f)).setCell ⟨w.heap.size,1,none⟩ (.int .i64 t)).setCell ⟨w.heap.size,2,none⟩ (.string u)) _ 0 _ _ _ HQ3.out
 have r1:(((w2.setCell ⟨w.heap.size,0,none⟩ (.int .i64 f)).setCell ⟨w.heap.size,1,none⟩ (.int .i64 t)).setCell ⟨w.heap.size,2,none⟩ (.string u)).cell? ⟨w.heap.size,1,none⟩=some (.int .i64 t):=cW0 (((w2.setCell ⟨w.heap.size,0,none⟩ (.int .i64 f)).setCell ⟨w.heap.size,1,none⟩ (.int .i64 t)).setCell ⟨w.heap.size,2,none⟩ (.string u)) _ 1 _ _ _ HQ3.out
 have r2:(((w2.setCell ⟨w.heap.size,0,none⟩ (.int .i64 f)).setCell ⟨w.heap.size,1,none⟩ (.int .i64 t)).setCell ⟨w.heap.size,2,none⟩ (.string u)).cell? ⟨w.heap.size,2,none⟩=some (.string u):=cW0 (((w2.setCell ⟨w.heap.size,0,none⟩ (.int .i64 f)).setCell ⟨w.heap.size,1,none⟩ (.int .i64 t)).setCell ⟨w.heap.size,2,none⟩ (.string u)) _ 2 _ _ _ HQ3.out
 refine bodyPost_ret (v:=.agg #[.int .i64 f,.int .i64 t,.string u]) zi38 rfl ⟨rfl,?_,?_⟩
 ·exact SrcAt.other (p:=⟨w.heap.size,2,none⟩) (SrcAt.other (p:=⟨w.heap.size,1,none⟩) (SrcAt.other (p:=⟨w.heap.size,0,none⟩) HS2.out zi11) zi11) zi11
 ·exact ((((Chg.of_below (HbW.out.trans (HBY.out.mono (by omega))) _).trans HC2.out (fun _ _ h=>h)).setCell (p:=⟨w.heap.size,0,none⟩) (.inr (Nat.le_refl _)) _).setCell (p:=⟨w.heap.size,1,none⟩) (.inr (Nat.le_refl _)) _).setCell (p:=⟨w.heap.size,2,none⟩) (.inr (Nat.le_refl _)) _) : P := h ⟨⟩
theorem zq89 {P:Prop} (h:P:=by
 have k:=hone s V hs hV
 rw [he] at k
 exact k.mono fun e w' ⟨r,a1,a2,a3,a4,a5⟩=>by
  obtain ⟨xo,xi,⟨x1,x2,x3⟩,xn,xA,xc,xas⟩:=r
  exact ⟨_,_,_,_,_,_,_,_,_,a1,a2,a3,a4,a5⟩) : P := h
theorem zi30 {P:Prop} (h:P:=by rw [←hQl];exact ⟨(Rd.of_own HO.out),fun p hp=>isK_X.wide (HR.out p hp) fun b hb=>⟨hb.1,hb.2.1⟩⟩):P:=h
theorem zi38 {P:Prop} (h:P:=by simp [results,results164,go_sem,r0,r1,r2]):P:=h
theorem info_Exp:(prog.info? 212).map (fun i=>(i.zero,i.size,i.bytes))=some (some (.agg #[.int .i64 0,.int .i64 0,.int .i64 0,.int .i64 0,.string ⟨#[]⟩,.string ⟨#[]⟩,.slice none 0 0]),7,88):=by kernel_rfl
theorem getExp_any (R:Nat) (v:Value) (l:List UInt8) (rd:Int×Int→RE×Int×Int) (f:FuncId) (hf:EntF f) (s:Int×Int) (w:World) (h:SrcAt w R v s) (hv:RdB w (·<R) v l) (hl:l.length≤10000000000) (hmon:Mon l rd)
  (hone:∀s V,SrcAt V R v s→Chg (·=R) w V→Calls prog f #[.pointer (some ⟨R,0,none⟩)] V (OneE (fun x:RE=>.agg x.enc.toArray) exAll RE.er R v (rd s) V)):
  Calls prog 217 #[.pointer (some ⟨R,0,none⟩),.func (.func f) #[] #[]] w (GetE 7 RE.enc exAll RE.er R v (rdL l rd s) w):=by
 exact zq5 3
theorem getExpC_any (R LB:Nat) (v:Value) (l:List UInt8) (rd:Int×Int→RE×Int×Int) (f:FuncId) (hf:EntF f) (s:Int×Int) (w:World) (h:SrcAt w R v s) (hv:RdB w (·<R) v l) (hl:l.length≤10000000000) (hmon:Mon l rd)
  (hone:∀s V,SrcAt V R v s→Chg (·=R) w V→Calls prog f #[.pointer (some ⟨R,0,none⟩),.pointer (some ⟨LB,0,none⟩)] V (OneE (fun x:RE=>.agg x.enc.toArray) exAll RE.er R v (rd s) V)):
  Calls prog 217 #[.pointer (some ⟨R,0,none⟩),.func (.func f) #[] #[.pointer (some ⟨LB,0,none⟩)]] w (GetE 7 RE.enc exAll RE.er R v (rdL l rd s) w):=by
 exact zq5 2
theorem info_Fct:(prog.info? 68).map (fun i=>(i.zero,i.size,i.bytes))=some (some (.agg #[.slice none 0 0,.int .i64 0,.int .i64 0]),3,40):=by kernel_rfl
theorem getFct_any (R:Nat) (v:Value) (l:List UInt8) (rd:Int×Int→RF×Int×Int) (f:FuncId) (hf:EntF f) (s:Int×Int) (w:World) (h:SrcAt w R v s) (hv:RdB w (·<R) v l) (hl:l.length≤10000000000) (hmon:Mon l rd)
  (hone:∀s V,SrcAt V R v s→Chg (·=R) w V→Calls prog f #[.pointer (some ⟨R,0,none⟩)] V (OneE (fun x:RF=>.agg x.enc.toArray) RF.is RF.er R v (rd s) V)):
  Calls prog 167 #[.pointer (some ⟨R,0,none⟩),.func (.func f) #[] #[]] w (GetE 3 RF.enc RF.is RF.er R v (rdL l rd s) w):=by
 exact zq9 0
theorem info_Hld:(prog.info? 109).map (fun i=>(i.zero,i.size,i.bytes))=some (some (.agg #[.string ⟨#[]⟩,.string ⟨#[]⟩,.int .i64 0,.int .i64 0,.int .i64 0,.int .i64 0]),6,64):=by kernel_rfl
theorem getHld_any (R:Nat) (v:Value) (l:List UInt8) (rd:Int×Int→Hld×Int×Int) (f:FuncId) (hf:EntF f) (s:Int×Int) (w:World) (h:SrcAt w R v s) (hv:RdB w (·<R) v l) (hl:l.length≤10000000000) (hmon:Mon l rd)
  (hone:∀s V,SrcAt V R v s→Chg (·=R) w V→Calls prog f #[.pointer (some ⟨R,0,none⟩)] V (OneE (fun x:Hld=>.agg x.enc.toArray) isT id R v (rd s) V)):
  Calls prog 65 #[.pointer (some ⟨R,0,none⟩),.func (.func f) #[] #[]] w (GetE 6 Hld.enc isT id R v (rdL l rd s) w):=by
 exact zq5 5
theorem info_Str:(prog.info? 9).map (fun i=>(i.zero,i.size,i.bytes))=some (some (.string ⟨#[]⟩),1,16):=by kernel_rfl
theorem getStr_any (R:Nat) (v:Value) (l:List UInt8) (rd:Int×Int→ByteArray×Int×Int) (f:FuncId) (hf:EntF f) (s:Int×Int) (w:World) (h:SrcAt w R v s) (hv:RdB w (·<R) v l) (hl:l.length≤10000000000) (hmon:Mon l rd)
  (hone:∀s V,SrcAt V R v s→Chg (·=R) w V→Calls prog f #[.pointer (some ⟨R,0,none⟩)] V (OneE (fun x:ByteArray=>.string x) isT id R v (rd s) V)):
  Calls prog 67 #[.pointer (some ⟨R,0,none⟩),.func (.func f) #[] #[]] w (GetE 1 strE isT id R v (rdL l rd s) w):=by
 exact zq11 0
theorem info_Pol:(prog.info? 117).map (fun i=>(i.zero,i.size,i.bytes))=some (some (.agg #[.string ⟨#[]⟩,.int .i64 0]),2,24):=by kernel_rfl
theorem getPol_any (R:Nat) (v:Value) (l:List UInt8) (rd:Int×Int→Pol×Int×Int) (f:FuncId) (hf:EntF f) (s:Int×Int) (w:World) (h:SrcAt w R v s) (hv:RdB w (·<R) v l) (hl:l.length≤10000000000) (hmon:Mon l rd)
  (hone:∀s V,SrcAt V R v s→Chg (·=R) w V→Calls prog f #[.pointer (some ⟨R,0,none⟩)] V (OneE (fun x:Pol=>.agg x.enc.toArray) isT id R v (rd s) V)):
  Calls prog 69 #[.pointer (some ⟨R,0,none⟩),.func (.func f) #[] #[]] w (GetE 2 Pol.enc isT id R v (rdL l rd s) w):=by
 exact zq9 6
theorem info_Hor:(prog.info? 122).map (fun i=>(i.zero,i.size,i.bytes))=some (some (.agg #[.string ⟨#[]⟩,.int .i64 0]),2,24):=by kernel_rfl
theorem getHor_any (R:Nat) (v:Value) (l:List UInt8) (rd:Int×Int→Hor×Int×Int) (f:FuncId) (hf:EntF f) (s:Int×Int) (w:World) (h:SrcAt w R v s) (hv:RdB w (·<R) v l) (hl:l.length≤10000000000) (hmon:Mon l rd)
  (hone:∀s V,SrcAt V R v s→Chg (·=R) w V→Calls prog f #[.pointer (some ⟨R,0,none⟩)] V (OneE (fun x:Hor=>.agg x.enc.toArray) isT id R v (rd s) V)):
  Calls prog 71 #[.pointer (some ⟨R,0,none⟩),.func (.func f) #[] #[]] w (GetE 2 Hor.enc isT id R v (rdL l rd s) w):=by
 exact zq9 4
theorem srcText_any (R:Nat) (v:Value) (l:List UInt8) (s:Int×Int) (w:World) (h:SrcAt w R v s) (hv:RdB w (·<R) v l):
  Calls prog 122 #[.pointer (some ⟨R,0,none⟩)] w fun x w'=>x=.returned (.string (rdT l s).1)∧SrcAt w' R v (rdT l s).2∧Chg (·=R) w w':=by
 exact zq26 1
theorem three_set {w:World} {T:Nat} {a b c:Value} {e:TypeId} (h:w.heap[T]? =some (.cells #[a,b,c] e (0,0))) (x y z:Value):(((w.setCell ⟨T,0,none⟩ x).setCell ⟨T,1,none⟩ y).setCell ⟨T,2,none⟩ z).heap[T]? =some (.cells #[x,y,z] e (0,0)):=by
 have h1:=heap_setCell_same w T 0 _ _ x h
 have h2:=heap_setCell_same _ T 1 _ _ y h1
 have h3:=heap_setCell_same _ T 2 _ _ z h2
 simpa using h3
theorem srcValue_any (R:Nat) (v:Value) (l:List UInt8) (s:Int×Int) (w:World) (h:SrcAt w R v s) (hv:RdB w (·<R) v l):
  Calls prog 164 #[.pointer (some ⟨R,0,none⟩)] w fun x w'=>x=.returned (.agg (rdV l s).1.cells.toArray)∧SrcAt w' R v (rdV l s).2∧Chg (·=R) w w':=by
 obtain ⟨k,er⟩:=s
 have hR:=h.lt
 have c0:w.cell? ⟨R,0,none⟩=some v:=cW0 w R 0 _ _ _ h
 have c1:=cW1 1 h rfl
 have c2:=cW1 2 h rfl
 have H:=hI0 h
 have HV:=hI0 hv
 clear h hv
 by_cases he:er=0
 case neg=>
  rw [show rdV l (k,er)=(zeroV,k,er) from rdS_no he]
  have hQ:(w.alloc (.cells #[.int .i64 0,.int .i64 0,.string ⟨#[]⟩] 79)).heap[w.heap.size]? =some (.cells #[.int .i64 0,.int .i64 0,.string ⟨#[]⟩] 79 (0,0)):=heap_alloc_new _ _
  have p0:(w.alloc (.cells #[.int .i64 0,.int .i64 0,.string ⟨#[]⟩] 79)).cell? ⟨w.heap.size,0,none⟩=some (.int .i64 0):=cW0 (w.alloc (.cells #[.int .i64 0,.int .i64 0,.string ⟨#[]⟩] 79)) _ 0 _ _ _ hQ
  have p1:(w.alloc (.cells #[.int .i64 0,.int .i64 0,.string ⟨#[]⟩] 79)).cell? ⟨w.heap.size,1,none⟩=some (.int .i64 0):=cW0 (w.alloc (.cells #[.int .i64 0,.int .i64 0,.string ⟨#[]⟩] 79)) _ 1 _ _ _ hQ
  have p2:(w.alloc (.cells #[.int .i64 0,.int .i64 0,.string ⟨#[]⟩] 79)).cell? ⟨w.heap.size,2,none⟩=some (.string ⟨#[]⟩):=cW0 (w.alloc (.cells #[.int .i64 0,.int .i64 0,.string ⟨#[]⟩] 79)) _ 2 _ _ _ hQ
  have hb:Bl w (w.alloc (.cells #[.int .i64 0,.int .i64 0,.string ⟨#[]⟩] 79)):=Below.of_alloc _
  have c2':(w.alloc (.cells #[.int .i64 0,.int .i64 0,.string ⟨#[]⟩] 79)).cell? ⟨R,2,none⟩=some (.int .i64 er):=(World.cell?_of_block (hb.block R hR)).trans c2
  have HB:=hI0 hb
  clear hb hQ
  go_in
  go_wp2_with fail
  refine bodyPost_ret (v:=.agg #[.int .i64 0,.int .i64 0,.string ⟨#[]⟩]) (by simp [results,results164,go_sem]) rfl ⟨rfl,?_,?_⟩
  ·exact SrcAt.below H.out HB.out
  ·exact Chg.of_below HB.out _
 subst he
 rcases hd:decV l k with ⟨⟨f,t,u⟩,m,e⟩
 rw [show rdV l (k,0)=(⟨f,t,u⟩,if e=0 then (m,0) else (k,e)) from rdS_go hd]
 generalize hst:(if e=0 then (m,(0:Int)) else (k,e))=st
 have HS:Hid (∀W,SrcAt W R v (k,0)→Calls prog 161 #[.pointer (some ⟨R,0,none⟩),.int .i64 m,.int .i64 e] W fun x w'=>(∃b,x=.returned (.bool b))∧SrcAt w' R v st∧Chg (·=R) W w'):=hI0 (fun W h=>(step_any R v k m e W h).mono fun _ _ ⟨h1,h2,h3⟩=>⟨⟨_,h1⟩,by rw [←hst];exact h2,h3⟩)
 clear hst
 obtain ⟨W,hW⟩:=eN0 (w.alloc (.cells #[.int .i64 0,.int .i64 0,.string ⟨#[]⟩] 79))
 have hbW:=bN0 hW
 have hWs:=sN0 hW
 have hQ:=hN0 hW
 have KI:∀V,Bl W V→Calls prog 221 #[v,.int .i64 k] V (Value3 (⟨f,t,u⟩,m,e) V):=fun V hV=>by
  rw [←hd]
  exact value_any v l k V ((Rd.keep HV.out (fun b (hb:b<R)=>(hV.block b (by omega)).trans (hbW.block b (by omega)))).wide (fun b (hb:b<R)=>by show b<V.heap.size;have:=hV.size;omega))
 have c0':W.cell? ⟨R,0,none⟩=some v:=(World.cell?_of_block (hbW.block R hR)).trans c0
 have c1':W.cell? ⟨R,1,none⟩=some (.int .i64 k):=(World.cell?_of_block (hbW.block R hR)).trans c1
 have c2':W.cell? ⟨R,2,none⟩=some (.int .i64 0):=(World.cell?_of_block (hbW.block R hR)).trans c2
 have HW:Hid (SrcAt W R v (k,0)):=hI0 (H.out.below hbW)
 have c3:(w.alloc (.cells #[.int .i64 0,.int .i64 0,.string ⟨#[]⟩] 79)).cell? ⟨R,2,none⟩=some (.int .i64 0):=by rw [←hW];exact c2'
 have HQ:=hI0 hQ
 have HbW:=hI0 hbW
 have hRW:R<W.heap.size:=by omega
 have hB0:Bl W W.drew:=(Below.refl _ _).drew
 show Calls _ _ _ _ (fun x w'=>x=.returned (.agg #[.int .i64 f,.int .i64 t,.string u])∧SrcAt w' R v st∧Chg (·=R) w w')
 clear hd c0 c1 c2 hQ hbW
 go_in
 go_wp2_with fail
 rw [←hW]
 clear hW c3
 refine wp_region_noPanic ?_
 refine beginT (S:=(fun w'=>Bl W w')) 16 (by kernel_rfl) ?_ (fun zh=>?_)
 ·exact hB0
 refine tT 0 13 ?_
 refine tT 1 14 ?_
 refine tT 2 15 ?_
 refine tU 3 16 (v:=?_) zh ?_ ?_
 rotate_left
 ·exact zq100
 refine tT 4 17 ?_
 refine tT 5 18 ?_
 refine tT 6 19 ?_
 refine tU 7 20 (v:=?_) zh ?_ ?_
 rotate_left
 ·exact zq101
 refine fork2 8 13 (by kernel_rfl) ?_ ?_
 ·exact zq49 1
 ·exact zq49 0
theorem srcBool_any (R:Nat) (v:Value) (l:List UInt8) (s:Int×Int) (w:World) (h:SrcAt w R v s) (hv:RdB w (·<R) v l):
  Calls prog 220 #[.pointer (some ⟨R,0,none⟩)] w fun x w'=>x=.returned (.bool (rdBool l s).1)∧SrcAt w' R v (rdBool l s).2∧Chg (·=R) w w':=by
 have KI:=srcInt_any R v l s w h hv
 unfold rdBool
 rcases hi:rdI l s with ⟨n,k,e⟩
 rw [hi] at KI
 clear hi h hv
 simp only at KI ⊢
 obtain ⟨bo,hbo⟩:=eN0 (if e=0∧n≠0∧n≠1 then (false,k,1) else (decide (n=1),k,e))
 rw [←hbo]
 have HBO:=hI0 hbo
 clear hbo
 go_in
 go_wp2_with fail
 (with_reducible refine KI.mono ?_)
 rintro _ w1 ⟨rfl,hs,hc⟩
 have c2:=cW1 2 hs rfl
 have f2:=fW0 w1 R 2 _ _ hs
 have HS:=hI0 hs
 have HC:=hI0 hc
 clear hs hc KI
 by_cases he:e=0
 case neg=>
  have HB:Hid (bo=(decide (n=1),k,e)):=hI0 (HBO.out.trans (if_neg (fun h=>he h.1)))
  have he2:(e==0)=false:=by simpa using he
  by_cases h1:n=1
  ·subst h1
   go_wp2_with fail
   go_ret
   rw [HB.out]
   exact ⟨rfl,HS.out,HC.out⟩
  ·have h12:(n==1)=false:=by simpa using h1
   go_wp2_with fail
   go_ret
   rw [HB.out]
   exact ⟨by first|rfl|simp [h1],HS.out,HC.out⟩
 subst he
 by_cases h0:n=0
 ·subst h0
  have HB:Hid (bo=(false,k,0)):=hI0 (HBO.out.trans (if_neg (by simp)))
  go_wp2_with fail
  go_ret
  rw [HB.out]
  exact ⟨rfl,HS.out,HC.out⟩
 ·by_cases h1:n=1
  ·subst h1
   have HB:Hid (bo=(true,k,0)):=hI0 (HBO.out.trans (if_neg (by simp)))
   go_wp2_with fail
   go_ret
   rw [HB.out]
   exact ⟨rfl,HS.out,HC.out⟩
  ·have h02:(n != 0)=true:=by simpa using h0
   have h12:(n != 1)=true:=by simpa using h1
   have h13:(n==1)=false:=by simpa using h1
   have HB:Hid (bo=(false,k,1)):=hI0 (HBO.out.trans (if_pos ⟨rfl,h0,h1⟩))
   go_wp2_with fail
   go_ret
   rw [HB.out]
   exact ⟨by first|rfl|simp [h1],HS.out.set2 1,Chg.setCell (S:=(·=R)) (p:=⟨R,2,none⟩) HC.out (.inl rfl) _⟩
end Go.Proofs.YtbfdegkickjbpaaGreat
