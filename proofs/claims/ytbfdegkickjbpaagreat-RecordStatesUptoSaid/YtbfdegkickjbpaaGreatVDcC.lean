/-
 DcC
-/
import Derived.Test.YtbfdegkickjbpaaGreatVDc1
import Derived.Test.YtbfdegkickjbpaaGreatVRw1
namespace Go.Proofs.YtbfdegkickjbpaaGreat
open Go.Proofs.Tryz
set_option maxRecDepth 99999
set_option maxHeartbeats 0
open Go.RowKit Go.Lib Go.IntWalk Go.Sort Go.Shelf
theorem zq9 {P:Prop} (i:Nat) (h:Tg i→P:=by
 intro zT9
 rcases h1:rdI l s with ⟨n,k1,e1⟩
 have hR:=h.lt
 have KI:Calls prog 60 #[.pointer (some ⟨R,0,none⟩)] w fun x w'=>x=.returned (.int .i64 n)∧SrcAt w' R v (k1,e1)∧Chg (·=R) w w':=by
  have k:=srcInt_any R v l s w h hv
  rw [h1] at k
  exact k
 first
  |guard_hyp zT9:Tg 6;have KV:∀s x s' V,rd s=(x,s')→SrcAt V R v s→Chg (·=R) w V→Calls prog f #[.pointer (some ⟨R,0,none⟩)] V fun e w'=>∃x1 x2,e=.returned (.agg #[.string x1,.int .i64 x2])∧isT w' (fun b=>V.heap.size≤b∧b<w'.heap.size) (⟨x1,x2⟩:Pol)∧id (⟨x1,x2⟩:Pol)=x∧SrcAt w' R v s'∧Chg (·=R) V w':=fun s x s' V he hs hV=>by
    exact zq102
  |guard_hyp zT9:Tg 5;have KV:∀s x s' V,rd s=(x,s')→SrcAt V R v s→Chg (·=R) w V→Calls prog f #[.pointer (some ⟨R,0,none⟩)] V fun e w'=>∃x1 x2,e=.returned (.agg #[.int .i64 x1,.int .i64 x2])∧isT w' (fun b=>V.heap.size≤b∧b<w'.heap.size) (⟨x1,x2⟩:Stm)∧id (⟨x1,x2⟩:Stm)=x∧SrcAt w' R v s'∧Chg (·=R) V w':=fun s x s' V he hs hV=>by
    exact zq102
  |guard_hyp zT9:Tg 4;have KV:∀s x s' V,rd s=(x,s')→SrcAt V R v s→Chg (·=R) w V→Calls prog f #[.pointer (some ⟨R,0,none⟩)] V fun e w'=>∃x1 x2,e=.returned (.agg #[.string x1,.int .i64 x2])∧isT w' (fun b=>V.heap.size≤b∧b<w'.heap.size) (⟨x1,x2⟩:Hor)∧id (⟨x1,x2⟩:Hor)=x∧SrcAt w' R v s'∧Chg (·=R) V w':=fun s x s' V he hs hV=>by
    exact zq102
  |guard_hyp zT9:Tg 3;have KV:∀s x s' V,rd s=(x,s')→SrcAt V R v s→Chg (·=R) w V→Calls prog f #[.pointer (some ⟨R,0,none⟩)] V fun e w'=>∃x1 x2 x3,e=.returned (.agg #[.string x1,.int .i64 x2,.bool x3])∧isT w' (fun b=>V.heap.size≤b∧b<w'.heap.size) (⟨x1,x2,x3⟩:RCol)∧id (⟨x1,x2,x3⟩:RCol)=x∧SrcAt w' R v s'∧Chg (·=R) V w':=fun s x s' V he hs hV=>by
    have k:=hone s V hs hV
    rw [he] at k
    exact k.mono fun e w' ⟨r,a1,a2,a3,a4,a5⟩=>by
     obtain ⟨x1,x2,x3⟩:=r
     exact ⟨_,_,_,a1,a2,a3,a4,a5⟩
  |guard_hyp zT9:Tg 2;have KV:∀s x s' V,rd s=(x,s')→SrcAt V R v s→Chg (·=R) w V→Calls prog f #[.pointer (some ⟨R,0,none⟩)] V fun e w'=>∃xA xc xl xt,e=.returned (.agg #[.slice xA xl.length xc,.string xt])∧RFor.is w' (fun b=>V.heap.size≤b∧b<w'.heap.size) (⟨xA,xc,xl,xt⟩:RFor)∧RFor.er (⟨xA,xc,xl,xt⟩:RFor)=x∧SrcAt w' R v s'∧Chg (·=R) V w':=fun s x s' V he hs hV=>by
    have k:=hone s V hs hV
    rw [he] at k
    exact k.mono fun e w' ⟨r,a1,a2,a3,a4,a5⟩=>by
     obtain ⟨xA,xc,xl,xt⟩:=r
     exact ⟨_,_,_,_,a1,a2,a3,a4,a5⟩
  |guard_hyp zT9:Tg 1;have KV:∀s x s' V,rd s=(x,s')→SrcAt V R v s→Chg (·=R) w V→Calls prog f #[.pointer (some ⟨R,0,none⟩)] V fun e w'=>∃xt xA xc xv,e=.returned (.agg #[.string xt,.slice xA xv.length xc])∧tvIs w' (fun b=>V.heap.size≤b∧b<w'.heap.size) (⟨xt,xA,xc,xv⟩:RTv)∧RTv.er (⟨xt,xA,xc,xv⟩:RTv)=x∧SrcAt w' R v s'∧Chg (·=R) V w':=fun s x s' V he hs hV=>by
    have k:=hone s V hs hV
    rw [he] at k
    exact k.mono fun e w' ⟨r,a1,a2,a3,a4,a5⟩=>by
     obtain ⟨xt,xA,xc,xv⟩:=r
     exact ⟨_,_,_,_,a1,a2,a3,a4,a5⟩
  |have KV:∀s x s' V,rd s=(x,s')→SrcAt V R v s→Chg (·=R) w V→Calls prog f #[.pointer (some ⟨R,0,none⟩)] V fun e w'=>∃xA xn xc xr x1 x2,e=.returned (.agg #[.slice xA xn xc,.int .i64 x1,.int .i64 x2])∧RF.is w' (fun b=>V.heap.size≤b∧b<w'.heap.size) (⟨xA,xn,xc,xr,x1,x2⟩:RF)∧RF.er (⟨xA,xn,xc,xr,x1,x2⟩:RF)=x∧SrcAt w' R v s'∧Chg (·=R) V w':=fun s x s' V he hs hV=>by
    have k:=hone s V hs hV
    rw [he] at k
    exact k.mono fun e w' ⟨r,a1,a2,a3,a4,a5⟩=>by
     obtain ⟨xA,xn,xc,xr,x1,x2⟩:=r
     exact ⟨_,_,_,_,_,_,a1,a2,a3,a4,a5⟩
 clear h hv hone
 by_cases hneg:e1=0∧n<0
 case pos=>
  exact zq62
 have hn0:0≤n:=by
  exact zq96
 obtain ⟨N,rfl⟩:=Int.eq_ofNat_of_zero_le hn0
 have hbd:=decI_bd l s.1
 have hN:(N:Int)≤9223372036854775807:=by
  exact zq110
 have hk1:e1=0→0≤k1∧k1≤l.length:=fun he=>by
  exact zq99
 rw [show rdL l rd s=getS rd N (k1,e1) from by unfold rdL;rw [h1];exact if_neg hneg]
 obtain ⟨res,hres⟩:=eN0 (getS rd N (k1,e1))
 rw [←hres]
 have HRES:=hI0 hres
 have HNEG:=hI0 hneg
 have HK1:=hI0 hk1
 first
  |guard_hyp zT9:Tg 6;obtain ⟨i0,hi,hz0,hz1,hz2⟩:=info_parts info_Pol
  |guard_hyp zT9:Tg 5;obtain ⟨i0,hi,hz0,hz1,hz2⟩:=info_parts info_Stm
  |guard_hyp zT9:Tg 4;obtain ⟨i0,hi,hz0,hz1,hz2⟩:=info_parts info_Hor
  |guard_hyp zT9:Tg 3;obtain ⟨i0,hi,hz0,hz1,hz2⟩:=info_parts info_Col
  |guard_hyp zT9:Tg 2;obtain ⟨i0,hi,hz0,hz1,hz2⟩:=info_parts info_For
  |guard_hyp zT9:Tg 1;obtain ⟨i0,hi,hz0,hz1,hz2⟩:=info_parts info_Tv
  |obtain ⟨i0,hi,hz0,hz1,hz2⟩:=info_parts info_Fct
 have HI:=hI0 hi
 have HZ0:=hI0 hz0
 have HZ1:=hI0 hz1
 have HZ2:=hI0 hz2
 have KK:=hI0 KV
 have HMON:=hI0 hmon
 have HF_:=hI0 hf
 clear hf hi hz0 hz1 hz2 hres hneg hk1 hbd h1 KV hn0 hmon
 go_in
 go_wp2_with fail
 (with_reducible refine KI.mono ?_)
 rintro _ w1 ⟨rfl,hs1,hc1⟩
 have c2:=cW1 2 hs1 rfl
 have HS1:=hI0 hs1
 have HC1:=hI0 hc1
 clear hs1 hc1 KI
 have hcond:e1=0→¬(N:Int)<0:=fun _=>by omega
 have hN0:¬(N:Int)<0:=by omega
 go_wp2_with fail
 all_goals skip
 all_goals
  first
   |guard_hyp zT9:Tg 6;go_loopw [6,7] (fun o i wr=>∃(i':Nat) (Q:List Pol) (st:Int×Int),i=.int .i64 (i':Int)∧i'≤N∧Q.length=i'∧Hid (OwnE 117 2 Pol.enc wr w.heap.size o Q)∧Hid (∀p∈Q,isT wr (fun b=>w.heap.size≤b∧b<wr.heap.size∧some b≠Value.ownBlock o) p)∧Hid (SrcAt wr R v st)∧Hid (Chg (·=R) w wr)∧Hid ((Q.map id++(getS rd (N-i') st).1,(getS rd (N-i') st).2)=res)∧i'≤l.length+1∧(st.2=0→(i':Int)≤st.1∧st.1≤l.length)) (fun _ i _=>N-(intOf i).toNat)
   |guard_hyp zT9:Tg 5;go_loopw [6,7] (fun o i wr=>∃(i':Nat) (Q:List Stm) (st:Int×Int),i=.int .i64 (i':Int)∧i'≤N∧Q.length=i'∧Hid (OwnE 180 2 Stm.enc wr w.heap.size o Q)∧Hid (∀p∈Q,isT wr (fun b=>w.heap.size≤b∧b<wr.heap.size∧some b≠Value.ownBlock o) p)∧Hid (SrcAt wr R v st)∧Hid (Chg (·=R) w wr)∧Hid ((Q.map id++(getS rd (N-i') st).1,(getS rd (N-i') st).2)=res)∧i'≤l.length+1∧(st.2=0→(i':Int)≤st.1∧st.1≤l.length)) (fun _ i _=>N-(intOf i).toNat)
   |guard_hyp zT9:Tg 4;go_loopw [6,7] (fun o i wr=>∃(i':Nat) (Q:List Hor) (st:Int×Int),i=.int .i64 (i':Int)∧i'≤N∧Q.length=i'∧Hid (OwnE 122 2 Hor.enc wr w.heap.size o Q)∧Hid (∀p∈Q,isT wr (fun b=>w.heap.size≤b∧b<wr.heap.size∧some b≠Value.ownBlock o) p)∧Hid (SrcAt wr R v st)∧Hid (Chg (·=R) w wr)∧Hid ((Q.map id++(getS rd (N-i') st).1,(getS rd (N-i') st).2)=res)∧i'≤l.length+1∧(st.2=0→(i':Int)≤st.1∧st.1≤l.length)) (fun _ i _=>N-(intOf i).toNat)
   |guard_hyp zT9:Tg 3;go_loopw [6,7] (fun o i wr=>∃(i':Nat) (Q:List RCol) (st:Int×Int),i=.int .i64 (i':Int)∧i'≤N∧Q.length=i'∧Hid (OwnE 77 3 RCol.enc wr w.heap.size o Q)∧Hid (∀p∈Q,isT wr (fun b=>w.heap.size≤b∧b<wr.heap.size∧some b≠Value.ownBlock o) p)∧Hid (SrcAt wr R v st)∧Hid (Chg (·=R) w wr)∧Hid ((Q.map id++(getS rd (N-i') st).1,(getS rd (N-i') st).2)=res)∧i'≤l.length+1∧(st.2=0→(i':Int)≤st.1∧st.1≤l.length)) (fun _ i _=>N-(intOf i).toNat)
   |guard_hyp zT9:Tg 2;go_loopw [6,7] (fun o i wr=>∃(i':Nat) (Q:List RFor) (st:Int×Int),i=.int .i64 (i':Int)∧i'≤N∧Q.length=i'∧Hid (OwnE 278 2 RFor.enc wr w.heap.size o Q)∧Hid (∀p∈Q,RFor.is wr (fun b=>w.heap.size≤b∧b<wr.heap.size∧some b≠Value.ownBlock o) p)∧Hid (SrcAt wr R v st)∧Hid (Chg (·=R) w wr)∧Hid ((Q.map RFor.er++(getS rd (N-i') st).1,(getS rd (N-i') st).2)=res)∧i'≤l.length+1∧(st.2=0→(i':Int)≤st.1∧st.1≤l.length)) (fun _ i _=>N-(intOf i).toNat)
   |guard_hyp zT9:Tg 1;go_loopw [6,7] (fun o i wr=>∃(i':Nat) (Q:List RTv) (st:Int×Int),i=.int .i64 (i':Int)∧i'≤N∧Q.length=i'∧Hid (OwnE 165 2 RTv.enc wr w.heap.size o Q)∧Hid (∀p∈Q,tvIs wr (fun b=>w.heap.size≤b∧b<wr.heap.size∧some b≠Value.ownBlock o) p)∧Hid (SrcAt wr R v st)∧Hid (Chg (·=R) w wr)∧Hid ((Q.map RTv.er++(getS rd (N-i') st).1,(getS rd (N-i') st).2)=res)∧i'≤l.length+1∧(st.2=0→(i':Int)≤st.1∧st.1≤l.length)) (fun _ i _=>N-(intOf i).toNat)
   |go_loopw [6,7] (fun o i wr=>∃(i':Nat) (Q:List RF) (st:Int×Int),i=.int .i64 (i':Int)∧i'≤N∧Q.length=i'∧Hid (OwnE 68 3 RF.enc wr w.heap.size o Q)∧Hid (∀p∈Q,RF.is wr (fun b=>w.heap.size≤b∧b<wr.heap.size∧some b≠Value.ownBlock o) p)∧Hid (SrcAt wr R v st)∧Hid (Chg (·=R) w wr)∧Hid ((Q.map RF.er++(getS rd (N-i') st).1,(getS rd (N-i') st).2)=res)∧i'≤l.length+1∧(st.2=0→(i':Int)≤st.1∧st.1≤l.length)) (fun _ i _=>N-(intOf i).toNat)
  case atStart=>exact ⟨0,[],(k1,e1),rfl,Nat.zero_le _,rfl,hI0 (World.ownsRow_nil _ _ _ _),hI0 (fun p hp=>by cases hp),HS1,HC1,hI0 HRES.out.symm,by omega,HK1.out⟩
  obtain ⟨i',Q,⟨k,er⟩,rfl,hi',hQl,HO,HR,HS,HC,HG,hil,hik⟩:=hrel
  obtain ⟨wi,rfl⟩:=eN0 wr
  obtain ⟨Ao,co,rfl,o1,o2,o3⟩:=Rd.open_ (Rd.of_own HO.out)
  rw [hQl] at o1
  first
   |guard_hyp zT9:Tg 6;have HRd:Hid (RdE 2 Pol.enc wi (fun b=>w.heap.size≤b∧b<wi.heap.size) (.slice Ao i' co) Q∧∀p∈Q,isT wi (fun b=>w.heap.size≤b∧b<wi.heap.size) p):=hI0 zi7
   |guard_hyp zT9:Tg 5;have HRd:Hid (RdE 2 Stm.enc wi (fun b=>w.heap.size≤b∧b<wi.heap.size) (.slice Ao i' co) Q∧∀p∈Q,isT wi (fun b=>w.heap.size≤b∧b<wi.heap.size) p):=hI0 zi7
   |guard_hyp zT9:Tg 4;have HRd:Hid (RdE 2 Hor.enc wi (fun b=>w.heap.size≤b∧b<wi.heap.size) (.slice Ao i' co) Q∧∀p∈Q,isT wi (fun b=>w.heap.size≤b∧b<wi.heap.size) p):=hI0 zi7
   |guard_hyp zT9:Tg 3;have HRd:Hid (RdE 3 RCol.enc wi (fun b=>w.heap.size≤b∧b<wi.heap.size) (.slice Ao i' co) Q∧∀p∈Q,isT wi (fun b=>w.heap.size≤b∧b<wi.heap.size) p):=hI0 zi7
   |guard_hyp zT9:Tg 2;have HRd:Hid (RdE 2 RFor.enc wi (fun b=>w.heap.size≤b∧b<wi.heap.size) (.slice Ao i' co) Q∧∀p∈Q,RFor.is wi (fun b=>w.heap.size≤b∧b<wi.heap.size) p):=hI0 (by rw [←hQl];exact ⟨(Rd.of_own HO.out),fun p hp=>isK_For.wide (HR.out p hp) fun b hb=>⟨hb.1,hb.2.1⟩⟩)
   |guard_hyp zT9:Tg 1;have HRd:Hid (RdE 2 RTv.enc wi (fun b=>w.heap.size≤b∧b<wi.heap.size) (.slice Ao i' co) Q∧∀p∈Q,tvIs wi (fun b=>w.heap.size≤b∧b<wi.heap.size) p):=hI0 (by rw [←hQl];exact ⟨(Rd.of_own HO.out),fun p hp=>isK_Tv.wide (HR.out p hp) fun b hb=>⟨hb.1,hb.2.1⟩⟩)
   |have HRd:Hid (RdE 3 RF.enc wi (fun b=>w.heap.size≤b∧b<wi.heap.size) (.slice Ao i' co) Q∧∀p∈Q,RF.is wi (fun b=>w.heap.size≤b∧b<wi.heap.size) p):=hI0 (by rw [←hQl];exact ⟨(Rd.of_own HO.out),fun p hp=>isK_F.wide (HR.out p hp) fun b hb=>⟨hb.1,hb.2.1⟩⟩)
  have c2:=cW1 2 HS.out rfl
  clear o3 o2
  by_cases hlt:i'<N
  case neg=>
   exact zq70 1
  have hil2:(i':Int)<(N:Int):=by omega
  by_cases her:er=0
  case neg=>
   first
    |guard_hyp zT9:Tg 2;have HF:Hid (res=(Q.map RFor.er,(k,er))):=hI0 zi8
    |guard_hyp zT9:Tg 1;have HF:Hid (res=(Q.map RTv.er,(k,er))):=hI0 zi8
    |guard_hyp zT9:Tg 0;have HF:Hid (res=(Q.map RF.er,(k,er))):=hI0 zi8
    |have HF:Hid (res=(Q.map id,(k,er))):=hI0 zi8
   go_wp2_with fail
   go_ret
   rw [HF.out]
   exact ⟨_,Q,rfl,HRd.out.1,HRd.out.2,rfl,HS.out,HC.out⟩
  subst her
  have hik2:=hik rfl
  simp only at hik2
  rcases hx:rd (k,0) with ⟨x,st'⟩
  have hst:st'.2=0→(i':Int)+1≤st'.1∧st'.1≤l.length:=fun he=>by
   exact zq113
  have KV:=KK.out (k,0) x st' wi hx HS.out HC.out
  have hgs:getS rd (N-i') (k,0)=(x::(getS rd (N-(i'+1)) st').1,(getS rd (N-(i'+1)) st').2):=by
   rw [show N-i'=(N-(i'+1))+1 by omega]
   exact getS_step rfl hx
  have HGS:=hI0 hgs
  have HST:=hI0 hst
  have HN:=hI0 (And.intro hil hik2)
  clear hgs hst hx hik hik2
  have hent:∀(args:Array Value) (V:World),(callFunc f args).run prog V=.ok (.enter f args) V:=HF_.out
  go_wp2_with fail
  (with_reducible refine KV.mono ?_)
  first
   |guard_hyp zT9:Tg 3;rintro _ w2 ⟨x1,x2,x3,rfl,hX,hxe,hs2,hc2⟩
    skip
   |guard_hyp zT9:Tg 2;rintro _ w2 ⟨xA,xc,xl,xt,rfl,hX,hxe,hs2,hc2⟩
    skip
   |guard_hyp zT9:Tg 1;rintro _ w2 ⟨xt,xA,xc,xv,rfl,hX,hxe,hs2,hc2⟩
    skip
   |guard_hyp zT9:Tg 0;rintro _ w2 ⟨xA,xn,xc,xr,x1,x2,rfl,hX,hxe,hs2,hc2⟩
    skip
   |rintro _ w2 ⟨x1,x2,rfl,hX,hxe,hs2,hc2⟩
  have hz2:=hc2.size
  have HX:=hI0 hX
  have HXE:=hI0 hxe
  have HS2:=hI0 hs2
  have HC2:=hI0 hc2
  clear hX hxe hs2 hc2 KV hent
  have hwi:w.heap.size≤wi.heap.size:=HC.out.size
  first
   |guard_hyp zT9:Tg 6;have HOA:=hI0 (getA (O:=(.cells #[.string x1,.int .i64 x2] 117)) hQl hR HO.out HC2.out)
    have HNEW:=hI0 (Rd.new' w2 w2.heap.size rfl [.string x1,.int .i64 x2] 117 2 1 rfl (by decide))
   |guard_hyp zT9:Tg 5;have HOA:=hI0 (getA (O:=(.cells #[.int .i64 x1,.int .i64 x2] 180)) hQl hR HO.out HC2.out)
    have HNEW:=hI0 (Rd.new' w2 w2.heap.size rfl [.int .i64 x1,.int .i64 x2] 180 2 1 rfl (by decide))
   |guard_hyp zT9:Tg 4;have HOA:=hI0 (getA (O:=(.cells #[.string x1,.int .i64 x2] 122)) hQl hR HO.out HC2.out)
    have HNEW:=hI0 (Rd.new' w2 w2.heap.size rfl [.string x1,.int .i64 x2] 122 2 1 rfl (by decide))
   |guard_hyp zT9:Tg 3;have HOA:=hI0 (getA (O:=(.cells #[.string x1,.int .i64 x2,.bool x3] 77)) hQl hR HO.out HC2.out)
    have HNEW:=hI0 (Rd.new' w2 w2.heap.size rfl [.string x1,.int .i64 x2,.bool x3] 77 3 1 rfl (by decide))
   |guard_hyp zT9:Tg 2;have HOA:=hI0 (getA (O:=(.cells #[.slice xA xl.length xc,.string xt] 278)) hQl hR HO.out HC2.out)
    have HNEW:=hI0 (Rd.new' w2 w2.heap.size rfl [.slice xA xl.length xc,.string xt] 278 2 1 rfl (by decide))
   |guard_hyp zT9:Tg 1;have HOA:=hI0 (getA (O:=(.cells #[.string xt,.slice xA xv.length xc] 165)) hQl hR HO.out HC2.out)
    have HNEW:=hI0 (Rd.new' w2 w2.heap.size rfl [.string xt,.slice xA xv.length xc] 165 2 1 rfl (by decide))
   |have HOA:=hI0 (getA (O:=(.cells #[.slice xA xn xc,.int .i64 x1,.int .i64 x2] 68)) hQl hR HO.out HC2.out)
    have HNEW:=hI0 (Rd.new' w2 w2.heap.size rfl [.slice xA xn xc,.int .i64 x1,.int .i64 x2] 68 3 1 rfl (by decide))
  have hi5:i'≤10000000001:=by have:=HN.out.1;omega
  first
   |guard_hyp zT9:Tg 6;go_wp2_with (at_builtin;refine wpList_append_app (w2.alloc (.cells #[.string x1,.int .i64 x2] 117)) rfl (.tmp 39) (.tmp 43) 26 rfl w.heap.size 117 i0 _ 2 24 underlying26 HI.out HZ0.out HZ1.out HZ2.out rfl (by omega) (.slice Ao i' co) i' (Q.flatMap Pol.enc) rfl (.inl HOA.out) (·=w2.heap.size) _ 1 [.string x1,.int .i64 x2] rfl HNEW.out (fun u hu=>by simp only [List.mem_cons,List.not_mem_nil,or_false] at hu;rcases hu with rfl|rfl<;>rfl) (by unfold maxLen;omega) (by omega) (by simp;omega) ?_;intro v3 w3 _ hO3 hg3 hb3 hv3)
    skip
   |guard_hyp zT9:Tg 5;go_wp2_with (at_builtin;refine wpList_append_app (w2.alloc (.cells #[.int .i64 x1,.int .i64 x2] 180)) rfl (.tmp 39) (.tmp 43) 44 rfl w.heap.size 180 i0 _ 2 16 underlying44 HI.out HZ0.out HZ1.out HZ2.out rfl (by omega) (.slice Ao i' co) i' (Q.flatMap Stm.enc) rfl (.inl HOA.out) (·=w2.heap.size) _ 1 [.int .i64 x1,.int .i64 x2] rfl HNEW.out (fun u hu=>by simp only [List.mem_cons,List.not_mem_nil,or_false] at hu;rcases hu with rfl|rfl<;>rfl) (by unfold maxLen;omega) (by omega) (by simp;omega) ?_;intro v3 w3 _ hO3 hg3 hb3 hv3)
    skip
   |guard_hyp zT9:Tg 4;go_wp2_with (at_builtin;refine wpList_append_app (w2.alloc (.cells #[.string x1,.int .i64 x2] 122)) rfl (.tmp 39) (.tmp 43) 27 rfl w.heap.size 122 i0 _ 2 24 underlying27 HI.out HZ0.out HZ1.out HZ2.out rfl (by omega) (.slice Ao i' co) i' (Q.flatMap Hor.enc) rfl (.inl HOA.out) (·=w2.heap.size) _ 1 [.string x1,.int .i64 x2] rfl HNEW.out (fun u hu=>by simp only [List.mem_cons,List.not_mem_nil,or_false] at hu;rcases hu with rfl|rfl<;>rfl) (by unfold maxLen;omega) (by omega) (by simp;omega) ?_;intro v3 w3 _ hO3 hg3 hb3 hv3)
    skip
   |guard_hyp zT9:Tg 3;go_wp2_with (at_builtin;refine wpList_append_app (w2.alloc (.cells #[.string x1,.int .i64 x2,.bool x3] 77)) rfl (.tmp 39) (.tmp 43) 71 rfl w.heap.size 77 i0 _ 3 32 underlying71 HI.out HZ0.out HZ1.out HZ2.out rfl (by omega) (.slice Ao i' co) i' (Q.flatMap RCol.enc) rfl (.inl HOA.out) (·=w2.heap.size) _ 1 [.string x1,.int .i64 x2,.bool x3] rfl HNEW.out (fun u hu=>by simp only [List.mem_cons,List.not_mem_nil,or_false] at hu;rcases hu with rfl|rfl|rfl<;>rfl) (by unfold maxLen;omega) (by omega) (by simp;omega) ?_;intro v3 w3 _ hO3 hg3 hb3 hv3)
    skip
   |guard_hyp zT9:Tg 2;go_wp2_with (at_builtin;refine wpList_append_app (w2.alloc (.cells #[.slice xA xl.length xc,.string xt] 278)) rfl (.tmp 39) (.tmp 43) 72 rfl w.heap.size 278 i0 _ 2 40 underlying72 HI.out HZ0.out HZ1.out HZ2.out rfl (by omega) (.slice Ao i' co) i' (Q.flatMap RFor.enc) rfl (.inl HOA.out) (·=w2.heap.size) _ 1 [.slice xA xl.length xc,.string xt] rfl HNEW.out (fun u hu=>by simp only [List.mem_cons,List.not_mem_nil,or_false] at hu;rcases hu with rfl|rfl<;>rfl) (by unfold maxLen;omega) (by omega) (by simp;omega) ?_;intro v3 w3 _ hO3 hg3 hb3 hv3)
    skip
   |guard_hyp zT9:Tg 1;go_wp2_with (at_builtin;refine wpList_append_app (w2.alloc (.cells #[.string xt,.slice xA xv.length xc] 165)) rfl (.tmp 39) (.tmp 43) 45 rfl w.heap.size 165 i0 _ 2 40 underlying45 HI.out HZ0.out HZ1.out HZ2.out rfl (by omega) (.slice Ao i' co) i' (Q.flatMap RTv.enc) rfl (.inl HOA.out) (·=w2.heap.size) _ 1 [.string xt,.slice xA xv.length xc] rfl HNEW.out (fun u hu=>by simp only [List.mem_cons,List.not_mem_nil,or_false] at hu;rcases hu with rfl|rfl<;>rfl) (by unfold maxLen;omega) (by omega) (by simp;omega) ?_;intro v3 w3 _ hO3 hg3 hb3 hv3)
    skip
   |go_wp2_with (at_builtin;refine wpList_append_app (w2.alloc (.cells #[.slice xA xn xc,.int .i64 x1,.int .i64 x2] 68)) rfl (.tmp 39) (.tmp 43) 61 rfl w.heap.size 68 i0 _ 3 40 underlying61 HI.out HZ0.out HZ1.out HZ2.out rfl (by omega) (.slice Ao i' co) i' (Q.flatMap RF.enc) rfl (.inl HOA.out) (·=w2.heap.size) _ 1 [.slice xA xn xc,.int .i64 x1,.int .i64 x2] rfl HNEW.out (fun u hu=>by simp only [List.mem_cons,List.not_mem_nil,or_false] at hu;rcases hu with rfl|rfl|rfl<;>rfl) (by unfold maxLen;omega) (by omega) (by simp;omega) ?_;intro v3 w3 _ hO3 hg3 hb3 hv3)
  all_goals skip
  first
   |guard_hyp zT9:Tg 6;have HB4:=hI0 (getB (x:=(⟨x1,x2⟩:Pol)) isK_T hQl hR HO.out HR.out HC.out HX.out HS2.out HC2.out (hO3 (.inl (by omega))) hg3 hv3)
   |guard_hyp zT9:Tg 5;have HB4:=hI0 (getB (x:=(⟨x1,x2⟩:Stm)) isK_T hQl hR HO.out HR.out HC.out HX.out HS2.out HC2.out (hO3 (.inl (by omega))) hg3 hv3)
   |guard_hyp zT9:Tg 4;have HB4:=hI0 (getB (x:=(⟨x1,x2⟩:Hor)) isK_T hQl hR HO.out HR.out HC.out HX.out HS2.out HC2.out (hO3 (.inl (by omega))) hg3 hv3)
   |guard_hyp zT9:Tg 3;have HB4:=hI0 (getB (x:=(⟨x1,x2,x3⟩:RCol)) isK_T hQl hR HO.out HR.out HC.out HX.out HS2.out HC2.out (hO3 (.inl (by omega))) hg3 hv3)
   |guard_hyp zT9:Tg 2;have HB4:=hI0 (getB (x:=(⟨xA,xc,xl,xt⟩:RFor)) isK_For hQl hR HO.out HR.out HC.out HX.out HS2.out HC2.out (hO3 (.inl (by omega))) hg3 hv3)
   |guard_hyp zT9:Tg 1;have HB4:=hI0 (getB (x:=(⟨xt,xA,xc,xv⟩:RTv)) isK_Tv hQl hR HO.out HR.out HC.out HX.out HS2.out HC2.out (hO3 (.inl (by omega))) hg3 hv3)
   |have HB4:=hI0 (getB (x:=(⟨xA,xn,xc,xr,x1,x2⟩:RF)) isK_F hQl hR HO.out HR.out HC.out HX.out HS2.out HC2.out (hO3 (.inl (by omega))) hg3 hv3)
  clear hO3 hg3 hb3 hv3
  go_wp2_with fail
  go_roundw
  case rel=>
   first
    |guard_hyp zT9:Tg 6;refine ⟨i'+1,Q++[(⟨x1,x2⟩:Pol)],st',by go_num,by omega,by simp [hQl],hI0 HB4.out.1,hI0 HB4.out.2.1,hI0 HB4.out.2.2.1,hI0 HB4.out.2.2.2,hI0 ?_,?_,?_⟩
    |guard_hyp zT9:Tg 5;refine ⟨i'+1,Q++[(⟨x1,x2⟩:Stm)],st',by go_num,by omega,by simp [hQl],hI0 HB4.out.1,hI0 HB4.out.2.1,hI0 HB4.out.2.2.1,hI0 HB4.out.2.2.2,hI0 ?_,?_,?_⟩
    |guard_hyp zT9:Tg 4;refine ⟨i'+1,Q++[(⟨x1,x2⟩:Hor)],st',by go_num,by omega,by simp [hQl],hI0 HB4.out.1,hI0 HB4.out.2.1,hI0 HB4.out.2.2.1,hI0 HB4.out.2.2.2,hI0 ?_,?_,?_⟩
    |guard_hyp zT9:Tg 3;refine ⟨i'+1,Q++[(⟨x1,x2,x3⟩:RCol)],st',by go_num,by omega,by simp [hQl],hI0 HB4.out.1,hI0 HB4.out.2.1,hI0 HB4.out.2.2.1,hI0 HB4.out.2.2.2,hI0 ?_,?_,?_⟩
    |guard_hyp zT9:Tg 2;refine ⟨i'+1,Q++[(⟨xA,xc,xl,xt⟩:RFor)],st',by go_num,by omega,by simp [hQl],hI0 HB4.out.1,hI0 HB4.out.2.1,hI0 HB4.out.2.2.1,hI0 HB4.out.2.2.2,hI0 ?_,?_,?_⟩
    |guard_hyp zT9:Tg 1;refine ⟨i'+1,Q++[(⟨xt,xA,xc,xv⟩:RTv)],st',by go_num,by omega,by simp [hQl],hI0 HB4.out.1,hI0 HB4.out.2.1,hI0 HB4.out.2.2.1,hI0 HB4.out.2.2.2,hI0 ?_,?_,?_⟩
    |refine ⟨i'+1,Q++[(⟨xA,xn,xc,xr,x1,x2⟩:RF)],st',by go_num,by omega,by simp [hQl],hI0 HB4.out.1,hI0 HB4.out.2.1,hI0 HB4.out.2.2.1,hI0 HB4.out.2.2.2,hI0 ?_,?_,?_⟩
   ·rw [←HG.out,HGS.out,List.map_append,List.map_singleton,HXE.out];simp
   ·have:=HN.out;omega
   ·intro he;have:=HST.out he;omega
  case measure=>simp [intOf];omega) : P := h ⟨⟩
theorem zq11 {P:Prop} (i:Nat) (h:Tg i→P:=by
 intro zT11
 rcases h1:rdI l s with ⟨n,k1,e1⟩
 have hR:=h.lt
 have KI:Calls prog 60 #[.pointer (some ⟨R,0,none⟩)] w fun x w'=>x=.returned (.int .i64 n)∧SrcAt w' R v (k1,e1)∧Chg (·=R) w w':=by
  have k:=srcInt_any R v l s w h hv
  rw [h1] at k
  exact k
 first
  |guard_hyp zT11:Tg 1;have KV:∀s x s' V,rd s=(x,s')→SrcAt V R v s→Chg (·=R) w V→Calls prog f #[.pointer (some ⟨R,0,none⟩)] V fun e w'=>∃x1,e=.returned (.int .i64 x1)∧isT w' (fun b=>V.heap.size≤b∧b<w'.heap.size) (x1:Int)∧id (x1:Int)=x∧SrcAt w' R v s'∧Chg (·=R) V w':=fun s x s' V he hs hV=>by
    have k:=hone s V hs hV
    rw [he] at k
    exact k.mono fun e w' ⟨r,a1,a2,a3,a4,a5⟩=>by
     exact ⟨_,a1,a2,a3,a4,a5⟩
  |have KV:∀s x s' V,rd s=(x,s')→SrcAt V R v s→Chg (·=R) w V→Calls prog f #[.pointer (some ⟨R,0,none⟩)] V fun e w'=>∃x1,e=.returned (.string x1)∧isT w' (fun b=>V.heap.size≤b∧b<w'.heap.size) (x1:ByteArray)∧id (x1:ByteArray)=x∧SrcAt w' R v s'∧Chg (·=R) V w':=fun s x s' V he hs hV=>by
    have k:=hone s V hs hV
    rw [he] at k
    exact k.mono fun e w' ⟨r,a1,a2,a3,a4,a5⟩=>by
     exact ⟨_,a1,a2,a3,a4,a5⟩
 clear h hv hone
 by_cases hneg:e1=0∧n<0
 case pos=>
  exact zq62
 have hn0:0≤n:=by
  exact zq96
 obtain ⟨N,rfl⟩:=Int.eq_ofNat_of_zero_le hn0
 have hbd:=decI_bd l s.1
 have hN:(N:Int)≤9223372036854775807:=by
  exact zq110
 have hk1:e1=0→0≤k1∧k1≤l.length:=fun he=>by
  exact zq99
 rw [show rdL l rd s=getS rd N (k1,e1) from by unfold rdL;rw [h1];exact if_neg hneg]
 obtain ⟨res,hres⟩:=eN0 (getS rd N (k1,e1))
 rw [←hres]
 have HRES:=hI0 hres
 have HNEG:=hI0 hneg
 have HK1:=hI0 hk1
 first
  |guard_hyp zT11:Tg 1;obtain ⟨i0,hi,hz0,hz1,hz2⟩:=info_parts info_Int
  |obtain ⟨i0,hi,hz0,hz1,hz2⟩:=info_parts info_Str
 have HI:=hI0 hi
 have HZ0:=hI0 hz0
 have HZ1:=hI0 hz1
 have HZ2:=hI0 hz2
 have KK:=hI0 KV
 have HMON:=hI0 hmon
 have HF_:=hI0 hf
 clear hf hi hz0 hz1 hz2 hres hneg hk1 hbd h1 KV hn0 hmon
 go_in
 go_wp2_with fail
 (with_reducible refine KI.mono ?_)
 rintro _ w1 ⟨rfl,hs1,hc1⟩
 have c2:=cW1 2 hs1 rfl
 have HS1:=hI0 hs1
 have HC1:=hI0 hc1
 clear hs1 hc1 KI
 have hcond:e1=0→¬(N:Int)<0:=fun _=>by omega
 have hN0:¬(N:Int)<0:=by omega
 go_wp2_with fail
 all_goals skip
 all_goals
  first
   |guard_hyp zT11:Tg 1;go_loopw [6,7] (fun o i wr=>∃(i':Nat) (Q:List Int) (st:Int×Int),i=.int .i64 (i':Int)∧i'≤N∧Q.length=i'∧Hid (OwnE 3 1 intE wr w.heap.size o Q)∧Hid (∀p∈Q,isT wr (fun b=>w.heap.size≤b∧b<wr.heap.size∧some b≠Value.ownBlock o) p)∧Hid (SrcAt wr R v st)∧Hid (Chg (·=R) w wr)∧Hid ((Q.map id++(getS rd (N-i') st).1,(getS rd (N-i') st).2)=res)∧i'≤l.length+1∧(st.2=0→(i':Int)≤st.1∧st.1≤l.length)) (fun _ i _=>N-(intOf i).toNat)
   |go_loopw [6,7] (fun o i wr=>∃(i':Nat) (Q:List ByteArray) (st:Int×Int),i=.int .i64 (i':Int)∧i'≤N∧Q.length=i'∧Hid (OwnE 9 1 strE wr w.heap.size o Q)∧Hid (∀p∈Q,isT wr (fun b=>w.heap.size≤b∧b<wr.heap.size∧some b≠Value.ownBlock o) p)∧Hid (SrcAt wr R v st)∧Hid (Chg (·=R) w wr)∧Hid ((Q.map id++(getS rd (N-i') st).1,(getS rd (N-i') st).2)=res)∧i'≤l.length+1∧(st.2=0→(i':Int)≤st.1∧st.1≤l.length)) (fun _ i _=>N-(intOf i).toNat)
  case atStart=>exact ⟨0,[],(k1,e1),rfl,Nat.zero_le _,rfl,hI0 (World.ownsRow_nil _ _ _ _),hI0 (fun p hp=>by cases hp),HS1,HC1,hI0 HRES.out.symm,by omega,HK1.out⟩
  obtain ⟨i',Q,⟨k,er⟩,rfl,hi',hQl,HO,HR,HS,HC,HG,hil,hik⟩:=hrel
  obtain ⟨wi,rfl⟩:=eN0 wr
  obtain ⟨Ao,co,rfl,o1,o2,o3⟩:=Rd.open_ (Rd.of_own HO.out)
  rw [hQl] at o1
  first
   |guard_hyp zT11:Tg 1;have HRd:Hid (RdE 1 intE wi (fun b=>w.heap.size≤b∧b<wi.heap.size) (.slice Ao i' co) Q∧∀p∈Q,isT wi (fun b=>w.heap.size≤b∧b<wi.heap.size) p):=hI0 zi7
   |have HRd:Hid (RdE 1 strE wi (fun b=>w.heap.size≤b∧b<wi.heap.size) (.slice Ao i' co) Q∧∀p∈Q,isT wi (fun b=>w.heap.size≤b∧b<wi.heap.size) p):=hI0 zi7
  have c2:=cW1 2 HS.out rfl
  clear o3 o2
  by_cases hlt:i'<N
  case neg=>
   exact zq70 2
  have hil2:(i':Int)<(N:Int):=by omega
  by_cases her:er=0
  case neg=>
   have HF:Hid (res=(Q.map id,(k,er))):=hI0 zi8
   go_wp2_with fail
   go_ret
   rw [HF.out]
   exact ⟨_,Q,rfl,HRd.out.1,HRd.out.2,rfl,HS.out,HC.out⟩
  subst her
  have hik2:=hik rfl
  simp only at hik2
  rcases hx:rd (k,0) with ⟨x,st'⟩
  have hst:st'.2=0→(i':Int)+1≤st'.1∧st'.1≤l.length:=fun he=>by
   exact zq113
  have KV:=KK.out (k,0) x st' wi hx HS.out HC.out
  have hgs:getS rd (N-i') (k,0)=(x::(getS rd (N-(i'+1)) st').1,(getS rd (N-(i'+1)) st').2):=by
   rw [show N-i'=(N-(i'+1))+1 by omega]
   exact getS_step rfl hx
  have HGS:=hI0 hgs
  have HST:=hI0 hst
  have HN:=hI0 (And.intro hil hik2)
  clear hgs hst hx hik hik2
  have hent:∀(args:Array Value) (V:World),(callFunc f args).run prog V=.ok (.enter f args) V:=HF_.out
  go_wp2_with fail
  (with_reducible refine KV.mono ?_)
  rintro _ w2 ⟨x1,rfl,hX,hxe,hs2,hc2⟩
  have hz2:=hc2.size
  have HX:=hI0 hX
  have HXE:=hI0 hxe
  have HS2:=hI0 hs2
  have HC2:=hI0 hc2
  clear hX hxe hs2 hc2 KV hent
  have hwi:w.heap.size≤wi.heap.size:=HC.out.size
  first
   |guard_hyp zT11:Tg 1;have HOA:=hI0 (getA (O:=(.cells #[.int .i64 x1] 3)) hQl hR HO.out HC2.out)
    have HNEW:=hI0 (Rd.new' w2 w2.heap.size rfl [.int .i64 x1] 3 1 1 rfl (by decide))
   |have HOA:=hI0 (getA (O:=(.cells #[.string x1] 9)) hQl hR HO.out HC2.out)
    have HNEW:=hI0 (Rd.new' w2 w2.heap.size rfl [.string x1] 9 1 1 rfl (by decide))
  have hi5:i'≤10000000001:=by have:=HN.out.1;omega
  first
   |guard_hyp zT11:Tg 1;go_wp2_with (at_builtin;refine wpList_append_app (w2.alloc (.cells #[.int .i64 x1] 3)) rfl (.tmp 39) (.tmp 43) 60 rfl w.heap.size 3 i0 _ 1 8 underlying60 HI.out HZ0.out HZ1.out HZ2.out rfl (by omega) (.slice Ao i' co) i' (Q.flatMap intE) rfl (.inl HOA.out) (·=w2.heap.size) _ 1 [.int .i64 x1] rfl HNEW.out (fun u hu=>by simp only [List.mem_cons,List.not_mem_nil,or_false] at hu;rcases hu with rfl<;>rfl) (by unfold maxLen;omega) (by omega) (by simp;omega) ?_;intro v3 w3 _ hO3 hg3 hb3 hv3)
    skip
   |go_wp2_with (at_builtin;refine wpList_append_app (w2.alloc (.cells #[.string x1] 9)) rfl (.tmp 39) (.tmp 43) 25 rfl w.heap.size 9 i0 _ 1 16 underlying25 HI.out HZ0.out HZ1.out HZ2.out rfl (by omega) (.slice Ao i' co) i' (Q.flatMap strE) rfl (.inl HOA.out) (·=w2.heap.size) _ 1 [.string x1] rfl HNEW.out (fun u hu=>by simp only [List.mem_cons,List.not_mem_nil,or_false] at hu;rcases hu with rfl<;>rfl) (by unfold maxLen;omega) (by omega) (by simp;omega) ?_;intro v3 w3 _ hO3 hg3 hb3 hv3)
  all_goals skip
  first
   |guard_hyp zT11:Tg 1;have HB4:=hI0 (getB (x:=(x1:Int)) isK_T hQl hR HO.out HR.out HC.out HX.out HS2.out HC2.out (hO3 (.inl (by omega))) hg3 hv3)
   |have HB4:=hI0 (getB (x:=(x1:ByteArray)) isK_T hQl hR HO.out HR.out HC.out HX.out HS2.out HC2.out (hO3 (.inl (by omega))) hg3 hv3)
  clear hO3 hg3 hb3 hv3
  go_wp2_with fail
  go_roundw
  case rel=>
   first
    |guard_hyp zT11:Tg 1;refine ⟨i'+1,Q++[(x1:Int)],st',by go_num,by omega,by simp [hQl],hI0 HB4.out.1,hI0 HB4.out.2.1,hI0 HB4.out.2.2.1,hI0 HB4.out.2.2.2,hI0 ?_,?_,?_⟩
    |refine ⟨i'+1,Q++[(x1:ByteArray)],st',by go_num,by omega,by simp [hQl],hI0 HB4.out.1,hI0 HB4.out.2.1,hI0 HB4.out.2.2.1,hI0 HB4.out.2.2.2,hI0 ?_,?_,?_⟩
   ·rw [←HG.out,HGS.out,List.map_append,List.map_singleton,HXE.out];simp
   ·have:=HN.out;omega
   ·intro he;have:=HST.out he;omega
  case measure=>simp [intOf];omega) : P := h ⟨⟩
theorem zq62 {P:Prop} (h:P:=by
 obtain ⟨rfl,hn⟩:=hneg
 rw [show rdL l rd s=([],k1,1) from by unfold rdL;rw [h1];exact if_pos ⟨rfl,hn⟩]
 clear KV h1 hf
 go_in
 go_wp2_with fail
 (with_reducible refine KI.mono ?_)
 rintro _ w1 ⟨rfl,hs1,hc1⟩
 have c2:=cW1 2 hs1 rfl
 have f2:=fW0 w1 R 2 _ _ hs1
 have HS1:=hI0 hs1
 have HC1:=hI0 hc1
 clear hs1 hc1 KI
 go_wp2_with fail
 go_loopw [6,7] (fun o i wr=>o=.slice none 0 0∧i=.int .i64 0∧wr=w1.setCell ⟨R,2,none⟩ (.int .i64 1)) (fun _ _ _=>0)
 case atStart=>exact ⟨rfl,rfl,rfl⟩
 obtain ⟨rfl,rfl,hw⟩:=hrel
 rw [hw]
 clear hw
 have hnn:¬(0:Int)<n:=by omega
 go_wp2_with fail
 go_ret
 exact ⟨_,[],rfl,Rd.nil _ _ _,(fun p hp=>by cases hp),rfl,HS1.out.set2 1,Chg.setCell (S:=(·=R)) (p:=⟨R,2,none⟩) HC1.out (.inl rfl) _⟩) : P := h
theorem zq70 {P:Prop} (i:Nat) (h:Tg i→P:=by
 intro zT70
 have hie:i'=N:=by omega
 have hil2:¬(i':Int)<(N:Int):=by omega
 first
  |guard_hyp zT70:Tg 2;have HF:Hid (res=(Q.map id,(k,er))):=hI0 zi5
  |guard_hyp zT70:Tg 1
   first
    |guard_hyp zT9:Tg 2;have HF:Hid (res=(Q.map RFor.er,(k,er))):=hI0 zi5
    |guard_hyp zT9:Tg 1;have HF:Hid (res=(Q.map RTv.er,(k,er))):=hI0 zi5
    |guard_hyp zT9:Tg 0;have HF:Hid (res=(Q.map RF.er,(k,er))):=hI0 zi5
    |have HF:Hid (res=(Q.map id,(k,er))):=hI0 zi5
  |guard_hyp zT5:Tg 5;have HF:Hid (res=(Q.map id,(k,er))):=hI0 zi5
  |guard_hyp zT5:Tg 4;have HF:Hid (res=(Q.map RDl.er,(k,er))):=hI0 zi5
  |guard_hyp zT5:Tg 1;have HF:Hid (res=(Q.map verEr,(k,er))):=hI0 zi5
  |guard_hyp zT5:Tg 0;have HF:Hid (res=(Q.map REn.er,(k,er))):=hI0 zi5
  |have HF:Hid (res=(Q.map RE.er,(k,er))):=hI0 zi5
 have HIE:=hI0 hie
 go_wp2_with fail
 go_ret
 rw [HF.out]
 exact ⟨_,Q,rfl,(by first|exact HRd.out.1|(have h:=HRd.out.1;rw [HIE.out] at h;exact h)),HRd.out.2,rfl,HS.out,HC.out⟩) : P := h ⟨⟩
theorem zq71 {P:Prop} (i:Nat) (h:Tg i→P:=by
 intro zT71
 rcases List.mem_append.1 hp with hp|hp
 ·first
   |guard_hyp zT71:Tg 1;exact isk.wide (isk.keep (HR p hp) (w':=w3) (fun b hb=>(hbk b (by omega) hb.2.2).trans (hc.block b hb.2.1 (by omega)))) (fun b hb=>⟨hb.1,by omega,hne b (by omega) hb.2.2⟩)
   |exact isk.wide (isk.keep (h.is p hp) (w':=w3) (fun b hb=>(hbk b (by omega) hb.2.2).trans (hk.chg.block b hb.2.1 (fun g=>by have:=hB b g;omega)))) (fun b hb=>⟨hb.1,by omega,hne b (by omega) hb.2.2⟩)
 ·rw [List.mem_singleton] at hp
  subst hp
  have ho:∀b,wi.heap.size≤b→some b≠(Value.slice A Q.length c).ownBlock:=fun b hb e=>by have:=(hown b e).2;omega
  exact isk.wide (isk.keep hX (w':=w3) (fun b hb=>hbk b hb.2 (ho b hb.1))) (fun b hb=>⟨by omega,by omega,hne b hb.2 (ho b hb.1)⟩)) : P := h ⟨⟩
theorem zq96 {P:Prop} (h:P:=by
 by_cases he:e1=0
 ·have:¬n<0:=fun h=>hneg ⟨he,h⟩
  omega
 ·have:=rdI_err (l:=l) (s:=s) (by rw [h1];exact he)
  rw [h1] at this
  simp only at this
  omega) : P := h
theorem zq99 {P:Prop} (h:P:=by
 subst he
 have g:=rdI_mono h1
 obtain ⟨a,r,hl2,_,hm⟩:=decI_got g.2.2
 have:l.length=(a++encI N).length+r.length:=by rw [hl2];simp [Nat.add_assoc]
 omega) : P := h
theorem zq102 {P:Prop} (h:P:=by
 have k:=hone s V hs hV
 rw [he] at k
 exact k.mono fun e w' ⟨r,a1,a2,a3,a4,a5⟩=>by
  obtain ⟨x1,x2⟩:=r
  exact ⟨_,_,a1,a2,a3,a4,a5⟩) : P := h
theorem zq110 {P:Prop} (h:P:=by
 have e:(N:Int)=(rdI l s).1:=by rw [h1]
 rw [e]
 unfold rdI rdS
 split
 ·omega
 ·split<;>exact hbd.2.1) : P := h
theorem zq113 {P:Prop} (h:P:=by
 have:=HMON.out (k,0) (by rw [hx];exact he)
 rw [hx] at this
 simp only at this
 omega) : P := h
theorem zi5 {P:Prop} (h:P:=by rw [←HG.out,getS_stop (.inl (by omega))];simp):P:=h
theorem zi7 {P:Prop} (h:P:=by rw [←hQl];exact ⟨(Rd.of_own HO.out),fun p hp=>isK_T.wide (HR.out p hp) fun b hb=>⟨hb.1,hb.2.1⟩⟩):P:=h
theorem zi8 {P:Prop} (h:P:=by rw [←HG.out,getS_stop (.inr her)];simp):P:=h
def OwnE {α:Type} (t:TypeId) (K:Nat) (enc:α→List Value) (w:World) (base:Nat) (v:Value) (Q:List α):Prop:=w.ownsRow base t K v Q.length (Q.flatMap enc)
def GetE {α:Type} (K:Nat) (enc:α→List Value) (IS:World→(Nat→Prop)→α→Prop) (er:α→α) (R:Nat) (v:Value) (res:List α×Int×Int) (w0:World) (e:Ending) (w:World):Prop:=
 ∃u Q,e=.returned u∧RdE K enc w (fun b=>w0.heap.size≤b∧b<w.heap.size) u Q∧(∀p∈Q,IS w (fun b=>w0.heap.size≤b∧b<w.heap.size) p)∧Q.map er=res.1∧SrcAt w R v res.2∧Chg (·=R) w0 w
def OneE {α:Type} (V:α→Value) (IS:World→(Nat→Prop)→α→Prop) (er:α→α) (R:Nat) (v:Value) (res:α×Int×Int) (w0:World) (e:Ending) (w:World):Prop:=
 ∃x,e=.returned (V x)∧IS w (fun b=>w0.heap.size≤b∧b<w.heap.size) x∧er x=res.1∧SrcAt w R v res.2∧Chg (·=R) w0 w
structure IsK {α:Type} (IS:World→(Nat→Prop)→α→Prop):Prop where
 keep:∀ {w w':World} {F:Nat→Prop} {x:α},IS w F x→Keeps F w w'→IS w' F x
 wide:∀ {w:World} {F G:Nat→Prop} {x:α},IS w F x→(∀b,F b→G b)→IS w G x
def isT {α:Type} (_:World) (_:Nat→Prop) (_:α):Prop:=True
theorem isK_T {α:Type}:IsK (isT (α:=α)):=⟨fun _ _=>trivial,fun _ _=>trivial⟩
theorem isK_F:IsK RF.is:=⟨fun h hk=>⟨Rd.keep h.1 hk,h.2⟩,fun h hw=>⟨Rd.wide h.1 hw,h.2⟩⟩
theorem isK_For:IsK RFor.is:=⟨fun h hk=>Rd.keep h hk,fun h hw=>Rd.wide h hw⟩
theorem exIs_wide {w:World} {F G:Nat→Prop} (hw:∀b,F b→G b):∀(d:Nat) (e:RE),exIs d w F e→exIs d w G e:=by
 intro d
 induction d with
 |zero=>intro e _;cases e;trivial
 |succ d ih=>
  intro e h
  obtain ⟨op,it,v,nm,A,c,args⟩:=e
  exact ⟨Rd.wide h.1 hw,h.2.1,h.2.2.1,fun a ha=>ih a (h.2.2.2 a ha)⟩
theorem isK_X:IsK exAll:=⟨fun h hk d=>exIs_keep hk d _ (h d),fun h hw d=>exIs_wide hw d _ (h d)⟩
def EntF (f:FuncId):Prop:=∀(args:Array Value) (V:World),(callFunc f args).run prog V=.ok (.enter f args) V
theorem entF {f:FuncId} {fn:Func} (hf:prog.funcs[f]? =some fn) (hb:fn.body.isNone=false:=by kernel_rfl) (hname:(fn.name== "runtime.NumGoroutine")=false:=by kernel_rfl):EntF f:=fun args V=>by
 have h1:fn.name≠ "runtime.NumGoroutine" :=by simpa using hname
 have h2:fn.body≠none:=by intro h;rw [h] at hb;cases hb
 simp [callFunc,hf,h1,h2]
section
variable {α:Type} {T:TypeId} {K:Nat} {enc:α→List Value} {R i c:Nat} {w wi w2 w3:World} {A:Option Addr} {Q:List α} {O:Obj} {v v3:Value} {s:Int×Int} {IS:World→(Nat→Prop)→α→Prop} {x:α}
theorem getA (hQl:Q.length=i) (hR:R<w.heap.size) (HO:OwnE T K enc wi w.heap.size (.slice A Q.length c) Q) (hc:Chg (·=R) wi w2):(w2.alloc O).ownsRow w.heap.size T K (.slice A i c) i (Q.flatMap enc):=by
 subst hQl
 unfold OwnE at HO
 refine World.ownsRow.alloc ?_ _
 exact World.ownsRow.kept (row:=some R) HO ⟨hc.os,hc.tape,hc.output,hc.size,fun b hb hne=>hc.block b hb (fun e=>hne (by rw [e]))⟩ (.inr (fun e=>by have:=(own_block HO e.symm).1;omega))
theorem getB (isk:IsK IS) (hQl:Q.length=i) (hR:R<w.heap.size) (HO:OwnE T K enc wi w.heap.size (.slice A Q.length c) Q) (HR:∀p∈Q,IS wi (fun b=>w.heap.size≤b∧b<wi.heap.size∧some b≠Value.ownBlock (.slice A Q.length c)) p) (HC:Chg (·=R) w wi)
  (hX:IS w2 (fun b=>wi.heap.size≤b∧b<w2.heap.size) x) (hs:SrcAt w2 R v s) (hc:Chg (·=R) wi w2) (hO3:w3.ownsRow w.heap.size T K v3 (i+1) (Q.flatMap enc++enc x)) (hg:(w2.alloc O).grownBy w3 (Value.slice A i c).ownBlock)
  (hv:v3.ownBlock=(Value.slice A i c).ownBlock∨v3.ownBlock=some (w2.alloc O).heap.size):
  OwnE T K enc w3 w.heap.size v3 (Q++[x])∧(∀p∈Q++[x],IS w3 (fun b=>w.heap.size≤b∧b<w3.heap.size∧some b≠v3.ownBlock) p)∧SrcAt w3 R v s∧Chg (·=R) w w3:=by
 subst hQl
 have hwi:=HC.size
 have hz:=hc.size
 have hz3:w2.heap.size+1≤w3.heap.size:=by have:=hg.size;simpa using this
 have hown:∀b,some b=(Value.slice A Q.length c).ownBlock→w.heap.size≤b∧b<wi.heap.size:=fun b hb=>by
  obtain ⟨g1,cur,g2⟩:=own_block HO hb
  exact ⟨g1,(Array.getElem?_eq_some_iff.1 g2).1⟩
 have hbk:∀b,b<w2.heap.size→some b≠(Value.slice A Q.length c).ownBlock→w3.heap[b]? =w2.heap[b]? :=fun b hb hne=>(hg.block b (by simp;omega) hne).trans ((Below.of_alloc (w:=w2) O).block b hb)
 have hne:∀b,b<w2.heap.size→some b≠(Value.slice A Q.length c).ownBlock→some b≠v3.ownBlock:=fun b hb h=>by
  rcases hv with hv|hv
  ·rw [hv];exact h
  ·rw [hv];simp;omega
 refine ⟨?_,fun p hp=>?_,?_,?_⟩
 ·unfold OwnE
  rw [List.length_append,List.flatMap_append]
  simpa using hO3
 ·exact zq71 1
 ·exact (hbk R (by omega) (fun e=>by have:=(hown R e).1;omega)).trans hs
 ·exact ((HC.trans hc (fun _ _ h=>h)).alloc _).trans (Chg.of_grown hg) (fun b hb e=>by have:=(hown b e).1;omega)
end
theorem info_Col:(prog.info? 77).map (fun i=>(i.zero,i.size,i.bytes))=some (some (.agg #[.string ⟨#[]⟩,.int .i64 0,.bool false]),3,32):=by kernel_rfl
theorem getCol_any (R:Nat) (v:Value) (l:List UInt8) (rd:Int×Int→RCol×Int×Int) (f:FuncId) (hf:EntF f) (s:Int×Int) (w:World) (h:SrcAt w R v s) (hv:RdB w (·<R) v l) (hl:l.length≤10000000000) (hmon:Mon l rd)
  (hone:∀s V,SrcAt V R v s→Chg (·=R) w V→Calls prog f #[.pointer (some ⟨R,0,none⟩)] V (OneE (fun x:RCol=>.agg x.enc.toArray) isT id R v (rd s) V)):
  Calls prog 214 #[.pointer (some ⟨R,0,none⟩),.func (.func f) #[] #[]] w (GetE 3 RCol.enc isT id R v (rdL l rd s) w):=by
 exact zq9 3
theorem info_Int:(prog.info? 3).map (fun i=>(i.zero,i.size,i.bytes))=some (some (.int .i64 0),1,8):=by kernel_rfl
theorem getInt_any (R:Nat) (v:Value) (l:List UInt8) (rd:Int×Int→Int×Int×Int) (f:FuncId) (hf:EntF f) (s:Int×Int) (w:World) (h:SrcAt w R v s) (hv:RdB w (·<R) v l) (hl:l.length≤10000000000) (hmon:Mon l rd)
  (hone:∀s V,SrcAt V R v s→Chg (·=R) w V→Calls prog f #[.pointer (some ⟨R,0,none⟩)] V (OneE (fun x:Int=>.int .i64 x) isT id R v (rd s) V)):
  Calls prog 165 #[.pointer (some ⟨R,0,none⟩),.func (.func f) #[] #[]] w (GetE 1 intE isT id R v (rdL l rd s) w):=by
 exact zq11 1
theorem info_For:(prog.info? 278).map (fun i=>(i.zero,i.size,i.bytes))=some (some (.agg #[.slice none 0 0,.string ⟨#[]⟩]),2,40):=by kernel_rfl
theorem getFor_any (R:Nat) (v:Value) (l:List UInt8) (rd:Int×Int→RFor×Int×Int) (f:FuncId) (hf:EntF f) (s:Int×Int) (w:World) (h:SrcAt w R v s) (hv:RdB w (·<R) v l) (hl:l.length≤10000000000) (hmon:Mon l rd)
  (hone:∀s V,SrcAt V R v s→Chg (·=R) w V→Calls prog f #[.pointer (some ⟨R,0,none⟩)] V (OneE (fun x:RFor=>.agg x.enc.toArray) RFor.is RFor.er R v (rd s) V)):
  Calls prog 215 #[.pointer (some ⟨R,0,none⟩),.func (.func f) #[] #[]] w (GetE 2 RFor.enc RFor.is RFor.er R v (rdL l rd s) w):=by
 exact zq9 2
end Go.Proofs.YtbfdegkickjbpaaGreat
