/-
 PbC
-/
import Derived.Test.YtgfhknnklapldaaGreatDoorBPbB
import Derived.Test.YtgfhknnklapldaaGreatDoorBPaB
namespace Go.Proofs.YtgfhknnklapldaaGreatDoor
open Go.Proofs.Tryz
set_option maxRecDepth 99999
set_option maxHeartbeats 0
open Go.RowKit Go.Lib Go.IntWalk Go.Sort Go.Shelf
theorem yq0 {P:Prop} (i:Nat) (h:Th i→P:=by
 intro yT0
 have KI:=hI0 (cnum_any b l i d r w he h hi hl)
 have hbd:(cnumI l (i,d)).1≤9223372036854775807:=cnumI_hi l (i,d)
 have hle:=cnumI_le (l:=l) (st:=(i,d)) hi
 have hge:=cnumI_ge (l:=l) (st:=(i,d))
 obtain ⟨res,hres⟩:=eN0 (pMany l one (i,d))
 have HRES:Hid (res=pLoop one (cnumI l (i,d)).1.toNat ((cnumI l (i,d)).2.1,(cnumI l (i,d)).2.2||decide ((cnumI l (i,d)).1<0))):=hI0 hres
 rw [←hres]
 have hR:=h.lt
 unfold CurTo at KI
 generalize cnumI l (i,d)=p at *
 obtain ⟨n,k1,e1⟩:=p
 dsimp only at KI hbd hle hge HRES
 first
  |guard_hyp yT0:Th 5;have KV:∀k q x k' q' V,one (k,q)=(x,k',q')→CurAt V b (strB l) k q r→Chg (·=b) w V→0<k→k≤l.length→Calls prog f #[.pointer (some ⟨b,0,none⟩)] V fun e w'=>∃x1,e=.returned (.int .i64 x1)∧(isC (fun _:Int=>True)) w' (fun g=>V.heap.size≤g∧g<w'.heap.size) (x1:Int)∧id (x1:Int)=x∧CurAt w' b (strB l) k' q' r∧Chg (·=b) V w':=fun k q x k' q' V he hs hV h1 h2=>by
    exact yq16 3
  |guard_hyp yT0:Th 4;have KV:∀k q x k' q' V,one (k,q)=(x,k',q')→CurAt V b (strB l) k q r→Chg (·=b) w V→0<k→k≤l.length→Calls prog f #[.pointer (some ⟨b,0,none⟩)] V fun e w'=>∃x1 x2 x3,e=.returned (.agg #[.int .i64 x1,.int .i64 x2,.string x3])∧(isC goV) w' (fun g=>V.heap.size≤g∧g<w'.heap.size) (⟨x1,x2,x3⟩:Val)∧id (⟨x1,x2,x3⟩:Val)=x∧CurAt w' b (strB l) k' q' r∧Chg (·=b) V w':=fun k q x k' q' V he hs hV h1 h2=>by
    exact yq16 2
  |guard_hyp yT0:Th 3;have KV:∀k q x k' q' V,one (k,q)=(x,k',q')→CurAt V b (strB l) k q r→Chg (·=b) w V→0<k→k≤l.length→Calls prog f #[.pointer (some ⟨b,0,none⟩)] V fun e w'=>∃x1 x2 x3,e=.returned (.agg #[.string x1,.int .i64 x2,.bool x3])∧(isC (fun _:RCol=>True)) w' (fun g=>V.heap.size≤g∧g<w'.heap.size) (⟨x1,x2,x3⟩:RCol)∧id (⟨x1,x2,x3⟩:RCol)=x∧CurAt w' b (strB l) k' q' r∧Chg (·=b) V w':=fun k q x k' q' V he hs hV h1 h2=>by
    exact yq16 2
  |guard_hyp yT0:Th 2;have KV:∀k q x k' q' V,one (k,q)=(x,k',q')→CurAt V b (strB l) k q r→Chg (·=b) w V→0<k→k≤l.length→Calls prog f #[.pointer (some ⟨LB,0,none⟩)] V fun e w'=>∃xA xc xl xt,e=.returned (.agg #[.slice xA xl.length xc,.string xt])∧RFor.is w' (fun g=>V.heap.size≤g∧g<w'.heap.size) (⟨xA,xc,xl,xt⟩:RFor)∧RFor.er (⟨xA,xc,xl,xt⟩:RFor)=x∧CurAt w' b (strB l) k' q' r∧Chg (·=b) V w':=fun k q x k' q' V he hs hV h1 h2=>by
    exact yq16 1
  |guard_hyp yT0:Th 1;have KV:∀k q x k' q' V,one (k,q)=(x,k',q')→CurAt V b (strB l) k q r→Chg (·=b) w V→0<k→k≤l.length→Calls prog f #[.pointer (some ⟨LB,0,none⟩)] V fun e w'=>∃xo xi x1 x2 x3 xn xA xc xas,e=.returned (.agg #[.int .i64 xo,.int .i64 xi,.int .i64 x1,.int .i64 x2,.string x3,.string xn,.slice xA xas.length xc])∧exAll w' (fun g=>V.heap.size≤g∧g<w'.heap.size) (⟨xo,xi,⟨x1,x2,x3⟩,xn,xA,xc,xas⟩:RE)∧RE.er (⟨xo,xi,⟨x1,x2,x3⟩,xn,xA,xc,xas⟩:RE)=x∧CurAt w' b (strB l) k' q' r∧Chg (·=b) V w':=fun k q x k' q' V he hs hV h1 h2=>by
    exact yq16 0
  |have KV:∀k q x k' q' V,one (k,q)=(x,k',q')→CurAt V b (strB l) k q r→Chg (·=b) w V→0<k→k≤l.length→Calls prog f #[.pointer (some ⟨LB,0,none⟩),.pointer (some ⟨LV,0,none⟩)] V fun e w'=>∃xo xi x1 x2 x3 xn xA xc xas,e=.returned (.agg #[.int .i64 xo,.int .i64 xi,.int .i64 x1,.int .i64 x2,.string x3,.string xn,.slice xA xas.length xc])∧exAll w' (fun g=>V.heap.size≤g∧g<w'.heap.size) (⟨xo,xi,⟨x1,x2,x3⟩,xn,xA,xc,xas⟩:RE)∧RE.er (⟨xo,xi,⟨x1,x2,x3⟩,xn,xA,xc,xas⟩:RE)=x∧CurAt w' b (strB l) k' q' r∧Chg (·=b) V w':=fun k q x k' q' V he hs hV h1 h2=>by
    exact yq16 0
 have HKV:=hI0 KV
 have HADV:=hI0 hadv
 have HL:=hI0 hl
 clear h hone he hres KV hadv
 obtain ⟨S,hS⟩:=eN0 (strB l)
 have HS:=hI0 hS
 rw [←hS] at KI HKV
 unfold ManyQ
 rw [←hS]
 clear hS
 by_cases hneg:n<0
 case pos=>
  have HR:Hid (res=([],k1,true)):=hI0 yi0
  clear hf
  go_in
  go_wp2_with fail
  (with_reducible refine KI.out.mono ?_)
  rintro _ w1 ⟨rfl,hs1,hc1⟩
  have c2:=cW1 2 hs1 rfl
  have f2:=fW0 w1 b 2 _ _ hs1
  have HS1:=hI0 hs1
  have HC1:=hI0 hc1
  clear hs1 hc1 KI
  go_wp2_with fail
  go_loopw [6,7] (fun o i wr=>o=.slice none 0 0∧i=.int .i64 0∧wr=w1.setCell ⟨b,2,none⟩ (.bool true)) (fun _ _ _=>0)
  case atStart=>exact ⟨rfl,rfl,rfl⟩
  obtain ⟨rfl,rfl,hw⟩:=hrel
  rw [hw]
  clear hw
  have hnn:¬(0:Int)<n:=by omega
  go_wp2_with fail
  go_ret
  rw [HR.out]
  exact ⟨_,rfl,[],Rd.nil _ _ _,(fun p hp=>by cases hp),rfl,CurAt.bad HS1.out,HC1.out.trans (chg_set w1 b 2 _) (fun _ _ h=>h)⟩
 obtain ⟨N,rfl⟩:=Int.eq_ofNat_of_zero_le (show 0≤n by omega)
 have HRES2:Hid (res=pLoop one N (k1,e1)):=hI0 yi2
 clear HRES hneg
 first
  |guard_hyp yT0:Th 5;obtain ⟨i0,hi,hz0,hz1,hz2⟩:=info_parts infInt
  |guard_hyp yT0:Th 4;obtain ⟨i0,hi,hz0,hz1,hz2⟩:=info_parts infVal
  |guard_hyp yT0:Th 3;obtain ⟨i0,hi,hz0,hz1,hz2⟩:=info_parts infCol
  |guard_hyp yT0:Th 2;obtain ⟨i0,hi,hz0,hz1,hz2⟩:=info_parts infFor
  |obtain ⟨i0,hi,hz0,hz1,hz2⟩:=info_parts infExp
 have HI:=hI0 hi
 have HZ0:=hI0 hz0
 have HZ1:=hI0 hz1
 have HZ2:=hI0 hz2
 have HF_:=hI0 hf
 have HK0:Hid (0<k1∧k1≤l.length):=hI0 (by omega)
 clear hf hi hz0 hz1 hz2 hle hge
 go_in
 go_wp2_with fail
 (with_reducible refine KI.out.mono ?_)
 rintro _ w1 ⟨rfl,hs1,hc1⟩
 have HS1:=hI0 hs1
 have HC1:=hI0 hc1
 clear hs1 hc1 KI
 have hN0:¬(N:Int)<0:=by omega
 go_wp2_with fail
 first
  |guard_hyp yT0:Th 5;go_loopw [6,7] (fun o i wr=>∃(i':Nat) (Q:List Int) (st:Nat×Bool),i=.int .i64 (i':Int)∧i'≤N∧Q.length=i'∧Hid (OwnQ 3 1 intE wr w.heap.size o Q)∧Hid (∀p∈Q,(isC (fun _:Int=>True)) wr (fun g=>w.heap.size≤g∧g<wr.heap.size∧some g≠Value.ownBlock o) p)∧Hid (CurAt wr b S st.1 st.2 r)∧Hid (Chg (·=b) w wr)∧Hid ((Q.map id++(pLoop one (N-i') st).1,(pLoop one (N-i') st).2)=res)∧Hid (i'≤l.length+1∧0<st.1∧st.1≤l.length∧(st.2=false→i'≤st.1))) (fun _ i _=>N-(intOf i).toNat)
  |guard_hyp yT0:Th 4;go_loopw [6,7] (fun o i wr=>∃(i':Nat) (Q:List Val) (st:Nat×Bool),i=.int .i64 (i':Int)∧i'≤N∧Q.length=i'∧Hid (OwnQ 51 3 Val.cells wr w.heap.size o Q)∧Hid (∀p∈Q,(isC goV) wr (fun g=>w.heap.size≤g∧g<wr.heap.size∧some g≠Value.ownBlock o) p)∧Hid (CurAt wr b S st.1 st.2 r)∧Hid (Chg (·=b) w wr)∧Hid ((Q.map id++(pLoop one (N-i') st).1,(pLoop one (N-i') st).2)=res)∧Hid (i'≤l.length+1∧0<st.1∧st.1≤l.length∧(st.2=false→i'≤st.1))) (fun _ i _=>N-(intOf i).toNat)
  |guard_hyp yT0:Th 3;go_loopw [6,7] (fun o i wr=>∃(i':Nat) (Q:List RCol) (st:Nat×Bool),i=.int .i64 (i':Int)∧i'≤N∧Q.length=i'∧Hid (OwnQ 75 3 RCol.enc wr w.heap.size o Q)∧Hid (∀p∈Q,(isC (fun _:RCol=>True)) wr (fun g=>w.heap.size≤g∧g<wr.heap.size∧some g≠Value.ownBlock o) p)∧Hid (CurAt wr b S st.1 st.2 r)∧Hid (Chg (·=b) w wr)∧Hid ((Q.map id++(pLoop one (N-i') st).1,(pLoop one (N-i') st).2)=res)∧Hid (i'≤l.length+1∧0<st.1∧st.1≤l.length∧(st.2=false→i'≤st.1))) (fun _ i _=>N-(intOf i).toNat)
  |guard_hyp yT0:Th 2;go_loopw [6,7] (fun o i wr=>∃(i':Nat) (Q:List RFor) (st:Nat×Bool),i=.int .i64 (i':Int)∧i'≤N∧Q.length=i'∧Hid (OwnQ 158 2 RFor.enc wr w.heap.size o Q)∧Hid (∀p∈Q,RFor.is wr (fun g=>w.heap.size≤g∧g<wr.heap.size∧some g≠Value.ownBlock o) p)∧Hid (CurAt wr b S st.1 st.2 r)∧Hid (Chg (·=b) w wr)∧Hid ((Q.map RFor.er++(pLoop one (N-i') st).1,(pLoop one (N-i') st).2)=res)∧Hid (i'≤l.length+1∧0<st.1∧st.1≤l.length∧(st.2=false→i'≤st.1))) (fun _ i _=>N-(intOf i).toNat)
  |go_loopw [6,7] (fun o i wr=>∃(i':Nat) (Q:List RE) (st:Nat×Bool),i=.int .i64 (i':Int)∧i'≤N∧Q.length=i'∧Hid (OwnQ 117 7 RE.enc wr w.heap.size o Q)∧Hid (∀p∈Q,exAll wr (fun g=>w.heap.size≤g∧g<wr.heap.size∧some g≠Value.ownBlock o) p)∧Hid (CurAt wr b S st.1 st.2 r)∧Hid (Chg (·=b) w wr)∧Hid ((Q.map RE.er++(pLoop one (N-i') st).1,(pLoop one (N-i') st).2)=res)∧Hid (i'≤l.length+1∧0<st.1∧st.1≤l.length∧(st.2=false→i'≤st.1))) (fun _ i _=>N-(intOf i).toNat)
 case atStart=>exact ⟨0,[],(k1,e1),rfl,Nat.zero_le _,rfl,hI0 (World.ownsRow_nil _ _ _ _),hI0 (fun p hp=>by cases hp),HS1,HC1,hI0 HRES2.out.symm,hI0 ⟨Nat.zero_le _,HK0.out.1,HK0.out.2,fun _=>Nat.zero_le _⟩⟩
 obtain ⟨i',Q,⟨k,q⟩,rfl,hi',hQl,HO,HR,HC_,HC,HG,HB⟩:=hrel
 obtain ⟨wi,rfl⟩:=eN0 wr
 obtain ⟨Ao,co,rfl,o1,o2,o3⟩:=Rd.open_ (Rd.of_own HO.out)
 rw [hQl] at o1
 first
  |guard_hyp yT0:Th 5;have HRd:Hid (RdE 1 intE wi (fun g=>w.heap.size≤g∧g<wi.heap.size) (.slice Ao i' co) Q∧∀p∈Q,(isC (fun _:Int=>True)) wi (fun g=>w.heap.size≤g∧g<wi.heap.size) p):=hI0 yi3
  |guard_hyp yT0:Th 4;have HRd:Hid (RdE 3 Val.cells wi (fun g=>w.heap.size≤g∧g<wi.heap.size) (.slice Ao i' co) Q∧∀p∈Q,(isC goV) wi (fun g=>w.heap.size≤g∧g<wi.heap.size) p):=hI0 yi3
  |guard_hyp yT0:Th 3;have HRd:Hid (RdE 3 RCol.enc wi (fun g=>w.heap.size≤g∧g<wi.heap.size) (.slice Ao i' co) Q∧∀p∈Q,(isC (fun _:RCol=>True)) wi (fun g=>w.heap.size≤g∧g<wi.heap.size) p):=hI0 yi3
  |guard_hyp yT0:Th 2;have HRd:Hid (RdE 2 RFor.enc wi (fun g=>w.heap.size≤g∧g<wi.heap.size) (.slice Ao i' co) Q∧∀p∈Q,RFor.is wi (fun g=>w.heap.size≤g∧g<wi.heap.size) p):=hI0 (by rw [←hQl];exact ⟨(Rd.of_own HO.out),fun p hp=>isQ_For.wide (HR.out p hp) fun g hg=>⟨hg.1,hg.2.1⟩⟩)
  |have HRd:Hid (RdE 7 RE.enc wi (fun g=>w.heap.size≤g∧g<wi.heap.size) (.slice Ao i' co) Q∧∀p∈Q,exAll wi (fun g=>w.heap.size≤g∧g<wi.heap.size) p):=hI0 yi7
 have c2:=cW1 2 HC_.out rfl
 clear o3 o2
 by_cases hlt:i'<N
 case neg=>
  have hie:i'=N:=by omega
  have hil2:¬(i':Int)<(N:Int):=by omega
  first
   |guard_hyp yT0:Th 2;have HF:Hid (res=(Q.map RFor.er,(k,q))):=hI0 yi4
   |first|guard_hyp yT0:Th 0|guard_hyp yT0:Th 1
    have HF:Hid (res=(Q.map RE.er,(k,q))):=hI0 yi4
   |have HF:Hid (res=(Q.map id,(k,q))):=hI0 yi4
  have HIE:=hI0 hie
  clear hie
  go_wp2_with fail
  go_ret
  rw [HF.out]
  exact ⟨_,rfl,Q,(by first|exact HRd.out.1|(have h:=HRd.out.1;rw [HIE.out] at h;exact h)),HRd.out.2,by first|rfl|simp,HC_.out,HC.out⟩
 have hil2:(i':Int)<(N:Int):=by omega
 cases q
 case true=>
  first
   |guard_hyp yT0:Th 2;have HF:Hid (res=(Q.map RFor.er,(k,true))):=hI0 yi5
   |first|guard_hyp yT0:Th 0|guard_hyp yT0:Th 1
    have HF:Hid (res=(Q.map RE.er,(k,true))):=hI0 yi5
   |have HF:Hid (res=(Q.map id,(k,true))):=hI0 yi5
  go_wp2_with fail
  go_ret
  rw [HF.out]
  exact ⟨_,rfl,Q,HRd.out.1,HRd.out.2,by first|rfl|simp,HC_.out,HC.out⟩
 obtain ⟨hb1,hb2,hb3,hb4⟩:=HB.out
 have hb5:i'≤k:=hb4 rfl
 simp only at hb2 hb3
 rcases hx:one (k,false) with ⟨x,k',q'⟩
 have hst:=HADV.out.le (k,false) hb3
 have hgt:=HADV.out.gt (k,false) hb2 hb3
 rw [hx] at hst hgt
 simp only at hst hgt
 have KV:=hI0 (HKV.out k false x k' q' wi hx HC_.out HC.out hb2 hb3)
 have hgs:pLoop one (N-i') (k,false)=(x::(pLoop one (N-(i'+1)) (k',q')).1,(pLoop one (N-(i'+1)) (k',q')).2):=by
  rw [show N-i'=(N-(i'+1))+1 by omega]
  conv=>lhs;unfold pLoop
  rw [if_neg (by simp),hx]
 have HGS:=hI0 hgs
 have HN:Hid (i'+1≤l.length+1∧0<k'∧k'≤l.length∧(q'=false→i'+1≤k')):=hI0 ⟨by omega,by omega,by omega,fun hq=>by have:=hgt hq;omega⟩
 have hi5:i'≤10000000001:=by have:=HL.out;omega
 clear hgs hx hst hgt hb1 hb2 hb3 hb4 hb5
 have hent:∀(args:Array Value) (V:World),(callFunc f args).run prog V=.ok (.enter f args) V:=HF_.out
 go_wp2_with fail
 (with_reducible refine KV.out.mono ?_)
 first
  |guard_hyp yT0:Th 5;rintro _ w2 ⟨x1,rfl,hX,hxe,hs2,hc2⟩
   skip
  |guard_hyp yT0:Th 2;rintro _ w2 ⟨xA,xc,xl,xt,rfl,hX,hxe,hs2,hc2⟩
   skip
  |first|guard_hyp yT0:Th 3|guard_hyp yT0:Th 4
   rintro _ w2 ⟨x1,x2,x3,rfl,hX,hxe,hs2,hc2⟩
   skip
  |rintro _ w2 ⟨xo,xi,x1,x2,x3,xn,xA,xc,xas,rfl,hX,hxe,hs2,hc2⟩
 have HX:=hI0 hX
 have HXE:=hI0 hxe
 have HS2:=hI0 hs2
 have HC2:=hI0 hc2
 clear hX hxe hs2 hc2 KV hent
 have hwi:w.heap.size≤wi.heap.size:=HC.out.size
 have hz2:=HC2.out.size
 first
  |guard_hyp yT0:Th 5;have HOA:=hI0 (manyA (O:=(.cells #[.int .i64 x1] 3)) hQl hR HO.out HC2.out)
   have HNEW:=hI0 (Rd.new' w2 w2.heap.size rfl [.int .i64 x1] 3 1 1 rfl (by decide))
   go_wp2_with (at_builtin;refine wpList_append_app (w2.alloc (.cells #[.int .i64 x1] 3)) rfl (.tmp 31) (.tmp 34) 69 rfl w.heap.size 3 i0 _ 1 8 underlying69 HI.out HZ0.out HZ1.out HZ2.out rfl (by omega) (.slice Ao i' co) i' (Q.flatMap intE) rfl (.inl HOA.out) (·=w2.heap.size) _ 1 [.int .i64 x1] rfl HNEW.out (fun u hu=>by simp only [List.mem_cons,List.not_mem_nil,or_false] at hu;rcases hu with rfl<;>rfl) (by unfold maxLen;omega) (by omega) (by simp;omega) ?_;intro v3 w3 _ hO3 hg3 hb3 hv3)
   have HB4:=hI0 (manyB (x:=(x1:Int)) (isQ_C _) hQl hR HO.out HR.out HC.out HX.out HS2.out HC2.out (hO3 (.inl (by omega))) hg3 hv3)
  |guard_hyp yT0:Th 4;have HOA:=hI0 (manyA (O:=(.cells #[.int .i64 x1,.int .i64 x2,.string x3] 51)) hQl hR HO.out HC2.out)
   have HNEW:=hI0 (Rd.new' w2 w2.heap.size rfl [.int .i64 x1,.int .i64 x2,.string x3] 51 3 1 rfl (by decide))
   go_wp2_with (at_builtin;refine wpList_append_app (w2.alloc (.cells #[.int .i64 x1,.int .i64 x2,.string x3] 51)) rfl (.tmp 31) (.tmp 34) 52 rfl w.heap.size 51 i0 _ 3 32 underlying52 HI.out HZ0.out HZ1.out HZ2.out rfl (by omega) (.slice Ao i' co) i' (Q.flatMap Val.cells) rfl (.inl HOA.out) (·=w2.heap.size) _ 1 [.int .i64 x1,.int .i64 x2,.string x3] rfl HNEW.out (fun u hu=>by simp only [List.mem_cons,List.not_mem_nil,or_false] at hu;rcases hu with rfl|rfl|rfl<;>rfl) (by unfold maxLen;omega) (by omega) (by simp;omega) ?_;intro v3 w3 _ hO3 hg3 hb3 hv3)
   have HB4:=hI0 (manyB (x:=(⟨x1,x2,x3⟩:Val)) (isQ_C _) hQl hR HO.out HR.out HC.out HX.out HS2.out HC2.out (hO3 (.inl (by omega))) hg3 hv3)
  |guard_hyp yT0:Th 3;have HOA:=hI0 (manyA (O:=(.cells #[.string x1,.int .i64 x2,.bool x3] 75)) hQl hR HO.out HC2.out)
   have HNEW:=hI0 (Rd.new' w2 w2.heap.size rfl [.string x1,.int .i64 x2,.bool x3] 75 3 1 rfl (by decide))
   go_wp2_with (at_builtin;refine wpList_append_app (w2.alloc (.cells #[.string x1,.int .i64 x2,.bool x3] 75)) rfl (.tmp 31) (.tmp 34) 68 rfl w.heap.size 75 i0 _ 3 32 underlying68 HI.out HZ0.out HZ1.out HZ2.out rfl (by omega) (.slice Ao i' co) i' (Q.flatMap RCol.enc) rfl (.inl HOA.out) (·=w2.heap.size) _ 1 [.string x1,.int .i64 x2,.bool x3] rfl HNEW.out (fun u hu=>by simp only [List.mem_cons,List.not_mem_nil,or_false] at hu;rcases hu with rfl|rfl|rfl<;>rfl) (by unfold maxLen;omega) (by omega) (by simp;omega) ?_;intro v3 w3 _ hO3 hg3 hb3 hv3)
   have HB4:=hI0 (manyB (x:=(⟨x1,x2,x3⟩:RCol)) (isQ_C _) hQl hR HO.out HR.out HC.out HX.out HS2.out HC2.out (hO3 (.inl (by omega))) hg3 hv3)
  |guard_hyp yT0:Th 2;have HOA:=hI0 (manyA (O:=(.cells #[.slice xA xl.length xc,.string xt] 158)) hQl hR HO.out HC2.out)
   have HNEW:=hI0 (Rd.new' w2 w2.heap.size rfl [.slice xA xl.length xc,.string xt] 158 2 1 rfl (by decide))
   go_wp2_with (at_builtin;refine wpList_append_app (w2.alloc (.cells #[.slice xA xl.length xc,.string xt] 158)) rfl (.tmp 31) (.tmp 34) 70 rfl w.heap.size 158 i0 _ 2 40 underlying70 HI.out HZ0.out HZ1.out HZ2.out rfl (by omega) (.slice Ao i' co) i' (Q.flatMap RFor.enc) rfl (.inl HOA.out) (·=w2.heap.size) _ 1 [.slice xA xl.length xc,.string xt] rfl HNEW.out (fun u hu=>by simp only [List.mem_cons,List.not_mem_nil,or_false] at hu;rcases hu with rfl|rfl<;>rfl) (by unfold maxLen;omega) (by omega) (by simp;omega) ?_;intro v3 w3 _ hO3 hg3 hb3 hv3)
   have HB4:=hI0 (manyB (x:=(⟨xA,xc,xl,xt⟩:RFor)) isQ_For hQl hR HO.out HR.out HC.out HX.out HS2.out HC2.out (hO3 (.inl (by omega))) hg3 hv3)
  |have HOA:=hI0 (manyA (O:=(.cells #[.int .i64 xo,.int .i64 xi,.int .i64 x1,.int .i64 x2,.string x3,.string xn,.slice xA xas.length xc] 117)) hQl hR HO.out HC2.out)
   have HNEW:=hI0 (Rd.new' w2 w2.heap.size rfl [.int .i64 xo,.int .i64 xi,.int .i64 x1,.int .i64 x2,.string x3,.string xn,.slice xA xas.length xc] 117 7 1 rfl (by decide))
   go_wp2_with (at_builtin;refine wpList_append_app (w2.alloc (.cells #[.int .i64 xo,.int .i64 xi,.int .i64 x1,.int .i64 x2,.string x3,.string xn,.slice xA xas.length xc] 117)) rfl (.tmp 31) (.tmp 34) 71 rfl w.heap.size 117 i0 _ 7 88 underlying71 HI.out HZ0.out HZ1.out HZ2.out rfl (by omega) (.slice Ao i' co) i' (Q.flatMap RE.enc) rfl (.inl HOA.out) (·=w2.heap.size) _ 1 [.int .i64 xo,.int .i64 xi,.int .i64 x1,.int .i64 x2,.string x3,.string xn,.slice xA xas.length xc] rfl HNEW.out (fun u hu=>by simp only [List.mem_cons,List.not_mem_nil,or_false] at hu;rcases hu with rfl|rfl|rfl|rfl|rfl|rfl|rfl<;>rfl) (by unfold maxLen;omega) (by omega) (by simp;omega) ?_;intro v3 w3 _ hO3 hg3 hb3 hv3)
   have HB4:=hI0 (manyB (x:=(⟨xo,xi,⟨x1,x2,x3⟩,xn,xA,xc,xas⟩:RE)) isQ_X hQl hR HO.out HR.out HC.out HX.out HS2.out HC2.out (hO3 (.inl (by omega))) hg3 hv3)
 clear hO3 hg3 hb3 hv3
 go_wp2_with fail
 go_roundw
 case rel=>
  first
   |guard_hyp yT0:Th 5;refine ⟨i'+1,Q++[(x1:Int)],(k',q'),by go_num,by omega,by simp [hQl],hI0 HB4.out.1,hI0 HB4.out.2.1,hI0 HB4.out.2.2.1,hI0 HB4.out.2.2.2,hI0 ?_,HN⟩
   |guard_hyp yT0:Th 4;refine ⟨i'+1,Q++[(⟨x1,x2,x3⟩:Val)],(k',q'),by go_num,by omega,by simp [hQl],hI0 HB4.out.1,hI0 HB4.out.2.1,hI0 HB4.out.2.2.1,hI0 HB4.out.2.2.2,hI0 ?_,HN⟩
   |guard_hyp yT0:Th 3;refine ⟨i'+1,Q++[(⟨x1,x2,x3⟩:RCol)],(k',q'),by go_num,by omega,by simp [hQl],hI0 HB4.out.1,hI0 HB4.out.2.1,hI0 HB4.out.2.2.1,hI0 HB4.out.2.2.2,hI0 ?_,HN⟩
   |guard_hyp yT0:Th 2;refine ⟨i'+1,Q++[(⟨xA,xc,xl,xt⟩:RFor)],(k',q'),by go_num,by omega,by simp [hQl],hI0 HB4.out.1,hI0 HB4.out.2.1,hI0 HB4.out.2.2.1,hI0 HB4.out.2.2.2,hI0 ?_,HN⟩
   |refine ⟨i'+1,Q++[(⟨xo,xi,⟨x1,x2,x3⟩,xn,xA,xc,xas⟩:RE)],(k',q'),by go_num,by omega,by simp [hQl],hI0 HB4.out.1,hI0 HB4.out.2.1,hI0 HB4.out.2.2.1,hI0 HB4.out.2.2.2,hI0 ?_,HN⟩
  rw [←HG.out,HGS.out,List.map_append,List.map_singleton,HXE.out];simp
 case measure=>simp [intOf];omega) : P := h ⟨⟩
theorem yq16 {P:Prop} (i:Nat) (h:Th i→P:=by
 intro yT16
 have kk:=hone k q V hs hV h1 h2
 rw [he] at kk
 exact kk.mono fun e w' ⟨y,a1,a2,a3,a4,a5⟩=>by
  first
   |guard_hyp yT16:Th 3;exact ⟨_,a1,a2,a3,a4,a5⟩
   |guard_hyp yT16:Th 2;obtain ⟨x1,x2,x3⟩:=y
    exact ⟨_,_,_,a1,a2,a3,a4,a5⟩
   |guard_hyp yT16:Th 1;obtain ⟨xA,xc,xl,xt⟩:=y
    exact ⟨_,_,_,_,a1,a2,a3,a4,a5⟩
   |obtain ⟨xo,xi,⟨x1,x2,x3⟩,xn,xA,xc,xas⟩:=y
    exact ⟨_,_,_,_,_,_,_,_,_,a1,a2,a3,a4,a5⟩) : P := h ⟨⟩
theorem yi0 {P:Prop} (h:P:=by rw [HRES.out,decide_eq_true hneg,Bool.or_true,Int.toNat_of_nonpos (by omega)];rfl):P:=h
theorem yi2 {P:Prop} (h:P:=by rw [HRES.out,decide_eq_false hneg,Bool.or_false,Int.toNat_natCast]):P:=h
theorem yi3 {P:Prop} (h:P:=by rw [←hQl];exact ⟨(Rd.of_own HO.out),fun p hp=>(isQ_C _).wide (HR.out p hp) fun g hg=>⟨hg.1,hg.2.1⟩⟩):P:=h
theorem yi4 {P:Prop} (h:P:=by rw [←HG.out,show N-i'=0 by omega];simp [pLoop]):P:=h
theorem yi5 {P:Prop} (h:P:=by rw [←HG.out,pLoop_bad _ _ rfl];simp):P:=h
def OwnQ {α:Type} (t:TypeId) (K:Nat) (enc:α→List Value) (w:World) (base:Nat) (v:Value) (Q:List α):Prop:=w.ownsRow base t K v Q.length (Q.flatMap enc)
def ManyQ {α:Type} (K:Nat) (enc:α→List Value) (IS:World→(Nat→Prop)→α→Prop) (er:α→α) (b:Nat) (l:List UInt8) (r:List Value) (res:List α×Nat×Bool) (w0:World) (e:Ending) (w:World):Prop:=
 ∃u Q,e=.returned u∧RdE K enc w (fun g=>w0.heap.size≤g∧g<w.heap.size) u Q∧(∀p∈Q,IS w (fun g=>w0.heap.size≤g∧g<w.heap.size) p)∧Q.map er=res.1∧CurAt w b (strB l) res.2.1 res.2.2 r∧Chg (·=b) w0 w
def OneQ {α:Type} (V:α→Value) (IS:World→(Nat→Prop)→α→Prop) (er:α→α) (b:Nat) (l:List UInt8) (r:List Value) (res:α×Nat×Bool) (w0:World) (e:Ending) (w:World):Prop:=
 ∃x,e=.returned (V x)∧IS w (fun g=>w0.heap.size≤g∧g<w.heap.size) x∧er x=res.1∧CurAt w b (strB l) res.2.1 res.2.2 r∧Chg (·=b) w0 w
structure IsQ {α:Type} (IS:World→(Nat→Prop)→α→Prop):Prop where
 keep:∀ {w w':World} {F:Nat→Prop} {x:α},IS w F x→Keeps F w w'→IS w' F x
 wide:∀ {w:World} {F G:Nat→Prop} {x:α},IS w F x→(∀g,F g→G g)→IS w G x
def isC {α:Type} (P:α→Prop) (_:World) (_:Nat→Prop) (x:α):Prop:=P x
theorem isQ_C {α:Type} (P:α→Prop):IsQ (isC P):=⟨fun h _=>h,fun h _=>h⟩
theorem isQ_For:IsQ RFor.is:=⟨fun h hk=>Rd.keep h hk,fun h hw=>Rd.wide h hw⟩
theorem exIs_keepQ {w w':World} {F:Nat→Prop} (hk:Keeps F w w'):∀(d:Nat) (e:RE),exIs d w F e→exIs d w' F e:=by
 intro d
 induction d with
 |zero=>intro e _;cases e;trivial
 |succ d ih=>
  intro e h
  obtain ⟨op,it,v,nm,A,c,args⟩:=e
  exact ⟨Rd.keep h.1 hk,h.2.1,h.2.2.1,fun a ha=>ih a (h.2.2.2 a ha)⟩
theorem exIs_wideQ {w:World} {F G:Nat→Prop} (hw:∀g,F g→G g):∀(d:Nat) (e:RE),exIs d w F e→exIs d w G e:=by
 intro d
 induction d with
 |zero=>intro e _;cases e;trivial
 |succ d ih=>
  intro e h
  obtain ⟨op,it,v,nm,A,c,args⟩:=e
  exact ⟨Rd.wide h.1 hw,h.2.1,h.2.2.1,fun a ha=>ih a (h.2.2.2 a ha)⟩
theorem isQ_X:IsQ exAll:=⟨fun h hk d=>exIs_keepQ hk d _ (h d),fun h hw d=>exIs_wideQ hw d _ (h d)⟩
def EntQ (f:FuncId):Prop:=∀(args:Array Value) (V:World),(callFunc f args).run prog V=.ok (.enter f args) V
theorem entQ {f:FuncId} {fn:Func} (hf:prog.funcs[f]? =some fn) (hb:fn.body.isNone=false:=by kernel_rfl) (hname:(fn.name== "runtime.NumGoroutine")=false:=by kernel_rfl):EntQ f:=fun args V=>by
 have h1:fn.name≠ "runtime.NumGoroutine" :=by simpa using hname
 have h2:fn.body≠none:=by intro h;rw [h] at hb;cases hb
 simp [callFunc,hf,h1,h2]
structure Adv {α:Type} (l:List UInt8) (one:Nat×Bool→α×Nat×Bool):Prop where
 le:∀st,st.1≤l.length→st.1≤(one st).2.1∧(one st).2.1≤l.length
 gt:∀st,0<st.1→st.1≤l.length→(one st).2.2=false→st.1<(one st).2.1
theorem Bk.gt {α:Type} {one:Rdr α} {it:α→List (List UInt8)} {ok:α→Prop} (h:Bk one it ok) (hit:∀x,ok x→it x≠[]) {l:List UInt8} (hle:∀st,st.1≤l.length→st.1≤(one l st).2.1∧(one l st).2.1≤l.length):Adv l (one l):=by
 refine ⟨hle,fun st h0 hl hf=>?_⟩
 obtain ⟨a2,a3,a4,a5⟩:=h.got l st h0 hl hf
 have e:=congrArg List.length a5
 rw [List.length_append,List.length_drop,List.length_drop] at e
 cases hc:it (one l st).1 with
 |nil=>exact absurd hc (hit _ a2)
 |cons a q=>
  rw [hc,spc_cons] at e
  simp only [List.length_cons,List.length_append] at e
  omega
section
variable {α:Type} {T:TypeId} {K:Nat} {enc:α→List Value} {b i c k:Nat} {d:Bool} {S:ByteArray} {r:List Value} {w wi w2 w3:World} {A:Option Addr} {Q:List α} {O:Obj} {v3:Value} {IS:World→(Nat→Prop)→α→Prop} {x:α}
theorem manyA (hQl:Q.length=i) (hR:b<w.heap.size) (HO:OwnQ T K enc wi w.heap.size (.slice A Q.length c) Q) (hc:Chg (·=b) wi w2):(w2.alloc O).ownsRow w.heap.size T K (.slice A i c) i (Q.flatMap enc):=by
 subst hQl
 unfold OwnQ at HO
 refine World.ownsRow.alloc ?_ _
 exact World.ownsRow.kept (row:=some b) HO ⟨hc.os,hc.tape,hc.output,hc.size,fun g hg hne=>hc.block g hg (fun e=>hne (by rw [e]))⟩ (.inr (fun e=>by have:=(own_block HO e.symm).1;omega))
theorem manyB (isk:IsQ IS) (hQl:Q.length=i) (hR:b<w.heap.size) (HO:OwnQ T K enc wi w.heap.size (.slice A Q.length c) Q) (HR:∀p∈Q,IS wi (fun g=>w.heap.size≤g∧g<wi.heap.size∧some g≠Value.ownBlock (.slice A Q.length c)) p) (HC:Chg (·=b) w wi)
  (hX:IS w2 (fun g=>wi.heap.size≤g∧g<w2.heap.size) x) (hs:CurAt w2 b S k d r) (hc:Chg (·=b) wi w2) (hO3:w3.ownsRow w.heap.size T K v3 (i+1) (Q.flatMap enc++enc x)) (hg:(w2.alloc O).grownBy w3 (Value.slice A i c).ownBlock)
  (hv:v3.ownBlock=(Value.slice A i c).ownBlock∨v3.ownBlock=some (w2.alloc O).heap.size):
  OwnQ T K enc w3 w.heap.size v3 (Q++[x])∧(∀p∈Q++[x],IS w3 (fun g=>w.heap.size≤g∧g<w3.heap.size∧some g≠v3.ownBlock) p)∧CurAt w3 b S k d r∧Chg (·=b) w w3:=by
 subst hQl
 have hwi:=HC.size
 have hz:=hc.size
 have hz3:w2.heap.size+1≤w3.heap.size:=by have:=hg.size;simpa using this
 have hown:∀g,some g=(Value.slice A Q.length c).ownBlock→w.heap.size≤g∧g<wi.heap.size:=fun g hg=>by
  obtain ⟨g1,cur,g2⟩:=own_block HO hg
  exact ⟨g1,(Array.getElem?_eq_some_iff.1 g2).1⟩
 have hbk:∀g,g<w2.heap.size→some g≠(Value.slice A Q.length c).ownBlock→w3.heap[g]? =w2.heap[g]? :=fun g hb hne=>(hg.block g (by simp;omega) hne).trans ((Below.of_alloc (w:=w2) O).block g hb)
 have hne:∀g,g<w2.heap.size→some g≠(Value.slice A Q.length c).ownBlock→some g≠v3.ownBlock:=fun g hb h=>by
  rcases hv with hv|hv
  ·rw [hv];exact h
  ·rw [hv];simp;omega
 refine ⟨?_,fun p hp=>?_,?_,?_⟩
 ·unfold OwnQ
  rw [List.length_append,List.flatMap_append]
  simpa using hO3
 ·rcases List.mem_append.1 hp with hp|hp
  ·exact isk.wide (isk.keep (HR p hp) (w':=w3) (fun g hb=>(hbk g (by omega) hb.2.2).trans (hc.block g hb.2.1 (by omega)))) (fun g hb=>⟨hb.1,by omega,hne g (by omega) hb.2.2⟩)
  ·rw [List.mem_singleton] at hp
   subst hp
   have ho:∀g,wi.heap.size≤g→some g≠(Value.slice A Q.length c).ownBlock:=fun g hb e=>by have:=(hown g e).2;omega
   exact isk.wide (isk.keep hX (w':=w3) (fun g hb=>hbk g hb.2 (ho g hb.1))) (fun g hb=>⟨by omega,by omega,hne g hb.2 (ho g hb.1)⟩)
 ·exact (hbk b (by omega) (fun e=>by have:=(hown b e).1;omega)).trans hs
 ·exact ((HC.trans hc (fun _ _ h=>h)).alloc _).trans (Chg.of_grown hg) (fun g hb e=>by have:=(hown g e).1;omega)
end
theorem rdQ_slice {α:Type} {K:Nat} {enc:α→List Value} {w:World} {F:Nat→Prop} {v:Value} {l:List α} (h:RdE K enc w F v l):∃A c,v=.slice A l.length c:=by
 obtain ⟨A,c,rfl,_⟩:=Rd.open_ h
 exact ⟨A,c,rfl⟩
theorem cnumI_hi (l:List UInt8) (st:Nat×Bool):(cnumI l st).1≤9223372036854775807:=by
 unfold cnumI
 cases h:numV (tokI l st).1 with
 |none=>simp [numR]
 |some v=>exact (numV_some h).2.2
theorem spI_ge {l:List UInt8} {st:Nat×Bool}:st.1≤(spI l st).1:=by
 unfold spI
 split
 ·exact Nat.le_refl _
 ·split<;>simp
theorem tokI_ge {l:List UInt8} {st:Nat×Bool}:st.1≤(tokI l st).2.1:=Nat.le_trans spI_ge (Nat.le_add_right _ _)
theorem cnumI_ge {l:List UInt8} {st:Nat×Bool}:st.1≤(cnumI l st).2.1:=by
 unfold cnumI
 cases numV (tokI l st).1 with
 |none=>exact tokI_ge
 |some v=>exact tokI_ge
theorem infInt:(prog.info? 3).map (fun i=>(i.zero,i.size,i.bytes))=some (some (.int .i64 0),1,8):=by kernel_rfl
theorem manyInt_any (b:Nat) (l:List UInt8) (one:Nat×Bool→Int×Nat×Bool) (f:FuncId) (hf:EntQ f) (i:Nat) (d:Bool) (r:List Value) (w:World) (he:EnvP b w) (h:CurAt w b (strB l) i d r) (h0:0<i) (hi:i≤l.length) (hl:l.length≤4294967281) (hadv:Adv l one)
  (hone:∀k q V,CurAt V b (strB l) k q r→Chg (·=b) w V→0<k→k≤l.length→Calls prog f #[.pointer (some ⟨b,0,none⟩)] V (OneQ (fun x:Int=>.int .i64 x) (isC (fun _:Int=>True)) id b l r (one (k,q)) V)):
  Calls prog 140 #[.pointer (some ⟨b,0,none⟩),.func (.func f) #[.pointer (some ⟨b,0,none⟩)] #[]] w (ManyQ 1 intE (isC (fun _:Int=>True)) id b l r (pMany l one (i,d)) w):=by
 exact yq0 5
theorem infVal:(prog.info? 51).map (fun i=>(i.zero,i.size,i.bytes))=some (some (.agg #[.int .i64 0,.int .i64 0,.string ⟨#[]⟩]),3,32):=by kernel_rfl
theorem manyVal_any (b:Nat) (l:List UInt8) (one:Nat×Bool→Val×Nat×Bool) (f:FuncId) (hf:EntQ f) (i:Nat) (d:Bool) (r:List Value) (w:World) (he:EnvP b w) (h:CurAt w b (strB l) i d r) (h0:0<i) (hi:i≤l.length) (hl:l.length≤4294967281) (hadv:Adv l one)
  (hone:∀k q V,CurAt V b (strB l) k q r→Chg (·=b) w V→0<k→k≤l.length→Calls prog f #[.pointer (some ⟨b,0,none⟩)] V (OneQ (fun x:Val=>.agg x.cells.toArray) (isC goV) id b l r (one (k,q)) V)):
  Calls prog 147 #[.pointer (some ⟨b,0,none⟩),.func (.func f) #[.pointer (some ⟨b,0,none⟩)] #[]] w (ManyQ 3 Val.cells (isC goV) id b l r (pMany l one (i,d)) w):=by
 exact yq0 4
end Go.Proofs.YtgfhknnklapldaaGreatDoor
