/-
 PbD
-/
import Derived.Test.YtgfhknnklapldaaGreatDoorQPbC
namespace Go.Proofs.YtgfhknnklapldaaGreatDoor
open Go.Proofs.Tryz
set_option maxRecDepth 99999
set_option maxHeartbeats 0
open Go.RowKit Go.Lib Go.IntWalk Go.Sort Go.Shelf
theorem infCol:(prog.info? 75).map (fun i=>(i.zero,i.size,i.bytes))=some (some (.agg #[.string ⟨#[]⟩,.int .i64 0,.bool false]),3,32):=by kernel_rfl
theorem manyCol_any (b:Nat) (l:List UInt8) (one:Nat×Bool→RCol×Nat×Bool) (f:FuncId) (hf:EntQ f) (i:Nat) (d:Bool) (r:List Value) (w:World) (he:EnvP b w) (h:CurAt w b (strB l) i d r) (h0:0<i) (hi:i≤l.length) (hl:l.length≤4294967281) (hadv:Adv l one)
  (hone:∀k q V,CurAt V b (strB l) k q r→Chg (·=b) w V→0<k→k≤l.length→Calls prog f #[.pointer (some ⟨b,0,none⟩)] V (OneQ (fun x:RCol=>.agg x.enc.toArray) (isC (fun _:RCol=>True)) id b l r (one (k,q)) V)):
  Calls prog 138 #[.pointer (some ⟨b,0,none⟩),.func (.func f) #[.pointer (some ⟨b,0,none⟩)] #[]] w (ManyQ 3 RCol.enc (isC (fun _:RCol=>True)) id b l r (pMany l one (i,d)) w):=by
 have KI:=hI0 (cnum_any b l i d r w he h hi hl)
 have hbd:(cnumI l (i,d)).1≤9223372036854775807:=cnumI_hi l (i,d)
 have hle:=cnumI_le (l:=l) (st:=(i,d)) hi
 have hge:=cnumI_ge (l:=l) (st:=(i,d))
 obtain ⟨res,hres⟩:=eN0 (pMany l one (i,d))
 have HRES:Hid (res=pLoop one (cnumI l (i,d)).1.toNat ((cnumI l (i,d)).2.1,(cnumI l (i,d)).2.2||decide ((cnumI l (i,d)).1<0))):=hI0 hres
 rw [←hres]
 have hR:=h.lt
 unfold CurTo at KI
 generalize cnumI l (i,d)=p at *
 obtain ⟨n,k1,e1⟩:=p
 dsimp only at KI hbd hle hge HRES
 have KV:∀k q x k' q' V,one (k,q)=(x,k',q')→CurAt V b (strB l) k q r→Chg (·=b) w V→0<k→k≤l.length→Calls prog f #[.pointer (some ⟨b,0,none⟩)] V fun e w'=>∃x1 x2 x3,e=.returned (.agg #[.string x1,.int .i64 x2,.bool x3])∧(isC (fun _:RCol=>True)) w' (fun g=>V.heap.size≤g∧g<w'.heap.size) (⟨x1,x2,x3⟩:RCol)∧id (⟨x1,x2,x3⟩:RCol)=x∧CurAt w' b (strB l) k' q' r∧Chg (·=b) V w':=fun k q x k' q' V he hs hV h1 h2=>by
  have kk:=hone k q V hs hV h1 h2
  rw [he] at kk
  exact kk.mono fun e w' ⟨y,a1,a2,a3,a4,a5⟩=>by
   obtain ⟨x1,x2,x3⟩:=y
   exact ⟨_,_,_,a1,a2,a3,a4,a5⟩
 have HKV:=hI0 KV
 have HADV:=hI0 hadv
 have HL:=hI0 hl
 clear h hone he hres KV hadv
 obtain ⟨S,hS⟩:=eN0 (strB l)
 have HS:=hI0 hS
 rw [←hS] at KI HKV
 unfold ManyQ
 rw [←hS]
 clear hS
 by_cases hneg:n<0
 case pos=>
  have HR:Hid (res=([],k1,true)):=hI0 (by rw [HRES.out,decide_eq_true hneg,Bool.or_true,Int.toNat_of_nonpos (by omega)];rfl)
  clear hf
  go_in
  go_wp2_with fail
  (with_reducible refine KI.out.mono ?_)
  rintro _ w1 ⟨rfl,hs1,hc1⟩
  have c2:=cW1 2 hs1 rfl
  have f2:=fW0 w1 b 2 _ _ hs1
  have HS1:=hI0 hs1
  have HC1:=hI0 hc1
  clear hs1 hc1 KI
  go_wp2_with fail
  go_loopw [6,7] (fun o i wr=>o=.slice none 0 0∧i=.int .i64 0∧wr=w1.setCell ⟨b,2,none⟩ (.bool true)) (fun _ _ _=>0)
  case atStart=>exact ⟨rfl,rfl,rfl⟩
  obtain ⟨rfl,rfl,hw⟩:=hrel
  rw [hw]
  clear hw
  have hnn:¬(0:Int)<n:=by omega
  go_wp2_with fail
  go_ret
  rw [HR.out]
  exact ⟨_,rfl,[],Rd.nil _ _ _,(fun p hp=>by cases hp),rfl,CurAt.bad HS1.out,HC1.out.trans (chg_set w1 b 2 _) (fun _ _ h=>h)⟩
 obtain ⟨N,rfl⟩:=Int.eq_ofNat_of_zero_le (show 0≤n by omega)
 have HRES2:Hid (res=pLoop one N (k1,e1)):=hI0 (by rw [HRES.out,decide_eq_false hneg,Bool.or_false,Int.toNat_natCast])
 clear HRES hneg
 obtain ⟨i0,hi,hz0,hz1,hz2⟩:=info_parts infCol
 have HI:=hI0 hi
 have HZ0:=hI0 hz0
 have HZ1:=hI0 hz1
 have HZ2:=hI0 hz2
 have HF_:=hI0 hf
 have HK0:Hid (0<k1∧k1≤l.length):=hI0 (by omega)
 clear hf hi hz0 hz1 hz2 hle hge
 go_in
 go_wp2_with fail
 (with_reducible refine KI.out.mono ?_)
 rintro _ w1 ⟨rfl,hs1,hc1⟩
 have HS1:=hI0 hs1
 have HC1:=hI0 hc1
 clear hs1 hc1 KI
 have hN0:¬(N:Int)<0:=by omega
 go_wp2_with fail
 go_loopw [6,7] (fun o i wr=>∃(i':Nat) (Q:List RCol) (st:Nat×Bool),i=.int .i64 (i':Int)∧i'≤N∧Q.length=i'∧Hid (OwnQ 75 3 RCol.enc wr w.heap.size o Q)∧Hid (∀p∈Q,(isC (fun _:RCol=>True)) wr (fun g=>w.heap.size≤g∧g<wr.heap.size∧some g≠Value.ownBlock o) p)∧Hid (CurAt wr b S st.1 st.2 r)∧Hid (Chg (·=b) w wr)∧Hid ((Q.map id++(pLoop one (N-i') st).1,(pLoop one (N-i') st).2)=res)∧Hid (i'≤l.length+1∧0<st.1∧st.1≤l.length∧(st.2=false→i'≤st.1))) (fun _ i _=>N-(intOf i).toNat)
 case atStart=>exact ⟨0,[],(k1,e1),rfl,Nat.zero_le _,rfl,hI0 (World.ownsRow_nil _ _ _ _),hI0 (fun p hp=>by cases hp),HS1,HC1,hI0 HRES2.out.symm,hI0 ⟨Nat.zero_le _,HK0.out.1,HK0.out.2,fun _=>Nat.zero_le _⟩⟩
 obtain ⟨i',Q,⟨k,q⟩,rfl,hi',hQl,HO,HR,HC_,HC,HG,HB⟩:=hrel
 obtain ⟨wi,rfl⟩:=eN0 wr
 obtain ⟨Ao,co,rfl,o1,o2,o3⟩:=Rd.open_ (Rd.of_own HO.out)
 rw [hQl] at o1
 have HRd:Hid (RdE 3 RCol.enc wi (fun g=>w.heap.size≤g∧g<wi.heap.size) (.slice Ao i' co) Q∧∀p∈Q,(isC (fun _:RCol=>True)) wi (fun g=>w.heap.size≤g∧g<wi.heap.size) p):=hI0 (by rw [←hQl];exact ⟨(Rd.of_own HO.out),fun p hp=>(isQ_C _).wide (HR.out p hp) fun g hg=>⟨hg.1,hg.2.1⟩⟩)
 have c2:=cW1 2 HC_.out rfl
 clear o3 o2
 by_cases hlt:i'<N
 case neg=>
  have hie:i'=N:=by omega
  have hil2:¬(i':Int)<(N:Int):=by omega
  have HF:Hid (res=(Q.map id,(k,q))):=hI0 (by rw [←HG.out,show N-i'=0 by omega];simp [pLoop])
  have HIE:=hI0 hie
  clear hie
  go_wp2_with fail
  go_ret
  rw [HF.out]
  exact ⟨_,rfl,Q,(by first|exact HRd.out.1|(have h:=HRd.out.1;rw [HIE.out] at h;exact h)),HRd.out.2,by first|rfl|simp,HC_.out,HC.out⟩
 have hil2:(i':Int)<(N:Int):=by omega
 cases q
 case true=>
  have HF:Hid (res=(Q.map id,(k,true))):=hI0 (by rw [←HG.out,pLoop_bad _ _ rfl];simp)
  go_wp2_with fail
  go_ret
  rw [HF.out]
  exact ⟨_,rfl,Q,HRd.out.1,HRd.out.2,by first|rfl|simp,HC_.out,HC.out⟩
 obtain ⟨hb1,hb2,hb3,hb4⟩:=HB.out
 have hb5:i'≤k:=hb4 rfl
 simp only at hb2 hb3
 rcases hx:one (k,false) with ⟨x,k',q'⟩
 have hst:=HADV.out.le (k,false) hb3
 have hgt:=HADV.out.gt (k,false) hb2 hb3
 rw [hx] at hst hgt
 simp only at hst hgt
 have KV:=hI0 (HKV.out k false x k' q' wi hx HC_.out HC.out hb2 hb3)
 have hgs:pLoop one (N-i') (k,false)=(x::(pLoop one (N-(i'+1)) (k',q')).1,(pLoop one (N-(i'+1)) (k',q')).2):=by
  rw [show N-i'=(N-(i'+1))+1 by omega]
  conv=>lhs;unfold pLoop
  rw [if_neg (by simp),hx]
 have HGS:=hI0 hgs
 have HN:Hid (i'+1≤l.length+1∧0<k'∧k'≤l.length∧(q'=false→i'+1≤k')):=hI0 ⟨by omega,by omega,by omega,fun hq=>by have:=hgt hq;omega⟩
 have hi5:i'≤10000000001:=by have:=HL.out;omega
 clear hgs hx hst hgt hb1 hb2 hb3 hb4 hb5
 have hent:∀(args:Array Value) (V:World),(callFunc f args).run prog V=.ok (.enter f args) V:=HF_.out
 go_wp2_with fail
 (with_reducible refine KV.out.mono ?_)
 rintro _ w2 ⟨x1,x2,x3,rfl,hX,hxe,hs2,hc2⟩
 have HX:=hI0 hX
 have HXE:=hI0 hxe
 have HS2:=hI0 hs2
 have HC2:=hI0 hc2
 clear hX hxe hs2 hc2 KV hent
 have hwi:w.heap.size≤wi.heap.size:=HC.out.size
 have hz2:=HC2.out.size
 have HOA:=hI0 (manyA (O:=(.cells #[.string x1,.int .i64 x2,.bool x3] 75)) hQl hR HO.out HC2.out)
 have HNEW:=hI0 (Rd.new' w2 w2.heap.size rfl [.string x1,.int .i64 x2,.bool x3] 75 3 1 rfl (by decide))
 go_wp2_with (at_builtin;refine wpList_append_app (w2.alloc (.cells #[.string x1,.int .i64 x2,.bool x3] 75)) rfl (.tmp 31) (.tmp 34) 68 rfl w.heap.size 75 i0 _ 3 32 underlying68 HI.out HZ0.out HZ1.out HZ2.out rfl (by omega) (.slice Ao i' co) i' (Q.flatMap RCol.enc) rfl (.inl HOA.out) (·=w2.heap.size) _ 1 [.string x1,.int .i64 x2,.bool x3] rfl HNEW.out (fun u hu=>by simp only [List.mem_cons,List.not_mem_nil,or_false] at hu;rcases hu with rfl|rfl|rfl<;>rfl) (by unfold maxLen;omega) (by omega) (by simp;omega) ?_;intro v3 w3 _ hO3 hg3 hb3 hv3)
 have HB4:=hI0 (manyB (x:=(⟨x1,x2,x3⟩:RCol)) (isQ_C _) hQl hR HO.out HR.out HC.out HX.out HS2.out HC2.out (hO3 (.inl (by omega))) hg3 hv3)
 clear hO3 hg3 hb3 hv3
 go_wp2_with fail
 go_roundw
 case rel=>
  refine ⟨i'+1,Q++[(⟨x1,x2,x3⟩:RCol)],(k',q'),by go_num,by omega,by simp [hQl],hI0 HB4.out.1,hI0 HB4.out.2.1,hI0 HB4.out.2.2.1,hI0 HB4.out.2.2.2,hI0 ?_,HN⟩
  rw [←HG.out,HGS.out,List.map_append,List.map_singleton,HXE.out];simp
 case measure=>simp [intOf];omega
theorem infFor:(prog.info? 158).map (fun i=>(i.zero,i.size,i.bytes))=some (some (.agg #[.slice none 0 0,.string ⟨#[]⟩]),2,40):=by kernel_rfl
theorem manyFor_any (b LB:Nat) (l:List UInt8) (one:Nat×Bool→RFor×Nat×Bool) (f:FuncId) (hf:EntQ f) (i:Nat) (d:Bool) (r:List Value) (w:World) (he:EnvP b w) (h:CurAt w b (strB l) i d r) (h0:0<i) (hi:i≤l.length) (hl:l.length≤4294967281) (hadv:Adv l one)
  (hone:∀k q V,CurAt V b (strB l) k q r→Chg (·=b) w V→0<k→k≤l.length→Calls prog f #[.pointer (some ⟨LB,0,none⟩)] V (OneQ (fun x:RFor=>.agg x.enc.toArray) RFor.is RFor.er b l r (one (k,q)) V)):
  Calls prog 141 #[.pointer (some ⟨b,0,none⟩),.func (.func f) #[] #[.pointer (some ⟨LB,0,none⟩)]] w (ManyQ 2 RFor.enc RFor.is RFor.er b l r (pMany l one (i,d)) w):=by
 have KI:=hI0 (cnum_any b l i d r w he h hi hl)
 have hbd:(cnumI l (i,d)).1≤9223372036854775807:=cnumI_hi l (i,d)
 have hle:=cnumI_le (l:=l) (st:=(i,d)) hi
 have hge:=cnumI_ge (l:=l) (st:=(i,d))
 obtain ⟨res,hres⟩:=eN0 (pMany l one (i,d))
 have HRES:Hid (res=pLoop one (cnumI l (i,d)).1.toNat ((cnumI l (i,d)).2.1,(cnumI l (i,d)).2.2||decide ((cnumI l (i,d)).1<0))):=hI0 hres
 rw [←hres]
 have hR:=h.lt
 unfold CurTo at KI
 generalize cnumI l (i,d)=p at *
 obtain ⟨n,k1,e1⟩:=p
 dsimp only at KI hbd hle hge HRES
 have KV:∀k q x k' q' V,one (k,q)=(x,k',q')→CurAt V b (strB l) k q r→Chg (·=b) w V→0<k→k≤l.length→Calls prog f #[.pointer (some ⟨LB,0,none⟩)] V fun e w'=>∃xA xc xl xt,e=.returned (.agg #[.slice xA xl.length xc,.string xt])∧RFor.is w' (fun g=>V.heap.size≤g∧g<w'.heap.size) (⟨xA,xc,xl,xt⟩:RFor)∧RFor.er (⟨xA,xc,xl,xt⟩:RFor)=x∧CurAt w' b (strB l) k' q' r∧Chg (·=b) V w':=fun k q x k' q' V he hs hV h1 h2=>by
  have kk:=hone k q V hs hV h1 h2
  rw [he] at kk
  exact kk.mono fun e w' ⟨y,a1,a2,a3,a4,a5⟩=>by
   obtain ⟨xA,xc,xl,xt⟩:=y
   exact ⟨_,_,_,_,a1,a2,a3,a4,a5⟩
 have HKV:=hI0 KV
 have HADV:=hI0 hadv
 have HL:=hI0 hl
 clear h hone he hres KV hadv
 obtain ⟨S,hS⟩:=eN0 (strB l)
 have HS:=hI0 hS
 rw [←hS] at KI HKV
 unfold ManyQ
 rw [←hS]
 clear hS
 by_cases hneg:n<0
 case pos=>
  have HR:Hid (res=([],k1,true)):=hI0 (by rw [HRES.out,decide_eq_true hneg,Bool.or_true,Int.toNat_of_nonpos (by omega)];rfl)
  clear hf
  go_in
  go_wp2_with fail
  (with_reducible refine KI.out.mono ?_)
  rintro _ w1 ⟨rfl,hs1,hc1⟩
  have c2:=cW1 2 hs1 rfl
  have f2:=fW0 w1 b 2 _ _ hs1
  have HS1:=hI0 hs1
  have HC1:=hI0 hc1
  clear hs1 hc1 KI
  go_wp2_with fail
  go_loopw [6,7] (fun o i wr=>o=.slice none 0 0∧i=.int .i64 0∧wr=w1.setCell ⟨b,2,none⟩ (.bool true)) (fun _ _ _=>0)
  case atStart=>exact ⟨rfl,rfl,rfl⟩
  obtain ⟨rfl,rfl,hw⟩:=hrel
  rw [hw]
  clear hw
  have hnn:¬(0:Int)<n:=by omega
  go_wp2_with fail
  go_ret
  rw [HR.out]
  exact ⟨_,rfl,[],Rd.nil _ _ _,(fun p hp=>by cases hp),rfl,CurAt.bad HS1.out,HC1.out.trans (chg_set w1 b 2 _) (fun _ _ h=>h)⟩
 obtain ⟨N,rfl⟩:=Int.eq_ofNat_of_zero_le (show 0≤n by omega)
 have HRES2:Hid (res=pLoop one N (k1,e1)):=hI0 (by rw [HRES.out,decide_eq_false hneg,Bool.or_false,Int.toNat_natCast])
 clear HRES hneg
 obtain ⟨i0,hi,hz0,hz1,hz2⟩:=info_parts infFor
 have HI:=hI0 hi
 have HZ0:=hI0 hz0
 have HZ1:=hI0 hz1
 have HZ2:=hI0 hz2
 have HF_:=hI0 hf
 have HK0:Hid (0<k1∧k1≤l.length):=hI0 (by omega)
 clear hf hi hz0 hz1 hz2 hle hge
 go_in
 go_wp2_with fail
 (with_reducible refine KI.out.mono ?_)
 rintro _ w1 ⟨rfl,hs1,hc1⟩
 have HS1:=hI0 hs1
 have HC1:=hI0 hc1
 clear hs1 hc1 KI
 have hN0:¬(N:Int)<0:=by omega
 go_wp2_with fail
 go_loopw [6,7] (fun o i wr=>∃(i':Nat) (Q:List RFor) (st:Nat×Bool),i=.int .i64 (i':Int)∧i'≤N∧Q.length=i'∧Hid (OwnQ 158 2 RFor.enc wr w.heap.size o Q)∧Hid (∀p∈Q,RFor.is wr (fun g=>w.heap.size≤g∧g<wr.heap.size∧some g≠Value.ownBlock o) p)∧Hid (CurAt wr b S st.1 st.2 r)∧Hid (Chg (·=b) w wr)∧Hid ((Q.map RFor.er++(pLoop one (N-i') st).1,(pLoop one (N-i') st).2)=res)∧Hid (i'≤l.length+1∧0<st.1∧st.1≤l.length∧(st.2=false→i'≤st.1))) (fun _ i _=>N-(intOf i).toNat)
 case atStart=>exact ⟨0,[],(k1,e1),rfl,Nat.zero_le _,rfl,hI0 (World.ownsRow_nil _ _ _ _),hI0 (fun p hp=>by cases hp),HS1,HC1,hI0 HRES2.out.symm,hI0 ⟨Nat.zero_le _,HK0.out.1,HK0.out.2,fun _=>Nat.zero_le _⟩⟩
 obtain ⟨i',Q,⟨k,q⟩,rfl,hi',hQl,HO,HR,HC_,HC,HG,HB⟩:=hrel
 obtain ⟨wi,rfl⟩:=eN0 wr
 obtain ⟨Ao,co,rfl,o1,o2,o3⟩:=Rd.open_ (Rd.of_own HO.out)
 rw [hQl] at o1
 have HRd:Hid (RdE 2 RFor.enc wi (fun g=>w.heap.size≤g∧g<wi.heap.size) (.slice Ao i' co) Q∧∀p∈Q,RFor.is wi (fun g=>w.heap.size≤g∧g<wi.heap.size) p):=hI0 (by rw [←hQl];exact ⟨(Rd.of_own HO.out),fun p hp=>isQ_For.wide (HR.out p hp) fun g hg=>⟨hg.1,hg.2.1⟩⟩)
 have c2:=cW1 2 HC_.out rfl
 clear o3 o2
 by_cases hlt:i'<N
 case neg=>
  have hie:i'=N:=by omega
  have hil2:¬(i':Int)<(N:Int):=by omega
  have HF:Hid (res=(Q.map RFor.er,(k,q))):=hI0 (by rw [←HG.out,show N-i'=0 by omega];simp [pLoop])
  have HIE:=hI0 hie
  clear hie
  go_wp2_with fail
  go_ret
  rw [HF.out]
  exact ⟨_,rfl,Q,(by first|exact HRd.out.1|(have h:=HRd.out.1;rw [HIE.out] at h;exact h)),HRd.out.2,by first|rfl|simp,HC_.out,HC.out⟩
 have hil2:(i':Int)<(N:Int):=by omega
 cases q
 case true=>
  have HF:Hid (res=(Q.map RFor.er,(k,true))):=hI0 (by rw [←HG.out,pLoop_bad _ _ rfl];simp)
  go_wp2_with fail
  go_ret
  rw [HF.out]
  exact ⟨_,rfl,Q,HRd.out.1,HRd.out.2,by first|rfl|simp,HC_.out,HC.out⟩
 obtain ⟨hb1,hb2,hb3,hb4⟩:=HB.out
 have hb5:i'≤k:=hb4 rfl
 simp only at hb2 hb3
 rcases hx:one (k,false) with ⟨x,k',q'⟩
 have hst:=HADV.out.le (k,false) hb3
 have hgt:=HADV.out.gt (k,false) hb2 hb3
 rw [hx] at hst hgt
 simp only at hst hgt
 have KV:=hI0 (HKV.out k false x k' q' wi hx HC_.out HC.out hb2 hb3)
 have hgs:pLoop one (N-i') (k,false)=(x::(pLoop one (N-(i'+1)) (k',q')).1,(pLoop one (N-(i'+1)) (k',q')).2):=by
  rw [show N-i'=(N-(i'+1))+1 by omega]
  conv=>lhs;unfold pLoop
  rw [if_neg (by simp),hx]
 have HGS:=hI0 hgs
 have HN:Hid (i'+1≤l.length+1∧0<k'∧k'≤l.length∧(q'=false→i'+1≤k')):=hI0 ⟨by omega,by omega,by omega,fun hq=>by have:=hgt hq;omega⟩
 have hi5:i'≤10000000001:=by have:=HL.out;omega
 clear hgs hx hst hgt hb1 hb2 hb3 hb4 hb5
 have hent:∀(args:Array Value) (V:World),(callFunc f args).run prog V=.ok (.enter f args) V:=HF_.out
 go_wp2_with fail
 (with_reducible refine KV.out.mono ?_)
 rintro _ w2 ⟨xA,xc,xl,xt,rfl,hX,hxe,hs2,hc2⟩
 have HX:=hI0 hX
 have HXE:=hI0 hxe
 have HS2:=hI0 hs2
 have HC2:=hI0 hc2
 clear hX hxe hs2 hc2 KV hent
 have hwi:w.heap.size≤wi.heap.size:=HC.out.size
 have hz2:=HC2.out.size
 have HOA:=hI0 (manyA (O:=(.cells #[.slice xA xl.length xc,.string xt] 158)) hQl hR HO.out HC2.out)
 have HNEW:=hI0 (Rd.new' w2 w2.heap.size rfl [.slice xA xl.length xc,.string xt] 158 2 1 rfl (by decide))
 go_wp2_with (at_builtin;refine wpList_append_app (w2.alloc (.cells #[.slice xA xl.length xc,.string xt] 158)) rfl (.tmp 31) (.tmp 34) 70 rfl w.heap.size 158 i0 _ 2 40 underlying70 HI.out HZ0.out HZ1.out HZ2.out rfl (by omega) (.slice Ao i' co) i' (Q.flatMap RFor.enc) rfl (.inl HOA.out) (·=w2.heap.size) _ 1 [.slice xA xl.length xc,.string xt] rfl HNEW.out (fun u hu=>by simp only [List.mem_cons,List.not_mem_nil,or_false] at hu;rcases hu with rfl|rfl<;>rfl) (by unfold maxLen;omega) (by omega) (by simp;omega) ?_;intro v3 w3 _ hO3 hg3 hb3 hv3)
 have HB4:=hI0 (manyB (x:=(⟨xA,xc,xl,xt⟩:RFor)) isQ_For hQl hR HO.out HR.out HC.out HX.out HS2.out HC2.out (hO3 (.inl (by omega))) hg3 hv3)
 clear hO3 hg3 hb3 hv3
 go_wp2_with fail
 go_roundw
 case rel=>
  refine ⟨i'+1,Q++[(⟨xA,xc,xl,xt⟩:RFor)],(k',q'),by go_num,by omega,by simp [hQl],hI0 HB4.out.1,hI0 HB4.out.2.1,hI0 HB4.out.2.2.1,hI0 HB4.out.2.2.2,hI0 ?_,HN⟩
  rw [←HG.out,HGS.out,List.map_append,List.map_singleton,HXE.out];simp
 case measure=>simp [intOf];omega
theorem infExp:(prog.info? 117).map (fun i=>(i.zero,i.size,i.bytes))=some (some (.agg #[.int .i64 0,.int .i64 0,.int .i64 0,.int .i64 0,.string ⟨#[]⟩,.string ⟨#[]⟩,.slice none 0 0]),7,88):=by kernel_rfl
theorem manyExp_any (b LB:Nat) (l:List UInt8) (one:Nat×Bool→RE×Nat×Bool) (f:FuncId) (hf:EntQ f) (i:Nat) (d:Bool) (r:List Value) (w:World) (he:EnvP b w) (h:CurAt w b (strB l) i d r) (h0:0<i) (hi:i≤l.length) (hl:l.length≤4294967281) (hadv:Adv l one)
  (hone:∀k q V,CurAt V b (strB l) k q r→Chg (·=b) w V→0<k→k≤l.length→Calls prog f #[.pointer (some ⟨LB,0,none⟩)] V (OneQ (fun x:RE=>.agg x.enc.toArray) exAll RE.er b l r (one (k,q)) V)):
  Calls prog 143 #[.pointer (some ⟨b,0,none⟩),.func (.func f) #[] #[.pointer (some ⟨LB,0,none⟩)]] w (ManyQ 7 RE.enc exAll RE.er b l r (pMany l one (i,d)) w):=by
 have KI:=hI0 (cnum_any b l i d r w he h hi hl)
 have hbd:(cnumI l (i,d)).1≤9223372036854775807:=cnumI_hi l (i,d)
 have hle:=cnumI_le (l:=l) (st:=(i,d)) hi
 have hge:=cnumI_ge (l:=l) (st:=(i,d))
 obtain ⟨res,hres⟩:=eN0 (pMany l one (i,d))
 have HRES:Hid (res=pLoop one (cnumI l (i,d)).1.toNat ((cnumI l (i,d)).2.1,(cnumI l (i,d)).2.2||decide ((cnumI l (i,d)).1<0))):=hI0 hres
 rw [←hres]
 have hR:=h.lt
 unfold CurTo at KI
 generalize cnumI l (i,d)=p at *
 obtain ⟨n,k1,e1⟩:=p
 dsimp only at KI hbd hle hge HRES
 have KV:∀k q x k' q' V,one (k,q)=(x,k',q')→CurAt V b (strB l) k q r→Chg (·=b) w V→0<k→k≤l.length→Calls prog f #[.pointer (some ⟨LB,0,none⟩)] V fun e w'=>∃xo xi x1 x2 x3 xn xA xc xas,e=.returned (.agg #[.int .i64 xo,.int .i64 xi,.int .i64 x1,.int .i64 x2,.string x3,.string xn,.slice xA xas.length xc])∧exAll w' (fun g=>V.heap.size≤g∧g<w'.heap.size) (⟨xo,xi,⟨x1,x2,x3⟩,xn,xA,xc,xas⟩:RE)∧RE.er (⟨xo,xi,⟨x1,x2,x3⟩,xn,xA,xc,xas⟩:RE)=x∧CurAt w' b (strB l) k' q' r∧Chg (·=b) V w':=fun k q x k' q' V he hs hV h1 h2=>by
  have kk:=hone k q V hs hV h1 h2
  rw [he] at kk
  exact kk.mono fun e w' ⟨y,a1,a2,a3,a4,a5⟩=>by
   obtain ⟨xo,xi,⟨x1,x2,x3⟩,xn,xA,xc,xas⟩:=y
   exact ⟨_,_,_,_,_,_,_,_,_,a1,a2,a3,a4,a5⟩
 have HKV:=hI0 KV
 have HADV:=hI0 hadv
 have HL:=hI0 hl
 clear h hone he hres KV hadv
 obtain ⟨S,hS⟩:=eN0 (strB l)
 have HS:=hI0 hS
 rw [←hS] at KI HKV
 unfold ManyQ
 rw [←hS]
 clear hS
 by_cases hneg:n<0
 case pos=>
  have HR:Hid (res=([],k1,true)):=hI0 (by rw [HRES.out,decide_eq_true hneg,Bool.or_true,Int.toNat_of_nonpos (by omega)];rfl)
  clear hf
  go_in
  go_wp2_with fail
  (with_reducible refine KI.out.mono ?_)
  rintro _ w1 ⟨rfl,hs1,hc1⟩
  have c2:=cW1 2 hs1 rfl
  have f2:=fW0 w1 b 2 _ _ hs1
  have HS1:=hI0 hs1
  have HC1:=hI0 hc1
  clear hs1 hc1 KI
  go_wp2_with fail
  go_loopw [6,7] (fun o i wr=>o=.slice none 0 0∧i=.int .i64 0∧wr=w1.setCell ⟨b,2,none⟩ (.bool true)) (fun _ _ _=>0)
  case atStart=>exact ⟨rfl,rfl,rfl⟩
  obtain ⟨rfl,rfl,hw⟩:=hrel
  rw [hw]
  clear hw
  have hnn:¬(0:Int)<n:=by omega
  go_wp2_with fail
  go_ret
  rw [HR.out]
  exact ⟨_,rfl,[],Rd.nil _ _ _,(fun p hp=>by cases hp),rfl,CurAt.bad HS1.out,HC1.out.trans (chg_set w1 b 2 _) (fun _ _ h=>h)⟩
 obtain ⟨N,rfl⟩:=Int.eq_ofNat_of_zero_le (show 0≤n by omega)
 have HRES2:Hid (res=pLoop one N (k1,e1)):=hI0 (by rw [HRES.out,decide_eq_false hneg,Bool.or_false,Int.toNat_natCast])
 clear HRES hneg
 obtain ⟨i0,hi,hz0,hz1,hz2⟩:=info_parts infExp
 have HI:=hI0 hi
 have HZ0:=hI0 hz0
 have HZ1:=hI0 hz1
 have HZ2:=hI0 hz2
 have HF_:=hI0 hf
 have HK0:Hid (0<k1∧k1≤l.length):=hI0 (by omega)
 clear hf hi hz0 hz1 hz2 hle hge
 go_in
 go_wp2_with fail
 (with_reducible refine KI.out.mono ?_)
 rintro _ w1 ⟨rfl,hs1,hc1⟩
 have HS1:=hI0 hs1
 have HC1:=hI0 hc1
 clear hs1 hc1 KI
 have hN0:¬(N:Int)<0:=by omega
 go_wp2_with fail
 go_loopw [6,7] (fun o i wr=>∃(i':Nat) (Q:List RE) (st:Nat×Bool),i=.int .i64 (i':Int)∧i'≤N∧Q.length=i'∧Hid (OwnQ 117 7 RE.enc wr w.heap.size o Q)∧Hid (∀p∈Q,exAll wr (fun g=>w.heap.size≤g∧g<wr.heap.size∧some g≠Value.ownBlock o) p)∧Hid (CurAt wr b S st.1 st.2 r)∧Hid (Chg (·=b) w wr)∧Hid ((Q.map RE.er++(pLoop one (N-i') st).1,(pLoop one (N-i') st).2)=res)∧Hid (i'≤l.length+1∧0<st.1∧st.1≤l.length∧(st.2=false→i'≤st.1))) (fun _ i _=>N-(intOf i).toNat)
 case atStart=>exact ⟨0,[],(k1,e1),rfl,Nat.zero_le _,rfl,hI0 (World.ownsRow_nil _ _ _ _),hI0 (fun p hp=>by cases hp),HS1,HC1,hI0 HRES2.out.symm,hI0 ⟨Nat.zero_le _,HK0.out.1,HK0.out.2,fun _=>Nat.zero_le _⟩⟩
 obtain ⟨i',Q,⟨k,q⟩,rfl,hi',hQl,HO,HR,HC_,HC,HG,HB⟩:=hrel
 obtain ⟨wi,rfl⟩:=eN0 wr
 obtain ⟨Ao,co,rfl,o1,o2,o3⟩:=Rd.open_ (Rd.of_own HO.out)
 rw [hQl] at o1
 have HRd:Hid (RdE 7 RE.enc wi (fun g=>w.heap.size≤g∧g<wi.heap.size) (.slice Ao i' co) Q∧∀p∈Q,exAll wi (fun g=>w.heap.size≤g∧g<wi.heap.size) p):=hI0 (by rw [←hQl];exact ⟨(Rd.of_own HO.out),fun p hp=>isQ_X.wide (HR.out p hp) fun g hg=>⟨hg.1,hg.2.1⟩⟩)
 have c2:=cW1 2 HC_.out rfl
 clear o3 o2
 by_cases hlt:i'<N
 case neg=>
  have hie:i'=N:=by omega
  have hil2:¬(i':Int)<(N:Int):=by omega
  have HF:Hid (res=(Q.map RE.er,(k,q))):=hI0 (by rw [←HG.out,show N-i'=0 by omega];simp [pLoop])
  have HIE:=hI0 hie
  clear hie
  go_wp2_with fail
  go_ret
  rw [HF.out]
  exact ⟨_,rfl,Q,(by first|exact HRd.out.1|(have h:=HRd.out.1;rw [HIE.out] at h;exact h)),HRd.out.2,by first|rfl|simp,HC_.out,HC.out⟩
 have hil2:(i':Int)<(N:Int):=by omega
 cases q
 case true=>
  have HF:Hid (res=(Q.map RE.er,(k,true))):=hI0 (by rw [←HG.out,pLoop_bad _ _ rfl];simp)
  go_wp2_with fail
  go_ret
  rw [HF.out]
  exact ⟨_,rfl,Q,HRd.out.1,HRd.out.2,by first|rfl|simp,HC_.out,HC.out⟩
 obtain ⟨hb1,hb2,hb3,hb4⟩:=HB.out
 have hb5:i'≤k:=hb4 rfl
 simp only at hb2 hb3
 rcases hx:one (k,false) with ⟨x,k',q'⟩
 have hst:=HADV.out.le (k,false) hb3
 have hgt:=HADV.out.gt (k,false) hb2 hb3
 rw [hx] at hst hgt
 simp only at hst hgt
 have KV:=hI0 (HKV.out k false x k' q' wi hx HC_.out HC.out hb2 hb3)
 have hgs:pLoop one (N-i') (k,false)=(x::(pLoop one (N-(i'+1)) (k',q')).1,(pLoop one (N-(i'+1)) (k',q')).2):=by
  rw [show N-i'=(N-(i'+1))+1 by omega]
  conv=>lhs;unfold pLoop
  rw [if_neg (by simp),hx]
 have HGS:=hI0 hgs
 have HN:Hid (i'+1≤l.length+1∧0<k'∧k'≤l.length∧(q'=false→i'+1≤k')):=hI0 ⟨by omega,by omega,by omega,fun hq=>by have:=hgt hq;omega⟩
 have hi5:i'≤10000000001:=by have:=HL.out;omega
 clear hgs hx hst hgt hb1 hb2 hb3 hb4 hb5
 have hent:∀(args:Array Value) (V:World),(callFunc f args).run prog V=.ok (.enter f args) V:=HF_.out
 go_wp2_with fail
 (with_reducible refine KV.out.mono ?_)
 rintro _ w2 ⟨xo,xi,x1,x2,x3,xn,xA,xc,xas,rfl,hX,hxe,hs2,hc2⟩
 have HX:=hI0 hX
 have HXE:=hI0 hxe
 have HS2:=hI0 hs2
 have HC2:=hI0 hc2
 clear hX hxe hs2 hc2 KV hent
 have hwi:w.heap.size≤wi.heap.size:=HC.out.size
 have hz2:=HC2.out.size
 have HOA:=hI0 (manyA (O:=(.cells #[.int .i64 xo,.int .i64 xi,.int .i64 x1,.int .i64 x2,.string x3,.string xn,.slice xA xas.length xc] 117)) hQl hR HO.out HC2.out)
 have HNEW:=hI0 (Rd.new' w2 w2.heap.size rfl [.int .i64 xo,.int .i64 xi,.int .i64 x1,.int .i64 x2,.string x3,.string xn,.slice xA xas.length xc] 117 7 1 rfl (by decide))
 go_wp2_with (at_builtin;refine wpList_append_app (w2.alloc (.cells #[.int .i64 xo,.int .i64 xi,.int .i64 x1,.int .i64 x2,.string x3,.string xn,.slice xA xas.length xc] 117)) rfl (.tmp 31) (.tmp 34) 71 rfl w.heap.size 117 i0 _ 7 88 underlying71 HI.out HZ0.out HZ1.out HZ2.out rfl (by omega) (.slice Ao i' co) i' (Q.flatMap RE.enc) rfl (.inl HOA.out) (·=w2.heap.size) _ 1 [.int .i64 xo,.int .i64 xi,.int .i64 x1,.int .i64 x2,.string x3,.string xn,.slice xA xas.length xc] rfl HNEW.out (fun u hu=>by simp only [List.mem_cons,List.not_mem_nil,or_false] at hu;rcases hu with rfl|rfl|rfl|rfl|rfl|rfl|rfl<;>rfl) (by unfold maxLen;omega) (by omega) (by simp;omega) ?_;intro v3 w3 _ hO3 hg3 hb3 hv3)
 have HB4:=hI0 (manyB (x:=(⟨xo,xi,⟨x1,x2,x3⟩,xn,xA,xc,xas⟩:RE)) isQ_X hQl hR HO.out HR.out HC.out HX.out HS2.out HC2.out (hO3 (.inl (by omega))) hg3 hv3)
 clear hO3 hg3 hb3 hv3
 go_wp2_with fail
 go_roundw
 case rel=>
  refine ⟨i'+1,Q++[(⟨xo,xi,⟨x1,x2,x3⟩,xn,xA,xc,xas⟩:RE)],(k',q'),by go_num,by omega,by simp [hQl],hI0 HB4.out.1,hI0 HB4.out.2.1,hI0 HB4.out.2.2.1,hI0 HB4.out.2.2.2,hI0 ?_,HN⟩
  rw [←HG.out,HGS.out,List.map_append,List.map_singleton,HXE.out];simp
 case measure=>simp [intOf];omega
theorem manyExp2_any (b LB LV:Nat) (l:List UInt8) (one:Nat×Bool→RE×Nat×Bool) (f:FuncId) (hf:EntQ f) (i:Nat) (d:Bool) (r:List Value) (w:World) (he:EnvP b w) (h:CurAt w b (strB l) i d r) (h0:0<i) (hi:i≤l.length) (hl:l.length≤4294967281) (hadv:Adv l one)
  (hone:∀k q V,CurAt V b (strB l) k q r→Chg (·=b) w V→0<k→k≤l.length→Calls prog f #[.pointer (some ⟨LB,0,none⟩),.pointer (some ⟨LV,0,none⟩)] V (OneQ (fun x:RE=>.agg x.enc.toArray) exAll RE.er b l r (one (k,q)) V)):
  Calls prog 143 #[.pointer (some ⟨b,0,none⟩),.func (.func f) #[] #[.pointer (some ⟨LB,0,none⟩),.pointer (some ⟨LV,0,none⟩)]] w (ManyQ 7 RE.enc exAll RE.er b l r (pMany l one (i,d)) w):=by
 have KI:=hI0 (cnum_any b l i d r w he h hi hl)
 have hbd:(cnumI l (i,d)).1≤9223372036854775807:=cnumI_hi l (i,d)
 have hle:=cnumI_le (l:=l) (st:=(i,d)) hi
 have hge:=cnumI_ge (l:=l) (st:=(i,d))
 obtain ⟨res,hres⟩:=eN0 (pMany l one (i,d))
 have HRES:Hid (res=pLoop one (cnumI l (i,d)).1.toNat ((cnumI l (i,d)).2.1,(cnumI l (i,d)).2.2||decide ((cnumI l (i,d)).1<0))):=hI0 hres
 rw [←hres]
 have hR:=h.lt
 unfold CurTo at KI
 generalize cnumI l (i,d)=p at *
 obtain ⟨n,k1,e1⟩:=p
 dsimp only at KI hbd hle hge HRES
 have KV:∀k q x k' q' V,one (k,q)=(x,k',q')→CurAt V b (strB l) k q r→Chg (·=b) w V→0<k→k≤l.length→Calls prog f #[.pointer (some ⟨LB,0,none⟩),.pointer (some ⟨LV,0,none⟩)] V fun e w'=>∃xo xi x1 x2 x3 xn xA xc xas,e=.returned (.agg #[.int .i64 xo,.int .i64 xi,.int .i64 x1,.int .i64 x2,.string x3,.string xn,.slice xA xas.length xc])∧exAll w' (fun g=>V.heap.size≤g∧g<w'.heap.size) (⟨xo,xi,⟨x1,x2,x3⟩,xn,xA,xc,xas⟩:RE)∧RE.er (⟨xo,xi,⟨x1,x2,x3⟩,xn,xA,xc,xas⟩:RE)=x∧CurAt w' b (strB l) k' q' r∧Chg (·=b) V w':=fun k q x k' q' V he hs hV h1 h2=>by
  have kk:=hone k q V hs hV h1 h2
  rw [he] at kk
  exact kk.mono fun e w' ⟨y,a1,a2,a3,a4,a5⟩=>by
   obtain ⟨xo,xi,⟨x1,x2,x3⟩,xn,xA,xc,xas⟩:=y
   exact ⟨_,_,_,_,_,_,_,_,_,a1,a2,a3,a4,a5⟩
 have HKV:=hI0 KV
 have HADV:=hI0 hadv
 have HL:=hI0 hl
 clear h hone he hres KV hadv
 obtain ⟨S,hS⟩:=eN0 (strB l)
 have HS:=hI0 hS
 rw [←hS] at KI HKV
 unfold ManyQ
 rw [←hS]
 clear hS
 by_cases hneg:n<0
 case pos=>
  have HR:Hid (res=([],k1,true)):=hI0 (by rw [HRES.out,decide_eq_true hneg,Bool.or_true,Int.toNat_of_nonpos (by omega)];rfl)
  clear hf
  go_in
  go_wp2_with fail
  (with_reducible refine KI.out.mono ?_)
  rintro _ w1 ⟨rfl,hs1,hc1⟩
  have c2:=cW1 2 hs1 rfl
  have f2:=fW0 w1 b 2 _ _ hs1
  have HS1:=hI0 hs1
  have HC1:=hI0 hc1
  clear hs1 hc1 KI
  go_wp2_with fail
  go_loopw [6,7] (fun o i wr=>o=.slice none 0 0∧i=.int .i64 0∧wr=w1.setCell ⟨b,2,none⟩ (.bool true)) (fun _ _ _=>0)
  case atStart=>exact ⟨rfl,rfl,rfl⟩
  obtain ⟨rfl,rfl,hw⟩:=hrel
  rw [hw]
  clear hw
  have hnn:¬(0:Int)<n:=by omega
  go_wp2_with fail
  go_ret
  rw [HR.out]
  exact ⟨_,rfl,[],Rd.nil _ _ _,(fun p hp=>by cases hp),rfl,CurAt.bad HS1.out,HC1.out.trans (chg_set w1 b 2 _) (fun _ _ h=>h)⟩
 obtain ⟨N,rfl⟩:=Int.eq_ofNat_of_zero_le (show 0≤n by omega)
 have HRES2:Hid (res=pLoop one N (k1,e1)):=hI0 (by rw [HRES.out,decide_eq_false hneg,Bool.or_false,Int.toNat_natCast])
 clear HRES hneg
 obtain ⟨i0,hi,hz0,hz1,hz2⟩:=info_parts infExp
 have HI:=hI0 hi
 have HZ0:=hI0 hz0
 have HZ1:=hI0 hz1
 have HZ2:=hI0 hz2
 have HF_:=hI0 hf
 have HK0:Hid (0<k1∧k1≤l.length):=hI0 (by omega)
 clear hf hi hz0 hz1 hz2 hle hge
 go_in
 go_wp2_with fail
 (with_reducible refine KI.out.mono ?_)
 rintro _ w1 ⟨rfl,hs1,hc1⟩
 have HS1:=hI0 hs1
 have HC1:=hI0 hc1
 clear hs1 hc1 KI
 have hN0:¬(N:Int)<0:=by omega
 go_wp2_with fail
 go_loopw [6,7] (fun o i wr=>∃(i':Nat) (Q:List RE) (st:Nat×Bool),i=.int .i64 (i':Int)∧i'≤N∧Q.length=i'∧Hid (OwnQ 117 7 RE.enc wr w.heap.size o Q)∧Hid (∀p∈Q,exAll wr (fun g=>w.heap.size≤g∧g<wr.heap.size∧some g≠Value.ownBlock o) p)∧Hid (CurAt wr b S st.1 st.2 r)∧Hid (Chg (·=b) w wr)∧Hid ((Q.map RE.er++(pLoop one (N-i') st).1,(pLoop one (N-i') st).2)=res)∧Hid (i'≤l.length+1∧0<st.1∧st.1≤l.length∧(st.2=false→i'≤st.1))) (fun _ i _=>N-(intOf i).toNat)
 case atStart=>exact ⟨0,[],(k1,e1),rfl,Nat.zero_le _,rfl,hI0 (World.ownsRow_nil _ _ _ _),hI0 (fun p hp=>by cases hp),HS1,HC1,hI0 HRES2.out.symm,hI0 ⟨Nat.zero_le _,HK0.out.1,HK0.out.2,fun _=>Nat.zero_le _⟩⟩
 obtain ⟨i',Q,⟨k,q⟩,rfl,hi',hQl,HO,HR,HC_,HC,HG,HB⟩:=hrel
 obtain ⟨wi,rfl⟩:=eN0 wr
 obtain ⟨Ao,co,rfl,o1,o2,o3⟩:=Rd.open_ (Rd.of_own HO.out)
 rw [hQl] at o1
 have HRd:Hid (RdE 7 RE.enc wi (fun g=>w.heap.size≤g∧g<wi.heap.size) (.slice Ao i' co) Q∧∀p∈Q,exAll wi (fun g=>w.heap.size≤g∧g<wi.heap.size) p):=hI0 (by rw [←hQl];exact ⟨(Rd.of_own HO.out),fun p hp=>isQ_X.wide (HR.out p hp) fun g hg=>⟨hg.1,hg.2.1⟩⟩)
 have c2:=cW1 2 HC_.out rfl
 clear o3 o2
 by_cases hlt:i'<N
 case neg=>
  have hie:i'=N:=by omega
  have hil2:¬(i':Int)<(N:Int):=by omega
  have HF:Hid (res=(Q.map RE.er,(k,q))):=hI0 (by rw [←HG.out,show N-i'=0 by omega];simp [pLoop])
  have HIE:=hI0 hie
  clear hie
  go_wp2_with fail
  go_ret
  rw [HF.out]
  exact ⟨_,rfl,Q,(by first|exact HRd.out.1|(have h:=HRd.out.1;rw [HIE.out] at h;exact h)),HRd.out.2,by first|rfl|simp,HC_.out,HC.out⟩
 have hil2:(i':Int)<(N:Int):=by omega
 cases q
 case true=>
  have HF:Hid (res=(Q.map RE.er,(k,true))):=hI0 (by rw [←HG.out,pLoop_bad _ _ rfl];simp)
  go_wp2_with fail
  go_ret
  rw [HF.out]
  exact ⟨_,rfl,Q,HRd.out.1,HRd.out.2,by first|rfl|simp,HC_.out,HC.out⟩
 obtain ⟨hb1,hb2,hb3,hb4⟩:=HB.out
 have hb5:i'≤k:=hb4 rfl
 simp only at hb2 hb3
 rcases hx:one (k,false) with ⟨x,k',q'⟩
 have hst:=HADV.out.le (k,false) hb3
 have hgt:=HADV.out.gt (k,false) hb2 hb3
 rw [hx] at hst hgt
 simp only at hst hgt
 have KV:=hI0 (HKV.out k false x k' q' wi hx HC_.out HC.out hb2 hb3)
 have hgs:pLoop one (N-i') (k,false)=(x::(pLoop one (N-(i'+1)) (k',q')).1,(pLoop one (N-(i'+1)) (k',q')).2):=by
  rw [show N-i'=(N-(i'+1))+1 by omega]
  conv=>lhs;unfold pLoop
  rw [if_neg (by simp),hx]
 have HGS:=hI0 hgs
 have HN:Hid (i'+1≤l.length+1∧0<k'∧k'≤l.length∧(q'=false→i'+1≤k')):=hI0 ⟨by omega,by omega,by omega,fun hq=>by have:=hgt hq;omega⟩
 have hi5:i'≤10000000001:=by have:=HL.out;omega
 clear hgs hx hst hgt hb1 hb2 hb3 hb4 hb5
 have hent:∀(args:Array Value) (V:World),(callFunc f args).run prog V=.ok (.enter f args) V:=HF_.out
 go_wp2_with fail
 (with_reducible refine KV.out.mono ?_)
 rintro _ w2 ⟨xo,xi,x1,x2,x3,xn,xA,xc,xas,rfl,hX,hxe,hs2,hc2⟩
 have HX:=hI0 hX
 have HXE:=hI0 hxe
 have HS2:=hI0 hs2
 have HC2:=hI0 hc2
 clear hX hxe hs2 hc2 KV hent
 have hwi:w.heap.size≤wi.heap.size:=HC.out.size
 have hz2:=HC2.out.size
 have HOA:=hI0 (manyA (O:=(.cells #[.int .i64 xo,.int .i64 xi,.int .i64 x1,.int .i64 x2,.string x3,.string xn,.slice xA xas.length xc] 117)) hQl hR HO.out HC2.out)
 have HNEW:=hI0 (Rd.new' w2 w2.heap.size rfl [.int .i64 xo,.int .i64 xi,.int .i64 x1,.int .i64 x2,.string x3,.string xn,.slice xA xas.length xc] 117 7 1 rfl (by decide))
 go_wp2_with (at_builtin;refine wpList_append_app (w2.alloc (.cells #[.int .i64 xo,.int .i64 xi,.int .i64 x1,.int .i64 x2,.string x3,.string xn,.slice xA xas.length xc] 117)) rfl (.tmp 31) (.tmp 34) 71 rfl w.heap.size 117 i0 _ 7 88 underlying71 HI.out HZ0.out HZ1.out HZ2.out rfl (by omega) (.slice Ao i' co) i' (Q.flatMap RE.enc) rfl (.inl HOA.out) (·=w2.heap.size) _ 1 [.int .i64 xo,.int .i64 xi,.int .i64 x1,.int .i64 x2,.string x3,.string xn,.slice xA xas.length xc] rfl HNEW.out (fun u hu=>by simp only [List.mem_cons,List.not_mem_nil,or_false] at hu;rcases hu with rfl|rfl|rfl|rfl|rfl|rfl|rfl<;>rfl) (by unfold maxLen;omega) (by omega) (by simp;omega) ?_;intro v3 w3 _ hO3 hg3 hb3 hv3)
 have HB4:=hI0 (manyB (x:=(⟨xo,xi,⟨x1,x2,x3⟩,xn,xA,xc,xas⟩:RE)) isQ_X hQl hR HO.out HR.out HC.out HX.out HS2.out HC2.out (hO3 (.inl (by omega))) hg3 hv3)
 clear hO3 hg3 hb3 hv3
 go_wp2_with fail
 go_roundw
 case rel=>
  refine ⟨i'+1,Q++[(⟨xo,xi,⟨x1,x2,x3⟩,xn,xA,xc,xas⟩:RE)],(k',q'),by go_num,by omega,by simp [hQl],hI0 HB4.out.1,hI0 HB4.out.2.1,hI0 HB4.out.2.2.1,hI0 HB4.out.2.2.2,hI0 ?_,HN⟩
  rw [←HG.out,HGS.out,List.map_append,List.map_singleton,HXE.out];simp
 case measure=>simp [intOf];omega
end Go.Proofs.YtgfhknnklapldaaGreatDoor
