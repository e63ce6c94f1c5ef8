/-
 PbI
-/
import Derived.Test.YtgfhknnklapldaaGreatDoorBPbH
import Derived.Test.YtgfhknnklapldaaGreatDoorBPbG
import Derived.Test.YtgfhknnklapldaaGreatDoorBPbE
import Derived.Test.YtgfhknnklapldaaGreatDoorBPbC
import Derived.Test.YtgfhknnklapldaaGreatDoorBPbB
import Derived.Test.YtgfhknnklapldaaGreatDoorBPbA
import Derived.Test.YtgfhknnklapldaaGreatDoorBBase
import Derived.Test.YtgfhknnklapldaaGreatDoorBDuO
import Derived.Test.YtgfhknnklapldaaGreatDoorBDuN
import Derived.Test.YtgfhknnklapldaaGreatDoorBDuJ
import Derived.Deep.Cut
namespace Go.Proofs.YtgfhknnklapldaaGreatDoor
open Go.Proofs.Tryz
set_option maxRecDepth 99999
set_option maxHeartbeats 0
open Go.RowKit Go.Lib Go.IntWalk Go.Sort Go.Shelf
theorem grow_cur {w w':World} {b k:Nat} {q:Bool} {c:RSt} {S:ByteArray} {r:List Value} {p:RowO} (h:StO w b c) (hp:p∈rowsO c) (hg:w.grownBy w' p.v.ownBlock) (hs:CurAt w b S k q r):CurAt w' b S k q r∧Below b w w':=by
 have hr:∀g,some g=p.v.ownBlock→b<g:=fun g e=>(own_blockO (h.own p hp) e).1
 exact ⟨(hg.block b hs.lt (fun e=>Nat.lt_irrefl _ (hr b e))).trans hs,hg.os,hg.tape,hg.output,hg.size,fun g hb=>hg.block g (Nat.lt_trans hb hs.lt) (fun e=>by have:=hr g e;omega)⟩
theorem push_fin {w:World} {b k j:Nat} {q:Bool} {c c':RSt} {S:ByteArray} {u:Value} (hs:CurAt w b S k q c.enc) (h:StO w b c') (he:c'.enc=c.enc.set j u):CurAt (w.setCell ⟨b,j+3,none⟩ u) b S k q c'.enc∧StO (w.setCell ⟨b,j+3,none⟩ u) b c'∧Below b w (w.setCell ⟨b,j+3,none⟩ u):=by
 have hc:Chg (·=b) w (w.setCell ⟨b,j+3,none⟩ u):=(Chg.refl (·=b) w).setCell (.inl rfl) u
 refine ⟨?_,h.chg hc,hc.below (Nat.le_of_lt hs.lt) (fun _ e=>by omega)⟩
 unfold CurAt
 rw [heap_setCell_same w b (j+3) _ _ u hs,he]
 simp
theorem infStm:(prog.info? 82).map (fun i=>(i.zero,i.size,i.bytes))=some (some (.agg #[.int .i64 0,.int .i64 0]),2,16):=by kernel_rfl
theorem infRTv:(prog.info? 37).map (fun i=>(i.zero,i.size,i.bytes))=some (some (.agg #[.string ⟨#[]⟩,.slice none 0 0]),2,40):=by kernel_rfl
theorem infHld:(prog.info? 87).map (fun i=>(i.zero,i.size,i.bytes))=some (some (.agg #[.string ⟨#[]⟩,.string ⟨#[]⟩,.int .i64 0,.int .i64 0,.int .i64 0,.int .i64 0]),6,64):=by kernel_rfl
theorem infPol:(prog.info? 90).map (fun i=>(i.zero,i.size,i.bytes))=some (some (.agg #[.string ⟨#[]⟩,.int .i64 0]),2,24):=by kernel_rfl
theorem infHor:(prog.info? 93).map (fun i=>(i.zero,i.size,i.bytes))=some (some (.agg #[.string ⟨#[]⟩,.int .i64 0]),2,24):=by kernel_rfl
theorem tokI_pos {l:List UInt8} {st:Nat×Bool} (h:(tokI l st).1≠[]):0<(tokI l st).2.1:=by
 have h1:0<(tokI l st).1.length:=List.length_pos_iff.2 h
 exact Nat.lt_of_lt_of_le h1 (Nat.le_add_left _ _)
theorem rankV_le (t:List UInt8):rankV t≤8:=by
 unfold rankV
 split<;>omega
def PartQ (b:Nat) (l:List UInt8) (res:RSt×Nat×Bool) (w0:World) (w:World):Prop:=∃c':RSt,c'.er=res.1.er∧CurAt w b (strB l) res.2.1 res.2.2 c'.enc∧StO w b c'∧Below b w0 w
def BodyQ (b:Nat) (l:List UInt8) (res:RSt×Nat) (w0:World) (e:Ending) (w:World):Prop:=e=.returned (.int .i64 (res.2:Int))∧∃(c':RSt) (k:Nat) (q:Bool),c'.er=res.1.er∧CurAt w b (strB l) k q c'.enc∧StO w b c'∧Below b w0 w
theorem body_any (b:Nat) (l:List UInt8) (before:Nat) (c:RSt) (S:ByteArray) (i:Nat) (d:Bool) (w:World) (he:EnvP b w) (h:CurAt w b S i d c.enc) (hO:StO w b c) (hN:∀p∈rowsO c,p.n≤4294967281) (hl:l.length≤4294967281) (hbf:before≤8) (htab:before=3∨before=4→c.tabs≠[])
  (hEnt:∀(V:World) (k:Nat) (q:Bool),EnvP b V→CurAt V b (strB l) k q c.enc→StO V b c→0<k→k≤l.length→Calls prog 95 #[.pointer (some ⟨b,0,none⟩)] V fun e w'=>e=.returned (.tuple #[])∧PartQ b l (pPart l 1 c (k,q)) V w')
  (hVer:c.tabs≠[]→∀(V:World) (k:Nat) (q:Bool),EnvP b V→CurAt V b (strB l) k q c.enc→StO V b c→0<k→k≤l.length→Calls prog 97 #[.pointer (some ⟨b,0,none⟩)] V fun e w'=>e=.returned (.tuple #[])∧PartQ b l (pPart l 4 c (k,q)) V w'):
  Calls prog 38 #[.pointer (some ⟨b,0,none⟩),.string (strB l),.int .i64 (before:Int)] w (BodyQ b l (pBody l before c) w):=by
 have hbw:=h.lt
 have c2:=cW1 2 h rfl
 have c1:=cW1 1 h rfl
 have c0:=cW1 0 h rfl
 have f0:w.frozen? ⟨b,0,none⟩=false:=fW0 _ _ _ _ _ h
 have f1:w.frozen? ⟨b,1,none⟩=false:=fW0 _ _ _ _ _ h
 have f2:w.frozen? ⟨b,2,none⟩=false:=fW0 _ _ _ _ _ h
 have HC0:=hI0 (chg_line w b (.string (strB l)) (.int .i64 0) (.bool false))
 have KT0:=token_any b l 0 false _ _ (h.line (strB l)) (Nat.zero_le _) hl
 rcases hT:tokI l (0,false) with ⟨tw,k0,q0⟩
 rw [hT] at KT0
 have hk0:k0≤l.length:=by have:=tokI_le (l:=l) (st:=(0,false)) (Nat.zero_le _);rw [hT] at this;exact this
 have KT:=hI0 KT0
 have KR:=hI0 (fun W=>rank_any tw W)
 have hRk:rankV tw≤8:=rankV_le tw
 have hk1:rankV tw=0∨0<k0:=by
  by_cases ht:tw=[]
  ·left;rw [ht];decide
  ·right;have:=tokI_pos (l:=l) (st:=(0,false)) (by rw [hT];exact ht);rw [hT] at this;exact this
 have HPB0:Hid (pBody l before c=if rankV tw=4∧before≠3∧before≠4 then (c,0) else ((pPart l (rankV tw) c (k0,q0)).1,if ((pPart l (rankV tw) c (k0,q0)).2.2||(decide ((pPart l (rankV tw) c (k0,q0)).2.1<l.length)||lessR (rankV tw) before))=true then 0 else rankV tw)):=hI0 (by unfold pBody;simp only [hT])
 have hsz:(strB l).size=l.length:=strB_size l
 generalize rankV tw=R at *
 have HE0:=hI0 he
 have HO0:=hI0 hO
 have HN:=hI0 hN
 have HEnt:=hI0 hEnt
 have HVer:=hI0 hVer
 clear h KT0 hT he hO hN hEnt hVer
 go_in
 go_wp2_with fail
 clear c0 c1 c2 f0 f1 f2
 (with_reducible refine KT.out.mono ?_)
 rintro _ x1 ⟨rfl,hx1,hc1⟩
 have HX1:=hI0 hx1
 have HC1:=hI0 (HC0.out.trans hc1 (fun _ _ h=>h))
 clear hx1 hc1 KT HC0
 go_wp2_with fail
 (with_reducible refine (KR.out x1).mono ?_)
 rintro _ X ⟨rfl,hb2⟩
 have HX:Hid (CurAt X b (strB l) k0 q0 c.enc):=hI0 (HX1.out.below hb2)
 have hCX:Chg (·=b) w X:=HC1.out.then_below hb2
 have HO:Hid (StO X b c):=hI0 (HO0.out.chg hCX)
 have HBX:Hid (Below b w X):=hI0 (hCX.below (Nat.le_of_lt hbw) (fun _ e=>by omega))
 have hEV:∀V,Chg (·=b) X V→EnvP b V:=fun V hV=>HE0.out.chg (hCX.trans hV (fun _ _ h=>h)) (Nat.le_of_lt hbw)
 clear hb2 KR HX1 HC1 HE0 HO0 hCX
 have hR:R=2∨R=3∨R=5∨R=6∨R=7∨R=1∨R=4∨R=0∨R=8:=by omega
 rcases hR with rfl|rfl|rfl|rfl|rfl|rfl|rfl|rfl|rfl
 ·
  have HPB:Hid (pBody l before c=((pPart l 2 c (k0,q0)).1,if ((pPart l 2 c (k0,q0)).2.2||(decide ((pPart l 2 c (k0,q0)).2.1<l.length)||lessR 2 before))=true then 0 else 2)):=hI0 (by rw [HPB0.out,if_neg (by omega)])
  clear HPB0
  go_upto_region 7 with (fail)
  have hk1p:0<k0:=by omega
  rcases h1:cnumI l (k0,q0) with ⟨n1,kk1,qq1⟩
  have u1:k0≤kk1∧kk1≤l.length:=by have u:=adv_num (l:=l) (st:=(k0,q0)) hk0;rw [h1] at u;exact u
  rcases h2:cnumI l (kk1,qq1) with ⟨n2,kk2,qq2⟩
  have u2:kk1≤kk2∧kk2≤l.length:=by have u:=adv_num (l:=l) (st:=(kk1,qq1)) u1.2;rw [h2] at u;exact u
  have K1:∀V,CurAt V b (strB l) k0 q0 c.enc→Chg (·=b) X V→Calls prog 93 #[.pointer (some ⟨b,0,none⟩)] V fun x w'=>x=.returned (.int .i64 n1)∧CurAt w' b (strB l) kk1 qq1 c.enc∧Chg (·=b) V w':=fun V hs hV=>by
   have k:=cnum_any b l k0 q0 c.enc V (hEV V hV) hs hk0 hl
   rw [h1] at k
   exact k
  have K2:∀V,CurAt V b (strB l) kk1 qq1 c.enc→Chg (·=b) X V→Calls prog 93 #[.pointer (some ⟨b,0,none⟩)] V fun x w'=>x=.returned (.int .i64 n2)∧CurAt w' b (strB l) kk2 qq2 c.enc∧Chg (·=b) V w':=fun V hs hV=>by
   have k:=cnum_any b l kk1 qq1 c.enc V (hEV V hV) hs u1.2 hl
   rw [h2] at k
   exact k
  have hd:pStm l (k0,q0)=(⟨n1,n2⟩,kk2,qq2):=by unfold pStm;simp only [h1,h2]
  obtain ⟨i0,hI,hz0,hz1,hz2⟩:=info_parts infStm
  have HI:=hI0 hI
  have HZ0:=hI0 hz0
  have HZ1:=hI0 hz1
  have HZ2:=hI0 hz2
  have HD:=hI0 hd
  have hS0:CurAt X.drew b (strB l) k0 q0 c.enc:=HX.out
  have hC0:Chg (·=b) X X.drew:=(Chg.refl _ _).drew
  clear hI hz0 hz1 hz2 hd h1 h2
  refine wp_region_noPanic ?_
  refine beginT (S:=(fun Y:World=>∃(k:Nat) (q:Bool),CurAt Y b (strB l) k q c.enc)) 20 (by kernel_rfl) ?_ (fun zh=>?_)
  ·exact ⟨_,_,hS0⟩
  refine tT 0 25 ?_
  refine tT 1 26 ?_
  refine tT 2 27 ?_
  refine tT 3 28 ?_
  refine tT 4 29 ?_
  refine tU 5 30 (v:=?_) zh ?_ ?_
  rotate_left
  ·intro w' hSw;(try dsimp only at hSw);obtain ⟨k,q,hs⟩:=hSw;have p8:w'.cell? ⟨b,8,none⟩=some (.slice c.sA c.stms.length c.sC):=cW0 w' _ 8 _ _ _ hs;go_simp<;>with_reducible rfl
  refine tT 6 31 ?_
  refine tT 7 32 ?_
  refine tT 8 33 ?_
  refine tT 10 35 ?_
  refine tT 11 36 ?_
  refine tT 12 37 ?_
  refine cT 9 34 ?_
  (with_reducible refine (K1 _ hS0 hC0).mono ?_)
  rintro _ v1 ⟨rfl,hS1,hD1⟩
  have hC1:Chg (·=b) X v1:=hC0.trans hD1 (fun _ _ h=>h)
  refine ⟨_,rfl,keepAnd ?_ (fun hNew=>?_)⟩
  ·intro _;exact ⟨_,_,hS1⟩
  have hNew:=hNew (by decide)
  clear zh
  have zh:=hNew
  clear hNew
  simp only [aP]
  refine cT 13 38 ?_
  (with_reducible refine (K2 _ hS1 hC1).mono ?_)
  rintro _ v2 ⟨rfl,hS2,hD2⟩
  have hC2:Chg (·=b) X v2:=hC1.trans hD2 (fun _ _ h=>h)
  refine ⟨_,rfl,keepAnd ?_ (fun hNew=>?_)⟩
  ·intro _;exact ⟨_,_,hS2⟩
  have hNew:=hNew (by decide)
  clear zh
  have zh:=hNew
  clear hNew
  simp only [aP]
  refine tT 14 39 ?_
  have hNew:(fun Y:World=>∃(k:Nat) (q:Bool),CurAt Y b (strB l) k q c.enc) (v2.alloc (.cells #[.int .i64 n1,.int .i64 n2] 82)):=by exact ⟨_,_,hS2.below (Below.of_alloc _)⟩
  refine runT 15 (some 40) (v:=.slice (some ⟨v2.heap.size,0,none⟩) 1 1) (w':=v2.alloc (.cells #[.int .i64 n1,.int .i64 n2] 82)) rfl rfl (by kernel_rfl) (by rfl) ?_ (fun _=>hNew) ?_
  ·go_simp<;>with_reducible rfl
  clear zh
  have zh:=hNew
  clear hNew
  simp only [aP]
  refine opT 16 rfl (by kernel_rfl) (by rfl) ?_
  have hA:StO (v2.alloc (.cells #[.int .i64 n1,.int .i64 n2] 82)) b c:=(HO.out.chg hC2).chg ((Chg.refl (·=b) v2).alloc _)
  have hmem:(⟨82,2,.slice c.sA c.stms.length c.sC,c.stms.length,c.stms.flatMap Stm.enc⟩:RowO)∈rowsO c:=List.mem_of_getElem? (i:=1) rfl
  have hown:(v2.alloc (.cells #[.int .i64 n1,.int .i64 n2] 82)).ownsRow (b+1) 82 2 (.slice c.sA c.stms.length c.sC) c.stms.length (c.stms.flatMap Stm.enc):=hA.own _ hmem
  have hn:c.stms.length≤4294967281:=HN.out _ hmem
  have hbv:b<v2.heap.size:=hS2.lt
  refine wp_append_app _ (.tmp 30) (.tmp 40) 23 rfl (b+1) 82 i0 _ 2 16 underlying23 HI.out HZ0.out HZ1.out HZ2.out rfl (by omega) (.slice c.sA c.stms.length c.sC) c.stms.length (c.stms.flatMap Stm.enc) rfl (.inl hown) (·=v2.heap.size) _ 1 [.int .i64 n1,.int .i64 n2] rfl (Rd.new' v2 v2.heap.size rfl [.int .i64 n1,.int .i64 n2] 82 2 1 rfl (by decide)) (fun u hu=>by simp only [List.mem_cons,List.not_mem_nil,or_false] at hu;rcases hu with rfl|rfl<;>rfl) (by unfold maxLen;omega) (by omega) (by simp;omega) ?_
  intro v' w3 _ hO3 hg3 hb3 hv3
  have hO3:=hO3 (.inl (by omega))
  obtain ⟨A3,c3,rfl,hSt⟩:=StO.pushS hA (x:=⟨n1,n2⟩) hO3 hg3 hv3
  obtain ⟨hS9,hB9⟩:=grow_cur hA hmem hg3 (hS2.below (Below.of_alloc _))
  refine rA0 (⟨_,_,hS9⟩) ?_
  clear zh
  intro zh
  simp only [aP]
  refine runT 17 (some 42) (v:=?_) (w':=_) rfl rfl (by kernel_rfl) (by rfl) ?_ (fun _=>zh) ?_
  rotate_left
  ·go_simp<;>with_reducible rfl
  simp only [aP]
  refine runT 18 (some 43) (v:=?_) (w':=_) rfl rfl (by kernel_rfl) (by rfl) ?_ (fun _=>zh) ?_
  rotate_left
  ·go_simp<;>with_reducible rfl
  simp only [aP]
  refine tT 19 44 ?_
  refine skipRunT 20 none (w':=w3.setCell ⟨b,8,none⟩ (.slice A3 (c.stms.length+1) c3)) rfl rfl (by kernel_rfl) (by rfl) ?_ (fun h=>absurd rfl h) ?_
  ·(have p8:w3.cell? ⟨b,8,none⟩=some (.slice c.sA c.stms.length c.sC):=cW0 w3 _ 8 _ _ _ hS9;have g8:w3.frozen? ⟨b,8,none⟩=false:=fW0 w3 _ _ _ _ hS9;go_simp<;>with_reducible rfl)
  clear zh
  simp only [Act.put]
  refine doneT (by kernel_rfl) ?_ _
  refine NoPanic.normal ?_
  obtain ⟨c9,hc9⟩:∃c9:RSt,c9= { c with sA:=A3,sC:=c3,stms:=c.stms++[⟨n1,n2⟩] }:=⟨_,rfl⟩
  rw [←hc9] at hSt
  have hF:CurAt (w3.setCell ⟨b,8,none⟩ (.slice A3 (c.stms.length+1) c3)) b (strB l) kk2 qq2 c9.enc∧StO (w3.setCell ⟨b,8,none⟩ (.slice A3 (c.stms.length+1) c3)) b c9∧Below b w3 (w3.setCell ⟨b,8,none⟩ (.slice A3 (c.stms.length+1) c3)):=push_fin (j:=5) hS9 hSt (by rw [hc9];simp [RSt.enc])
  have hBY:Below b X (w3.setCell ⟨b,8,none⟩ (.slice A3 (c.stms.length+1) c3)):=(((hC2.below (Nat.le_of_lt HX.out.lt) (fun _ e=>by omega)).trans ((Below.of_alloc _).mono (Nat.le_of_lt hbv))).trans hB9).trans hF.2.2
  have hE9:c9.er=(pPart l 2 c (k0,q0)).1.er:=by rw [hc9];unfold pPart;simp [HD.out,RSt.er]
  have hP9:(pPart l 2 c (k0,q0)).2=(kk2,qq2):=by unfold pPart;simp [HD.out]
  generalize w3.setCell ⟨b,8,none⟩ (.slice A3 (c.stms.length+1) c3)=Y at *
  have HY:=hI0 hF.1
  have HSt:=hI0 hF.2.1
  have HBY:=hI0 hBY
  have HE9:=hI0 hE9
  have HP9:=hI0 hP9
  clear hF hBY hE9 hP9 hc9 hSt hS9 hB9 hA hown hmem hO3 hg3 hb3 hv3 hS0 hC0 hS1 hC1 hD1 K1 hS2 hC2 hD2 K2
  have c2:=cW1 2 HY.out rfl
  have c1:=cW1 1 HY.out rfl
  have hRes:(pBody l before c).2=if (qq2||(decide (kk2<l.length)||lessR 2 before))=true then 0 else 2:=by rw [HPB.out];simp [HP9.out]
  have hSt1:(pBody l before c).1=(pPart l 2 c (k0,q0)).1:=by rw [HPB.out]
  have HRes:=hI0 hRes
  have HSt1:=hI0 hSt1
  clear hRes hSt1
  have hfin:∀x:Nat,x=(pBody l before c).2→BodyQ b l (pBody l before c) w (.returned (.int .i64 (x:Int))) Y:=fun x hx=>⟨by rw [hx],c9,kk2,qq2,by rw [HE9.out,HSt1.out],HY.out,HSt.out,HBX.out.trans HBY.out⟩
  have HFIN:=hI0 hfin
  clear hfin
  cases qq2 with
  |true=>
   have hR0:(pBody l before c).2=0:=by rw [HRes.out];rfl
   go_wp2_with fail
   go_ret
   exact HFIN.out 0 hR0.symm
  |false=>
   by_cases hk:kk2<l.length
   ·have hR0:(pBody l before c).2=0:=by rw [HRes.out];first|(simp [hk];done)|(split<;>rfl)
    have hlt:decide ((kk2:Int)<((strB l).size:Int))=true:=decide_eq_true (by omega)
    go_wp2_with fail
    go_ret
    exact HFIN.out 0 hR0.symm
   ·have hlt:decide ((kk2:Int)<((strB l).size:Int))=false:=decide_eq_false (by omega)
    by_cases hb:2<before
    ·have hR0:(pBody l before c).2=0:=by rw [HRes.out];first|(simp [hb,lessR];done)|(split<;>rfl)
     have hlb:decide ((2:Int)<(before:Int))=true:=decide_eq_true (by omega)
     go_wp2_with fail
     go_ret
     exact HFIN.out 0 hR0.symm
    ·have hR0:(pBody l before c).2=2:=by rw [HRes.out];first|(simp [hk,hb,lessR];done)|(split<;>rfl)
     have hlb:decide ((2:Int)<(before:Int))=false:=decide_eq_false (by omega)
     go_wp2_with fail
     go_ret
     exact HFIN.out 2 hR0.symm
 ·
  have HPB:Hid (pBody l before c=((pPart l 3 c (k0,q0)).1,if ((pPart l 3 c (k0,q0)).2.2||(decide ((pPart l 3 c (k0,q0)).2.1<l.length)||lessR 3 before))=true then 0 else 3)):=hI0 (by rw [HPB0.out,if_neg (by omega)])
  clear HPB0
  go_upto_region 9 with (fail)
  have hk1p:0<k0:=by omega
  rcases h1:pText l (k0,q0) with ⟨n1,kk1,qq1⟩
  have u1:k0≤kk1∧kk1≤l.length:=by have u:=adv_text (l:=l) (st:=(k0,q0)) hk0;rw [h1] at u;exact u
  have K1:∀V,CurAt V b (strB l) k0 q0 c.enc→Chg (·=b) X V→Calls prog 96 #[.pointer (some ⟨b,0,none⟩)] V fun x w'=>x=.returned (.string n1)∧CurAt w' b (strB l) kk1 qq1 c.enc∧Chg (·=b) V w':=fun V hs hV=>by
   have k:=text_any b l k0 q0 c.enc V hs hk0 hl
   rw [h1] at k
   exact k
  have hd:pText l (k0,q0)=(n1,kk1,qq1):=by exact h1
  obtain ⟨i0,hI,hz0,hz1,hz2⟩:=info_parts infRTv
  have HI:=hI0 hI
  have HZ0:=hI0 hz0
  have HZ1:=hI0 hz1
  have HZ2:=hI0 hz2
  have HD:=hI0 hd
  have hS0:CurAt X.drew b (strB l) k0 q0 c.enc:=HX.out
  have hC0:Chg (·=b) X X.drew:=(Chg.refl _ _).drew
  clear hI hz0 hz1 hz2 hd h1
  refine wp_region_noPanic ?_
  refine beginT (S:=(fun Y:World=>∃(k:Nat) (q:Bool),CurAt Y b (strB l) k q c.enc)) 16 (by kernel_rfl) ?_ (fun zh=>?_)
  ·exact ⟨_,_,hS0⟩
  refine tT 0 47 ?_
  refine tT 1 48 ?_
  refine tT 2 49 ?_
  refine tT 3 50 ?_
  refine tT 4 51 ?_
  refine tU 5 52 (v:=?_) zh ?_ ?_
  rotate_left
  ·intro w' hSw;(try dsimp only at hSw);obtain ⟨k,q,hs⟩:=hSw;have p8:w'.cell? ⟨b,9,none⟩=some (.slice c.tA c.tabs.length c.tC):=cW0 w' _ 9 _ _ _ hs;go_simp<;>with_reducible rfl
  refine tT 6 53 ?_
  refine tT 7 54 ?_
  refine tT 8 55 ?_
  refine cT 9 56 ?_
  (with_reducible refine (K1 _ hS0 hC0).mono ?_)
  rintro _ v1 ⟨rfl,hS1,hD1⟩
  have hC1:Chg (·=b) X v1:=hC0.trans hD1 (fun _ _ h=>h)
  refine ⟨_,rfl,keepAnd ?_ (fun hNew=>?_)⟩
  ·intro _;exact ⟨_,_,hS1⟩
  have hNew:=hNew (by decide)
  clear zh
  have zh:=hNew
  clear hNew
  simp only [aP]
  refine tT 10 57 ?_
  have hNew:(fun Y:World=>∃(k:Nat) (q:Bool),CurAt Y b (strB l) k q c.enc) (v1.alloc (.cells #[.string n1,.slice none 0 0] 37)):=by exact ⟨_,_,hS1.below (Below.of_alloc _)⟩
  refine runT 11 (some 58) (v:=.slice (some ⟨v1.heap.size,0,none⟩) 1 1) (w':=v1.alloc (.cells #[.string n1,.slice none 0 0] 37)) rfl rfl (by kernel_rfl) (by rfl) ?_ (fun _=>hNew) ?_
  ·go_simp<;>with_reducible rfl
  clear zh
  have zh:=hNew
  clear hNew
  simp only [aP]
  refine opT 12 rfl (by kernel_rfl) (by rfl) ?_
  have hA:StO (v1.alloc (.cells #[.string n1,.slice none 0 0] 37)) b c:=(HO.out.chg hC1).chg ((Chg.refl (·=b) v1).alloc _)
  have hmem:(⟨37,2,.slice c.tA c.tabs.length c.tC,c.tabs.length,c.tabs.flatMap RTv.enc⟩:RowO)∈rowsO c:=List.mem_of_getElem? (i:=2) rfl
  have hown:(v1.alloc (.cells #[.string n1,.slice none 0 0] 37)).ownsRow (b+1) 37 2 (.slice c.tA c.tabs.length c.tC) c.tabs.length (c.tabs.flatMap RTv.enc):=hA.own _ hmem
  have hn:c.tabs.length≤4294967281:=HN.out _ hmem
  have hbv:b<v1.heap.size:=hS1.lt
  refine wp_append_app _ (.tmp 52) (.tmp 58) 24 rfl (b+1) 37 i0 _ 2 40 underlying24 HI.out HZ0.out HZ1.out HZ2.out rfl (by omega) (.slice c.tA c.tabs.length c.tC) c.tabs.length (c.tabs.flatMap RTv.enc) rfl (.inl hown) (·=v1.heap.size) _ 1 [.string n1,.slice none 0 0] rfl (Rd.new' v1 v1.heap.size rfl [.string n1,.slice none 0 0] 37 2 1 rfl (by decide)) (fun u hu=>by simp only [List.mem_cons,List.not_mem_nil,or_false] at hu;rcases hu with rfl|rfl<;>rfl) (by unfold maxLen;omega) (by omega) (by simp;omega) ?_
  intro v' w3 _ hO3 hg3 hb3 hv3
  have hO3:=hO3 (.inl (by omega))
  obtain ⟨A3,c3,rfl,hSt⟩:=StO.pushT hA (nm:=n1) hO3 hg3 hv3
  obtain ⟨hS9,hB9⟩:=grow_cur hA hmem hg3 (hS1.below (Below.of_alloc _))
  refine rA0 (⟨_,_,hS9⟩) ?_
  clear zh
  intro zh
  simp only [aP]
  refine runT 13 (some 60) (v:=?_) (w':=_) rfl rfl (by kernel_rfl) (by rfl) ?_ (fun _=>zh) ?_
  rotate_left
  ·go_simp<;>with_reducible rfl
  simp only [aP]
  refine runT 14 (some 61) (v:=?_) (w':=_) rfl rfl (by kernel_rfl) (by rfl) ?_ (fun _=>zh) ?_
  rotate_left
  ·go_simp<;>with_reducible rfl
  simp only [aP]
  refine tT 15 62 ?_
  refine skipRunT 16 none (w':=w3.setCell ⟨b,9,none⟩ (.slice A3 (c.tabs.length+1) c3)) rfl rfl (by kernel_rfl) (by rfl) ?_ (fun h=>absurd rfl h) ?_
  ·(have p8:w3.cell? ⟨b,9,none⟩=some (.slice c.tA c.tabs.length c.tC):=cW0 w3 _ 9 _ _ _ hS9;have g8:w3.frozen? ⟨b,9,none⟩=false:=fW0 w3 _ _ _ _ hS9;go_simp<;>with_reducible rfl)
  clear zh
  simp only [Act.put]
  refine doneT (by kernel_rfl) ?_ _
  refine NoPanic.normal ?_
  obtain ⟨c9,hc9⟩:∃c9:RSt,c9= { c with tA:=A3,tC:=c3,tabs:=c.tabs++[⟨n1,none,0,[]⟩] }:=⟨_,rfl⟩
  rw [←hc9] at hSt
  have hF:CurAt (w3.setCell ⟨b,9,none⟩ (.slice A3 (c.tabs.length+1) c3)) b (strB l) kk1 qq1 c9.enc∧StO (w3.setCell ⟨b,9,none⟩ (.slice A3 (c.tabs.length+1) c3)) b c9∧Below b w3 (w3.setCell ⟨b,9,none⟩ (.slice A3 (c.tabs.length+1) c3)):=push_fin (j:=6) hS9 hSt (by rw [hc9];simp [RSt.enc])
  have hBY:Below b X (w3.setCell ⟨b,9,none⟩ (.slice A3 (c.tabs.length+1) c3)):=(((hC1.below (Nat.le_of_lt HX.out.lt) (fun _ e=>by omega)).trans ((Below.of_alloc _).mono (Nat.le_of_lt hbv))).trans hB9).trans hF.2.2
  have hE9:c9.er=(pPart l 3 c (k0,q0)).1.er:=by rw [hc9];unfold pPart;simp [HD.out,RSt.er,RTv.er]
  have hP9:(pPart l 3 c (k0,q0)).2=(kk1,qq1):=by unfold pPart;simp [HD.out]
  generalize w3.setCell ⟨b,9,none⟩ (.slice A3 (c.tabs.length+1) c3)=Y at *
  have HY:=hI0 hF.1
  have HSt:=hI0 hF.2.1
  have HBY:=hI0 hBY
  have HE9:=hI0 hE9
  have HP9:=hI0 hP9
  clear hF hBY hE9 hP9 hc9 hSt hS9 hB9 hA hown hmem hO3 hg3 hb3 hv3 hS0 hC0 hS1 hC1 hD1 K1
  have c2:=cW1 2 HY.out rfl
  have c1:=cW1 1 HY.out rfl
  have hRes:(pBody l before c).2=if (qq1||(decide (kk1<l.length)||lessR 3 before))=true then 0 else 3:=by rw [HPB.out];simp [HP9.out]
  have hSt1:(pBody l before c).1=(pPart l 3 c (k0,q0)).1:=by rw [HPB.out]
  have HRes:=hI0 hRes
  have HSt1:=hI0 hSt1
  clear hRes hSt1
  have hfin:∀x:Nat,x=(pBody l before c).2→BodyQ b l (pBody l before c) w (.returned (.int .i64 (x:Int))) Y:=fun x hx=>⟨by rw [hx],c9,kk1,qq1,by rw [HE9.out,HSt1.out],HY.out,HSt.out,HBX.out.trans HBY.out⟩
  have HFIN:=hI0 hfin
  clear hfin
  cases qq1 with
  |true=>
   have hR0:(pBody l before c).2=0:=by rw [HRes.out];rfl
   go_wp2_with fail
   go_ret
   exact HFIN.out 0 hR0.symm
  |false=>
   by_cases hk:kk1<l.length
   ·have hR0:(pBody l before c).2=0:=by rw [HRes.out];first|(simp [hk];done)|(split<;>rfl)
    have hlt:decide ((kk1:Int)<((strB l).size:Int))=true:=decide_eq_true (by omega)
    go_wp2_with fail
    go_ret
    exact HFIN.out 0 hR0.symm
   ·have hlt:decide ((kk1:Int)<((strB l).size:Int))=false:=decide_eq_false (by omega)
    by_cases h4:before=4
    ·subst h4
     have hR0:(pBody l 4 c).2=3:=by rw [HRes.out];first|(simp [hk,lessR];done)|(split<;>rfl)
     go_wp2_with fail
     go_ret
     exact HFIN.out 3 hR0.symm
    ·have h4b:((before:Int)==4)=false:=by simp;omega
     have h4c:decide ((before:Int)=4)=false:=decide_eq_false (by omega)
     by_cases hb:3<before
     ·have hR0:(pBody l before c).2=0:=by rw [HRes.out];first|(simp [hb,h4,lessR];done)|(split<;>rfl)
      have hlb:decide ((3:Int)<(before:Int))=true:=decide_eq_true (by omega)
      go_wp2_with fail
      go_ret
      exact HFIN.out 0 hR0.symm
     ·have hR0:(pBody l before c).2=3:=by rw [HRes.out];first|(simp [hk,hb,h4,lessR];done)|(split<;>rfl)
      have hlb:decide ((3:Int)<(before:Int))=false:=decide_eq_false (by omega)
      go_wp2_with fail
      go_ret
      exact HFIN.out 3 hR0.symm
 ·
  have HPB:Hid (pBody l before c=((pPart l 5 c (k0,q0)).1,if ((pPart l 5 c (k0,q0)).2.2||(decide ((pPart l 5 c (k0,q0)).2.1<l.length)||lessR 5 before))=true then 0 else 5)):=hI0 (by rw [HPB0.out,if_neg (by omega)])
  clear HPB0
  go_upto_region 15 with (fail)
  have hk1p:0<k0:=by omega
  rcases h1:pText l (k0,q0) with ⟨n1,kk1,qq1⟩
  have u1:k0≤kk1∧kk1≤l.length:=by have u:=adv_text (l:=l) (st:=(k0,q0)) hk0;rw [h1] at u;exact u
  rcases h2:pText l (kk1,qq1) with ⟨n2,kk2,qq2⟩
  have u2:kk1≤kk2∧kk2≤l.length:=by have u:=adv_text (l:=l) (st:=(kk1,qq1)) u1.2;rw [h2] at u;exact u
  rcases h3:pPer l (kk2,qq2) with ⟨⟨f3,t3⟩,kk3,qq3⟩
  have u3:kk2≤kk3∧kk3≤l.length:=by have u:=adv_per (l:=l) (st:=(kk2,qq2)) u2.2;rw [h3] at u;exact u
  rcases h4:pPer l (kk3,qq3) with ⟨⟨f4,t4⟩,kk4,qq4⟩
  have u4:kk3≤kk4∧kk4≤l.length:=by have u:=adv_per (l:=l) (st:=(kk3,qq3)) u3.2;rw [h4] at u;exact u
  have K1:∀V,CurAt V b (strB l) k0 q0 c.enc→Chg (·=b) X V→Calls prog 96 #[.pointer (some ⟨b,0,none⟩)] V fun x w'=>x=.returned (.string n1)∧CurAt w' b (strB l) kk1 qq1 c.enc∧Chg (·=b) V w':=fun V hs hV=>by
   have k:=text_any b l k0 q0 c.enc V hs hk0 hl
   rw [h1] at k
   exact k
  have K2:∀V,CurAt V b (strB l) kk1 qq1 c.enc→Chg (·=b) X V→Calls prog 96 #[.pointer (some ⟨b,0,none⟩)] V fun x w'=>x=.returned (.string n2)∧CurAt w' b (strB l) kk2 qq2 c.enc∧Chg (·=b) V w':=fun V hs hV=>by
   have k:=text_any b l kk1 qq1 c.enc V hs u1.2 hl
   rw [h2] at k
   exact k
  have K3:∀V,CurAt V b (strB l) kk2 qq2 c.enc→Chg (·=b) X V→Calls prog 98 #[.pointer (some ⟨b,0,none⟩)] V fun x w'=>x=.returned (.agg #[.int .i64 f3,.int .i64 t3])∧CurAt w' b (strB l) kk3 qq3 c.enc∧Chg (·=b) V w':=fun V hs hV=>by
   have k:=pper_any b l kk2 qq2 c.enc V (hEV V hV) hs (by omega) u2.2 hl
   rw [h3] at k
   exact k.mono fun e w' ⟨y,a1,_,a3,a4,a5⟩=>⟨by simp only [id] at a3;rw [a1,a3],a4,a5⟩
  have K4:∀V,CurAt V b (strB l) kk3 qq3 c.enc→Chg (·=b) X V→Calls prog 98 #[.pointer (some ⟨b,0,none⟩)] V fun x w'=>x=.returned (.agg #[.int .i64 f4,.int .i64 t4])∧CurAt w' b (strB l) kk4 qq4 c.enc∧Chg (·=b) V w':=fun V hs hV=>by
   have k:=pper_any b l kk3 qq3 c.enc V (hEV V hV) hs (by omega) u3.2 hl
   rw [h4] at k
   exact k.mono fun e w' ⟨y,a1,_,a3,a4,a5⟩=>⟨by simp only [id] at a3;rw [a1,a3],a4,a5⟩
  have hd:pHld l (k0,q0)=(⟨n1,n2,f3,t3,f4,t4⟩,kk4,qq4):=by unfold pHld;simp only [h1,h2,h3,h4]
  obtain ⟨i0,hI,hz0,hz1,hz2⟩:=info_parts infHld
  have HI:=hI0 hI
  have HZ0:=hI0 hz0
  have HZ1:=hI0 hz1
  have HZ2:=hI0 hz2
  have HD:=hI0 hd
  have hS0:CurAt X.drew b (strB l) k0 q0 c.enc:=HX.out
  have hC0:Chg (·=b) X X.drew:=(Chg.refl _ _).drew
  clear hI hz0 hz1 hz2 hd h1 h2 h3 h4
  refine wp_region_noPanic ?_
  refine beginT (S:=(fun Y:World=>∃(k:Nat) (q:Bool),CurAt Y b (strB l) k q c.enc)) 25 (by kernel_rfl) ?_ (fun zh=>?_)
  ·exact ⟨_,_,hS0⟩
  refine tT 0 75 ?_
  refine tT 1 76 ?_
  refine tT 2 77 ?_
  refine tT 3 78 ?_
  refine tT 4 79 ?_
  refine tU 5 80 (v:=?_) zh ?_ ?_
  rotate_left
  ·intro w' hSw;(try dsimp only at hSw);obtain ⟨k,q,hs⟩:=hSw;have p8:w'.cell? ⟨b,10,none⟩=some (.slice c.pA c.pla.length c.pC):=cW0 w' _ 10 _ _ _ hs;go_simp<;>with_reducible rfl
  refine tT 6 81 ?_
  refine tT 7 82 ?_
  refine tT 8 83 ?_
  refine tT 10 85 ?_
  refine tT 11 86 ?_
  refine tT 12 87 ?_
  refine tT 14 89 ?_
  refine tT 16 91 ?_
  refine cT 9 84 ?_
  (with_reducible refine (K1 _ hS0 hC0).mono ?_)
  rintro _ v1 ⟨rfl,hS1,hD1⟩
  have hC1:Chg (·=b) X v1:=hC0.trans hD1 (fun _ _ h=>h)
  refine ⟨_,rfl,keepAnd ?_ (fun hNew=>?_)⟩
  ·intro _;exact ⟨_,_,hS1⟩
  have hNew:=hNew (by decide)
  clear zh
  have zh:=hNew
  clear hNew
  simp only [aP]
  refine cT 13 88 ?_
  (with_reducible refine (K2 _ hS1 hC1).mono ?_)
  rintro _ v2 ⟨rfl,hS2,hD2⟩
  have hC2:Chg (·=b) X v2:=hC1.trans hD2 (fun _ _ h=>h)
  refine ⟨_,rfl,keepAnd ?_ (fun hNew=>?_)⟩
  ·intro _;exact ⟨_,_,hS2⟩
  have hNew:=hNew (by decide)
  clear zh
  have zh:=hNew
  clear hNew
  simp only [aP]
  refine cT 15 90 ?_
  (with_reducible refine (K3 _ hS2 hC2).mono ?_)
  rintro _ v3 ⟨rfl,hS3,hD3⟩
  have hC3:Chg (·=b) X v3:=hC2.trans hD3 (fun _ _ h=>h)
  refine ⟨_,rfl,keepAnd ?_ (fun hNew=>?_)⟩
  ·intro _;exact ⟨_,_,hS3⟩
  have hNew:=hNew (by decide)
  clear zh
  have zh:=hNew
  clear hNew
  simp only [aP]
  refine cT 17 92 ?_
  (with_reducible refine (K4 _ hS3 hC3).mono ?_)
  rintro _ v4 ⟨rfl,hS4,hD4⟩
  have hC4:Chg (·=b) X v4:=hC3.trans hD4 (fun _ _ h=>h)
  refine ⟨_,rfl,keepAnd ?_ (fun hNew=>?_)⟩
  ·intro _;exact ⟨_,_,hS4⟩
  have hNew:=hNew (by decide)
  clear zh
  have zh:=hNew
  clear hNew
  simp only [aP]
  refine tT 18 93 ?_
  refine tT 19 94 ?_
  have hNew:(fun Y:World=>∃(k:Nat) (q:Bool),CurAt Y b (strB l) k q c.enc) (v4.alloc (.cells #[.string n1,.string n2,.int .i64 f3,.int .i64 t3,.int .i64 f4,.int .i64 t4] 87)):=by exact ⟨_,_,hS4.below (Below.of_alloc _)⟩
  refine runT 20 (some 95) (v:=.slice (some ⟨v4.heap.size,0,none⟩) 1 1) (w':=v4.alloc (.cells #[.string n1,.string n2,.int .i64 f3,.int .i64 t3,.int .i64 f4,.int .i64 t4] 87)) rfl rfl (by kernel_rfl) (by rfl) ?_ (fun _=>hNew) ?_
  ·go_simp<;>with_reducible rfl
  clear zh
  have zh:=hNew
  clear hNew
  simp only [aP]
  refine opT 21 rfl (by kernel_rfl) (by rfl) ?_
  have hA:StO (v4.alloc (.cells #[.string n1,.string n2,.int .i64 f3,.int .i64 t3,.int .i64 f4,.int .i64 t4] 87)) b c:=(HO.out.chg hC4).chg ((Chg.refl (·=b) v4).alloc _)
  have hmem:(⟨87,6,.slice c.pA c.pla.length c.pC,c.pla.length,c.pla.flatMap Hld.enc⟩:RowO)∈rowsO c:=List.mem_of_getElem? (i:=3) rfl
  have hown:(v4.alloc (.cells #[.string n1,.string n2,.int .i64 f3,.int .i64 t3,.int .i64 f4,.int .i64 t4] 87)).ownsRow (b+1) 87 6 (.slice c.pA c.pla.length c.pC) c.pla.length (c.pla.flatMap Hld.enc):=hA.own _ hmem
  have hn:c.pla.length≤4294967281:=HN.out _ hmem
  have hbv:b<v4.heap.size:=hS4.lt
  refine wp_append_app _ (.tmp 80) (.tmp 95) 25 rfl (b+1) 87 i0 _ 6 64 underlying25 HI.out HZ0.out HZ1.out HZ2.out rfl (by omega) (.slice c.pA c.pla.length c.pC) c.pla.length (c.pla.flatMap Hld.enc) rfl (.inl hown) (·=v4.heap.size) _ 1 [.string n1,.string n2,.int .i64 f3,.int .i64 t3,.int .i64 f4,.int .i64 t4] rfl (Rd.new' v4 v4.heap.size rfl [.string n1,.string n2,.int .i64 f3,.int .i64 t3,.int .i64 f4,.int .i64 t4] 87 6 1 rfl (by decide)) (fun u hu=>by simp only [List.mem_cons,List.not_mem_nil,or_false] at hu;rcases hu with rfl|rfl|rfl|rfl|rfl|rfl<;>rfl) (by unfold maxLen;omega) (by omega) (by simp;omega) ?_
  intro v' w3 _ hO3 hg3 hb3 hv3
  have hO3:=hO3 (.inl (by omega))
  obtain ⟨A3,c3,rfl,hSt⟩:=StO.pushP hA (x:=⟨n1,n2,f3,t3,f4,t4⟩) hO3 hg3 hv3
  obtain ⟨hS9,hB9⟩:=grow_cur hA hmem hg3 (hS4.below (Below.of_alloc _))
  refine rA0 (⟨_,_,hS9⟩) ?_
  clear zh
  intro zh
  simp only [aP]
  refine runT 22 (some 97) (v:=?_) (w':=_) rfl rfl (by kernel_rfl) (by rfl) ?_ (fun _=>zh) ?_
  rotate_left
  ·go_simp<;>with_reducible rfl
  simp only [aP]
  refine runT 23 (some 98) (v:=?_) (w':=_) rfl rfl (by kernel_rfl) (by rfl) ?_ (fun _=>zh) ?_
  rotate_left
  ·go_simp<;>with_reducible rfl
  simp only [aP]
  refine tT 24 99 ?_
  refine skipRunT 25 none (w':=w3.setCell ⟨b,10,none⟩ (.slice A3 (c.pla.length+1) c3)) rfl rfl (by kernel_rfl) (by rfl) ?_ (fun h=>absurd rfl h) ?_
  ·(have p8:w3.cell? ⟨b,10,none⟩=some (.slice c.pA c.pla.length c.pC):=cW0 w3 _ 10 _ _ _ hS9;have g8:w3.frozen? ⟨b,10,none⟩=false:=fW0 w3 _ _ _ _ hS9;go_simp<;>with_reducible rfl)
  clear zh
  simp only [Act.put]
  refine doneT (by kernel_rfl) ?_ _
  refine NoPanic.normal ?_
  obtain ⟨c9,hc9⟩:∃c9:RSt,c9= { c with pA:=A3,pC:=c3,pla:=c.pla++[⟨n1,n2,f3,t3,f4,t4⟩] }:=⟨_,rfl⟩
  rw [←hc9] at hSt
  have hF:CurAt (w3.setCell ⟨b,10,none⟩ (.slice A3 (c.pla.length+1) c3)) b (strB l) kk4 qq4 c9.enc∧StO (w3.setCell ⟨b,10,none⟩ (.slice A3 (c.pla.length+1) c3)) b c9∧Below b w3 (w3.setCell ⟨b,10,none⟩ (.slice A3 (c.pla.length+1) c3)):=push_fin (j:=7) hS9 hSt (by rw [hc9];simp [RSt.enc])
  have hBY:Below b X (w3.setCell ⟨b,10,none⟩ (.slice A3 (c.pla.length+1) c3)):=(((hC4.below (Nat.le_of_lt HX.out.lt) (fun _ e=>by omega)).trans ((Below.of_alloc _).mono (Nat.le_of_lt hbv))).trans hB9).trans hF.2.2
  have hE9:c9.er=(pPart l 5 c (k0,q0)).1.er:=by rw [hc9];unfold pPart;simp [HD.out,RSt.er]
  have hP9:(pPart l 5 c (k0,q0)).2=(kk4,qq4):=by unfold pPart;simp [HD.out]
  generalize w3.setCell ⟨b,10,none⟩ (.slice A3 (c.pla.length+1) c3)=Y at *
  have HY:=hI0 hF.1
  have HSt:=hI0 hF.2.1
  have HBY:=hI0 hBY
  have HE9:=hI0 hE9
  have HP9:=hI0 hP9
  clear hF hBY hE9 hP9 hc9 hSt hS9 hB9 hA hown hmem hO3 hg3 hb3 hv3 hS0 hC0 hS1 hC1 hD1 K1 hS2 hC2 hD2 K2 hS3 hC3 hD3 K3 hS4 hC4 hD4 K4
  have c2:=cW1 2 HY.out rfl
  have c1:=cW1 1 HY.out rfl
  have hRes:(pBody l before c).2=if (qq4||(decide (kk4<l.length)||lessR 5 before))=true then 0 else 5:=by rw [HPB.out];simp [HP9.out]
  have hSt1:(pBody l before c).1=(pPart l 5 c (k0,q0)).1:=by rw [HPB.out]
  have HRes:=hI0 hRes
  have HSt1:=hI0 hSt1
  clear hRes hSt1
  have hfin:∀x:Nat,x=(pBody l before c).2→BodyQ b l (pBody l before c) w (.returned (.int .i64 (x:Int))) Y:=fun x hx=>⟨by rw [hx],c9,kk4,qq4,by rw [HE9.out,HSt1.out],HY.out,HSt.out,HBX.out.trans HBY.out⟩
  have HFIN:=hI0 hfin
  clear hfin
  cases qq4 with
  |true=>
   have hR0:(pBody l before c).2=0:=by rw [HRes.out];rfl
   go_wp2_with fail
   go_ret
   exact HFIN.out 0 hR0.symm
  |false=>
   by_cases hk:kk4<l.length
   ·have hR0:(pBody l before c).2=0:=by rw [HRes.out];first|(simp [hk];done)|(split<;>rfl)
    have hlt:decide ((kk4:Int)<((strB l).size:Int))=true:=decide_eq_true (by omega)
    go_wp2_with fail
    go_ret
    exact HFIN.out 0 hR0.symm
   ·have hlt:decide ((kk4:Int)<((strB l).size:Int))=false:=decide_eq_false (by omega)
    by_cases hb:5<before
    ·have hR0:(pBody l before c).2=0:=by rw [HRes.out];first|(simp [hb,lessR];done)|(split<;>rfl)
     have hlb:decide ((5:Int)<(before:Int))=true:=decide_eq_true (by omega)
     go_wp2_with fail
     go_ret
     exact HFIN.out 0 hR0.symm
    ·have hR0:(pBody l before c).2=5:=by rw [HRes.out];first|(simp [hk,hb,lessR];done)|(split<;>rfl)
     have hlb:decide ((5:Int)<(before:Int))=false:=decide_eq_false (by omega)
     go_wp2_with fail
     go_ret
     exact HFIN.out 5 hR0.symm
 ·
  have HPB:Hid (pBody l before c=((pPart l 6 c (k0,q0)).1,if ((pPart l 6 c (k0,q0)).2.2||(decide ((pPart l 6 c (k0,q0)).2.1<l.length)||lessR 6 before))=true then 0 else 6)):=hI0 (by rw [HPB0.out,if_neg (by omega)])
  clear HPB0
  go_upto_region 17 with (fail)
  have hk1p:0<k0:=by omega
  rcases h1:pText l (k0,q0) with ⟨n1,kk1,qq1⟩
  have u1:k0≤kk1∧kk1≤l.length:=by have u:=adv_text (l:=l) (st:=(k0,q0)) hk0;rw [h1] at u;exact u
  rcases h2:cnumI l (kk1,qq1) with ⟨n2,kk2,qq2⟩
  have u2:kk1≤kk2∧kk2≤l.length:=by have u:=adv_num (l:=l) (st:=(kk1,qq1)) u1.2;rw [h2] at u;exact u
  have K1:∀V,CurAt V b (strB l) k0 q0 c.enc→Chg (·=b) X V→Calls prog 96 #[.pointer (some ⟨b,0,none⟩)] V fun x w'=>x=.returned (.string n1)∧CurAt w' b (strB l) kk1 qq1 c.enc∧Chg (·=b) V w':=fun V hs hV=>by
   have k:=text_any b l k0 q0 c.enc V hs hk0 hl
   rw [h1] at k
   exact k
  have K2:∀V,CurAt V b (strB l) kk1 qq1 c.enc→Chg (·=b) X V→Calls prog 93 #[.pointer (some ⟨b,0,none⟩)] V fun x w'=>x=.returned (.int .i64 n2)∧CurAt w' b (strB l) kk2 qq2 c.enc∧Chg (·=b) V w':=fun V hs hV=>by
   have k:=cnum_any b l kk1 qq1 c.enc V (hEV V hV) hs u1.2 hl
   rw [h2] at k
   exact k
  have hd:pPol l (k0,q0)=(⟨n1,n2⟩,kk2,qq2):=by unfold pPol;simp only [h1,h2]
  obtain ⟨i0,hI,hz0,hz1,hz2⟩:=info_parts infPol
  have HI:=hI0 hI
  have HZ0:=hI0 hz0
  have HZ1:=hI0 hz1
  have HZ2:=hI0 hz2
  have HD:=hI0 hd
  have hS0:CurAt X.drew b (strB l) k0 q0 c.enc:=HX.out
  have hC0:Chg (·=b) X X.drew:=(Chg.refl _ _).drew
  clear hI hz0 hz1 hz2 hd h1 h2
  refine wp_region_noPanic ?_
  refine beginT (S:=(fun Y:World=>∃(k:Nat) (q:Bool),CurAt Y b (strB l) k q c.enc)) 20 (by kernel_rfl) ?_ (fun zh=>?_)
  ·exact ⟨_,_,hS0⟩
  refine tT 0 102 ?_
  refine tT 1 103 ?_
  refine tT 2 104 ?_
  refine tT 3 105 ?_
  refine tT 4 106 ?_
  refine tU 5 107 (v:=?_) zh ?_ ?_
  rotate_left
  ·intro w' hSw;(try dsimp only at hSw);obtain ⟨k,q,hs⟩:=hSw;have p8:w'.cell? ⟨b,11,none⟩=some (.slice c.qA c.pol.length c.qC):=cW0 w' _ 11 _ _ _ hs;go_simp<;>with_reducible rfl
  refine tT 6 108 ?_
  refine tT 7 109 ?_
  refine tT 8 110 ?_
  refine tT 10 112 ?_
  refine tT 11 113 ?_
  refine tT 12 114 ?_
  refine cT 9 111 ?_
  (with_reducible refine (K1 _ hS0 hC0).mono ?_)
  rintro _ v1 ⟨rfl,hS1,hD1⟩
  have hC1:Chg (·=b) X v1:=hC0.trans hD1 (fun _ _ h=>h)
  refine ⟨_,rfl,keepAnd ?_ (fun hNew=>?_)⟩
  ·intro _;exact ⟨_,_,hS1⟩
  have hNew:=hNew (by decide)
  clear zh
  have zh:=hNew
  clear hNew
  simp only [aP]
  refine cT 13 115 ?_
  (with_reducible refine (K2 _ hS1 hC1).mono ?_)
  rintro _ v2 ⟨rfl,hS2,hD2⟩
  have hC2:Chg (·=b) X v2:=hC1.trans hD2 (fun _ _ h=>h)
  refine ⟨_,rfl,keepAnd ?_ (fun hNew=>?_)⟩
  ·intro _;exact ⟨_,_,hS2⟩
  have hNew:=hNew (by decide)
  clear zh
  have zh:=hNew
  clear hNew
  simp only [aP]
  refine tT 14 116 ?_
  have hNew:(fun Y:World=>∃(k:Nat) (q:Bool),CurAt Y b (strB l) k q c.enc) (v2.alloc (.cells #[.string n1,.int .i64 n2] 90)):=by exact ⟨_,_,hS2.below (Below.of_alloc _)⟩
  refine runT 15 (some 117) (v:=.slice (some ⟨v2.heap.size,0,none⟩) 1 1) (w':=v2.alloc (.cells #[.string n1,.int .i64 n2] 90)) rfl rfl (by kernel_rfl) (by rfl) ?_ (fun _=>hNew) ?_
  ·go_simp<;>with_reducible rfl
  clear zh
  have zh:=hNew
  clear hNew
  simp only [aP]
  refine opT 16 rfl (by kernel_rfl) (by rfl) ?_
  have hA:StO (v2.alloc (.cells #[.string n1,.int .i64 n2] 90)) b c:=(HO.out.chg hC2).chg ((Chg.refl (·=b) v2).alloc _)
  have hmem:(⟨90,2,.slice c.qA c.pol.length c.qC,c.pol.length,c.pol.flatMap Pol.enc⟩:RowO)∈rowsO c:=List.mem_of_getElem? (i:=4) rfl
  have hown:(v2.alloc (.cells #[.string n1,.int .i64 n2] 90)).ownsRow (b+1) 90 2 (.slice c.qA c.pol.length c.qC) c.pol.length (c.pol.flatMap Pol.enc):=hA.own _ hmem
  have hn:c.pol.length≤4294967281:=HN.out _ hmem
  have hbv:b<v2.heap.size:=hS2.lt
  refine wp_append_app _ (.tmp 107) (.tmp 117) 26 rfl (b+1) 90 i0 _ 2 24 underlying26 HI.out HZ0.out HZ1.out HZ2.out rfl (by omega) (.slice c.qA c.pol.length c.qC) c.pol.length (c.pol.flatMap Pol.enc) rfl (.inl hown) (·=v2.heap.size) _ 1 [.string n1,.int .i64 n2] rfl (Rd.new' v2 v2.heap.size rfl [.string n1,.int .i64 n2] 90 2 1 rfl (by decide)) (fun u hu=>by simp only [List.mem_cons,List.not_mem_nil,or_false] at hu;rcases hu with rfl|rfl<;>rfl) (by unfold maxLen;omega) (by omega) (by simp;omega) ?_
  intro v' w3 _ hO3 hg3 hb3 hv3
  have hO3:=hO3 (.inl (by omega))
  obtain ⟨A3,c3,rfl,hSt⟩:=StO.pushQ hA (x:=⟨n1,n2⟩) hO3 hg3 hv3
  obtain ⟨hS9,hB9⟩:=grow_cur hA hmem hg3 (hS2.below (Below.of_alloc _))
  refine rA0 (⟨_,_,hS9⟩) ?_
  clear zh
  intro zh
  simp only [aP]
  refine runT 17 (some 119) (v:=?_) (w':=_) rfl rfl (by kernel_rfl) (by rfl) ?_ (fun _=>zh) ?_
  rotate_left
  ·go_simp<;>with_reducible rfl
  simp only [aP]
  refine runT 18 (some 120) (v:=?_) (w':=_) rfl rfl (by kernel_rfl) (by rfl) ?_ (fun _=>zh) ?_
  rotate_left
  ·go_simp<;>with_reducible rfl
  simp only [aP]
  refine tT 19 121 ?_
  refine skipRunT 20 none (w':=w3.setCell ⟨b,11,none⟩ (.slice A3 (c.pol.length+1) c3)) rfl rfl (by kernel_rfl) (by rfl) ?_ (fun h=>absurd rfl h) ?_
  ·(have p8:w3.cell? ⟨b,11,none⟩=some (.slice c.qA c.pol.length c.qC):=cW0 w3 _ 11 _ _ _ hS9;have g8:w3.frozen? ⟨b,11,none⟩=false:=fW0 w3 _ _ _ _ hS9;go_simp<;>with_reducible rfl)
  clear zh
  simp only [Act.put]
  refine doneT (by kernel_rfl) ?_ _
  refine NoPanic.normal ?_
  obtain ⟨c9,hc9⟩:∃c9:RSt,c9= { c with qA:=A3,qC:=c3,pol:=c.pol++[⟨n1,n2⟩] }:=⟨_,rfl⟩
  rw [←hc9] at hSt
  have hF:CurAt (w3.setCell ⟨b,11,none⟩ (.slice A3 (c.pol.length+1) c3)) b (strB l) kk2 qq2 c9.enc∧StO (w3.setCell ⟨b,11,none⟩ (.slice A3 (c.pol.length+1) c3)) b c9∧Below b w3 (w3.setCell ⟨b,11,none⟩ (.slice A3 (c.pol.length+1) c3)):=push_fin (j:=8) hS9 hSt (by rw [hc9];simp [RSt.enc])
  have hBY:Below b X (w3.setCell ⟨b,11,none⟩ (.slice A3 (c.pol.length+1) c3)):=(((hC2.below (Nat.le_of_lt HX.out.lt) (fun _ e=>by omega)).trans ((Below.of_alloc _).mono (Nat.le_of_lt hbv))).trans hB9).trans hF.2.2
  have hE9:c9.er=(pPart l 6 c (k0,q0)).1.er:=by rw [hc9];unfold pPart;simp [HD.out,RSt.er]
  have hP9:(pPart l 6 c (k0,q0)).2=(kk2,qq2):=by unfold pPart;simp [HD.out]
  generalize w3.setCell ⟨b,11,none⟩ (.slice A3 (c.pol.length+1) c3)=Y at *
  have HY:=hI0 hF.1
  have HSt:=hI0 hF.2.1
  have HBY:=hI0 hBY
  have HE9:=hI0 hE9
  have HP9:=hI0 hP9
  clear hF hBY hE9 hP9 hc9 hSt hS9 hB9 hA hown hmem hO3 hg3 hb3 hv3 hS0 hC0 hS1 hC1 hD1 K1 hS2 hC2 hD2 K2
  have c2:=cW1 2 HY.out rfl
  have c1:=cW1 1 HY.out rfl
  have hRes:(pBody l before c).2=if (qq2||(decide (kk2<l.length)||lessR 6 before))=true then 0 else 6:=by rw [HPB.out];simp [HP9.out]
  have hSt1:(pBody l before c).1=(pPart l 6 c (k0,q0)).1:=by rw [HPB.out]
  have HRes:=hI0 hRes
  have HSt1:=hI0 hSt1
  clear hRes hSt1
  have hfin:∀x:Nat,x=(pBody l before c).2→BodyQ b l (pBody l before c) w (.returned (.int .i64 (x:Int))) Y:=fun x hx=>⟨by rw [hx],c9,kk2,qq2,by rw [HE9.out,HSt1.out],HY.out,HSt.out,HBX.out.trans HBY.out⟩
  have HFIN:=hI0 hfin
  clear hfin
  cases qq2 with
  |true=>
   have hR0:(pBody l before c).2=0:=by rw [HRes.out];rfl
   go_wp2_with fail
   go_ret
   exact HFIN.out 0 hR0.symm
  |false=>
   by_cases hk:kk2<l.length
   ·have hR0:(pBody l before c).2=0:=by rw [HRes.out];first|(simp [hk];done)|(split<;>rfl)
    have hlt:decide ((kk2:Int)<((strB l).size:Int))=true:=decide_eq_true (by omega)
    go_wp2_with fail
    go_ret
    exact HFIN.out 0 hR0.symm
   ·have hlt:decide ((kk2:Int)<((strB l).size:Int))=false:=decide_eq_false (by omega)
    by_cases hb:6<before
    ·have hR0:(pBody l before c).2=0:=by rw [HRes.out];first|(simp [hb,lessR];done)|(split<;>rfl)
     have hlb:decide ((6:Int)<(before:Int))=true:=decide_eq_true (by omega)
     go_wp2_with fail
     go_ret
     exact HFIN.out 0 hR0.symm
    ·have hR0:(pBody l before c).2=6:=by rw [HRes.out];first|(simp [hk,hb,lessR];done)|(split<;>rfl)
     have hlb:decide ((6:Int)<(before:Int))=false:=decide_eq_false (by omega)
     go_wp2_with fail
     go_ret
     exact HFIN.out 6 hR0.symm
 ·
  have HPB:Hid (pBody l before c=((pPart l 7 c (k0,q0)).1,if ((pPart l 7 c (k0,q0)).2.2||(decide ((pPart l 7 c (k0,q0)).2.1<l.length)||lessR 7 before))=true then 0 else 7)):=hI0 (by rw [HPB0.out,if_neg (by omega)])
  clear HPB0
  go_upto_region 19 with (fail)
  have hk1p:0<k0:=by omega
  rcases h1:pText l (k0,q0) with ⟨n1,kk1,qq1⟩
  have u1:k0≤kk1∧kk1≤l.length:=by have u:=adv_text (l:=l) (st:=(k0,q0)) hk0;rw [h1] at u;exact u
  rcases h2:cnumI l (kk1,qq1) with ⟨n2,kk2,qq2⟩
  have u2:kk1≤kk2∧kk2≤l.length:=by have u:=adv_num (l:=l) (st:=(kk1,qq1)) u1.2;rw [h2] at u;exact u
  have K1:∀V,CurAt V b (strB l) k0 q0 c.enc→Chg (·=b) X V→Calls prog 96 #[.pointer (some ⟨b,0,none⟩)] V fun x w'=>x=.returned (.string n1)∧CurAt w' b (strB l) kk1 qq1 c.enc∧Chg (·=b) V w':=fun V hs hV=>by
   have k:=text_any b l k0 q0 c.enc V hs hk0 hl
   rw [h1] at k
   exact k
  have K2:∀V,CurAt V b (strB l) kk1 qq1 c.enc→Chg (·=b) X V→Calls prog 93 #[.pointer (some ⟨b,0,none⟩)] V fun x w'=>x=.returned (.int .i64 n2)∧CurAt w' b (strB l) kk2 qq2 c.enc∧Chg (·=b) V w':=fun V hs hV=>by
   have k:=cnum_any b l kk1 qq1 c.enc V (hEV V hV) hs u1.2 hl
   rw [h2] at k
   exact k
  have hd:pHor l (k0,q0)=(⟨n1,n2⟩,kk2,qq2):=by unfold pHor;simp only [h1,h2]
  obtain ⟨i0,hI,hz0,hz1,hz2⟩:=info_parts infHor
  have HI:=hI0 hI
  have HZ0:=hI0 hz0
  have HZ1:=hI0 hz1
  have HZ2:=hI0 hz2
  have HD:=hI0 hd
  have hS0:CurAt X.drew b (strB l) k0 q0 c.enc:=HX.out
  have hC0:Chg (·=b) X X.drew:=(Chg.refl _ _).drew
  clear hI hz0 hz1 hz2 hd h1 h2
  refine wp_region_noPanic ?_
  refine beginT (S:=(fun Y:World=>∃(k:Nat) (q:Bool),CurAt Y b (strB l) k q c.enc)) 20 (by kernel_rfl) ?_ (fun zh=>?_)
  ·exact ⟨_,_,hS0⟩
  refine tT 0 124 ?_
  refine tT 1 125 ?_
  refine tT 2 126 ?_
  refine tT 3 127 ?_
  refine tT 4 128 ?_
  refine tU 5 129 (v:=?_) zh ?_ ?_
  rotate_left
  ·intro w' hSw;(try dsimp only at hSw);obtain ⟨k,q,hs⟩:=hSw;have p8:w'.cell? ⟨b,12,none⟩=some (.slice c.hA c.hor.length c.hC):=cW0 w' _ 12 _ _ _ hs;go_simp<;>with_reducible rfl
  refine tT 6 130 ?_
  refine tT 7 131 ?_
  refine tT 8 132 ?_
  refine tT 10 134 ?_
  refine tT 11 135 ?_
  refine tT 12 136 ?_
  refine cT 9 133 ?_
  (with_reducible refine (K1 _ hS0 hC0).mono ?_)
  rintro _ v1 ⟨rfl,hS1,hD1⟩
  have hC1:Chg (·=b) X v1:=hC0.trans hD1 (fun _ _ h=>h)
  refine ⟨_,rfl,keepAnd ?_ (fun hNew=>?_)⟩
  ·intro _;exact ⟨_,_,hS1⟩
  have hNew:=hNew (by decide)
  clear zh
  have zh:=hNew
  clear hNew
  simp only [aP]
  refine cT 13 137 ?_
  (with_reducible refine (K2 _ hS1 hC1).mono ?_)
  rintro _ v2 ⟨rfl,hS2,hD2⟩
  have hC2:Chg (·=b) X v2:=hC1.trans hD2 (fun _ _ h=>h)
  refine ⟨_,rfl,keepAnd ?_ (fun hNew=>?_)⟩
  ·intro _;exact ⟨_,_,hS2⟩
  have hNew:=hNew (by decide)
  clear zh
  have zh:=hNew
  clear hNew
  simp only [aP]
  refine tT 14 138 ?_
  have hNew:(fun Y:World=>∃(k:Nat) (q:Bool),CurAt Y b (strB l) k q c.enc) (v2.alloc (.cells #[.string n1,.int .i64 n2] 93)):=by exact ⟨_,_,hS2.below (Below.of_alloc _)⟩
  refine runT 15 (some 139) (v:=.slice (some ⟨v2.heap.size,0,none⟩) 1 1) (w':=v2.alloc (.cells #[.string n1,.int .i64 n2] 93)) rfl rfl (by kernel_rfl) (by rfl) ?_ (fun _=>hNew) ?_
  ·go_simp<;>with_reducible rfl
  clear zh
  have zh:=hNew
  clear hNew
  simp only [aP]
  refine opT 16 rfl (by kernel_rfl) (by rfl) ?_
  have hA:StO (v2.alloc (.cells #[.string n1,.int .i64 n2] 93)) b c:=(HO.out.chg hC2).chg ((Chg.refl (·=b) v2).alloc _)
  have hmem:(⟨93,2,.slice c.hA c.hor.length c.hC,c.hor.length,c.hor.flatMap Hor.enc⟩:RowO)∈rowsO c:=List.mem_of_getElem? (i:=5) rfl
  have hown:(v2.alloc (.cells #[.string n1,.int .i64 n2] 93)).ownsRow (b+1) 93 2 (.slice c.hA c.hor.length c.hC) c.hor.length (c.hor.flatMap Hor.enc):=hA.own _ hmem
  have hn:c.hor.length≤4294967281:=HN.out _ hmem
  have hbv:b<v2.heap.size:=hS2.lt
  refine wp_append_app _ (.tmp 129) (.tmp 139) 27 rfl (b+1) 93 i0 _ 2 24 underlying27 HI.out HZ0.out HZ1.out HZ2.out rfl (by omega) (.slice c.hA c.hor.length c.hC) c.hor.length (c.hor.flatMap Hor.enc) rfl (.inl hown) (·=v2.heap.size) _ 1 [.string n1,.int .i64 n2] rfl (Rd.new' v2 v2.heap.size rfl [.string n1,.int .i64 n2] 93 2 1 rfl (by decide)) (fun u hu=>by simp only [List.mem_cons,List.not_mem_nil,or_false] at hu;rcases hu with rfl|rfl<;>rfl) (by unfold maxLen;omega) (by omega) (by simp;omega) ?_
  intro v' w3 _ hO3 hg3 hb3 hv3
  have hO3:=hO3 (.inl (by omega))
  obtain ⟨A3,c3,rfl,hSt⟩:=StO.pushH hA (x:=⟨n1,n2⟩) hO3 hg3 hv3
  obtain ⟨hS9,hB9⟩:=grow_cur hA hmem hg3 (hS2.below (Below.of_alloc _))
  refine rA0 (⟨_,_,hS9⟩) ?_
  clear zh
  intro zh
  simp only [aP]
  refine runT 17 (some 141) (v:=?_) (w':=_) rfl rfl (by kernel_rfl) (by rfl) ?_ (fun _=>zh) ?_
  rotate_left
  ·go_simp<;>with_reducible rfl
  simp only [aP]
  refine runT 18 (some 142) (v:=?_) (w':=_) rfl rfl (by kernel_rfl) (by rfl) ?_ (fun _=>zh) ?_
  rotate_left
  ·go_simp<;>with_reducible rfl
  simp only [aP]
  refine tT 19 143 ?_
  refine skipRunT 20 none (w':=w3.setCell ⟨b,12,none⟩ (.slice A3 (c.hor.length+1) c3)) rfl rfl (by kernel_rfl) (by rfl) ?_ (fun h=>absurd rfl h) ?_
  ·(have p8:w3.cell? ⟨b,12,none⟩=some (.slice c.hA c.hor.length c.hC):=cW0 w3 _ 12 _ _ _ hS9;have g8:w3.frozen? ⟨b,12,none⟩=false:=fW0 w3 _ _ _ _ hS9;go_simp<;>with_reducible rfl)
  clear zh
  simp only [Act.put]
  refine doneT (by kernel_rfl) ?_ _
  refine NoPanic.normal ?_
  obtain ⟨c9,hc9⟩:∃c9:RSt,c9= { c with hA:=A3,hC:=c3,hor:=c.hor++[⟨n1,n2⟩] }:=⟨_,rfl⟩
  rw [←hc9] at hSt
  have hF:CurAt (w3.setCell ⟨b,12,none⟩ (.slice A3 (c.hor.length+1) c3)) b (strB l) kk2 qq2 c9.enc∧StO (w3.setCell ⟨b,12,none⟩ (.slice A3 (c.hor.length+1) c3)) b c9∧Below b w3 (w3.setCell ⟨b,12,none⟩ (.slice A3 (c.hor.length+1) c3)):=push_fin (j:=9) hS9 hSt (by rw [hc9];simp [RSt.enc])
  have hBY:Below b X (w3.setCell ⟨b,12,none⟩ (.slice A3 (c.hor.length+1) c3)):=(((hC2.below (Nat.le_of_lt HX.out.lt) (fun _ e=>by omega)).trans ((Below.of_alloc _).mono (Nat.le_of_lt hbv))).trans hB9).trans hF.2.2
  have hE9:c9.er=(pPart l 7 c (k0,q0)).1.er:=by rw [hc9];unfold pPart;simp [HD.out,RSt.er]
  have hP9:(pPart l 7 c (k0,q0)).2=(kk2,qq2):=by unfold pPart;simp [HD.out]
  generalize w3.setCell ⟨b,12,none⟩ (.slice A3 (c.hor.length+1) c3)=Y at *
  have HY:=hI0 hF.1
  have HSt:=hI0 hF.2.1
  have HBY:=hI0 hBY
  have HE9:=hI0 hE9
  have HP9:=hI0 hP9
  clear hF hBY hE9 hP9 hc9 hSt hS9 hB9 hA hown hmem hO3 hg3 hb3 hv3 hS0 hC0 hS1 hC1 hD1 K1 hS2 hC2 hD2 K2
  have c2:=cW1 2 HY.out rfl
  have c1:=cW1 1 HY.out rfl
  have hRes:(pBody l before c).2=if (qq2||(decide (kk2<l.length)||lessR 7 before))=true then 0 else 7:=by rw [HPB.out];simp [HP9.out]
  have hSt1:(pBody l before c).1=(pPart l 7 c (k0,q0)).1:=by rw [HPB.out]
  have HRes:=hI0 hRes
  have HSt1:=hI0 hSt1
  clear hRes hSt1
  have hfin:∀x:Nat,x=(pBody l before c).2→BodyQ b l (pBody l before c) w (.returned (.int .i64 (x:Int))) Y:=fun x hx=>⟨by rw [hx],c9,kk2,qq2,by rw [HE9.out,HSt1.out],HY.out,HSt.out,HBX.out.trans HBY.out⟩
  have HFIN:=hI0 hfin
  clear hfin
  cases qq2 with
  |true=>
   have hR0:(pBody l before c).2=0:=by rw [HRes.out];rfl
   go_wp2_with fail
   go_ret
   exact HFIN.out 0 hR0.symm
  |false=>
   by_cases hk:kk2<l.length
   ·have hR0:(pBody l before c).2=0:=by rw [HRes.out];first|(simp [hk];done)|(split<;>rfl)
    have hlt:decide ((kk2:Int)<((strB l).size:Int))=true:=decide_eq_true (by omega)
    go_wp2_with fail
    go_ret
    exact HFIN.out 0 hR0.symm
   ·have hlt:decide ((kk2:Int)<((strB l).size:Int))=false:=decide_eq_false (by omega)
    by_cases hb:7<before
    ·have hR0:(pBody l before c).2=0:=by rw [HRes.out];first|(simp [hb,lessR];done)|(split<;>rfl)
     have hlb:decide ((7:Int)<(before:Int))=true:=decide_eq_true (by omega)
     go_wp2_with fail
     go_ret
     exact HFIN.out 0 hR0.symm
    ·have hR0:(pBody l before c).2=7:=by rw [HRes.out];first|(simp [hk,hb,lessR];done)|(split<;>rfl)
     have hlb:decide ((7:Int)<(before:Int))=false:=decide_eq_false (by omega)
     go_wp2_with fail
     go_ret
     exact HFIN.out 7 hR0.symm
 ·
  have hk1p:0<k0:=by omega
  have HK:=hI0 (HEnt.out X k0 q0 (hEV X (Chg.refl _ _)) HX.out HO.out hk1p hk0)
  have hpb:pBody l before c=((pPart l 1 c (k0,q0)).1,if ((pPart l 1 c (k0,q0)).2.2||(decide ((pPart l 1 c (k0,q0)).2.1<l.length)||lessR 1 before))=true then 0 else 1):=by rw [HPB0.out,if_neg (by omega)]
  have HPB:=hI0 hpb
  rcases hp:pPart l 1 c (k0,q0) with ⟨c8,kk,qq⟩
  have HP9:Hid ((pPart l 1 c (k0,q0)).2=(kk,qq)):=hI0 (by rw [hp])
  have HK2:Hid (Calls prog 95 #[.pointer (some ⟨b,0,none⟩)] X fun e w'=>e=.returned (.tuple #[])∧∃c':RSt,c'.er=(pPart l 1 c (k0,q0)).1.er∧CurAt w' b (strB l) kk qq c'.enc∧StO w' b c'∧Below b X w'):=hI0 (by
   have k:=HK.out
   unfold PartQ at k
   rw [hp] at k ⊢
   exact k)
  clear HPB0 HK hpb hp
  go_upto_region 5 with (fail)
  go_wp2_with fail
  (with_reducible refine HK2.out.mono ?_)
  rintro _ Y ⟨rfl,c9,hE9,hY,hSt,hBY⟩
  have HY:=hI0 hY
  have HSt:=hI0 hSt
  have HBY:=hI0 hBY
  have HE9:=hI0 hE9
  clear hY hSt hBY hE9 HK2
  have c2:=cW1 2 HY.out rfl
  have c1:=cW1 1 HY.out rfl
  have hRes:(pBody l before c).2=if (qq||(decide (kk<l.length)||lessR 1 before))=true then 0 else 1:=by rw [HPB.out];simp [HP9.out]
  have hSt1:(pBody l before c).1=(pPart l 1 c (k0,q0)).1:=by rw [HPB.out]
  have HRes:=hI0 hRes
  have HSt1:=hI0 hSt1
  clear hRes hSt1
  have hfin:∀x:Nat,x=(pBody l before c).2→BodyQ b l (pBody l before c) w (.returned (.int .i64 (x:Int))) Y:=fun x hx=>⟨by rw [hx],c9,kk,qq,by rw [HE9.out,HSt1.out],HY.out,HSt.out,HBX.out.trans HBY.out⟩
  have HFIN:=hI0 hfin
  clear hfin
  cases qq with
  |true=>
   have hR0:(pBody l before c).2=0:=by rw [HRes.out];rfl
   go_wp2_with fail
   go_ret
   exact HFIN.out 0 hR0.symm
  |false=>
   by_cases hk:kk<l.length
   ·have hR0:(pBody l before c).2=0:=by rw [HRes.out];first|(simp [hk];done)|(split<;>rfl)
    have hlt:decide ((kk:Int)<((strB l).size:Int))=true:=decide_eq_true (by omega)
    go_wp2_with fail
    go_ret
    exact HFIN.out 0 hR0.symm
   ·have hlt:decide ((kk:Int)<((strB l).size:Int))=false:=decide_eq_false (by omega)
    by_cases hb:1<before
    ·have hR0:(pBody l before c).2=0:=by rw [HRes.out];first|(simp [hb,lessR];done)|(split<;>rfl)
     have hlb:decide ((1:Int)<(before:Int))=true:=decide_eq_true (by omega)
     go_wp2_with fail
     go_ret
     exact HFIN.out 0 hR0.symm
    ·have hR0:(pBody l before c).2=1:=by rw [HRes.out];first|(simp [hk,hb,lessR];done)|(split<;>rfl)
     have hlb:decide ((1:Int)<(before:Int))=false:=decide_eq_false (by omega)
     go_wp2_with fail
     go_ret
     exact HFIN.out 1 hR0.symm
 ·
  by_cases h34:before=3∨before=4
  ·
   have hk1p:0<k0:=by omega
   have HK:=hI0 (HVer.out (htab h34) X k0 q0 (hEV X (Chg.refl _ _)) HX.out HO.out hk1p hk0)
   have hpb:pBody l before c=((pPart l 4 c (k0,q0)).1,if ((pPart l 4 c (k0,q0)).2.2||(decide ((pPart l 4 c (k0,q0)).2.1<l.length)||lessR 4 before))=true then 0 else 4):=by rw [HPB0.out,if_neg (by omega)]
   have HPB:=hI0 hpb
   rcases hp:pPart l 4 c (k0,q0) with ⟨c8,kk,qq⟩
   have HP9:Hid ((pPart l 4 c (k0,q0)).2=(kk,qq)):=hI0 (by rw [hp])
   have HK2:Hid (Calls prog 97 #[.pointer (some ⟨b,0,none⟩)] X fun e w'=>e=.returned (.tuple #[])∧∃c':RSt,c'.er=(pPart l 4 c (k0,q0)).1.er∧CurAt w' b (strB l) kk qq c'.enc∧StO w' b c'∧Below b X w'):=hI0 (by
    have k:=HK.out
    unfold PartQ at k
    rw [hp] at k ⊢
    exact k)
   clear HPB0 HK hpb hp
   rcases h34 with h34|h34
   ·
    have h3:((before:Int) != 3)=false:=by rw [h34];rfl
    have h4:((before:Int) != 4)=true:=by rw [h34];rfl
    go_wp2_with fail
    (with_reducible refine HK2.out.mono ?_)
    rintro _ Y ⟨rfl,c9,hE9,hY,hSt,hBY⟩
    have HY:=hI0 hY
    have HSt:=hI0 hSt
    have HBY:=hI0 hBY
    have HE9:=hI0 hE9
    clear hY hSt hBY hE9 HK2
    have c2:=cW1 2 HY.out rfl
    have c1:=cW1 1 HY.out rfl
    have hRes:(pBody l before c).2=if (qq||(decide (kk<l.length)||lessR 4 before))=true then 0 else 4:=by rw [HPB.out];simp [HP9.out]
    have hSt1:(pBody l before c).1=(pPart l 4 c (k0,q0)).1:=by rw [HPB.out]
    have HRes:=hI0 hRes
    have HSt1:=hI0 hSt1
    clear hRes hSt1
    have hfin:∀x:Nat,x=(pBody l before c).2→BodyQ b l (pBody l before c) w (.returned (.int .i64 (x:Int))) Y:=fun x hx=>⟨by rw [hx],c9,kk,qq,by rw [HE9.out,HSt1.out],HY.out,HSt.out,HBX.out.trans HBY.out⟩
    have HFIN:=hI0 hfin
    clear hfin
    cases qq with
    |true=>
     have hR0:(pBody l before c).2=0:=by rw [HRes.out];rfl
     go_wp2_with fail
     go_ret
     exact HFIN.out 0 hR0.symm
    |false=>
     by_cases hk:kk<l.length
     ·have hR0:(pBody l before c).2=0:=by rw [HRes.out];first|(simp [hk];done)|(split<;>rfl)
      have hlt:decide ((kk:Int)<((strB l).size:Int))=true:=decide_eq_true (by omega)
      go_wp2_with fail
      go_ret
      exact HFIN.out 0 hR0.symm
     ·have hlt:decide ((kk:Int)<((strB l).size:Int))=false:=decide_eq_false (by omega)
      by_cases hb:4<before
      ·exact absurd hb (by omega)
      ·have hR0:(pBody l before c).2=4:=by rw [HRes.out];first|(simp [hk,hb,lessR];done)|(split<;>rfl)
       have hlb:decide ((4:Int)<(before:Int))=false:=decide_eq_false (by omega)
       go_wp2_with fail
       go_ret
       exact HFIN.out 4 hR0.symm
   ·
    have h3:((before:Int) != 3)=true:=by rw [h34];rfl
    have h4:((before:Int) != 4)=false:=by rw [h34];rfl
    go_wp2_with fail
    (with_reducible refine HK2.out.mono ?_)
    rintro _ Y ⟨rfl,c9,hE9,hY,hSt,hBY⟩
    have HY:=hI0 hY
    have HSt:=hI0 hSt
    have HBY:=hI0 hBY
    have HE9:=hI0 hE9
    clear hY hSt hBY hE9 HK2
    have c2:=cW1 2 HY.out rfl
    have c1:=cW1 1 HY.out rfl
    have hRes:(pBody l before c).2=if (qq||(decide (kk<l.length)||lessR 4 before))=true then 0 else 4:=by rw [HPB.out];simp [HP9.out]
    have hSt1:(pBody l before c).1=(pPart l 4 c (k0,q0)).1:=by rw [HPB.out]
    have HRes:=hI0 hRes
    have HSt1:=hI0 hSt1
    clear hRes hSt1
    have hfin:∀x:Nat,x=(pBody l before c).2→BodyQ b l (pBody l before c) w (.returned (.int .i64 (x:Int))) Y:=fun x hx=>⟨by rw [hx],c9,kk,qq,by rw [HE9.out,HSt1.out],HY.out,HSt.out,HBX.out.trans HBY.out⟩
    have HFIN:=hI0 hfin
    clear hfin
    cases qq with
    |true=>
     have hR0:(pBody l before c).2=0:=by rw [HRes.out];rfl
     go_wp2_with fail
     go_ret
     exact HFIN.out 0 hR0.symm
    |false=>
     by_cases hk:kk<l.length
     ·have hR0:(pBody l before c).2=0:=by rw [HRes.out];first|(simp [hk];done)|(split<;>rfl)
      have hlt:decide ((kk:Int)<((strB l).size:Int))=true:=decide_eq_true (by omega)
      go_wp2_with fail
      go_ret
      exact HFIN.out 0 hR0.symm
     ·have hlt:decide ((kk:Int)<((strB l).size:Int))=false:=decide_eq_false (by omega)
      by_cases hb:4<before
      ·exact absurd hb (by omega)
      ·have hR0:(pBody l before c).2=4:=by rw [HRes.out];first|(simp [hk,hb,lessR];done)|(split<;>rfl)
       have hlb:decide ((4:Int)<(before:Int))=false:=decide_eq_false (by omega)
       go_wp2_with fail
       go_ret
       exact HFIN.out 4 hR0.symm
  ·have hR0:pBody l before c=(c,0):=by rw [HPB0.out,if_pos ⟨rfl,fun e=>h34 (.inl e),fun e=>h34 (.inr e)⟩]
   have HR0:=hI0 hR0
   have h3:((before:Int) != 3)=true:=by simp;omega
   have h4:((before:Int) != 4)=true:=by simp;omega
   clear HPB0 hR0
   go_wp2_with fail
   go_ret
   exact ⟨by rw [HR0.out];rfl,c,k0,q0,by rw [HR0.out],HX.out,HO.out,HBX.out⟩
 ·
  have HPB:Hid (pBody l before c=((pPart l 0 c (k0,q0)).1,if ((pPart l 0 c (k0,q0)).2.2||(decide ((pPart l 0 c (k0,q0)).2.1<l.length)||lessR 0 before))=true then 0 else 0)):=hI0 (by rw [HPB0.out,if_neg (by omega)])
  clear HPB0
  go_upto_region 20 with (fail)
  rcases hp:pPart l 0 c (k0,q0) with ⟨c8,kk,qq⟩
  have hpp:pPart l 0 c (k0,q0)=(c,k0,q0):=rfl
  rw [hpp] at hp
  obtain ⟨rfl,rfl,rfl⟩:c=c8∧k0=kk∧q0=qq:=by simpa using hp
  have HP9:Hid ((pPart l 0 c (k0,q0)).2=(k0,q0)):=hI0 rfl
  have hx:=HX.out
  have hst:=HO.out
  obtain ⟨c9,hc9⟩:=eN0 c
  obtain ⟨Y,hY⟩:=eN0 X
  have HY:Hid (CurAt Y b (strB l) k0 q0 c9.enc):=hI0 (by rw [hY,hc9];exact hx)
  have HSt:Hid (StO Y b c9):=hI0 (by rw [hY,hc9];exact hst)
  have HBY:Hid (Below b X Y):=hI0 (by rw [hY];exact Below.refl _ _)
  have HE9:Hid (c9.er=(pPart l 0 c (k0,q0)).1.er):=hI0 (by rw [hc9];rfl)
  rw [←hY]
  clear hp hpp hx hst hc9 hY
  have c2:=cW1 2 HY.out rfl
  have c1:=cW1 1 HY.out rfl
  have hRes:(pBody l before c).2=if (q0||(decide (k0<l.length)||lessR 0 before))=true then 0 else 0:=by rw [HPB.out];simp [HP9.out]
  have hSt1:(pBody l before c).1=(pPart l 0 c (k0,q0)).1:=by rw [HPB.out]
  have HRes:=hI0 hRes
  have HSt1:=hI0 hSt1
  clear hRes hSt1
  have hfin:∀x:Nat,x=(pBody l before c).2→BodyQ b l (pBody l before c) w (.returned (.int .i64 (x:Int))) Y:=fun x hx=>⟨by rw [hx],c9,k0,q0,by rw [HE9.out,HSt1.out],HY.out,HSt.out,HBX.out.trans HBY.out⟩
  have HFIN:=hI0 hfin
  clear hfin
  cases q0 with
  |true=>
   have hR0:(pBody l before c).2=0:=by rw [HRes.out];rfl
   go_wp2_with fail
   go_ret
   exact HFIN.out 0 hR0.symm
  |false=>
   by_cases hk:k0<l.length
   ·have hR0:(pBody l before c).2=0:=by rw [HRes.out];first|(simp [hk];done)|(split<;>rfl)
    have hlt:decide ((k0:Int)<((strB l).size:Int))=true:=decide_eq_true (by omega)
    go_wp2_with fail
    go_ret
    exact HFIN.out 0 hR0.symm
   ·have hlt:decide ((k0:Int)<((strB l).size:Int))=false:=decide_eq_false (by omega)
    by_cases hb:0<before
    ·have hR0:(pBody l before c).2=0:=by rw [HRes.out];first|(simp [hb,lessR];done)|(split<;>rfl)
     have hlb:decide ((0:Int)<(before:Int))=true:=decide_eq_true (by omega)
     go_wp2_with fail
     go_ret
     exact HFIN.out 0 hR0.symm
    ·have hR0:(pBody l before c).2=0:=by rw [HRes.out];first|(simp [hk,hb,lessR];done)|(split<;>rfl)
     have hlb:decide ((0:Int)<(before:Int))=false:=decide_eq_false (by omega)
     go_wp2_with fail
     go_ret
     exact HFIN.out 0 hR0.symm
 ·
  have HPB:Hid (pBody l before c=((pPart l 8 c (k0,q0)).1,if ((pPart l 8 c (k0,q0)).2.2||(decide ((pPart l 8 c (k0,q0)).2.1<l.length)||lessR 8 before))=true then 0 else 8)):=hI0 (by rw [HPB0.out,if_neg (by omega)])
  clear HPB0
  go_upto_region 20 with (fail)
  rcases hp:pPart l 8 c (k0,q0) with ⟨c8,kk,qq⟩
  have hpp:pPart l 8 c (k0,q0)=(c,k0,q0):=rfl
  rw [hpp] at hp
  obtain ⟨rfl,rfl,rfl⟩:c=c8∧k0=kk∧q0=qq:=by simpa using hp
  have HP9:Hid ((pPart l 8 c (k0,q0)).2=(k0,q0)):=hI0 rfl
  have hx:=HX.out
  have hst:=HO.out
  obtain ⟨c9,hc9⟩:=eN0 c
  obtain ⟨Y,hY⟩:=eN0 X
  have HY:Hid (CurAt Y b (strB l) k0 q0 c9.enc):=hI0 (by rw [hY,hc9];exact hx)
  have HSt:Hid (StO Y b c9):=hI0 (by rw [hY,hc9];exact hst)
  have HBY:Hid (Below b X Y):=hI0 (by rw [hY];exact Below.refl _ _)
  have HE9:Hid (c9.er=(pPart l 8 c (k0,q0)).1.er):=hI0 (by rw [hc9];rfl)
  rw [←hY]
  clear hp hpp hx hst hc9 hY
  have c2:=cW1 2 HY.out rfl
  have c1:=cW1 1 HY.out rfl
  have hRes:(pBody l before c).2=if (q0||(decide (k0<l.length)||lessR 8 before))=true then 0 else 8:=by rw [HPB.out];simp [HP9.out]
  have hSt1:(pBody l before c).1=(pPart l 8 c (k0,q0)).1:=by rw [HPB.out]
  have HRes:=hI0 hRes
  have HSt1:=hI0 hSt1
  clear hRes hSt1
  have hfin:∀x:Nat,x=(pBody l before c).2→BodyQ b l (pBody l before c) w (.returned (.int .i64 (x:Int))) Y:=fun x hx=>⟨by rw [hx],c9,k0,q0,by rw [HE9.out,HSt1.out],HY.out,HSt.out,HBX.out.trans HBY.out⟩
  have HFIN:=hI0 hfin
  clear hfin
  cases q0 with
  |true=>
   have hR0:(pBody l before c).2=0:=by rw [HRes.out];rfl
   go_wp2_with fail
   go_ret
   exact HFIN.out 0 hR0.symm
  |false=>
   by_cases hk:k0<l.length
   ·have hR0:(pBody l before c).2=0:=by rw [HRes.out];first|(simp [hk];done)|(split<;>rfl)
    have hlt:decide ((k0:Int)<((strB l).size:Int))=true:=decide_eq_true (by omega)
    go_wp2_with fail
    go_ret
    exact HFIN.out 0 hR0.symm
   ·have hlt:decide ((k0:Int)<((strB l).size:Int))=false:=decide_eq_false (by omega)
    by_cases hb:8<before
    ·exact absurd hb (by omega)
    ·have hR0:(pBody l before c).2=8:=by rw [HRes.out];first|(simp [hk,hb,lessR];done)|(split<;>rfl)
     have hlb:decide ((8:Int)<(before:Int))=false:=decide_eq_false (by omega)
     go_wp2_with fail
     go_ret
     exact HFIN.out 8 hR0.symm
end Go.Proofs.YtgfhknnklapldaaGreatDoor
