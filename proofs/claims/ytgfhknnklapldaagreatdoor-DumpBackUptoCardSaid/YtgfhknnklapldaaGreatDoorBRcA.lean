/-
 RcA
-/
import Derived.Test.YtgfhknnklapldaaGreatDoorBSeg1
namespace Go.Proofs.YtgfhknnklapldaaGreatDoor
open Go.Proofs.Tryz
set_option maxRecDepth 99999
set_option maxHeartbeats 0
open Go.RowKit Go.Lib Go.IntWalk Go.Sort Go.Shelf
theorem zq1 {P:Prop} (i:Nat) (h:Tg i→P:=by
 intro zT1
 first
  |guard_hyp zT1:Tg 2;obtain ⟨A,c,rfl,hc1,hc2,hc3⟩:=Rd.open_ (show Rd w _ 2 v l.length (l.flatMap Pol.enc) from hv)
  |guard_hyp zT1:Tg 1;obtain ⟨A,c,rfl,hc1,hc2,hc3⟩:=Rd.open_ (show Rd w _ 2 v l.length (l.flatMap Hor.enc) from hv)
  |obtain ⟨A,c,rfl,hc1,hc2,hc3⟩:=Rd.open_ (show Rd w _ 6 v l.length (l.flatMap Hld.enc) from hv)
 unfold maxLen at hc2
 have HV:=hI0 hv
 first
  |guard_hyp zT1:Tg 2;obtain ⟨res,hres⟩:=eN0 (namedF Pol.table Pol.ok none l)
  |guard_hyp zT1:Tg 1;obtain ⟨res,hres⟩:=eN0 (namedF Hor.table Hor.ok none l)
  |obtain ⟨res,hres⟩:=eN0 (namedF Hld.name Hld.ok none l)
 rw [←hres]
 have HRES:=hI0 hres
 clear hv hc3 hres
 go_in
 go_wp2_with fail
 first
  |guard_hyp zT1:Tg 2;go_loopw [11] (fun i wr=>∃k:Nat,i=.int .i64 (k:Int)∧k≤l.length∧Hid (namedF Pol.table Pol.ok (prevN Pol.table l k) (l.drop k)=res)∧Hid (Bl w wr)) (fun i _=>l.length-(intOf i).toNat)
  |guard_hyp zT1:Tg 1;go_loopw [11] (fun i wr=>∃k:Nat,i=.int .i64 (k:Int)∧k≤l.length∧Hid (namedF Hor.table Hor.ok (prevN Hor.table l k) (l.drop k)=res)∧Hid (Bl w wr)) (fun i _=>l.length-(intOf i).toNat)
  |go_loopw [11] (fun i wr=>∃k:Nat,i=.int .i64 (k:Int)∧k≤l.length∧Hid (namedF Hld.name Hld.ok (prevN Hld.name l k) (l.drop k)=res)∧Hid (Bl w wr)) (fun i _=>l.length-(intOf i).toNat)
 case atStart=>exact ⟨0,rfl,Nat.zero_le _,hI0 (by rw [HRES.out];rfl),hI0 (Below.refl _ _)⟩
 obtain ⟨k,rfl,hk,HG,HB⟩:=hrel
 obtain ⟨wi,rfl⟩:=eN0 wr
 by_cases hlt:k<l.length
 case neg=>
  have hlt2:¬(k:Int)<(l.length:Int):=by omega
  have HE:Hid (res=0):=hI0 zi15
  go_wp2_with fail
  go_ret
  exact ⟨by rw [HE.out];rfl,HB.out⟩
 have hlt2:(k:Int)<(l.length:Int):=by omega
 first
  |guard_hyp zT1:Tg 2;obtain ⟨b,off,rfl,hF,hcl⟩:=RdE.at_ (K:=2) (enc:=Pol.enc) (fun _=>rfl) (by omega) (HV.out.below HB.out) hlt
  |guard_hyp zT1:Tg 1;obtain ⟨b,off,rfl,hF,hcl⟩:=RdE.at_ (K:=2) (enc:=Hor.enc) (fun _=>rfl) (by omega) (HV.out.below HB.out) hlt
  |obtain ⟨b,off,rfl,hF,hcl⟩:=RdE.at_ (K:=6) (enc:=Hld.enc) (fun _=>rfl) (by omega) (HV.out.below HB.out) hlt
 have hg:=HG.out
 rw [namedF_at hlt] at hg
 have hcx:=hcl k hlt
 have HCL:=hI0 hcl
 have HBL:Hid (b<wi.heap.size):=hI0 hF
 first
  |guard_hyp zT1:Tg 2;have hnx:prevN Pol.table l (k+1)=some (Pol.table l[k]):=by unfold prevN;rw [if_neg (by omega),Nat.add_sub_cancel,List.getElem?_eq_getElem hlt];rfl
  |guard_hyp zT1:Tg 1;have hnx:prevN Hor.table l (k+1)=some (Hor.table l[k]):=by unfold prevN;rw [if_neg (by omega),Nat.add_sub_cancel,List.getElem?_eq_getElem hlt];rfl
  |have hnx:prevN Hld.name l (k+1)=some (Hld.name l[k]):=by unfold prevN;rw [if_neg (by omega),Nat.add_sub_cancel,List.getElem?_eq_getElem hlt];rfl
 rw [hnx] at hg
 clear hcl hF
 obtain ⟨x,hx⟩:=eN0 (l[k])
 rw [←hx] at hg hcx hnx
 have HX:=hI0 hx
 clear hx
 first
  |guard_hyp zT1:Tg 0;obtain ⟨x_a,x_b,x_c,x_d,x_e,x_f⟩:=x
  |obtain ⟨x_a,x_c⟩:=x
 simp only at hnx hg
 have HNX:=hI0 hnx
 have hg2:=hg
 clear hg hnx
 first
  |guard_hyp zT1:Tg 0;obtain ⟨g0,g1,g2,g3,g4,g5⟩:=cK6 hcx (show _=[.string x_a,.string x_b,.int .i64 x_c,.int .i64 x_d,.int .i64 x_e,.int .i64 x_f] from rfl)
  |obtain ⟨g0,g1⟩:=cK2 hcx (show _=[.string x_a,.int .i64 x_c] from rfl)
 clear hcx
 first
  |guard_hyp zT1:Tg 2;have KO:=fun V=>okPol x_a x_c V
   obtain ⟨ok,hok⟩:=eN0 (Pol.ok ⟨x_a,x_c⟩)
  |guard_hyp zT1:Tg 1;have KO:=fun V=>okHor x_a x_c V
   obtain ⟨ok,hok⟩:=eN0 (Hor.ok ⟨x_a,x_c⟩)
  |have KO:=fun V=>okHold x_a x_b x_c x_d x_e x_f V
   obtain ⟨ok,hok⟩:=eN0 (Hld.ok ⟨x_a,x_b,x_c,x_d,x_e,x_f⟩)
 rw [←hok] at hg2 KO
 have HG2:=hI0 hg2
 clear hg2 hok
 first
  |guard_hyp zT1:Tg 2;obtain ⟨W1,hW1⟩:=eN0 (wi.alloc (.cells #[.string x_a,.int .i64 x_c] 90))
  |guard_hyp zT1:Tg 1;obtain ⟨W1,hW1⟩:=eN0 (wi.alloc (.cells #[.string x_a,.int .i64 x_c] 93))
  |obtain ⟨W1,hW1⟩:=eN0 (wi.alloc (.cells #[.string x_a,.string x_b,.int .i64 x_c,.int .i64 x_d,.int .i64 x_e,.int .i64 x_f] 87))
 have hb1:=bN0 hW1
 have hT1:=hN0 hW1
 have hl1:wi.heap.size<W1.heap.size:=by rw [hW1];simp
 go_wp2_with fail
 rw [←hW1]
 clear hW1
 (with_reducible refine (KO W1).mono ?_)
 rintro _ y1 ⟨rfl,hy1⟩
 have HBI:Hid (Bl wi y1):=hI0 (hb1.trans (hy1.mono hb1.size))
 have HTB:=hI0 ((hy1.block _ hl1).trans hT1)
 have HTL:Hid (wi.heap.size<y1.heap.size):=hI0 (by have:=hy1.size;omega)
 clear hb1 hT1 hl1
 have HBY:Hid (Bl w y1):=hI0 (HB.out.trans (HBI.out.mono HB.out.size))
 first
  |guard_hyp zT1:Tg 0;clear hy1 KO g0 g1 g2 g3 g4 g5
  |clear hy1 KO g0 g1
 cases ok
 case false=>
  have HE:Hid (res=8):=hI0 zi17
  go_wp2_with fail
  go_ret
  exact ⟨by rw [HE.out];rfl,HBY.out⟩
 by_cases hk0:k=0
 case pos=>
  first
   |guard_hyp zT1:Tg 2;have HN:Hid (namedF Pol.table Pol.ok (prevN Pol.table l (k+1)) (l.drop (k+1))=res):=hI0 zi8
   |guard_hyp zT1:Tg 1;have HN:Hid (namedF Hor.table Hor.ok (prevN Hor.table l (k+1)) (l.drop (k+1))=res):=hI0 zi8
   |have HN:Hid (namedF Hld.name Hld.ok (prevN Hld.name l (k+1)) (l.drop (k+1))=res):=hI0 zi8
  subst hk0
  have h00:¬(0:Int)<((0:Nat):Int):=by omega
  go_upto_region 6 with (fail)
  refine rB0 y1 (fun zh=>?_)
  refine hT 0 20 ?_
  refine hT 1 21 ?_
  refine hT 2 22 ?_
  refine hK 3 23 ?_
  refine hK 4 24 ?_
  refine hK 5 25 ?_
  refine hK 6 26 ?_
  refine hK 7 27 ?_
  refine hK 8 28 ?_
  refine hK 9 29 ?_
  refine hK 10 30 ?_
  refine hK 11 31 ?_
  refine hK 12 32 ?_
  refine hK 13 33 ?_
  refine hT 14 34 ?_
  refine rD0 ?_
  clear zh h00
  go_wp2_with fail
  go_roundw
  case rel=>exact ⟨1,by go_num,hlt,HN,hI0 HBY.out.drew⟩
  case measure=>simp [intOf];omega
 obtain ⟨m,rfl⟩:∃m,k=m+1:=⟨k-1,by omega⟩
 have hkp:(0:Int)<((m+1:Nat):Int):=by omega
 obtain ⟨y,hy⟩:=eN0 (l[m]'(by omega))
 have hcy:=HCL.out m (by omega)
 rw [←hy] at hcy
 first
  |guard_hyp zT1:Tg 2;have hpv:prevN Pol.table l (m+1)=some (Pol.table y):=by unfold prevN;rw [if_neg hk0,Nat.add_sub_cancel,List.getElem?_eq_getElem (by omega),hy];rfl
  |guard_hyp zT1:Tg 1;have hpv:prevN Hor.table l (m+1)=some (Hor.table y):=by unfold prevN;rw [if_neg hk0,Nat.add_sub_cancel,List.getElem?_eq_getElem (by omega),hy];rfl
  |have hpv:prevN Hld.name l (m+1)=some (Hld.name y):=by unfold prevN;rw [if_neg hk0,Nat.add_sub_cancel,List.getElem?_eq_getElem (by omega),hy];rfl
 have hg3:=HG2.out
 rw [hpv] at hg3
 clear hy hpv
 first
  |guard_hyp zT1:Tg 2;obtain ⟨y_a,y_c⟩:=y
   have hg4:(if bleS x_a y_a=true then (9:Int) else namedF Pol.table Pol.ok (some x_a) (l.drop (m+1+1)))=res:=by
    have h:=hg3
    rw [if_neg (by simp)] at h
    exact h
  |guard_hyp zT1:Tg 1;obtain ⟨y_a,y_c⟩:=y
   have hg4:(if bleS x_a y_a=true then (9:Int) else namedF Hor.table Hor.ok (some x_a) (l.drop (m+1+1)))=res:=by
    have h:=hg3
    rw [if_neg (by simp)] at h
    exact h
  |obtain ⟨y_a,y_b,y_c,y_d,y_e,y_f⟩:=y
   have hg4:(if bleS x_a y_a=true then (9:Int) else namedF Hld.name Hld.ok (some x_a) (l.drop (m+1+1)))=res:=by
    have h:=hg3
    rw [if_neg (by simp)] at h
    exact h
 have HG4:=hI0 hg4
 clear hg3 hg4
 first
  |guard_hyp zT1:Tg 0;have p0:y1.cell? ⟨b,off+m*6,none⟩=some (.string y_a):=(World.cell?_of_block (HBI.out.block b HBL.out)).trans (hcy 0 _ (by decide) rfl)
   have p1:y1.cell? ⟨b,off+m*6+1,none⟩=some (.string y_b):=(World.cell?_of_block (HBI.out.block b HBL.out)).trans (hcy 1 _ (by decide) rfl)
   have p2:y1.cell? ⟨b,off+m*6+2,none⟩=some (.int .i64 y_c):=(World.cell?_of_block (HBI.out.block b HBL.out)).trans (hcy 2 _ (by decide) rfl)
   have p3:y1.cell? ⟨b,off+m*6+3,none⟩=some (.int .i64 y_d):=(World.cell?_of_block (HBI.out.block b HBL.out)).trans (hcy 3 _ (by decide) rfl)
   have p4:y1.cell? ⟨b,off+m*6+4,none⟩=some (.int .i64 y_e):=(World.cell?_of_block (HBI.out.block b HBL.out)).trans (hcy 4 _ (by decide) rfl)
   have p5:y1.cell? ⟨b,off+m*6+5,none⟩=some (.int .i64 y_f):=(World.cell?_of_block (HBI.out.block b HBL.out)).trans (hcy 5 _ (by decide) rfl)
  |have p0:y1.cell? ⟨b,off+m*2,none⟩=some (.string y_a):=(World.cell?_of_block (HBI.out.block b HBL.out)).trans (hcy 0 _ (by decide) rfl)
   have p1:y1.cell? ⟨b,off+m*2+1,none⟩=some (.int .i64 y_c):=(World.cell?_of_block (HBI.out.block b HBL.out)).trans (hcy 1 _ (by decide) rfl)
 have hkl:m<l.length:=by omega
 have hm63:m≤9223372036854775807:=by omega
 have hm64:(m:Int)≤9223372036854775807:=by omega
 have hm65: -9223372036854775808≤(m:Int):=by omega
 have HBL1:Hid (b<y1.heap.size):=hI0 (Nat.lt_of_lt_of_le HBL.out HBI.out.size)
 have HBL:=HBL1
 have HHK:=hI0 hlt
 clear hcy
 go_upto_region 6 with (fail)
 rcases hlt1:Go.Op.bytesLess x_a.toList y_a.toList with _|_<;>rcases heq1:(x_a.toList==y_a.toList) with _|_
 all_goals
  have HLE:Hid (bleS x_a y_a=(Go.Op.bytesLess x_a.toList y_a.toList||(x_a.toList==y_a.toList))):=hI0 rfl
  rw [hlt1,heq1] at HLE
  refine rB0 y1 (fun zh=>?_)
  refine hT 0 20 ?_
  refine hU 1 21 (v:=?_) zh ?_ ?_
  rotate_left
  ·exact zq37
  refine hT 2 22 ?_
  refine hT 3 23 ?_
  refine hU 4 24 (v:=?_) zh ?_ ?_
  rotate_left
  ·first
    |guard_hyp zT1:Tg 0;intro w' hSw;(try dsimp only at hSw);have q0:w'.cell? ⟨wi.heap.size,0,none⟩=some (.string x_a):=(World.cell?_of_block (hSw.block _ HTL.out)).trans (cW0 y1 wi.heap.size 0 _ _ _ HTB.out);have q1:w'.cell? ⟨wi.heap.size,1,none⟩=some (.string x_b):=(World.cell?_of_block (hSw.block _ HTL.out)).trans (cW0 y1 wi.heap.size 1 _ _ _ HTB.out);have q2:w'.cell? ⟨wi.heap.size,2,none⟩=some (.int .i64 x_c):=(World.cell?_of_block (hSw.block _ HTL.out)).trans (cW0 y1 wi.heap.size 2 _ _ _ HTB.out);have q3:w'.cell? ⟨wi.heap.size,3,none⟩=some (.int .i64 x_d):=(World.cell?_of_block (hSw.block _ HTL.out)).trans (cW0 y1 wi.heap.size 3 _ _ _ HTB.out);have q4:w'.cell? ⟨wi.heap.size,4,none⟩=some (.int .i64 x_e):=(World.cell?_of_block (hSw.block _ HTL.out)).trans (cW0 y1 wi.heap.size 4 _ _ _ HTB.out);have q5:w'.cell? ⟨wi.heap.size,5,none⟩=some (.int .i64 x_f):=(World.cell?_of_block (hSw.block _ HTL.out)).trans (cW0 y1 wi.heap.size 5 _ _ _ HTB.out);go_simp<;>with_reducible rfl
    |intro w' hSw;(try dsimp only at hSw);have q0:w'.cell? ⟨wi.heap.size,0,none⟩=some (.string x_a):=(World.cell?_of_block (hSw.block _ HTL.out)).trans (cW0 y1 wi.heap.size 0 _ _ _ HTB.out);have q1:w'.cell? ⟨wi.heap.size,1,none⟩=some (.int .i64 x_c):=(World.cell?_of_block (hSw.block _ HTL.out)).trans (cW0 y1 wi.heap.size 1 _ _ _ HTB.out);go_simp<;>with_reducible rfl
  refine hT 6 26 ?_
  refine hT 7 27 ?_
  refine hT 8 28 ?_
  refine hU 9 29 (v:=?_) zh ?_ ?_
  rotate_left
  ·exact zq27
  refine hT 10 30 ?_
  refine hU 11 31 (v:=?_) zh ?_ ?_
  rotate_left
  ·first
    |guard_hyp zT1:Tg 0;intro w' hSw;(try dsimp only at hSw);have q0:w'.cell? ⟨b,off+m*6,none⟩=some (.string y_a):=(World.cell?_of_block (hSw.block _ HBL.out)).trans p0;have q1:w'.cell? ⟨b,off+m*6+1,none⟩=some (.string y_b):=(World.cell?_of_block (hSw.block _ HBL.out)).trans p1;have q2:w'.cell? ⟨b,off+m*6+2,none⟩=some (.int .i64 y_c):=(World.cell?_of_block (hSw.block _ HBL.out)).trans p2;have q3:w'.cell? ⟨b,off+m*6+3,none⟩=some (.int .i64 y_d):=(World.cell?_of_block (hSw.block _ HBL.out)).trans p3;have q4:w'.cell? ⟨b,off+m*6+4,none⟩=some (.int .i64 y_e):=(World.cell?_of_block (hSw.block _ HBL.out)).trans p4;have q5:w'.cell? ⟨b,off+m*6+5,none⟩=some (.int .i64 y_f):=(World.cell?_of_block (hSw.block _ HBL.out)).trans p5;go_simp<;>with_reducible rfl
    |intro w' hSw;(try dsimp only at hSw);have q0:w'.cell? ⟨b,off+m*2,none⟩=some (.string y_a):=(World.cell?_of_block (hSw.block _ HBL.out)).trans p0;have q1:w'.cell? ⟨b,off+m*2+1,none⟩=some (.int .i64 y_c):=(World.cell?_of_block (hSw.block _ HBL.out)).trans p1;go_simp<;>with_reducible rfl
  refine hC 5 25 ?_
  first
   |guard_hyp zT1:Tg 2;(with_reducible refine (nmPol x_a x_c _).mono ?_)
   |guard_hyp zT1:Tg 1;(with_reducible refine (nmHor x_a x_c _).mono ?_)
   |(with_reducible refine (nmHold x_a x_b x_c x_d x_e x_f _).mono ?_)
  rintro _ z1 ⟨rfl,hz1'⟩
  have hz1:Bl y1 z1:=Below.undrew hz1'
  refine ⟨_,rfl,keepAnd hz1 ?_⟩
  clear zh
  intro zh
  simp only [aP]
  refine hC 12 32 ?_
  first
   |guard_hyp zT1:Tg 2;(with_reducible refine (nmPol y_a y_c _).mono ?_)
   |guard_hyp zT1:Tg 1;(with_reducible refine (nmHor y_a y_c _).mono ?_)
   |(with_reducible refine (nmHold y_a y_b y_c y_d y_e y_f _).mono ?_)
  rintro _ z2 ⟨rfl,hz2'⟩
  have hz2:Bl y1 z2:=hz1.trans (hz2'.mono hz1.size)
  refine ⟨_,rfl,keepAnd hz2 ?_⟩
  clear zh
  intro zh
  simp only [aP]
  refine hT 13 33 ?_
  refine hT 14 34 ?_
  refine rD0 ?_
  clear zh
  have HBZ:=bT0 HBY hz2
  first
   |guard_hyp zT1:Tg 0;clear hz1 hz1' hz2 hz2' p0 p1 p2 p3 p4 p5
   |clear hz1 hz1' hz2 hz2' p0 p1
 case false.false=>
  first
   |guard_hyp zT1:Tg 2;have HN:Hid (namedF Pol.table Pol.ok (prevN Pol.table l (m+1+1)) (l.drop (m+1+1))=res):=hI0 zi16
   |guard_hyp zT1:Tg 1;have HN:Hid (namedF Hor.table Hor.ok (prevN Hor.table l (m+1+1)) (l.drop (m+1+1))=res):=hI0 zi16
   |have HN:Hid (namedF Hld.name Hld.ok (prevN Hld.name l (m+1+1)) (l.drop (m+1+1))=res):=hI0 zi16
  go_wp2_with fail
  go_roundw
  case rel=>exact ⟨m+1+1,by go_num,by have:=HHK.out;omega,HN,HBZ⟩
  case measure=>have:=HHK.out;simp [intOf];omega
 all_goals
  have HE:Hid (res=9):=hI0 (by rw [←HG4.out,HLE.out];rfl)
  go_wp2_with fail
  go_ret
  exact ⟨by rw [HE.out];rfl,HBZ.out⟩) : P := h ⟨⟩
theorem zq7 {P:Prop} (i:Nat) (h:Tg i→P:=by
 intro zT7
 first
  |guard_hyp zT7:Tg 2;obtain ⟨W,hW⟩:=eN0 (w.alloc (.cells #[.string a,.int .i64 c] 93))
  |guard_hyp zT7:Tg 1;obtain ⟨W,hW⟩:=eN0 (w.alloc (.cells #[.string a,.int .i64 c] 90))
  |obtain ⟨W,hW⟩:=eN0 (w.alloc (.cells #[.string a,.string b,.int .i64 c,.int .i64 d,.int .i64 g,.int .i64 h] 87))
 have hbW:=bN0 hW
 have hT:=hN0 hW
 have hWs:w.heap.size<W.heap.size:=by rw [hW];simp
 first
  |guard_hyp zT7:Tg 2;have FB:Hid (∀V,Bl W V→V.heap[w.heap.size]? =some (.cells #[.string a,.int .i64 c] 93 (0,0))):=hI0 (fun V hV=>(hV.block _ hWs).trans hT)
  |guard_hyp zT7:Tg 1;have FB:Hid (∀V,Bl W V→V.heap[w.heap.size]? =some (.cells #[.string a,.int .i64 c] 90 (0,0))):=hI0 (fun V hV=>(hV.block _ hWs).trans hT)
  |have FB:Hid (∀V,Bl W V→V.heap[w.heap.size]? =some (.cells #[.string a,.string b,.int .i64 c,.int .i64 d,.int .i64 g,.int .i64 h] 87 (0,0))):=hI0 (fun V hV=>(hV.block _ hWs).trans hT)
 have HBW:=hI0 hbW
 obtain ⟨v0,hv0⟩:=eN0 (nmB a)
 have K0:=fun V=>word_any a V
 rw [←hv0] at K0
 first
  |guard_hyp zT7:Tg 2;obtain ⟨v1,hv1⟩:=eN0 (instB c)
   have K1:=fun V=>instant_any c V
  |guard_hyp zT7:Tg 1;obtain ⟨v1,hv1⟩:=eN0 (decide (0≤c∧c≤1099511627776))
   have K1:=fun V=>within_any c 0 1099511627776 V
  |obtain ⟨v1,hv1⟩:=eN0 (nmB b)
   have K1:=fun V=>word_any b V
 rw [←hv1] at K1
 first
  |guard_hyp zT7:Tg 2;have HR:Hid ((Hor.ok ⟨a,c⟩)=(v0&&(v1))):=hI0 (by rw [hv0,hv1];rfl)
  |guard_hyp zT7:Tg 1;have HR:Hid ((Pol.ok ⟨a,c⟩)=(v0&&(v1))):=hI0 (by rw [hv0,hv1];rfl)
  |obtain ⟨v2,hv2⟩:=eN0 (validP c d)
   have K2:=fun V=>pvR_any c d V
   rw [←hv2] at K2
   obtain ⟨v3,hv3⟩:=eN0 (validP g h)
   have K3:=fun V=>pvR_any g h V
   rw [←hv3] at K3
   have HR:Hid ((Hld.ok ⟨a,b,c,d,g,h⟩)=(v0&&(v1&&(v2&&(v3))))):=hI0 (by rw [hv0,hv1,hv2,hv3];rfl)
 rw [HR.out]
 first
  |guard_hyp zT7:Tg 0;clear hbW hT hWs hv0 hv1 hv2 hv3
  |clear hbW hT hWs hv0 hv1
 go_in
 go_wp2_with fail
 rw [←hW]
 clear hW
 have HB0:Hid (Bl W W):=hI0 (Below.refl _ _)
 (with_reducible refine (K0 _).mono ?_)
 rintro _ w1 ⟨rfl,hb⟩
 have HB1:=bT0 HB0 hb
 clear hb
 first
  |guard_hyp zT7:Tg 0;obtain ⟨t0,t1,t2,t3,t4,t5⟩:=cX6 (FB.out _ HB1.out)
  |obtain ⟨t0,t1⟩:=cX2 (FB.out _ HB1.out)
 cases v0
 case false=>
  go_wp2_with fail
  go_ret
  exact ⟨by simp,HBW.out.trans (HB1.out.mono HBW.out.size)⟩
 go_wp2_with fail
 (with_reducible refine (K1 _).mono ?_)
 rintro _ w2 ⟨rfl,hb⟩
 first
  |guard_hyp zT7:Tg 0;have HB2:=bT0 HB1 hb
   clear hb t0 t1 t2 t3 t4 t5
   obtain ⟨t0,t1,t2,t3,t4,t5⟩:=cX6 (FB.out _ HB2.out)
   cases v1
   case false=>
    go_wp2_with fail
    go_ret
    exact ⟨by simp,HBW.out.trans (HB2.out.mono HBW.out.size)⟩
   go_wp2_with fail
   (with_reducible refine (K2 _).mono ?_)
   rintro _ w3 ⟨rfl,hb⟩
   have HB3:=bT0 HB2 hb
   clear hb t0 t1 t2 t3 t4 t5
   obtain ⟨t0,t1,t2,t3,t4,t5⟩:=cX6 (FB.out _ HB3.out)
   cases v2
   case false=>
    go_wp2_with fail
    go_ret
    exact ⟨by simp,HBW.out.trans (HB3.out.mono HBW.out.size)⟩
   go_wp2_with fail
   (with_reducible refine (K3 _).mono ?_)
   rintro _ w4 ⟨rfl,hb⟩
   have HB4:=bT0 HB3 hb
   clear hb t0 t1 t2 t3 t4 t5
  |have HB2:Hid (Bl W w2):=hI0 (by rw [hb];exact HB1.out)
   clear hb t0 t1
 go_wp2_with fail
 go_ret
 first
  |guard_hyp zT7:Tg 0;exact ⟨by simp,HBW.out.trans (HB4.out.mono HBW.out.size)⟩
  |exact ⟨by simp,HBW.out.trans (HB2.out.mono HBW.out.size)⟩) : P := h ⟨⟩
theorem zq27 {P:Prop} (h:P:=by
 intro w' hSw;(try dsimp only at hSw);have e1:((m+1:Nat):Int)-1=(m:Int):=(by omega);have e2:IntKind.i64.wrap (m:Int)=(m:Int):= zi4;go_simp<;>(try rw [e2])<;>with_reducible rfl) : P := h
theorem zq37 {P:Prop} (h:P:=by
 intro w' hSw;(try dsimp only at hSw);have hkp2:(0:Int)<(m:Int)+1:=(by omega);have hkn:0<m+1:=(by omega);go_simp<;>with_reducible rfl) : P := h
theorem zi4 {P:Prop} (h:P:=by rw [Go.IntWalk.i64_left,Go.IntWalk.wrap64_in _ ⟨hm65,hm64⟩]):P:=h
theorem zi8 {P:Prop} (h:P:=by rw [←HG2.out,if_neg (by simp),HNX.out];exact (if_neg (by simp [prevN,hk0])).symm):P:=h
theorem zi15 {P:Prop} (h:P:=by rw [←HG.out,namedF_end (by omega)]):P:=h
theorem zi16 {P:Prop} (h:P:=by rw [HNX.out,←HG4.out,HLE.out];rfl):P:=h
theorem zi17 {P:Prop} (h:P:=by rw [←HG2.out];exact if_pos rfl):P:=h
def bleS (x y:ByteArray):Bool:=Go.Op.bytesLess x.toList y.toList||x.toList==y.toList
def namedF {α:Type} (nm:α→ByteArray) (ok:α→Bool):Option ByteArray→List α→Int
 |_,[]=>0
 |p,x::r=>if ok x=false then 8 else if (match p with|some y=>bleS (nm x) y|none=>false)=true then 9 else namedF nm ok (some (nm x)) r
def prevN {α:Type} (nm:α→ByteArray) (l:List α) (k:Nat):Option ByteArray:=if k=0 then none else l[k-1]?.map nm
theorem namedF_end {α:Type} {nm:α→ByteArray} {ok:α→Bool} {p:Option ByteArray} {l:List α} {k:Nat} (h:l.length≤k):namedF nm ok p (l.drop k)=0:=by
 rw [List.drop_of_length_le h];rfl
theorem namedF_cons {α:Type} {nm:α→ByteArray} {ok:α→Bool} {p:Option ByteArray} {x:α} {r:List α}:namedF nm ok p (x::r)=if ok x=false then 8 else if (match p with|some y=>bleS (nm x) y|none=>false)=true then 9 else namedF nm ok (some (nm x)) r:=by
 cases p<;>rfl
theorem namedF_at {α:Type} {nm:α→ByteArray} {ok:α→Bool} {p:Option ByteArray} {l:List α} {k:Nat} (h:k<l.length):namedF nm ok p (l.drop k)=if ok l[k]=false then 8 else if (match p with|some y=>bleS (nm l[k]) y|none=>false)=true then 9 else namedF nm ok (prevN nm l (k+1)) (l.drop (k+1)):=by
 have e:prevN nm l (k+1)=some (nm l[k]):=by unfold prevN;rw [if_neg (Nat.succ_ne_zero k),Nat.add_sub_cancel,List.getElem?_eq_getElem h];rfl
 rw [List.drop_eq_getElem_cons h,namedF_cons,e]
def RdE {α:Type} (K:Nat) (enc:α→List Value) (w:World) (F:Nat→Prop) (v:Value) (l:List α):Prop:=Rd w F K v l.length (l.flatMap enc)
theorem RdE.at_ {α:Type} {K:Nat} {enc:α→List Value} {w:World} {F:Nat→Prop} {A:Option Addr} {c:Nat} {l:List α} (hK:∀x,(enc x).length=K) (h0:0<K) (h:RdE K enc w F (.slice A l.length c) l) {k:Nat} (hk:k<l.length):
  ∃b off,A=some ⟨b,off,none⟩∧F b∧∀i (hi:i<l.length) j u,j<K→(enc l[i])[j]? =some u→w.cell? ⟨b,off+i*K+j,none⟩=some u:=by
 obtain ⟨b,off,rfl,hF,hc⟩:=Rd.plain h (by omega) h0
 refine ⟨b,off,rfl,hF,fun i hi j u hj hu=>?_⟩
 rw [Nat.add_assoc]
 exact hc (i*K+j) u (by rw [flat_getC K l enc (fun x _=>hK x) i j hj _ (List.getElem?_eq_getElem hi)];exact hu)
theorem RdE.keep {α:Type} {K:Nat} {enc:α→List Value} {w w':World} {F:Nat→Prop} {v:Value} {l:List α} (h:RdE K enc w F v l) (hk:Keeps F w w'):RdE K enc w' F v l:=Rd.keep (show Rd w F K v l.length (l.flatMap enc) from h) hk
theorem RdE.wide {α:Type} {K:Nat} {enc:α→List Value} {w:World} {F G:Nat→Prop} {v:Value} {l:List α} (h:RdE K enc w F v l) (hk:∀b,F b→G b):RdE K enc w G v l:=Rd.wide (show Rd w F K v l.length (l.flatMap enc) from h) hk
theorem RdE.below {α:Type} {K:Nat} {enc:α→List Value} {w w':World} {v:Value} {l:List α} (h:RdE K enc w (ltw w) v l) (hb:Bl w w'):RdE K enc w' (ltw w') v l:=
 (h.keep (Keeps.below hb)).wide fun _ h=>Nat.lt_of_lt_of_le h hb.size
def instB (n:Int):Bool:=decide (0≤n∧n≤1099511627775)
structure Hld where
 name:ByteArray
 table:ByteArray
 vf:Int
 vt:Int
 sf:Int
 st:Int
structure Pol where
 table:ByteArray
 keep:Int
structure Hor where
 table:ByteArray
 time:Int
def nmB (s:ByteArray):Bool:=nmW s.data.toList
def Hld.enc (x:Hld):List Value:=[.string x.name,.string x.table,.int .i64 x.vf,.int .i64 x.vt,.int .i64 x.sf,.int .i64 x.st]
def Pol.enc (x:Pol):List Value:=[.string x.table,.int .i64 x.keep]
def Hor.enc (x:Hor):List Value:=[.string x.table,.int .i64 x.time]
def Hld.ok (x:Hld):Bool:=nmB x.name&&(nmB x.table&&(validP x.vf x.vt&&validP x.sf x.st))
def Pol.ok (x:Pol):Bool:=nmB x.table&&decide (0≤x.keep∧x.keep≤1099511627776)
def Hor.ok (x:Hor):Bool:=nmB x.table&&instB x.time
theorem word_any (S:ByteArray) (w:World):Calls prog 108 #[.string S] w fun e w'=>e=.returned (.bool (nmB S))∧Bl w w':=by
 have k:=recWord_any S.data.toList w
 rw [strB_list] at k
 exact k
theorem pvR_any (f t:Int) (w:World):Calls prog 161 #[.agg #[.int .i64 f,.int .i64 t]] w fun e w'=>e=.returned (.bool (validP f t))∧Bl w w':=
 (periodValid_any f t w).mono fun e w' ⟨h1,h2⟩=>⟨h1,by rw [←h2];exact Below.of_alloc _⟩
theorem instant_any (n:Int) (w:World):Calls prog 106 #[.int .i64 n] w fun e w'=>e=.returned (.bool (instB n))∧w'=w:=by
 have K:=within_any n 0 1099511627775 w
 rw [show decide (0≤n∧n≤1099511627775)=instB n from rfl] at K
 go_in
 go_wp2_with fail
 (with_reducible refine K.mono ?_)
 rintro _ w1 ⟨rfl,hw⟩
 rw [hw]
 clear hw w1 K
 go_wp2_with fail
 go_ret
 exact ⟨rfl,rfl⟩
theorem nmHold (a b:ByteArray) (c d g h:Int) (w:World):Calls prog 159 #[.agg #[.string a,.string b,.int .i64 c,.int .i64 d,.int .i64 g,.int .i64 h]] w fun e w'=>e=.returned (.string a)∧Bl w w':=by
 go_in
 go_wp2_with fail
 go_ret
 exact ⟨rfl,by first|exact Below.refl _ _|exact Below.of_alloc _⟩
theorem nmPol (a:ByteArray) (c:Int) (w:World):Calls prog 163 #[.agg #[.string a,.int .i64 c]] w fun e w'=>e=.returned (.string a)∧Bl w w':=by
 go_in
 go_wp2_with fail
 go_ret
 exact ⟨rfl,by first|exact Below.refl _ _|exact Below.of_alloc _⟩
theorem nmHor (a:ByteArray) (c:Int) (w:World):Calls prog 166 #[.agg #[.string a,.int .i64 c]] w fun e w'=>e=.returned (.string a)∧Bl w w':=by
 go_in
 go_wp2_with fail
 go_ret
 exact ⟨rfl,by first|exact Below.refl _ _|exact Below.of_alloc _⟩
theorem okHold (a b:ByteArray) (c d g h:Int) (w:World):Calls prog 160 #[.agg #[.string a,.string b,.int .i64 c,.int .i64 d,.int .i64 g,.int .i64 h]] w fun e w'=>e=.returned (.bool (Hld.ok ⟨a,b,c,d,g,h⟩))∧Bl w w':=by
 exact zq7 0
theorem okPol (a:ByteArray) (c:Int) (w:World):Calls prog 164 #[.agg #[.string a,.int .i64 c]] w fun e w'=>e=.returned (.bool (Pol.ok ⟨a,c⟩))∧Bl w w':=by
 exact zq7 1
theorem okHor (a:ByteArray) (c:Int) (w:World):Calls prog 167 #[.agg #[.string a,.int .i64 c]] w fun e w'=>e=.returned (.bool (Hor.ok ⟨a,c⟩))∧Bl w w':=by
 exact zq7 2
theorem namedHold_any (v:Value) (l:List Hld) (w:World) (hv:RdE 6 Hld.enc w (ltw w) v l):
  Calls prog 158 #[v,.func (.func 159) #[] #[],.func (.func 160) #[] #[]] w fun e w'=>e=.returned (.int .i64 (namedF Hld.name Hld.ok none l))∧Bl w w':=by
 exact zq1 0
theorem namedPol_any (v:Value) (l:List Pol) (w:World) (hv:RdE 2 Pol.enc w (ltw w) v l):
  Calls prog 162 #[v,.func (.func 163) #[] #[],.func (.func 164) #[] #[]] w fun e w'=>e=.returned (.int .i64 (namedF Pol.table Pol.ok none l))∧Bl w w':=by
 exact zq1 2
theorem namedHor_any (v:Value) (l:List Hor) (w:World) (hv:RdE 2 Hor.enc w (ltw w) v l):
  Calls prog 165 #[v,.func (.func 166) #[] #[],.func (.func 167) #[] #[]] w fun e w'=>e=.returned (.int .i64 (namedF Hor.table Hor.ok none l))∧Bl w w':=by
 exact zq1 1
def holdsF (l:List Hld):Int:=namedF Hld.name Hld.ok none l
def restF (p:List Pol) (h:List Hor):Int:=if namedF Pol.table Pol.ok none p≠0 then namedF Pol.table Pol.ok none p else namedF Hor.table Hor.ok none h
theorem checkHolds_any (v:Value) (l:List Hld) (w:World) (hv:RdE 6 Hld.enc w (ltw w) v l):Calls prog 109 #[v] w fun e w'=>e=.returned (.int .i64 (holdsF l))∧Bl w w':=by
 have K:=namedHold_any v l w hv
 go_in
 go_wp2_with fail
 (with_reducible refine K.mono ?_)
 rintro _ w1 ⟨rfl,hb⟩
 have HB:=hI0 hb
 clear hb K
 go_wp2_with fail
 go_ret
 exact ⟨rfl,HB.out⟩
theorem checkRest_any (v u:Value) (p:List Pol) (h:List Hor) (w:World) (hv:RdE 2 Pol.enc w (ltw w) v p) (hu:RdE 2 Hor.enc w (ltw w) u h):Calls prog 110 #[v,u] w fun e w'=>e=.returned (.int .i64 (restF p h))∧Bl w w':=by
 have K:=namedPol_any v p w hv
 have K2:=fun V (hV:Bl w V)=>namedHor_any u h V (hu.below hV)
 obtain ⟨a,ha⟩:=eN0 (namedF Pol.table Pol.ok none p)
 have HR:Hid (restF p h=if a≠0 then a else namedF Hor.table Hor.ok none h):=hI0 (by rw [restF,ha])
 rw [←ha] at K
 rw [HR.out]
 clear ha
 by_cases h0:a=0
 ·rw [if_neg (by simpa using h0)]
  subst h0
  go_in
  go_wp2_with fail
  (with_reducible refine K.mono ?_)
  rintro _ w1 ⟨rfl,hb⟩
  have HB:=hI0 hb
  have K2:=K2 w1 hb
  clear hb K
  go_wp2_with fail
  (with_reducible refine K2.mono ?_)
  rintro _ w2 ⟨rfl,hb2⟩
  have HB2:=bT0 HB hb2
  clear hb2 K2
  go_wp2_with fail
  go_ret
  exact ⟨rfl,HB2.out⟩
 ·rw [if_pos h0]
  go_in
  go_wp2_with fail
  (with_reducible refine K.mono ?_)
  rintro _ w1 ⟨rfl,hb⟩
  have HB:=hI0 hb
  clear hb K K2
  go_wp2_with fail
  go_ret
  exact ⟨rfl,HB.out⟩
end Go.Proofs.YtgfhknnklapldaaGreatDoor
