/-
 PdD
-/
import Derived.Test.YtgfhknnklapldaaGreatDoorBPbK
import Derived.Test.YtgfhknnklapldaaGreatDoorBPbJ
import Derived.Test.YtgfhknnklapldaaGreatDoorBPbI
import Derived.Test.YtgfhknnklapldaaGreatDoorBPbH
import Derived.Test.YtgfhknnklapldaaGreatDoorBPdA
import Derived.Test.YtgfhknnklapldaaGreatDoorBPcD
import Derived.Test.YtgfhknnklapldaaGreatDoorBDuP
import Derived.Test.YtgfhknnklapldaaGreatDoorBDuO
import Derived.Test.YtgfhknnklapldaaGreatDoorBDuI
import Derived.Test.YtgfhknnklapldaaGreatDoorBSm2
import Derived.Test.YtgfhknnklapldaaGreatDoorBSt2
import Derived.Test.YtgfhknnklapldaaGreatDoorBSt1
namespace Go.Proofs.YtgfhknnklapldaaGreatDoor
open Go.Proofs.Tryz
open Go.RowKit Go.Lib Go.IntWalk Go.Sort Go.Shelf
theorem yq7 {P:Prop} (i:Nat) (h:Th i→P:=by
 intro yT7
 first
  |guard_hyp yT7:Th 1;have HE:=hI0 (HP.out.bad h8 HC.out (by unfold stepL;rw [if_pos rfl,if_neg ht]))
   have hTW:=HTW.out
   have hne:=HT.out l
   rw [decide_eq_false ht,hTW] at hne
   clear KC2 hb3 hTW
  |have hE0:(pAll t).2=(k,2):=by rw [←HP.out.run,pRun_none h8 hc]
   have HE:=hI0 hE0
   have KC2:=hI0 (KC u [] false (by rw [cut_L,hc]))
   clear KC hE0 hc
   go_wp2_with fail
   (with_reducible refine KC2.out.mono ?_)
   rintro _ w3 ⟨rfl,hb3⟩
   have HB3:=hI0 (HP.out.bel.trans (hb3.mono (Nat.le_of_lt HP.out.cur.lt)))
   clear KC2 hb3
 have hR:=HROW.out w3 HB3.out
 have g9:=cW1 9 hR rfl
 have f9:w3.frozen? ⟨w.heap.size,9,none⟩=false:=fW0 _ _ _ _ _ hR
 have g8:=cW1 8 hR rfl
 have f8:w3.frozen? ⟨w.heap.size,8,none⟩=false:=fW0 _ _ _ _ _ hR
 have g7:=cW1 7 hR rfl
 have f7:w3.frozen? ⟨w.heap.size,7,none⟩=false:=fW0 _ _ _ _ _ hR
 have g6:=cW1 6 hR rfl
 have f6:w3.frozen? ⟨w.heap.size,6,none⟩=false:=fW0 _ _ _ _ _ hR
 have g5:=cW1 5 hR rfl
 have f5:w3.frozen? ⟨w.heap.size,5,none⟩=false:=fW0 _ _ _ _ _ hR
 have g4:=cW1 4 hR rfl
 have f4:w3.frozen? ⟨w.heap.size,4,none⟩=false:=fW0 _ _ _ _ _ hR
 have g3:=cW1 3 hR rfl
 have f3:w3.frozen? ⟨w.heap.size,3,none⟩=false:=fW0 _ _ _ _ _ hR
 have g2:=cW1 2 hR rfl
 have f2:w3.frozen? ⟨w.heap.size,2,none⟩=false:=fW0 _ _ _ _ _ hR
 have g1:=cW1 1 hR rfl
 have f1:w3.frozen? ⟨w.heap.size,1,none⟩=false:=fW0 _ _ _ _ _ hR
 have g0:=cW1 0 hR rfl
 have f0:w3.frozen? ⟨w.heap.size,0,none⟩=false:=fW0 _ _ _ _ _ hR
 have HF:=hI0 (dten_set hR (.int .i64 0) (.int .i64 0) (.int .i64 0) (.int .i64 0) (.slice none 0 0) (.slice none 0 0) (.slice none 0 0) (.slice none 0 0) (.slice none 0 0) (.slice none 0 0))
 have HFB:Hid (Bl w ((((((((((w3.setCell ⟨w.heap.size,0,none⟩ (.int .i64 0)).setCell ⟨w.heap.size,1,none⟩ (.int .i64 0)).setCell ⟨w.heap.size,2,none⟩ (.int .i64 0)).setCell ⟨w.heap.size,3,none⟩ (.int .i64 0)).setCell ⟨w.heap.size,4,none⟩ (.slice none 0 0)).setCell ⟨w.heap.size,5,none⟩ (.slice none 0 0)).setCell ⟨w.heap.size,6,none⟩ (.slice none 0 0)).setCell ⟨w.heap.size,7,none⟩ (.slice none 0 0)).setCell ⟨w.heap.size,8,none⟩ (.slice none 0 0)).setCell ⟨w.heap.size,9,none⟩ (.slice none 0 0))):=hI0 ((HB2.out.trans ((HB3.out).mono (by have:=HLT.out;omega))).trans ((dten_chg w3 w.heap.size (.int .i64 0) (.int .i64 0) (.int .i64 0) (.int .i64 0) (.slice none 0 0) (.slice none 0 0) (.slice none 0 0) (.slice none 0 0) (.slice none 0 0) (.slice none 0 0)).below (B:=w.heap.size) (by have:=(HB3.out).size;have:=HLT.out;omega) (fun i (hi:i=w.heap.size)=>by omega)))
 clear hR
 go_wp2_with fail
 generalize ((((((((((w3.setCell ⟨w.heap.size,0,none⟩ (.int .i64 0)).setCell ⟨w.heap.size,1,none⟩ (.int .i64 0)).setCell ⟨w.heap.size,2,none⟩ (.int .i64 0)).setCell ⟨w.heap.size,3,none⟩ (.int .i64 0)).setCell ⟨w.heap.size,4,none⟩ (.slice none 0 0)).setCell ⟨w.heap.size,5,none⟩ (.slice none 0 0)).setCell ⟨w.heap.size,6,none⟩ (.slice none 0 0)).setCell ⟨w.heap.size,7,none⟩ (.slice none 0 0)).setCell ⟨w.heap.size,8,none⟩ (.slice none 0 0)).setCell ⟨w.heap.size,9,none⟩ (.slice none 0 0))=Z at *
 obtain ⟨y0,y1,y2,y3,y4,y5,y6,y7,y8,y9⟩:=cX10 HF.out
 (try simp only [Exit.inBlock,Exit.then])
 first
  |guard_hyp yT7:Th 1;exact bodyPost_ret (v:=.tuple #[.agg cZ0,.int .i64 1,.int .i64 1]) yi1 rfl ⟨HFB.out,.inl ⟨by rw [HE.out];exact (by decide:(1:Int)≠0),by rw [HE.out];first|done|rfl⟩⟩
  |exact bodyPost_ret (v:=.tuple #[.agg cZ0,.int .i64 (k:Int),.int .i64 2]) yi1 rfl ⟨HFB.out,.inl ⟨by rw [HE.out];exact (by decide:(2:Int)≠0),by rw [HE.out];first|done|rfl⟩⟩) : P := h ⟨⟩
theorem yq9 {P:Prop} (i:Nat) (h:Th i→P:=by
 intro yT9
 first
  |guard_hyp yT9:Th 1;have e1:(sF != 0)=true:=by simpa using h0
   have e2:decide (sF≠0)=true:=decide_eq_true h0
   have H0:=hI0 h0
  |have HE:=hI0 (HP.out.bad h8 HC.out (by unfold stepL;rw [if_neg (by omega),if_neg (by omega),if_pos hr0]))
   clear KS he4 hs4 ho4 hb4
   rw [hr0]
 have hR:=HROW.out w4 HB4.out
 have g9:=cW1 9 hR rfl
 have f9:w4.frozen? ⟨w.heap.size,9,none⟩=false:=fW0 _ _ _ _ _ hR
 have g8:=cW1 8 hR rfl
 have f8:w4.frozen? ⟨w.heap.size,8,none⟩=false:=fW0 _ _ _ _ _ hR
 have g7:=cW1 7 hR rfl
 have f7:w4.frozen? ⟨w.heap.size,7,none⟩=false:=fW0 _ _ _ _ _ hR
 have g6:=cW1 6 hR rfl
 have f6:w4.frozen? ⟨w.heap.size,6,none⟩=false:=fW0 _ _ _ _ _ hR
 have g5:=cW1 5 hR rfl
 have f5:w4.frozen? ⟨w.heap.size,5,none⟩=false:=fW0 _ _ _ _ _ hR
 have g4:=cW1 4 hR rfl
 have f4:w4.frozen? ⟨w.heap.size,4,none⟩=false:=fW0 _ _ _ _ _ hR
 have g3:=cW1 3 hR rfl
 have f3:w4.frozen? ⟨w.heap.size,3,none⟩=false:=fW0 _ _ _ _ _ hR
 have g2:=cW1 2 hR rfl
 have f2:w4.frozen? ⟨w.heap.size,2,none⟩=false:=fW0 _ _ _ _ _ hR
 have g1:=cW1 1 hR rfl
 have f1:w4.frozen? ⟨w.heap.size,1,none⟩=false:=fW0 _ _ _ _ _ hR
 have g0:=cW1 0 hR rfl
 have f0:w4.frozen? ⟨w.heap.size,0,none⟩=false:=fW0 _ _ _ _ _ hR
 have HF:=hI0 (dten_set hR (.int .i64 0) (.int .i64 0) (.int .i64 0) (.int .i64 0) (.slice none 0 0) (.slice none 0 0) (.slice none 0 0) (.slice none 0 0) (.slice none 0 0) (.slice none 0 0))
 first
  |guard_hyp yT9:Th 1;have HCZ:=hI0 (dten_chg w4 w.heap.size (.int .i64 0) (.int .i64 0) (.int .i64 0) (.int .i64 0) (.slice none 0 0) (.slice none 0 0) (.slice none 0 0) (.slice none 0 0) (.slice none 0 0) (.slice none 0 0))
   have HFB:Hid (Bl w ((((((((((w4.setCell ⟨w.heap.size,0,none⟩ (.int .i64 0)).setCell ⟨w.heap.size,1,none⟩ (.int .i64 0)).setCell ⟨w.heap.size,2,none⟩ (.int .i64 0)).setCell ⟨w.heap.size,3,none⟩ (.int .i64 0)).setCell ⟨w.heap.size,4,none⟩ (.slice none 0 0)).setCell ⟨w.heap.size,5,none⟩ (.slice none 0 0)).setCell ⟨w.heap.size,6,none⟩ (.slice none 0 0)).setCell ⟨w.heap.size,7,none⟩ (.slice none 0 0)).setCell ⟨w.heap.size,8,none⟩ (.slice none 0 0)).setCell ⟨w.heap.size,9,none⟩ (.slice none 0 0))):=hI0 ((HB2.out.trans ((HB4.out).mono (by have:=HLT.out;omega))).trans (HCZ.out.below (B:=w.heap.size) yi9 (fun i (hi:i=w.heap.size)=>by omega)))
  |have HFB:Hid (Bl w ((((((((((w4.setCell ⟨w.heap.size,0,none⟩ (.int .i64 0)).setCell ⟨w.heap.size,1,none⟩ (.int .i64 0)).setCell ⟨w.heap.size,2,none⟩ (.int .i64 0)).setCell ⟨w.heap.size,3,none⟩ (.int .i64 0)).setCell ⟨w.heap.size,4,none⟩ (.slice none 0 0)).setCell ⟨w.heap.size,5,none⟩ (.slice none 0 0)).setCell ⟨w.heap.size,6,none⟩ (.slice none 0 0)).setCell ⟨w.heap.size,7,none⟩ (.slice none 0 0)).setCell ⟨w.heap.size,8,none⟩ (.slice none 0 0)).setCell ⟨w.heap.size,9,none⟩ (.slice none 0 0))):=hI0 ((HB2.out.trans ((HB4.out).mono (by have:=HLT.out;omega))).trans ((dten_chg w4 w.heap.size (.int .i64 0) (.int .i64 0) (.int .i64 0) (.int .i64 0) (.slice none 0 0) (.slice none 0 0) (.slice none 0 0) (.slice none 0 0) (.slice none 0 0) (.slice none 0 0)).below (B:=w.heap.size) yi9 (fun i (hi:i=w.heap.size)=>by omega)))
 clear hR
 go_wp2_with fail
 generalize ((((((((((w4.setCell ⟨w.heap.size,0,none⟩ (.int .i64 0)).setCell ⟨w.heap.size,1,none⟩ (.int .i64 0)).setCell ⟨w.heap.size,2,none⟩ (.int .i64 0)).setCell ⟨w.heap.size,3,none⟩ (.int .i64 0)).setCell ⟨w.heap.size,4,none⟩ (.slice none 0 0)).setCell ⟨w.heap.size,5,none⟩ (.slice none 0 0)).setCell ⟨w.heap.size,6,none⟩ (.slice none 0 0)).setCell ⟨w.heap.size,7,none⟩ (.slice none 0 0)).setCell ⟨w.heap.size,8,none⟩ (.slice none 0 0)).setCell ⟨w.heap.size,9,none⟩ (.slice none 0 0))=Z at *
 obtain ⟨y0,y1,y2,y3,y4,y5,y6,y7,y8,y9⟩:=cX10 HF.out
 (try simp only [Exit.inBlock,Exit.then])
 first
  |guard_hyp yT9:Th 1;exact bodyPost_ret (v:=.tuple #[.agg cZ0,.int .i64 0,.int .i64 sF]) yi1 rfl ⟨HFB.out,.inr (.inl ⟨HZ.out,by rw [←HSF.out];exact H0.out,by rw [←HSF.out]⟩)⟩
  |exact bodyPost_ret (v:=.tuple #[.agg cZ0,.int .i64 (k:Int),.int .i64 1]) yi1 rfl ⟨HFB.out,.inl ⟨by rw [HE.out];exact (by decide:(1:Int)≠0),by rw [HE.out];first|done|rfl⟩⟩) : P := h ⟨⟩
theorem yi1 {P:Prop} (h:P:=by simp [results,results15,go_sem,y0,y1,y2,y3,y4,y5,y6,y7,y8,y9]):P:=h
theorem yi9 {P:Prop} (h:P:=by have:=(HB4.out).size;have:=HLT.out;omega):P:=h
theorem cut_L:∀(u:List UInt8),Lib.cut u [10]=match cutL u with|none=>(u,[],false)|some p=>(p.1,p.2,true)
 |[]=>by simp [Lib.cut,Lib.index,cutL]
 |x::u=>by
  have ih:=cut_L u
  unfold Lib.cut at ih ⊢
  unfold cutL
  by_cases hx:x=10
  ·subst hx
   have h0:Lib.index (10::u) [10]=0:=by unfold Lib.index;rw [if_pos (by simp [List.isPrefixOf])]
   rw [h0,if_pos (by decide),if_pos rfl]
   simp
  ·rw [if_neg hx]
   have hp:([10]:List UInt8).isPrefixOf (x::u)=false:=by
    simp only [List.isPrefixOf,Bool.and_true,beq_eq_false_iff_ne]
    exact fun e=>hx e.symm
   have h0:Lib.index (x::u) [10]=if Lib.index u [10]== -1 then -1 else Lib.index u [10]+1:=by
    conv=>lhs;unfold Lib.index
    rw [if_neg (by rw [hp];decide)]
   have hge:=Lib.index_ge u [10]
   by_cases hn:0≤Lib.index u [10]
   ·rw [if_pos hn] at ih
    have h1:(Lib.index u [10]== -1)=false:=by rw [beq_eq_false_iff_ne];omega
    rw [h1] at h0
    have h2:Lib.index (x::u) [10]=Lib.index u [10]+1:=h0
    rw [h2,if_pos (by omega)]
    have h3:(Lib.index u [10]+1).toNat=(Lib.index u [10]).toNat+1:=by omega
    rw [h3]
    cases hc:cutL u with
    |none=>rw [hc] at ih;simp at ih
    |some p=>
     rw [hc] at ih
     simp only [Prod.mk.injEq,and_true,List.length_cons,List.length_nil] at ih
     obtain ⟨i1,i2⟩:=ih
     simp only [Option.map_some,List.length_cons,List.length_nil,List.take_succ_cons]
     rw [i1]
     have h4:(Lib.index u [10]).toNat+1+(0+1)=((Lib.index u [10]).toNat+(0+1))+1:=by omega
     rw [h4,List.drop_succ_cons,i2]
   ·rw [if_neg hn] at ih
    have h1:(Lib.index u [10]== -1)=true:=by rw [beq_iff_eq];omega
    rw [h1] at h0
    have h2:Lib.index (x::u) [10]= -1:=h0
    rw [h2,if_neg (by decide)]
    cases hc:cutL u with
    |none=>rfl
    |some p=>rw [hc] at ih;simp at ih
theorem bodyF_any (b:Nat) (l:List UInt8) (before:Nat) (c:RSt) (S:ByteArray) (i:Nat) (d:Bool) (w:World) (he:EnvP b w) (h:CurAt w b S i d c.enc) (hO:StO w b c) (hN:CntLe 4294967281 c) (hl:l.length≤4294967281) (hbf:before≤8) (htab:before=3∨before=4→c.tabs≠[]):
  Calls prog 38 #[.pointer (some ⟨b,0,none⟩),.string (strB l),.int .i64 (before:Int)] w (BodyQ b l (pBody l before c) w):=
 body_any b l before c S i d w he h hO hN.rows hl hbf htab (fun V k q e1 e2 e3 h0 hk=>pentry_any b l k q c V e1 e2 e3 hN.ents h0 hk hl) (fun hne V k q e1 e2 e3 h0 hk=>by
  have hts:=(List.dropLast_concat_getLast hne).symm
  exact pversion_any b l k q c c.tabs.dropLast (c.tabs.getLast hne) V hts e1 e2 e3 (hN.vers _ (List.getLast_mem hne)) hN.tabs h0 hk hl)
theorem secS_enc (l:List UInt8) (c:RSt):(secS l c).enc=.int .i64 (sec1 l).1::.int .i64 (sec2 l).1::.int .i64 (sec3 l).1::.int .i64 (sec4 l).1::[.slice c.eA c.ents.length c.eC,.slice c.sA c.stms.length c.sC,.slice c.tA c.tabs.length c.tC,.slice c.pA c.pla.length c.pC,.slice c.qA c.pol.length c.qC,.slice c.hA c.hor.length c.hC]:=by simp only [RSt.enc,secS]
theorem enc_cons (c:RSt):c.enc=.int .i64 c.tx::.int .i64 c.time::.int .i64 c.wall::.int .i64 c.next::[.slice c.eA c.ents.length c.eC,.slice c.sA c.stms.length c.sC,.slice c.tA c.tabs.length c.tC,.slice c.pA c.pla.length c.pC,.slice c.qA c.pol.length c.qC,.slice c.hA c.hor.length c.hC]:=rfl
structure PrO (t:List UInt8) (b:Nat) (w0 w:World) (u:List UInt8) (a k f:Nat) (c:RSt) (S:ByteArray) (i:Nat) (d:Bool):Prop where
 cur:CurAt w b S i d c.enc
 own:StO w b c
 bel:Below b w0 w
 run:(pRun f u k a c).2=(pAll t).2
 st:(pRun f u k a c).1.er=(pAll t).1.er
 cnt:CntLe k c
 tab:a=3∨a=4→c.tabs≠[]
theorem stO_zero (w:World) (b:Nat):StO w b st0_:=by
 refine ⟨fun p hp=>?_,(fun x hx=>by cases hx),(fun x hx=>by cases hx),(fun x hx=>by cases hx)⟩
 simp only [rowsO,List.mem_cons,List.not_mem_nil,or_false] at hp
 rcases hp with rfl|rfl|rfl|rfl|rfl|rfl|rfl<;>exact World.ownsRow_nil _ _ _ _
theorem PrO.go {t u l r:List UInt8} {b a k f:Nat} {w0 w w':World} {c c':RSt} {S S':ByteArray} {i i':Nat} {d d':Bool} (h:PrO t b w0 w u a k (f+1) c S i d) (h8:a≠8) (hk:3≤k) (hc:cutL u=some (l,r)) (hr:(pBody l a c).2≠0) (he:c'.er=(pBody l a c).1.er) (hs:CurAt w' b S' i' d' c'.enc) (hO:StO w' b c') (hb:Below b w w'):PrO t b w0 w' r (pBody l a c).2 (k+1) f c' S' i' d':=by
 have e:pRun (f+1) u k a c=pRun f r (k+1) (pBody l a c).2 (pBody l a c).1:=by
  rw [pRun_step h8 hc]
  unfold stepL
  rw [if_neg (by omega),if_neg (by omega),if_neg hr]
  rfl
 have q:=pRun_er f r (k+1) (pBody l a c).2 he
 exact ⟨hs,hO,h.bel.trans hb,by rw [q.2,←e,h.run],by rw [q.1,←e,h.st],(h.cnt.body l a).of he,fun ht hn=>body_tabs l h.tab ht ((tabs_er he).1 hn)⟩
theorem PrO.go1 {t u l r:List UInt8} {b a f:Nat} {w0 w w':World} {c:RSt} {S:ByteArray} {i:Nat} {d:Bool} (h:PrO t b w0 w u a 1 (f+1) c S i d) (h8:a≠8) (hc:cutL u=some (l,r)) (hl:l=wTitle) (hb:Bl w w'):PrO t b w0 w' r a 2 f c S i d:=by
 have e:pRun (f+1) u 1 a c=pRun f r 2 a c:=by
  rw [pRun_step h8 hc]
  unfold stepL
  rw [if_pos rfl,if_pos hl]
  rfl
 exact ⟨h.cur.below hb,h.own.chg (Chg.of_below hb _),h.bel.trans (hb.mono (Nat.le_of_lt h.cur.lt)),by rw [←e,h.run],by rw [←e,h.st],h.cnt.mono (by omega),h.tab⟩
theorem PrO.go2 {t u l r:List UInt8} {b a f:Nat} {w0 w w':World} {c:RSt} {S S':ByteArray} {i i':Nat} {d d':Bool} (h:PrO t b w0 w u a 2 (f+1) c S i d) (h8:a≠8) (hc:cutL u=some (l,r)) (hl:secB l=true) (hs:CurAt w' b S' i' d' (secS l c).enc) (hb:Chg (·=b) w w'):PrO t b w0 w' r a 3 f (secS l c) S' i' d':=by
 have e:pRun (f+1) u 2 a c=pRun f r 3 a (secS l c):=by
  rw [pRun_step h8 hc]
  unfold stepL
  rw [if_neg (by decide),if_pos rfl,if_pos hl]
  rfl
 obtain ⟨o1,o2⟩:=h.own.chg hb
 obtain ⟨q1,q2,q3⟩:=o2
 obtain ⟨m1,m2,m3,m4,m5,m6,m7⟩:=h.cnt
 exact ⟨hs,⟨o1,q1,q2,q3⟩,h.bel.trans (hb.below (Nat.le_of_lt h.cur.lt) (fun _ e=>by omega)),by rw [←e,h.run],by rw [←e,h.st],⟨by show c.ents.length≤_;omega,by show c.stms.length≤_;omega,by show c.tabs.length≤_;omega,by show c.pla.length≤_;omega,by show c.pol.length≤_;omega,by show c.hor.length≤_;omega,fun t ht=>Nat.le_succ_of_le (m7 t ht)⟩,h.tab⟩
theorem PrO.bad {t u l r:List UInt8} {b a k f:Nat} {w0 w:World} {c:RSt} {S:ByteArray} {i:Nat} {d:Bool} (h:PrO t b w0 w u a k (f+1) c S i d) (h8:a≠8) (hc:cutL u=some (l,r)) (hl:stepL k l a c=none):(pAll t).2=(k,1):=by
 rw [←h.run,pRun_step h8 hc,hl]
 rfl
end Go.Proofs.YtgfhknnklapldaaGreatDoor
namespace Go.Proofs.YtgfhknnklapldaaGreatDoor
open Go.RowKit Go.Lib Go.IntWalk Go.Sort Go.Shelf
theorem okX_erD:∀(d:Nat) (e:RE),okX d e.er=okX d e
 |0,_=>rfl
 |d+1,.mk op it v nm A c args=>by
  rw [reErQ]
  simp only [okX,List.all_map,Function.comp_def,okX_erD d]
theorem RTab_er_okD (t:RTab):t.er.ok=t.ok:=by
 simp only [RTab.ok,RTab.er,List.length_map,List.all_map,Function.comp_def,RFor.ok,RFor.er,okX_erD]
 rfl
theorem RTab_er_blankD (t:RTab):t.er.blank=t.blank:=by
 simp only [RTab.blank,RTab.er,List.length_map]
theorem REn_er_okD (x:REn):x.er.ok=x.ok:=by
 simp only [REn.ok,REn.er,RTab_er_okD,RTab_er_blankD]
 rfl
theorem ordF_mapD {α:Type} {ok:α→Int} {le:α→α→Bool} {la:α→Int} {er:α→α} (h1:∀x,ok (er x)=ok x) (h2:∀x y,le (er x) (er y)=le x y) (h3:∀x,la (er x)=la x):∀(l:List α) (p:Option α),ordF ok le la (p.map er) (l.map er)=ordF ok le la p l
 |[],p=>by cases p<;>rfl
 |x::r,p=>by
  have e:=ordF_mapD h1 h2 h3 r (some x)
  rw [Option.map_some] at e
  rw [List.map_cons,ordF_cons,ordF_cons,h1,h3,e]
  congr 2
  cases p
  ·rfl
  ·simp only [Option.map_some,plA,h2]
theorem stateF_erD (c:RSt):stateF c.er=stateF c:=by
 have e1:entsF (c.ents.map REn.er)=entsF c.ents:=ordF_mapD (ok:=enE) (le:=fun x y=>decide (x.time<y.time)) (la:=fun _=>0) (er:=REn.er) (fun x=>by unfold enE;rw [REn_er_okD]) (fun _ _=>rfl) (fun _=>rfl) c.ents none
 have e3:tabsF (c.tabs.map RTv.er)=tabsF c.tabs:=ordF_mapD (ok:=tvE) (le:=fun x y=>bleS x.table y.table) (la:=fun x:RTv=>chkFrom none (x.vers.map (fun p:VP=>p.2))) (er:=RTv.er) (fun _=>rfl) (fun _ _=>rfl) (fun x=>by simp only [RTv.er,List.map_map];rfl) c.tabs none
 unfold stateF
 simp only [RSt.er,e1,e3]
 rfl
theorem RSt_kwD {w w':World} {F G:Nat→Prop} {c:RSt} (h:c.is w F) (hk:Keeps F w w') (hw:∀b,F b→G b):c.is w' G:=
 ⟨Rd.wide (Rd.keep h.ents hk) hw,fun x hx=>rEn_kw (h.entI x hx) hk hw,Rd.wide (Rd.keep h.stms hk) hw,Rd.wide (Rd.keep h.tabs hk) hw,fun x hx=>(RdVs.keep (h.tabI x hx) hk).wide hw,
  Rd.wide (Rd.keep h.pla hk) hw,Rd.wide (Rd.keep h.pol hk) hw,Rd.wide (Rd.keep h.hor hk) hw⟩
structure LimP (c:RSt):Prop where
 ents:c.ents.length≤1048576
 stms:c.stms.length≤1048576
 tabs:c.tabs.length≤1048576
 pla:c.pla.length≤1048576
 pol:c.pol.length≤1048576
 hor:c.hor.length≤1048576
 rows:∀d∈c.tabs,d.vers.length≤1048576∧∀f∈d.vers,f.2.row.length≤1048576
 exps:∀x∈c.ents,∀e∈x.create.chks,e.nodes≤1048576
 entS:∀x∈c.ents,x.sm
 plaS:∀x∈c.pla,x.sm
 polS:∀x∈c.pol,x.sm
 horS:∀x∈c.hor,x.sm
 entZ:szL REn.sz c.ents≤1048576
 tabZ:szL RTv.sz c.tabs≤1048576
 tabS:∀x∈c.tabs,x.table.size≤maxLen
theorem RSt.lim.p {w:World} {c:RSt} (h:c.lim w):LimP c:=⟨h.ents,h.stms,h.tabs,h.pla,h.pol,h.hor,h.rows,fun x hx e he=>(h.exps x hx e he).2,h.entS,h.plaS,h.polS,h.horS,h.entZ,h.tabZ,h.tabS⟩
theorem LimP.to {w:World} {c:RSt} (h:LimP c) (hx:∀x∈c.ents,∀e∈x.create.chks,exAll w (ltw w) e):c.lim w:=
 ⟨h.ents,h.stms,h.tabs,h.pla,h.pol,h.hor,h.rows,fun x hx' e he=>⟨hx x hx' e he,h.exps x hx' e he⟩,h.entS,h.plaS,h.polS,h.horS,h.entZ,h.tabZ,h.tabS⟩
/-! addresses do not count -/
theorem nodes_er:∀e:RE,e.er.nodes=e.nodes:=by
 have h:∀(n:Nat) (e:RE),e.nodes≤n→e.er.nodes=e.nodes:=by
  intro n
  induction n with
  |zero=>intro e h;have:=e.nodes_pos;omega
  |succ n ih=>
   intro e h
   obtain ⟨op,it,val,nm,A,c,args⟩:=e
   rw [reErQ]
   simp only [RE.nodes,nodesL_sum] at h ⊢
   rw [List.map_map]
   congr 2
   refine List.map_congr_left fun x hx=>ih x ?_
   have:=nodes_mem hx
   omega
 exact fun e=>h e.nodes e (Nat.le_refl _)
theorem szL_er {α:Type} {sz:α→Nat} {g:α→α} (h:∀x,sz (g x)=sz x) (l:List α):szL sz (l.map g)=szL sz l:=by
 unfold szL
 rw [List.map_map]
 congr 2
 exact List.map_congr_left fun x _=>h x
theorem REn.sz_er (x:REn):x.er.sz=x.sz:=by
 unfold REn.sz RTab.sz REn.er RTab.er
 simp only
 rw [szL_er (g:=RFor.er) (fun _=>rfl),szL_er (g:=RE.er) nodes_er]
theorem RTv.sz_er (x:RTv):x.er.sz=x.sz:=by
 unfold RTv.sz RTv.er
 simp only
 rw [szL_er (g:=verEr) (fun _=>rfl)]
theorem REn.sm_er {x:REn} (h:x.er.sm):x.sm:=by
 obtain ⟨h1,⟨h2,h3,h4⟩,h5⟩:=h
 refine ⟨h1,⟨h2,h3,fun y hy=>?_⟩,h5⟩
 exact h4 y.er (List.mem_map_of_mem hy)
theorem LimP.er {c:RSt} (h:LimP c.er):LimP c:=by
 obtain ⟨h1,h2,h3,h4,h5,h6,h7,h8,h9,h10,h11,h12,h13,h14,h15⟩:=h
 simp only [RSt.er,List.length_map] at h1 h2 h3 h4 h5 h6
 refine ⟨h1,h2,h3,h4,h5,h6,fun d hd=>?_,fun x hx e he=>?_,fun x hx=>REn.sm_er (h9 x.er (List.mem_map_of_mem hx)),h10,h11,h12,?_,?_,fun x hx=>h15 x.er (List.mem_map_of_mem hx)⟩
 ·have k:=h7 d.er (List.mem_map_of_mem hd)
  refine ⟨by simpa [RTv.er] using k.1,fun f hf=>?_⟩
  exact k.2 (verEr f) (List.mem_map_of_mem hf)
 ·have k:=h8 x.er (List.mem_map_of_mem hx) e.er (List.mem_map_of_mem he)
  rwa [nodes_er] at k
 ·have k:szL REn.sz (c.ents.map REn.er)≤1048576:=h13
  rwa [szL_er REn.sz_er] at k
 ·have k:szL RTv.sz (c.tabs.map RTv.er)≤1048576:=h14
  rwa [szL_er RTv.sz_er] at k
theorem LimP.to_er {c:RSt} (h:LimP c):LimP c.er:=by
 obtain ⟨h1,h2,h3,h4,h5,h6,h7,h8,h9,h10,h11,h12,h13,h14,h15⟩:=h
 refine ⟨by simpa [RSt.er] using h1,h2,by simpa [RSt.er] using h3,h4,h5,h6,fun d hd=>?_,fun x hx e he=>?_,fun x hx=>?_,h10,h11,h12,?_,?_,fun x hx=>?_⟩
 ·obtain ⟨y,hy,rfl⟩:=List.mem_map.1 hd
  refine ⟨by simpa [RTv.er] using (h7 y hy).1,fun f hf=>?_⟩
  obtain ⟨g,hg,rfl⟩:=List.mem_map.1 hf
  exact (h7 y hy).2 g hg
 ·obtain ⟨y,hy,rfl⟩:=List.mem_map.1 hx
  obtain ⟨z,hz,rfl⟩:=List.mem_map.1 he
  rw [nodes_er]
  exact h8 y hy z hz
 ·obtain ⟨y,hy,rfl⟩:=List.mem_map.1 hx
  obtain ⟨k1,⟨k2,k3,k4⟩,k5⟩:=h9 y hy
  refine ⟨k1,⟨k2,k3,fun z hz=>?_⟩,k5⟩
  obtain ⟨q,hq,rfl⟩:=List.mem_map.1 hz
  exact k4 q hq
 ·show szL REn.sz (c.ents.map REn.er)≤1048576
  rwa [szL_er REn.sz_er]
 ·show szL RTv.sz (c.tabs.map RTv.er)≤1048576
  rwa [szL_er RTv.sz_er]
 ·obtain ⟨y,hy,rfl⟩:=List.mem_map.1 hx
  exact h15 y hy
theorem LimP.of {c d:RSt} (h:LimP c) (e:d.er=c.er):LimP d:=LimP.er (by rw [e];exact h.to_er)
/-! expressions of few levels -/
theorem exIs_all:∀(d:Nat) (e e':RE) (w:World) (F:Nat→Prop),okE d e'→e.er=e'.er→exIs d w F e→exAll w F e:=by
 intro d
 induction d with
 |zero=>intro e e' w F h;exact h.elim
 |succ d ih=>
  intro e e' w F h he hx
  obtain ⟨op,it,v,nm,A,c,args⟩:=e
  obtain ⟨op',it',v',nm',A',c',args'⟩:=e'
  rw [reErQ,reErQ] at he
  injection he with _ _ _ _ _ _ ha
  intro n
  cases n with
  |zero=>trivial
  |succ n=>
   refine ⟨hx.1,hx.2.1,hx.2.2.1,fun a hm=>?_⟩
   have h1:a.er∈args'.map RE.er:=by rw [←ha];exact List.mem_map_of_mem hm
   obtain ⟨a',ha',hae⟩:=List.mem_map.1 h1
   exact ih a a' w F (h.2.2.2.2.2.2.1 a' ha') hae.symm (hx.2.2.2 a hm) n
theorem StO.is_ {w:World} {b:Nat} {c:RSt} (h:StO w b c):c.is w (fun g=>b<g∧g<w.heap.size):=by
 have own:∀p∈rowsO c,Rd w (fun g=>b<g∧g<w.heap.size) p.K p.v p.n p.cs:=fun p hp=>Rd.of_own (h.own p hp)
 have fr:∀g,frO (rowsO c) w b g→b<g∧g<w.heap.size:=fun g hg=>⟨hg.1,hg.2.1⟩
 refine ⟨own _ (List.mem_of_getElem? (i:=0) rfl),fun x hx=>rEn_kw (h.inn.ents x hx) (Keeps.refl _ _) fr,own _ (List.mem_of_getElem? (i:=1) rfl),own _ (List.mem_of_getElem? (i:=2) rfl),fun t ht=>⟨?_,fun p hp=>(h.inn.vers t ht p hp).wide fr⟩,own _ (List.mem_of_getElem? (i:=3) rfl),own _ (List.mem_of_getElem? (i:=4) rfl),own _ (List.mem_of_getElem? (i:=5) rfl)⟩
 by_cases hd:t∈c.tabs.dropLast
 ·exact Rd.wide (h.inn.old t hd) fr
 ·exact yq13 0
theorem StO.exA {w:World} {b:Nat} {c e:RSt} (h:StO w b c) (he:c.er=e.er) (hok:okSt e):∀x∈c.ents,∀y∈x.create.chks,exAll w (fun g=>b<g∧g<w.heap.size) y:=fun x hx y hy=>by
 have hk:=(rEn_kw (h.inn.ents x hx) (Keeps.refl _ _) (fun g (hg:frO (rowsO c) w b g)=>⟨hg.1,hg.2.1⟩):x.is w (fun g=>b<g∧g<w.heap.size)).create.chkI y hy
 have h1:x.er∈e.ents.map REn.er:=by
  have:c.ents.map REn.er=e.ents.map REn.er:=congrArg RSt.ents he
  rw [←this];exact List.mem_map_of_mem hx
 obtain ⟨x',hx',hxe⟩:=List.mem_map.1 h1
 have h2:y.er∈x'.create.chks.map RE.er:=by
  have:x'.create.chks.map RE.er=x.create.chks.map RE.er:=congrArg (fun z:REn=>z.create.chks) hxe
  rw [this];exact List.mem_map_of_mem hy
 obtain ⟨y',hy',hye⟩:=List.mem_map.1 h2
 have hr:=(hok.ents x' hx').rest
 unfold okR at hr
 split at hr
 ·exact exIs_all 24 y y' w _ (hr.1.chks.1 y' hy') hye.symm hk
 ·have e0:x'.create=tab0:=hr.1
  rw [e0] at hy'
  cases hy'
end Go.Proofs.YtgfhknnklapldaaGreatDoor
namespace Go.Proofs.YtgfhknnklapldaaGreatDoor
open Go.RowKit Go.Lib Go.IntWalk Go.Sort Go.Shelf
theorem qS_ge (s:ByteArray):s.size≤(qS s).length:=by
 have h:=qB_len s.data.toList
 have h2:=str_len s
 unfold qS quoteB
 rw [List.length_cons,List.length_append]
 omega
theorem mem_sumI {i:List UInt8}:∀ {l:List (List UInt8)},i∈l→i.length≤sumI l
 |a::r,h=>by
  rw [sumI_cons]
  rcases List.mem_cons.1 h with rfl|h
  ·omega
  ·have:=mem_sumI h
   omega
theorem flat_ge {α β:Type} {sz:α→Nat} {f:α→List β}:∀ {l:List α},(∀x∈l,sz x≤(f x).length)→(l.map sz).sum≤(l.flatMap f).length
 |[],_=>Nat.le_refl _
 |x::r,h=>by
  have h1:=h x (List.mem_cons_self ..)
  have h2:=flat_ge (l:=r) (fun y hy=>h y (List.mem_cons_of_mem _ hy))
  rw [List.map_cons,List.sum_cons,List.flatMap_cons,List.length_append]
  omega
theorem flat_mem {α β:Type} {f:α→List β} {x:α}:∀ {l:List α},x∈l→(f x).length≤(l.flatMap f).length
 |y::r,h=>by
  rw [List.flatMap_cons,List.length_append]
  rcases List.mem_cons.1 h with rfl|h
  ·omega
  ·have:=flat_mem (f:=f) h
   omega
theorem lst_ge {α:Type} {sz:α→Nat} {f:α→List (List UInt8)} {l:List α} (h:∀x∈l,sz x≤(f x).length):szL sz l≤(lstI f l).length:=by
 have:=flat_ge h
 unfold szL lstI
 rw [List.length_cons]
 omega
theorem sum_one {α:Type} (l:List α):(l.map fun _=>1).sum=l.length:=by
 induction l with
 |nil=>rfl
 |cons a r ih=>rw [List.map_cons,List.sum_cons,ih,List.length_cons];omega
theorem lst_one {α:Type} {f:α→List (List UInt8)} {l:List α} (h:∀x∈l,1≤(f x).length):l.length+1≤(lstI f l).length:=by
 have:=lst_ge (sz:=fun _=>1) h
 unfold szL at this
 rw [sum_one] at this
 exact this
theorem exI_ge:∀(n:Nat) (e:RE),e.nodes≤n→e.nodes≤(exI e).length:=by
 intro n
 induction n with
 |zero=>intro e h;have:=e.nodes_pos;omega
 |succ n ih=>
  intro e h
  obtain ⟨op,it,val,nm,A,c,args⟩:=e
  rw [exI_eq]
  simp only [RE.nodes,nodesL_sum] at h ⊢
  have k:=lst_ge (sz:=RE.nodes) (f:=exI) (l:=args) (fun x hx=>ih x (by have:=nodes_mem hx;omega))
  unfold szL at k
  rw [List.length_append]
  simp only [List.length_cons,List.length_nil]
  omega
theorem tabI_ge (t:RTab):t.sz+1≤(tabI t).length:=by
 have h1:=lst_one (f:=colI) (l:=t.cols) (fun x _=>by simp [colI])
 have h2:=lst_one (f:=numI) (l:=t.key) (fun x _=>by simp [numI])
 have h3:=lst_ge (sz:=RFor.sz) (f:=forI) (l:=t.fors) (fun x _=>by
  have:=lst_one (f:=numI) (l:=x.cols) (fun x _=>by simp [numI])
  unfold forI RFor.sz
  rw [List.length_append]
  omega)
 have h4:=lst_ge (sz:=RE.nodes) (f:=exI) (l:=t.chks) (fun x _=>exI_ge x.nodes x (Nat.le_refl _))
 unfold RTab.sz tabI
 simp only [List.length_append,List.length_cons,List.length_nil]
 omega
theorem entI_ge {x:REn} (h:okEn x):x.sz≤(entI x).length:=by
 have hr:=h.rest
 unfold okR at hr
 unfold REn.sz entI
 rw [List.length_append]
 split at hr
 ·rename_i h0
  have:=tabI_ge x.create
  rw [if_pos h0]
  simp only [List.length_cons,List.length_nil]
  omega
 ·have e0:x.create=tab0:=hr.1
  rw [e0]
  have:tab0.sz=2:=rfl
  simp only [List.length_cons,List.length_nil]
  omega
theorem ver_ge (p:VP):vpSz p≤(lineB (verI p.2)).length:=by
 rw [lineB_len _ (by simp [verI])]
 refine Nat.le_trans ?_ (sumI_ge _)
 have:=lst_one (f:=litI) (l:=p.2.row) (fun x _=>by simp [litI])
 unfold vpSz verI
 simp only [List.length_append,List.length_cons,List.length_nil]
 omega
theorem tv_ge (x:RTv):x.sz≤(tvT x).length:=by
 have h:=flat_ge (sz:=vpSz) (f:=fun p:VP=>lineB (verI p.2)) (l:=x.vers) (fun p _=>ver_ge p)
 have h1:2≤(lineB [wTable,qS x.table]).length:=by
  rw [lineB_len _ (by simp)]
  exact sumI_ge [wTable,qS x.table]
 unfold RTv.sz tvT tabT szL
 rw [List.length_append,List.flatMap_map]
 omega
theorem q_le {s:ByteArray} {l:List (List UInt8)} {N:Nat} (h:qS s∈l) (hl:sumI l≤N):s.size≤N:=by
 have h1:=qS_ge s
 have h2:=mem_sumI h
 omega
theorem ent_sm {x:REn} {N:Nat} (h:okEn x) (hN:N≤maxLen) (hl:sumI (entI x)≤N):x.sm:=by
 have hr:=h.rest
 unfold okR at hr
 have ht:qS x.table∈entI x:=by simp [entI]
 split at hr
 ·rename_i h0
  have e0:x.change=chn0:=hr.2
  have hin:∀i∈tabI x.create,i∈entI x:=fun i hi=>by
   unfold entI
   rw [if_pos h0]
   exact List.mem_append_right _ hi
  refine ⟨Nat.le_trans (q_le ht hl) hN,⟨Nat.le_trans (q_le (hin (qS x.create.name) (by simp [tabI])) hl) hN,fun y hy=>Nat.le_trans (q_le (s:=y.name) (hin _ ?_) hl) hN,fun y hy=>Nat.le_trans (q_le (s:=y.table) (hin _ ?_) hl) hN⟩,?_⟩
  ·unfold tabI lstI
   have:qS y.name∈x.create.cols.flatMap colI:=List.mem_flatMap.2 ⟨y,hy,by simp [colI]⟩
   simp [this]
  ·unfold tabI
   have:qS y.table∈lstI forI x.create.fors:=by
    unfold lstI
    exact List.mem_cons_of_mem _ (List.mem_flatMap.2 ⟨y,hy,by simp [forI]⟩)
   simp [this]
  ·rw [e0]
   exact ⟨Nat.zero_le _,Nat.zero_le _,Nat.zero_le _⟩
 ·rename_i h0
  have e0:x.create=tab0:=hr.1
  have hin:∀i∈chnI x.change,i∈entI x:=fun i hi=>by
   unfold entI
   rw [if_neg h0]
   exact List.mem_append_right _ hi
  refine ⟨Nat.le_trans (q_le ht hl) hN,?_,Nat.le_trans (q_le (hin (qS x.change.name) (by simp [chnI])) hl) hN,Nat.le_trans (q_le (hin (qS x.change.to) (by simp [chnI])) hl) hN,Nat.le_trans (q_le (hin (qS x.change.cname) (by simp [chnI,colI])) hl) hN⟩
  rw [e0]
  exact ⟨Nat.zero_le _,(fun y hy=>by cases hy),(fun y hy=>by cases hy)⟩
theorem limP_txt {c:RSt} (h:okSt c) (hl:(textS c).length≤1048000):LimP c:=by
 have hmx:1048000≤maxLen:=by unfold maxLen;decide
 unfold textS at hl
 simp only [List.length_append] at hl
 have e1:=flat_ge (sz:=REn.sz) (f:=fun x:REn=>lineB (entI x)) (l:=c.ents) (fun x hx=>by
  rw [lineB_len _ (by simp [entI])]
  exact Nat.le_trans (entI_ge (h.ents x hx)) (sumI_ge _))
 have e2:=flat_ge (sz:=fun _=>1) (f:=fun x:Stm=>lineB (stmI x)) (l:=c.stms) (fun x _=>by rw [lineB_len _ (by simp [stmI])];exact Nat.le_trans (by simp [stmI]) (sumI_ge _))
 have e3:=flat_ge (sz:=RTv.sz) (f:=tvT) (l:=c.tabs) (fun x _=>tv_ge x)
 have e4:=flat_ge (sz:=fun _=>1) (f:=fun x:Hld=>lineB (hldI x)) (l:=c.pla) (fun x _=>by rw [lineB_len _ (by simp [hldI])];exact Nat.le_trans (by simp [hldI]) (sumI_ge _))
 have e5:=flat_ge (sz:=fun _=>1) (f:=fun x:Pol=>lineB (polI x)) (l:=c.pol) (fun x _=>by rw [lineB_len _ (by simp [polI])];exact Nat.le_trans (by simp [polI]) (sumI_ge _))
 have e6:=flat_ge (sz:=fun _=>1) (f:=fun x:Hor=>lineB (horI x)) (l:=c.hor) (fun x _=>by rw [lineB_len _ (by simp [horI])];exact Nat.le_trans (by simp [horI]) (sumI_ge _))
 rw [sum_one] at e2 e4 e5 e6
 have z1:szL REn.sz c.ents≤1048576:=by unfold szL;omega
 have z3:szL RTv.sz c.tabs≤1048576:=by unfold szL;omega
 have n1:=szL_len (sz:=REn.sz) (fun a=>by unfold REn.sz;omega) c.ents
 have n3:=szL_len (sz:=RTv.sz) (fun a=>by unfold RTv.sz;omega) c.tabs
 refine ⟨by omega,by omega,by omega,by omega,by omega,by omega,fun d hd=>RTv.sz_few (by have:=szL_mem (sz:=RTv.sz) hd;omega),fun x hx e he=>?_,fun x hx=>?_,fun x hx=>?_,fun x hx=>?_,fun x hx=>?_,z1,z3,fun x hx=>?_⟩
 ·have k1:=szL_mem (sz:=REn.sz) hx
  have k2:=szL_mem (sz:=RE.nodes) he
  have k3:x.sz=x.create.sz+1:=rfl
  have k4:szL RE.nodes x.create.chks≤x.create.sz:=by unfold RTab.sz;omega
  omega
 ·have k:=flat_mem (f:=fun x:REn=>lineB (entI x)) hx
  rw [lineB_len _ (by simp [entI])] at k
  exact ent_sm (h.ents x hx) hmx (by omega)
 ·have k:=flat_mem (f:=fun x:Hld=>lineB (hldI x)) hx
  rw [lineB_len _ (by simp [hldI])] at k
  exact ⟨Nat.le_trans (q_le (l:=hldI x) (by simp [hldI]) (by omega:_≤1048000)) hmx,Nat.le_trans (q_le (l:=hldI x) (by simp [hldI]) (by omega:_≤1048000)) hmx⟩
 ·have k:=flat_mem (f:=fun x:Pol=>lineB (polI x)) hx
  rw [lineB_len _ (by simp [polI])] at k
  exact Nat.le_trans (q_le (l:=polI x) (by simp [polI]) (by omega:_≤1048000)) hmx
 ·have k:=flat_mem (f:=fun x:Hor=>lineB (horI x)) hx
  rw [lineB_len _ (by simp [horI])] at k
  exact Nat.le_trans (q_le (l:=horI x) (by simp [horI]) (by omega:_≤1048000)) hmx
 ·have k:=flat_mem (f:=tvT) hx
  have k2:sumI [wTable,qS x.table]≤(tvT x).length:=by
   unfold tvT tabT
   rw [List.length_append,lineB_len _ (by simp)]
   omega
  exact Nat.le_trans (q_le (l:=[wTable,qS x.table]) (by simp) (by omega:_≤1048000)) hmx
end Go.Proofs.YtgfhknnklapldaaGreatDoor
namespace Go.Proofs.YtgfhknnklapldaaGreatDoor
open Go.Proofs.Tryz
set_option maxRecDepth 99999
set_option maxHeartbeats 0
open Go.RowKit Go.Lib Go.IntWalk Go.Sort Go.Shelf
def ParQ (t:List UInt8) (w0:World) (e:Ending) (w:World):Prop:=
 Bl w0 w∧(((pAll t).2.2≠0∧e=.returned (.tuple #[.agg cZ0,.int .i64 ((pAll t).2.1:Int),.int .i64 (pAll t).2.2]))∨
  ((pAll t).2.2=0∧stateF (pAll t).1≠0∧e=.returned (.tuple #[.agg cZ0,.int .i64 0,.int .i64 (stateF (pAll t).1)]))∨
  ((pAll t).2.2=0∧stateF (pAll t).1=0∧∃c:RSt,e=.returned (.tuple #[.agg c.enc.toArray,.int .i64 0,.int .i64 0])∧c.er=(pAll t).1.er∧c.is w (ltw w)∧c.lim w))
theorem parse_any (t:List UInt8) (w:World) (he:EnvD w) (hl:t.length≤4294967200) (hlim:(pAll t).2.2=0→LimP (pAll t).1):
  Calls prog 15 #[.string (strB t)] w (ParQ t w):=by
 obtain ⟨W1,hW1⟩:=eN0 (w.alloc (.cells cZ0 29))
 have hbW1:=bN0 hW1
 have hnW1:=hN0 hW1
 have eW1:w.alloc (.cells cZ0 29)=W1:=by rw [hW1]
 clear hW1
 obtain ⟨W2,hW2⟩:=eN0 (W1.alloc (.cells #[.string ⟨#[]⟩,.int .i64 0,.bool false,.int .i64 0,.int .i64 0,.int .i64 0,.int .i64 0,.slice none 0 0,.slice none 0 0,.slice none 0 0,.slice none 0 0,.slice none 0 0,.slice none 0 0] 104))
 have hbW2:=bN0 hW2
 have hnW2:=hN0 hW2
 have eW2:W1.alloc (.cells #[.string ⟨#[]⟩,.int .i64 0,.bool false,.int .i64 0,.int .i64 0,.int .i64 0,.int .i64 0,.slice none 0 0,.slice none 0 0,.slice none 0 0,.slice none 0 0,.slice none 0 0,.slice none 0 0] 104)=W2:=by rw [hW2]
 clear hW2
 have HB1:=hI0 hbW1
 have HB2:Hid (Bl w W2):=hI0 (hbW1.trans (hbW2.mono hbW1.size))
 have hR2:=keepRow hbW2 hnW1
 have hlt:w.heap.size<W1.heap.size:=(Array.getElem?_eq_some_iff.1 hnW1).1
 have hl2:W1.heap.size<W2.heap.size:=(Array.getElem?_eq_some_iff.1 hnW2).1
 have HLT:=hI0 (And.intro hlt hl2)
 have HROW:Hid (∀V,Below W1.heap.size W2 V→V.heap[w.heap.size]? =some (.cells cZ0 29 (0,0))):=hI0 fun V hV=>(hV.block _ hlt).trans hR2
 have HE2:Hid (∀V,Below W1.heap.size W2 V→EnvP W1.heap.size V):=hI0 fun V hV=>⟨w,he,hbW1.size,HB2.out.trans (hV.mono (Nat.le_of_lt hlt))⟩
 have HP0:Hid (PrO t W1.heap.size W2 W2 t 0 1 (t.length+2) st0_ ⟨#[]⟩ 0 false):=hI0 ⟨hnW2,stO_zero _ _,Below.refl _ _,rfl,rfl,⟨Nat.zero_le _,Nat.zero_le _,Nat.zero_le _,Nat.zero_le _,Nat.zero_le _,Nat.zero_le _,(fun _ h=>by cases h)⟩,by omega⟩
 have HT:Hid (∀l:List UInt8,((strB l).toList==(strB wTitle).toList)=decide (l=wTitle)):=hI0 fun l=>by
  rw [ByteArray.toList_eq,ByteArray.toList_eq,bas_s,bas_s]
  by_cases h:l=wTitle
  ·rw [h,decide_eq_true rfl];simp
  ·rw [decide_eq_false h];simpa using h
 have hTW:(strB wTitle).toList=[98,105,116,101,109,112,111,114,97,108,32,100,117,109,112,32,49]:=by rw [ByteArray.toList_eq,bas_s];rfl
 have HTW:=hI0 hTW
 have HLIM:=hI0 hlim
 clear hbW1 hnW1 hbW2 hnW2 hlt hl2 hR2 he hTW hlim
 go_in
 go_wp2_with fail
 clear eW1 eW2
 go_loopw [0,6,7] (fun s p n wr=>∃(u:List UInt8) (a k f:Nat) (c:RSt) (S:ByteArray) (i:Nat) (d:Bool),s=.string (strB u)∧p=.int .i64 (a:Int)∧n=.int .i64 (k:Int)∧(1≤k∧k+u.length≤t.length+1∧a≤8∧u.length+2≤f∧(k≤2→a=0))∧Hid (PrO t W1.heap.size W2 wr u a k f c S i d)) (fun _ _ n _=>t.length+3-(intOf n).toNat)
 case atStart=>exact ⟨t,0,1,t.length+2,st0_,_,_,_,rfl,rfl,rfl,⟨by omega,by omega,by omega,by omega,fun _=>rfl⟩,HP0⟩
 obtain ⟨u,a,k,f,c,S,i,d,rfl,rfl,rfl,⟨hk1,hku,ha8,hfu,hk2⟩,HP⟩:=hrel
 obtain ⟨wi,rfl⟩:=eN0 wr
 obtain ⟨f,rfl⟩:∃g,f=g+1:=⟨f-1,by omega⟩
 by_cases h8:a=8
 ·subst h8
  have hE0:(pAll t).2=(if u=[] then (0,0) else (k,3):Nat×Int):=by
   rw [←HP.out.run]
   unfold pRun
   rw [if_pos rfl]
   split<;>rfl
  by_cases hu:u=[]
  ·
   rw [if_pos hu] at hE0
   subst hu
   have hAll:pAll t=((pAll t).1,0,0):=by rw [←hE0]
   have hgot:=got_all hAll
   have hst:c.er=(pAll t).1.er:=by
    rw [←HP.out.st]
    unfold pRun
    rw [if_pos rfl,if_pos rfl]
   have hz:(pAll t).2.2=0:=by rw [hE0]
   have hsf:stateF c=stateF (pAll t).1:=by rw [←stateF_erD c,hst,stateF_erD]
   have hLP:LimP c:=(HLIM.out hz).of hst
   have hxA:=HP.out.own.exA hst hgot.2.1
   have hxB:∀x∈c.ents,∀e∈x.create.chks,exAll wi (ltw wi) e:=fun x hx e he=>isQ_X.wide (hxA x hx e he) (fun g hg=>hg.2)
   have KE0:=recEncodeState_any c wi (RSt_kwD HP.out.own.is_ (Keeps.refl _ _) (fun g hg=>hg.2)) (hLP.to hxB)
   unfold EncSO at KE0
   have KE:Hid (Calls prog 20 #[.agg #[.int .i64 c.tx,.int .i64 c.time,.int .i64 c.wall,.int .i64 c.next,.slice c.eA c.ents.length c.eC,.slice c.sA c.stms.length c.sC,.slice c.tA c.tabs.length c.tC,.slice c.pA c.pla.length c.pC,.slice c.qA c.pol.length c.qC,.slice c.hA c.hor.length c.hC]] wi fun e w'=>∃u,e=.returned (.tuple #[u,.int .i64 (stateF c)])∧Bl wi w'):=hI0 (KE0.mono fun e w' ⟨u,h1,_,h3,_⟩=>⟨u,h1,h3⟩)
   have hcu:=HP.out.cur
   rw [enc_cons] at hcu
   have c12:=cW1 12 hcu rfl
   have c11:=cW1 11 hcu rfl
   have c10:=cW1 10 hcu rfl
   have c9:=cW1 9 hcu rfl
   have c8:=cW1 8 hcu rfl
   have c7:=cW1 7 hcu rfl
   have c6:=cW1 6 hcu rfl
   have c5:=cW1 5 hcu rfl
   have c4:=cW1 4 hcu rfl
   have c3:=cW1 3 hcu rfl
   clear hcu
   have HST:=hI0 hst
   have HZ:=hI0 hz
   have HSF:=hI0 hsf
   have HLP:=hI0 hLP
   have HXA:=hI0 hxA
   clear hAll hgot hst hz hsf hLP hxA hxB KE0 hE0
   obtain ⟨sF,hsF⟩:=eN0 (stateF c)
   rw [←hsF] at KE HSF
   clear hsF
   have hN:(strB ([]:List UInt8)).toList=[]:=by rw [ByteArray.toList_eq,bas_s]
   have hN2:(strB ([]:List UInt8)).toList.isEmpty=true:=by rw [hN];rfl
   go_wp2_with fail
   clear c3 c4 c5 c6 c7 c8 c9 c10 c11 c12
   (with_reducible refine KE.out.mono ?_)
   rintro _ w4 ⟨u,rfl,hb4⟩
   have HB4:=hI0 (HP.out.bel.trans (hb4.mono (Nat.le_of_lt HP.out.cur.lt)))
   have HC4:=hI0 (HP.out.cur.below hb4)
   have HB44:=hI0 hb4
   clear KE hb4
   by_cases h0:sF=0
   ·subst h0
    have hcu:=HC4.out
    rw [enc_cons] at hcu
    have c12:=cW1 12 hcu rfl
    have c11:=cW1 11 hcu rfl
    have c10:=cW1 10 hcu rfl
    have c9:=cW1 9 hcu rfl
    have c8:=cW1 8 hcu rfl
    have c7:=cW1 7 hcu rfl
    have c6:=cW1 6 hcu rfl
    have c5:=cW1 5 hcu rfl
    have c4:=cW1 4 hcu rfl
    have c3:=cW1 3 hcu rfl
    clear hcu
    have hR:=HROW.out w4 HB4.out
    have g9:=cW1 9 hR rfl
    have f9:w4.frozen? ⟨w.heap.size,9,none⟩=false:=fW0 _ _ _ _ _ hR
    have g8:=cW1 8 hR rfl
    have f8:w4.frozen? ⟨w.heap.size,8,none⟩=false:=fW0 _ _ _ _ _ hR
    have g7:=cW1 7 hR rfl
    have f7:w4.frozen? ⟨w.heap.size,7,none⟩=false:=fW0 _ _ _ _ _ hR
    have g6:=cW1 6 hR rfl
    have f6:w4.frozen? ⟨w.heap.size,6,none⟩=false:=fW0 _ _ _ _ _ hR
    have g5:=cW1 5 hR rfl
    have f5:w4.frozen? ⟨w.heap.size,5,none⟩=false:=fW0 _ _ _ _ _ hR
    have g4:=cW1 4 hR rfl
    have f4:w4.frozen? ⟨w.heap.size,4,none⟩=false:=fW0 _ _ _ _ _ hR
    have g3:=cW1 3 hR rfl
    have f3:w4.frozen? ⟨w.heap.size,3,none⟩=false:=fW0 _ _ _ _ _ hR
    have g2:=cW1 2 hR rfl
    have f2:w4.frozen? ⟨w.heap.size,2,none⟩=false:=fW0 _ _ _ _ _ hR
    have g1:=cW1 1 hR rfl
    have f1:w4.frozen? ⟨w.heap.size,1,none⟩=false:=fW0 _ _ _ _ _ hR
    have g0:=cW1 0 hR rfl
    have f0:w4.frozen? ⟨w.heap.size,0,none⟩=false:=fW0 _ _ _ _ _ hR
    have HF:=hI0 (dten_set hR (.int .i64 c.tx) (.int .i64 c.time) (.int .i64 c.wall) (.int .i64 c.next) (.slice c.eA c.ents.length c.eC) (.slice c.sA c.stms.length c.sC) (.slice c.tA c.tabs.length c.tC) (.slice c.pA c.pla.length c.pC) (.slice c.qA c.pol.length c.qC) (.slice c.hA c.hor.length c.hC))
    have HCZ:=hI0 (dten_chg w4 w.heap.size (.int .i64 c.tx) (.int .i64 c.time) (.int .i64 c.wall) (.int .i64 c.next) (.slice c.eA c.ents.length c.eC) (.slice c.sA c.stms.length c.sC) (.slice c.tA c.tabs.length c.tC) (.slice c.pA c.pla.length c.pC) (.slice c.qA c.pol.length c.qC) (.slice c.hA c.hor.length c.hC))
    have HFB:Hid (Bl w ((((((((((w4.setCell ⟨w.heap.size,0,none⟩ (.int .i64 c.tx)).setCell ⟨w.heap.size,1,none⟩ (.int .i64 c.time)).setCell ⟨w.heap.size,2,none⟩ (.int .i64 c.wall)).setCell ⟨w.heap.size,3,none⟩ (.int .i64 c.next)).setCell ⟨w.heap.size,4,none⟩ (.slice c.eA c.ents.length c.eC)).setCell ⟨w.heap.size,5,none⟩ (.slice c.sA c.stms.length c.sC)).setCell ⟨w.heap.size,6,none⟩ (.slice c.tA c.tabs.length c.tC)).setCell ⟨w.heap.size,7,none⟩ (.slice c.pA c.pla.length c.pC)).setCell ⟨w.heap.size,8,none⟩ (.slice c.qA c.pol.length c.qC)).setCell ⟨w.heap.size,9,none⟩ (.slice c.hA c.hor.length c.hC))):=hI0 ((HB2.out.trans ((HB4.out).mono (by have:=HLT.out;omega))).trans (HCZ.out.below (B:=w.heap.size) yi9 (fun i (hi:i=w.heap.size)=>by omega)))
    clear hR
    go_wp2_with fail
    clear c3 c4 c5 c6 c7 c8 c9 c10 c11 c12
    have HBW:Hid (Bl wi w4):=HB44
    have HKZ:Hid (Keeps (fun g=>W1.heap.size<g∧g<wi.heap.size) wi ((((((((((w4.setCell ⟨w.heap.size,0,none⟩ (.int .i64 c.tx)).setCell ⟨w.heap.size,1,none⟩ (.int .i64 c.time)).setCell ⟨w.heap.size,2,none⟩ (.int .i64 c.wall)).setCell ⟨w.heap.size,3,none⟩ (.int .i64 c.next)).setCell ⟨w.heap.size,4,none⟩ (.slice c.eA c.ents.length c.eC)).setCell ⟨w.heap.size,5,none⟩ (.slice c.sA c.stms.length c.sC)).setCell ⟨w.heap.size,6,none⟩ (.slice c.tA c.tabs.length c.tC)).setCell ⟨w.heap.size,7,none⟩ (.slice c.pA c.pla.length c.pC)).setCell ⟨w.heap.size,8,none⟩ (.slice c.qA c.pol.length c.qC)).setCell ⟨w.heap.size,9,none⟩ (.slice c.hA c.hor.length c.hC))):=hI0 fun g hg=>(HCZ.out.block g (Nat.lt_of_lt_of_le hg.2 HBW.out.size) (by show g≠w.heap.size;have:=HLT.out;have:=hg.1;omega)).trans (HBW.out.block g hg.2)
    have HSZ:Hid (wi.heap.size≤((((((((((w4.setCell ⟨w.heap.size,0,none⟩ (.int .i64 c.tx)).setCell ⟨w.heap.size,1,none⟩ (.int .i64 c.time)).setCell ⟨w.heap.size,2,none⟩ (.int .i64 c.wall)).setCell ⟨w.heap.size,3,none⟩ (.int .i64 c.next)).setCell ⟨w.heap.size,4,none⟩ (.slice c.eA c.ents.length c.eC)).setCell ⟨w.heap.size,5,none⟩ (.slice c.sA c.stms.length c.sC)).setCell ⟨w.heap.size,6,none⟩ (.slice c.tA c.tabs.length c.tC)).setCell ⟨w.heap.size,7,none⟩ (.slice c.pA c.pla.length c.pC)).setCell ⟨w.heap.size,8,none⟩ (.slice c.qA c.pol.length c.qC)).setCell ⟨w.heap.size,9,none⟩ (.slice c.hA c.hor.length c.hC)).heap.size):=hI0 (Nat.le_trans HBW.out.size HCZ.out.size)
    generalize ((((((((((w4.setCell ⟨w.heap.size,0,none⟩ (.int .i64 c.tx)).setCell ⟨w.heap.size,1,none⟩ (.int .i64 c.time)).setCell ⟨w.heap.size,2,none⟩ (.int .i64 c.wall)).setCell ⟨w.heap.size,3,none⟩ (.int .i64 c.next)).setCell ⟨w.heap.size,4,none⟩ (.slice c.eA c.ents.length c.eC)).setCell ⟨w.heap.size,5,none⟩ (.slice c.sA c.stms.length c.sC)).setCell ⟨w.heap.size,6,none⟩ (.slice c.tA c.tabs.length c.tC)).setCell ⟨w.heap.size,7,none⟩ (.slice c.pA c.pla.length c.pC)).setCell ⟨w.heap.size,8,none⟩ (.slice c.qA c.pol.length c.qC)).setCell ⟨w.heap.size,9,none⟩ (.slice c.hA c.hor.length c.hC))=Z at *
    obtain ⟨y0,y1,y2,y3,y4,y5,y6,y7,y8,y9⟩:=cX10 HF.out
    (try simp only [Exit.inBlock,Exit.then])
    exact bodyPost_ret (v:=.tuple #[.agg #[.int .i64 c.tx,.int .i64 c.time,.int .i64 c.wall,.int .i64 c.next,.slice c.eA c.ents.length c.eC,.slice c.sA c.stms.length c.sC,.slice c.tA c.tabs.length c.tC,.slice c.pA c.pla.length c.pC,.slice c.qA c.pol.length c.qC,.slice c.hA c.hor.length c.hC],.int .i64 0,.int .i64 0]) yi1 rfl ⟨HFB.out,.inr (.inr ⟨HZ.out,HSF.out.symm,c,rfl,HST.out,RSt_kwD HP.out.own.is_ HKZ.out (fun g hg=>Nat.lt_of_lt_of_le hg.2 HSZ.out),HLP.out.to fun x hx e he=>isQ_X.wide (isQ_X.keep (HXA.out x hx e he) HKZ.out) (fun g hg=>Nat.lt_of_lt_of_le hg.2 HSZ.out)⟩)⟩
   ·exact yq9 1
  ·rw [if_neg hu] at hE0
   have HE:=hI0 hE0
   have hne:((strB u).toList==[])=false:=by rw [ByteArray.toList_eq,bas_s];cases u with|nil=>exact absurd rfl hu|cons x r=>rfl
   have hne2:(strB u).toList.isEmpty=false:=by rw [ByteArray.toList_eq,bas_s];cases u with|nil=>exact absurd rfl hu|cons x r=>rfl
   clear hE0
   have hR:=HROW.out wi (HP.out.bel)
   have g9:=cW1 9 hR rfl
   have f9:wi.frozen? ⟨w.heap.size,9,none⟩=false:=fW0 _ _ _ _ _ hR
   have g8:=cW1 8 hR rfl
   have f8:wi.frozen? ⟨w.heap.size,8,none⟩=false:=fW0 _ _ _ _ _ hR
   have g7:=cW1 7 hR rfl
   have f7:wi.frozen? ⟨w.heap.size,7,none⟩=false:=fW0 _ _ _ _ _ hR
   have g6:=cW1 6 hR rfl
   have f6:wi.frozen? ⟨w.heap.size,6,none⟩=false:=fW0 _ _ _ _ _ hR
   have g5:=cW1 5 hR rfl
   have f5:wi.frozen? ⟨w.heap.size,5,none⟩=false:=fW0 _ _ _ _ _ hR
   have g4:=cW1 4 hR rfl
   have f4:wi.frozen? ⟨w.heap.size,4,none⟩=false:=fW0 _ _ _ _ _ hR
   have g3:=cW1 3 hR rfl
   have f3:wi.frozen? ⟨w.heap.size,3,none⟩=false:=fW0 _ _ _ _ _ hR
   have g2:=cW1 2 hR rfl
   have f2:wi.frozen? ⟨w.heap.size,2,none⟩=false:=fW0 _ _ _ _ _ hR
   have g1:=cW1 1 hR rfl
   have f1:wi.frozen? ⟨w.heap.size,1,none⟩=false:=fW0 _ _ _ _ _ hR
   have g0:=cW1 0 hR rfl
   have f0:wi.frozen? ⟨w.heap.size,0,none⟩=false:=fW0 _ _ _ _ _ hR
   have HF:=hI0 (dten_set hR (.int .i64 0) (.int .i64 0) (.int .i64 0) (.int .i64 0) (.slice none 0 0) (.slice none 0 0) (.slice none 0 0) (.slice none 0 0) (.slice none 0 0) (.slice none 0 0))
   have HFB:Hid (Bl w ((((((((((wi.setCell ⟨w.heap.size,0,none⟩ (.int .i64 0)).setCell ⟨w.heap.size,1,none⟩ (.int .i64 0)).setCell ⟨w.heap.size,2,none⟩ (.int .i64 0)).setCell ⟨w.heap.size,3,none⟩ (.int .i64 0)).setCell ⟨w.heap.size,4,none⟩ (.slice none 0 0)).setCell ⟨w.heap.size,5,none⟩ (.slice none 0 0)).setCell ⟨w.heap.size,6,none⟩ (.slice none 0 0)).setCell ⟨w.heap.size,7,none⟩ (.slice none 0 0)).setCell ⟨w.heap.size,8,none⟩ (.slice none 0 0)).setCell ⟨w.heap.size,9,none⟩ (.slice none 0 0))):=hI0 ((HB2.out.trans (((HP.out.bel)).mono (by have:=HLT.out;omega))).trans ((dten_chg wi w.heap.size (.int .i64 0) (.int .i64 0) (.int .i64 0) (.int .i64 0) (.slice none 0 0) (.slice none 0 0) (.slice none 0 0) (.slice none 0 0) (.slice none 0 0) (.slice none 0 0)).below (B:=w.heap.size) (by have:=((HP.out.bel)).size;have:=HLT.out;omega) (fun i (hi:i=w.heap.size)=>by omega)))
   clear hR
   go_wp2_with fail
   generalize ((((((((((wi.setCell ⟨w.heap.size,0,none⟩ (.int .i64 0)).setCell ⟨w.heap.size,1,none⟩ (.int .i64 0)).setCell ⟨w.heap.size,2,none⟩ (.int .i64 0)).setCell ⟨w.heap.size,3,none⟩ (.int .i64 0)).setCell ⟨w.heap.size,4,none⟩ (.slice none 0 0)).setCell ⟨w.heap.size,5,none⟩ (.slice none 0 0)).setCell ⟨w.heap.size,6,none⟩ (.slice none 0 0)).setCell ⟨w.heap.size,7,none⟩ (.slice none 0 0)).setCell ⟨w.heap.size,8,none⟩ (.slice none 0 0)).setCell ⟨w.heap.size,9,none⟩ (.slice none 0 0))=Z at *
   obtain ⟨y0,y1,y2,y3,y4,y5,y6,y7,y8,y9⟩:=cX10 HF.out
   (try simp only [Exit.inBlock,Exit.then])
   exact bodyPost_ret (v:=.tuple #[.agg cZ0,.int .i64 (k:Int),.int .i64 3]) yi1 rfl ⟨HFB.out,.inl ⟨by rw [HE.out];exact (by decide:(3:Int)≠0),by rw [HE.out];first|done|rfl⟩⟩
 ·have e8:¬(a:Int)=8:=by omega
  have KC:=fun (l r:List UInt8) (q:Bool) (h:Lib.cut u [10]=(l,r,q))=>cutC u l r q wi (HE2.out wi HP.out.bel).now (by omega) h
  rcases hc:cutL u with _|⟨l,r⟩
  ·exact yq7 0
  ·have KC2:=hI0 (KC l r true (by rw [cut_L,hc]))
   have HC:=hI0 hc
   have hlr:=cutL_len hc
   clear KC hc
   go_wp2_with fail
   (with_reducible refine KC2.out.mono ?_)
   rintro _ w3 ⟨rfl,hb3⟩
   have hst:k=1∨k=2∨3≤k:=by omega
   rcases hst with rfl|rfl|h3
   ·-- the title
    obtain rfl:a=0:=hk2 (by omega)
    clear hk2
    have HB3:=hI0 (HP.out.bel.trans (hb3.mono (Nat.le_of_lt HP.out.cur.lt)))
    by_cases ht:l=wTitle
    ·have HP3:=hI0 (HP.out.go1 h8 HC.out ht hb3)
     subst ht
     clear KC2 hb3
     have hTW:=HTW.out
     go_wp2_with fail
     go_roundw
     case rel=>exact ⟨r,0,2,f,c,S,i,d,rfl,rfl,rfl,⟨by omega,by omega,ha8,by omega,fun _=>rfl⟩,HP3⟩
     case measure=>first|(simp [intOf];done)|(simp [intOf];omega)
    ·exact yq7 1
   ·-- the second line
    obtain rfl:a=0:=hk2 (by omega)
    clear hk2
    have HB3:=hI0 (HP.out.bel.trans (hb3.mono (Nat.le_of_lt HP.out.cur.lt)))
    have hll:l.length≤4294967281:=by omega
    have hcu:=HP.out.cur.below hb3
    rw [enc_cons] at hcu
    have KS:=hI0 (second_any W1.heap.size l S i d _ _ _ _ _ w3 (HE2.out w3 HB3.out) hcu hll)
    clear hcu
    have HX:Hid (∀x4,CurTo W1.heap.size (strB l) (sec4 l).2 (.int .i64 (sec1 l).1::.int .i64 (sec2 l).1::.int .i64 (sec3 l).1::.int .i64 (sec4 l).1::[.slice c.eA c.ents.length c.eC,.slice c.sA c.stms.length c.sC,.slice c.tA c.tabs.length c.tC,.slice c.pA c.pla.length c.pC,.slice c.qA c.pol.length c.qC,.slice c.hA c.hor.length c.hC]) w3 x4→Chg (·=W1.heap.size) wi x4∧CurAt x4 W1.heap.size (strB l) (sec4 l).2.1 (sec4 l).2.2 (secS l c).enc):=hI0 fun x4 hx=>⟨(Chg.of_below hb3 _).trans hx.2 (fun _ _ h=>h),by rw [secS_enc];exact hx.1⟩
    have HSZ:Hid (w3.heap.size≤w3.heap.size):=hI0 (Nat.le_refl _)
    clear KC2 hb3
    go_wp2_with fail
    (with_reducible refine KS.out.mono ?_)
    rintro _ w4 ⟨rfl,hx4⟩
    obtain ⟨hc4,hs4⟩:=HX.out w4 hx4
    have HB4:=hI0 (HP.out.bel.trans (hc4.below (Nat.le_of_lt HP.out.cur.lt) (fun _ e=>by omega)))
    cases hsb:secB l with
    |true=>
     have HP4:=hI0 (HP.out.go2 h8 HC.out hsb hs4 hc4)
     clear KS hx4 hc4 hs4 HX
     go_wp2_with fail
     go_roundw
     case rel=>exact ⟨r,0,3,f,secS l c,_,_,_,rfl,rfl,rfl,⟨by omega,by omega,ha8,by omega,fun h=>by omega⟩,HP4⟩
     case measure=>first|(simp [intOf];done)|(simp [intOf];omega)
    |false=>
     have HE:=hI0 (HP.out.bad h8 HC.out (by unfold stepL;rw [if_neg (by decide),if_pos rfl,hsb];rfl))
     clear KS hx4 hc4 hs4 HX
     have hR:=HROW.out w4 HB4.out
     have g9:=cW1 9 hR rfl
     have f9:w4.frozen? ⟨w.heap.size,9,none⟩=false:=fW0 _ _ _ _ _ hR
     have g8:=cW1 8 hR rfl
     have f8:w4.frozen? ⟨w.heap.size,8,none⟩=false:=fW0 _ _ _ _ _ hR
     have g7:=cW1 7 hR rfl
     have f7:w4.frozen? ⟨w.heap.size,7,none⟩=false:=fW0 _ _ _ _ _ hR
     have g6:=cW1 6 hR rfl
     have f6:w4.frozen? ⟨w.heap.size,6,none⟩=false:=fW0 _ _ _ _ _ hR
     have g5:=cW1 5 hR rfl
     have f5:w4.frozen? ⟨w.heap.size,5,none⟩=false:=fW0 _ _ _ _ _ hR
     have g4:=cW1 4 hR rfl
     have f4:w4.frozen? ⟨w.heap.size,4,none⟩=false:=fW0 _ _ _ _ _ hR
     have g3:=cW1 3 hR rfl
     have f3:w4.frozen? ⟨w.heap.size,3,none⟩=false:=fW0 _ _ _ _ _ hR
     have g2:=cW1 2 hR rfl
     have f2:w4.frozen? ⟨w.heap.size,2,none⟩=false:=fW0 _ _ _ _ _ hR
     have g1:=cW1 1 hR rfl
     have f1:w4.frozen? ⟨w.heap.size,1,none⟩=false:=fW0 _ _ _ _ _ hR
     have g0:=cW1 0 hR rfl
     have f0:w4.frozen? ⟨w.heap.size,0,none⟩=false:=fW0 _ _ _ _ _ hR
     have HF:=hI0 (dten_set hR (.int .i64 0) (.int .i64 0) (.int .i64 0) (.int .i64 0) (.slice none 0 0) (.slice none 0 0) (.slice none 0 0) (.slice none 0 0) (.slice none 0 0) (.slice none 0 0))
     have HFB:Hid (Bl w ((((((((((w4.setCell ⟨w.heap.size,0,none⟩ (.int .i64 0)).setCell ⟨w.heap.size,1,none⟩ (.int .i64 0)).setCell ⟨w.heap.size,2,none⟩ (.int .i64 0)).setCell ⟨w.heap.size,3,none⟩ (.int .i64 0)).setCell ⟨w.heap.size,4,none⟩ (.slice none 0 0)).setCell ⟨w.heap.size,5,none⟩ (.slice none 0 0)).setCell ⟨w.heap.size,6,none⟩ (.slice none 0 0)).setCell ⟨w.heap.size,7,none⟩ (.slice none 0 0)).setCell ⟨w.heap.size,8,none⟩ (.slice none 0 0)).setCell ⟨w.heap.size,9,none⟩ (.slice none 0 0))):=hI0 ((HB2.out.trans ((HB4.out).mono (by have:=HLT.out;omega))).trans ((dten_chg w4 w.heap.size (.int .i64 0) (.int .i64 0) (.int .i64 0) (.int .i64 0) (.slice none 0 0) (.slice none 0 0) (.slice none 0 0) (.slice none 0 0) (.slice none 0 0) (.slice none 0 0)).below (B:=w.heap.size) yi9 (fun i (hi:i=w.heap.size)=>by omega)))
     clear hR
     go_wp2_with fail
     generalize ((((((((((w4.setCell ⟨w.heap.size,0,none⟩ (.int .i64 0)).setCell ⟨w.heap.size,1,none⟩ (.int .i64 0)).setCell ⟨w.heap.size,2,none⟩ (.int .i64 0)).setCell ⟨w.heap.size,3,none⟩ (.int .i64 0)).setCell ⟨w.heap.size,4,none⟩ (.slice none 0 0)).setCell ⟨w.heap.size,5,none⟩ (.slice none 0 0)).setCell ⟨w.heap.size,6,none⟩ (.slice none 0 0)).setCell ⟨w.heap.size,7,none⟩ (.slice none 0 0)).setCell ⟨w.heap.size,8,none⟩ (.slice none 0 0)).setCell ⟨w.heap.size,9,none⟩ (.slice none 0 0))=Z at *
     obtain ⟨y0,y1,y2,y3,y4,y5,y6,y7,y8,y9⟩:=cX10 HF.out
     (try simp only [Exit.inBlock,Exit.then])
     exact bodyPost_ret (v:=.tuple #[.agg cZ0,.int .i64 2,.int .i64 1]) yi1 rfl ⟨HFB.out,.inl ⟨by rw [HE.out];exact (by decide:(1:Int)≠0),by rw [HE.out];first|done|rfl⟩⟩
   ·-- a line of the body
    clear hk2
    have HB3:=hI0 (HP.out.bel.trans (hb3.mono (Nat.le_of_lt HP.out.cur.lt)))
    have n1:¬(k:Int)=1:=by omega
    have n2:¬(k:Int)=2:=by omega
    have KS:=hI0 (bodyF_any W1.heap.size l a c S i d w3 (HE2.out w3 HB3.out) (HP.out.cur.below hb3) (HP.out.own.chg (Chg.of_below hb3 _)) (HP.out.cnt.mono (by omega)) (by omega) ha8 HP.out.tab)
    unfold BodyQ at KS
    have HB3w:=hI0 (hb3.mono (Nat.le_of_lt HP.out.cur.lt))
    clear KC2 hb3
    go_wp2_with fail
    (with_reducible refine KS.out.mono ?_)
    rintro _ w4 ⟨rfl,c',k',q',he4,hs4,ho4,hb4⟩
    have HB4:=hI0 (HB3.out.trans hb4)
    by_cases hr0:(pBody l a c).2=0
    ·exact yq9 0
    ·have HP4:=hI0 (HP.out.go h8 h3 HC.out hr0 he4 hs4 ho4 (HB3w.out.trans hb4))
     have hr9:(pBody l a c).2≤8:=by
      unfold pBody
      simp only
      split
      ·exact Nat.zero_le _
      ·split
       ·exact Nat.zero_le _
       ·exact rankV_le _
     obtain ⟨rr,hrr⟩:=eN0 ((pBody l a c).2)
     rw [←hrr] at HP4 hr0 hr9 ⊢
     have hgt:(0:Int)<(rr:Int):=by omega
     have hgt2:decide ((0:Int)<(rr:Int))=true:=decide_eq_true hgt
     have hgt3:0<rr:=by omega
     clear KS he4 hs4 ho4 hb4 hrr
     go_wp2_with fail
     go_roundw
     case rel=>exact ⟨r,rr,k+1,f,c',_,_,_,rfl,rfl,by go_num,⟨by omega,by omega,hr9,by omega,fun h=>by omega⟩,HP4⟩
     case measure=>first|(simp [intOf];done)|(simp [intOf];omega)
end Go.Proofs.YtgfhknnklapldaaGreatDoor
