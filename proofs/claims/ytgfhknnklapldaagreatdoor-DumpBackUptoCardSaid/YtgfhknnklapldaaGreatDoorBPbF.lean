/-
 PbF
-/
import Derived.Test.YtgfhknnklapldaaGreatDoorBPbE
import Derived.Test.YtgfhknnklapldaaGreatDoorBPbD
namespace Go.Proofs.YtgfhknnklapldaaGreatDoor
open Go.Proofs.Tryz
set_option maxRecDepth 99999
set_option maxHeartbeats 0
open Go.RowKit Go.Lib Go.IntWalk Go.Sort Go.Shelf
theorem yq2 {P:Prop} (i:Nat) (h:Th i→P:=by
 intro yT2
 obtain ⟨W,hW⟩:=eN0 (w.alloc (.cells #[.int .i64 0,.int .i64 0,.int .i64 0,.int .i64 0,.string ⟨#[]⟩,.string ⟨#[]⟩,.slice none 0 0] 117))
 have hbW:=bN0 hW
 have hnW:=hN0 hW
 have eW:w.alloc (.cells #[.int .i64 0,.int .i64 0,.int .i64 0,.int .i64 0,.string ⟨#[]⟩,.string ⟨#[]⟩,.slice none 0 0] 117)=W:=by rw [hW]
 clear hW
 have hbw:=h.lt
 have hx:=h.below hbW
 have q0:=cW1 0 (keepRow hbW hLB) rfl
 first
  |guard_hyp yT2:Th 1;have KI:Hid (Calls prog 145 #[.pointer (some ⟨b,0,none⟩),.int .i64 1] W fun e w'=>∃(op it vk vi:Int) (vs nm:ByteArray) (A:Option Addr) (c:Nat) (args:List RE),e=.returned (.agg #[.int .i64 op,.int .i64 it,.int .i64 vk,.int .i64 vi,.string vs,.string nm,.slice A args.length c])∧exAll w' (fun g=>W.heap.size≤g∧g<w'.heap.size) (RE.mk op it ⟨vk,vi,vs⟩ nm A c args)∧(RE.mk op it ⟨vk,vi,vs⟩ nm A c args).er=(pExp l n (i,d)).1∧CurAt w' b (strB l) (pExp l n (i,d)).2.1 (pExp l n (i,d)).2.2 r∧Chg (·=b) W w'):=hI0 ((ih W hx hbW).mono fun e w' ⟨x,a1,a2,a3,a4,a5⟩=>by
    obtain ⟨op,it,⟨vk,vi,vs⟩,nm,A,c,args⟩:=x
    exact ⟨_,_,_,_,_,_,_,_,_,a1,a2,a3,a4,a5⟩)
  |have q1:=cW1 0 (keepRow hbW hLV) rfl
   have KI:Hid (Calls prog 145 #[.pointer (some ⟨b,0,none⟩),.int .i64 (lv+1)] W fun e w'=>∃(op it vk vi:Int) (vs nm:ByteArray) (A:Option Addr) (c:Nat) (args:List RE),e=.returned (.agg #[.int .i64 op,.int .i64 it,.int .i64 vk,.int .i64 vi,.string vs,.string nm,.slice A args.length c])∧exAll w' (fun g=>W.heap.size≤g∧g<w'.heap.size) (RE.mk op it ⟨vk,vi,vs⟩ nm A c args)∧(RE.mk op it ⟨vk,vi,vs⟩ nm A c args).er=(pExp l n (i,d)).1∧CurAt w' b (strB l) (pExp l n (i,d)).2.1 (pExp l n (i,d)).2.2 r∧Chg (·=b) W w'):=hI0 ((ih W hx hbW).mono fun e w' ⟨x,a1,a2,a3,a4,a5⟩=>by
    obtain ⟨op,it,⟨vk,vi,vs⟩,nm,A,c,args⟩:=x
    exact ⟨_,_,_,_,_,_,_,_,_,a1,a2,a3,a4,a5⟩)
 have HBW:=hI0 hbW
 have HNW:=hI0 hnW
 have HBb:=hI0 hbw
 first
  |done
  |guard_hyp yT2:Th 1
  |have l1:lv+1≤9223372036854775807:=by omega
   have l2: -9223372036854775808≤lv+1:=by omega
 generalize pExp l n (i,d)=res at *
 first
  |guard_hyp yT2:Th 1;clear h hx hLB ih hbW hnW
  |clear h hx hLB hLV hlv ih hbW hnW
 go_in
 go_wp2_with fail
 first
  |guard_hyp yT2:Th 1;clear eW q0
  |clear eW q0 q1
 (with_reducible refine KI.out.mono ?_)
 rintro _ w2 ⟨op,it,vk,vi,vs,nm,A,c,args,rfl,hX,hE,hs,hc⟩
 have hQ:w2.heap[w.heap.size]? =some (.cells #[.int .i64 0,.int .i64 0,.int .i64 0,.int .i64 0,.string ⟨#[]⟩,.string ⟨#[]⟩,.slice none 0 0] 117 (0,0)):=(hc.block w.heap.size (gL0 HNW.out) (by have:=HBb.out;omega)).trans HNW.out
 have p6:=cW1 6 hQ rfl
 have p5:=cW1 5 hQ rfl
 have p4:=cW1 4 hQ rfl
 have p3:=cW1 3 hQ rfl
 have p2:=cW1 2 hQ rfl
 have p1:=cW1 1 hQ rfl
 have p0:=cW1 0 hQ rfl
 have g0:w2.frozen? ⟨w.heap.size,0,none⟩=false:=fW0 w2 _ 0 _ _ hQ
 have g1:w2.frozen? ⟨w.heap.size,1,none⟩=false:=fW0 w2 _ 1 _ _ hQ
 have g2:w2.frozen? ⟨w.heap.size,2,none⟩=false:=fW0 w2 _ 2 _ _ hQ
 have g3:w2.frozen? ⟨w.heap.size,3,none⟩=false:=fW0 w2 _ 3 _ _ hQ
 have g4:w2.frozen? ⟨w.heap.size,4,none⟩=false:=fW0 w2 _ 4 _ _ hQ
 have g5:w2.frozen? ⟨w.heap.size,5,none⟩=false:=fW0 w2 _ 5 _ _ hQ
 have g6:w2.frozen? ⟨w.heap.size,6,none⟩=false:=fW0 w2 _ 6 _ _ hQ
 have hZ:=zset7 hQ (.int .i64 op) (.int .i64 it) (.int .i64 vk) (.int .i64 vi) (.string vs) (.string nm) (.slice A args.length c)
 have HX:=hI0 hX
 have HE:=hI0 hE
 have HS:=hI0 hs
 have HC:=hI0 hc
 have HZ:=hI0 hZ
 clear hX hE hs hc hZ hQ KI
 go_wp2_with fail
 clear p0 g0 p1 g1 p2 g2 p3 g3 p4 g4 p5 g5 p6 g6
 generalize (((((((w2.setCell ⟨w.heap.size,0,none⟩ (.int .i64 op)).setCell ⟨w.heap.size,1,none⟩ (.int .i64 it)).setCell ⟨w.heap.size,2,none⟩ (.int .i64 vk)).setCell ⟨w.heap.size,3,none⟩ (.int .i64 vi)).setCell ⟨w.heap.size,4,none⟩ (.string vs)).setCell ⟨w.heap.size,5,none⟩ (.string nm)).setCell ⟨w.heap.size,6,none⟩ (.slice A args.length c))=Y at *
 have p6:Y.cell? ⟨w.heap.size,6,none⟩=some (.slice A args.length c):=cW0 Y _ 6 _ _ _ HZ.out.1
 have p5:Y.cell? ⟨w.heap.size,5,none⟩=some (.string nm):=cW0 Y _ 5 _ _ _ HZ.out.1
 have p4:Y.cell? ⟨w.heap.size,4,none⟩=some (.string vs):=cW0 Y _ 4 _ _ _ HZ.out.1
 have p3:Y.cell? ⟨w.heap.size,3,none⟩=some (.int .i64 vi):=cW0 Y _ 3 _ _ _ HZ.out.1
 have p2:Y.cell? ⟨w.heap.size,2,none⟩=some (.int .i64 vk):=cW0 Y _ 2 _ _ _ HZ.out.1
 have p1:Y.cell? ⟨w.heap.size,1,none⟩=some (.int .i64 it):=cW0 Y _ 1 _ _ _ HZ.out.1
 have p0:Y.cell? ⟨w.heap.size,0,none⟩=some (.int .i64 op):=cW0 Y _ 0 _ _ _ HZ.out.1
 have hk:Keeps (fun g=>W.heap.size≤g∧g<w2.heap.size) w2 Y:=keepQ (v:=W) (Chg.refl (·=b) w2) HZ.out.2 (by have:=HBW.out.size;have:=HBb.out;omega) (gL0 HNW.out)
 have hw:∀g,(W.heap.size≤g∧g<w2.heap.size)→(w.heap.size≤g∧g<Y.heap.size):=fun g hg=>⟨by have:=HBW.out.size;omega,by have:=HZ.out.2.size;omega⟩
 have hfin:exAll Y (fun g=>w.heap.size≤g∧g<Y.heap.size) (RE.mk op it ⟨vk,vi,vs⟩ nm A c args):=isQ_X.wide (isQ_X.keep HX.out hk) hw
 have hS:CurAt Y b (strB l) res.2.1 res.2.2 r:=(HZ.out.2.block b HS.out.lt (by have:=HBb.out;omega)).trans HS.out
 have hC:Chg (·=b) w Y:=((Chg.of_below HBW.out _).trans HC.out (fun _ _ h=>h)).trans HZ.out.2 (fun i hi (h:i=w.heap.size)=>by omega)
 first
  |guard_hyp yT2:Th 1;exact bodyPost_ret (v:=.agg #[.int .i64 op,.int .i64 it,.int .i64 vk,.int .i64 vi,.string vs,.string nm,.slice A args.length c]) (by simp [results,results144,go_sem,p0,p1,p2,p3,p4,p5,p6]) rfl ⟨RE.mk op it ⟨vk,vi,vs⟩ nm A c args,rfl,hfin,HE.out,hS,hC⟩
  |exact bodyPost_ret (v:=.agg #[.int .i64 op,.int .i64 it,.int .i64 vk,.int .i64 vi,.string vs,.string nm,.slice A args.length c]) (by simp [results,results203,go_sem,p0,p1,p2,p3,p4,p5,p6]) rfl ⟨RE.mk op it ⟨vk,vi,vs⟩ nm A c args,rfl,hfin,HE.out,hS,hC⟩) : P := h ⟨⟩
theorem yq3 {P:Prop} (i:Nat) (h:Th i→P:=by
 intro yT3
 have h0:=heap_setCell_same w T 0 _ _ c0 h
 have h1:=heap_setCell_same _ T 1 _ _ c1 h0
 have h2:=heap_setCell_same _ T 2 _ _ c2 h1
 have h3:=heap_setCell_same _ T 3 _ _ c3 h2
 have h4:=heap_setCell_same _ T 4 _ _ c4 h3
 first
  |guard_hyp yT3:Th 2;exact ⟨by simpa using h4,(((((Chg.refl (·=T) w).setCell (p:=⟨T,0,none⟩) (.inl rfl) c0).setCell (p:=⟨T,1,none⟩) (.inl rfl) c1).setCell (p:=⟨T,2,none⟩) (.inl rfl) c2).setCell (p:=⟨T,3,none⟩) (.inl rfl) c3).setCell (p:=⟨T,4,none⟩) (.inl rfl) c4⟩
  |have h5:=heap_setCell_same _ T 5 _ _ c5 h4
   have h6:=heap_setCell_same _ T 6 _ _ c6 h5
   first
    |guard_hyp yT3:Th 1;exact ⟨by simpa using h6,(((((((Chg.refl (·=T) w).setCell (p:=⟨T,0,none⟩) (.inl rfl) c0).setCell (p:=⟨T,1,none⟩) (.inl rfl) c1).setCell (p:=⟨T,2,none⟩) (.inl rfl) c2).setCell (p:=⟨T,3,none⟩) (.inl rfl) c3).setCell (p:=⟨T,4,none⟩) (.inl rfl) c4).setCell (p:=⟨T,5,none⟩) (.inl rfl) c5).setCell (p:=⟨T,6,none⟩) (.inl rfl) c6⟩
    |have h7:=heap_setCell_same _ T 7 _ _ c7 h6
     have h8:=heap_setCell_same _ T 8 _ _ c8 h7
     exact ⟨by simpa using h8,(((((((((Chg.refl (·=T) w).setCell (p:=⟨T,0,none⟩) (.inl rfl) c0).setCell (p:=⟨T,1,none⟩) (.inl rfl) c1).setCell (p:=⟨T,2,none⟩) (.inl rfl) c2).setCell (p:=⟨T,3,none⟩) (.inl rfl) c3).setCell (p:=⟨T,4,none⟩) (.inl rfl) c4).setCell (p:=⟨T,5,none⟩) (.inl rfl) c5).setCell (p:=⟨T,6,none⟩) (.inl rfl) c6).setCell (p:=⟨T,7,none⟩) (.inl rfl) c7).setCell (p:=⟨T,8,none⟩) (.inl rfl) c8⟩) : P := h ⟨⟩
theorem empZ_le:(⟨#[]⟩:ByteArray).size≤maxLen:=by unfold maxLen;decide
theorem pText_go (l:List UInt8) (st:Nat×Bool) (hl:l.length≤4294967281):(pText l st).1.size≤maxLen:=by
 unfold pText
 simp only
 split
 ·split
  ·rename_i o ho
   have h:=txG_out _ _ o (Nat.le_refl _) ho
   rw [List.length_drop] at h
   simp only
   rw [strB_size]
   unfold maxLen
   omega
  ·exact empZ_le
 ·exact empZ_le
theorem goV_lit {k n:Int} {s:ByteArray} (h1: -9223372036854775808≤n) (h2:n≤9223372036854775807) (h3:s.size≤maxLen):goV ⟨k,n,s⟩:=⟨h1,h2,h3⟩
theorem cnumI_lo (l:List UInt8) (st:Nat×Bool): -9223372036854775808≤(cnumI l st).1:=by
 unfold cnumI
 cases h:numV (tokI l st).1 with
 |none=>simp [numR]
 |some v=>exact (numV_some h).2.1
theorem pVal_go (l:List UInt8) (st:Nat×Bool) (hl:l.length≤4294967281):goV (pVal l st).1:=by
 unfold pVal
 split
 ·exact goV_lit (by omega) (by omega) (pText_go l st hl)
 ·split
  ·exact goV_lit (by omega) (by omega) empZ_le
  ·split
   ·exact goV_lit (by omega) (by omega) empZ_le
   ·split
    ·exact goV_lit (by omega) (by omega) empZ_le
    ·exact goV_lit (cnumI_lo l st) (cnumI_hi l st) empZ_le
theorem zset7 {w:World} {T:Nat} {a0 a1 a2 a3 a4 a5 a6:Value} {e:TypeId} (h:w.heap[T]? =some (.cells #[a0,a1,a2,a3,a4,a5,a6] e (0,0))) (c0 c1 c2 c3 c4 c5 c6:Value):(((((((w.setCell ⟨T,0,none⟩ c0).setCell ⟨T,1,none⟩ c1).setCell ⟨T,2,none⟩ c2).setCell ⟨T,3,none⟩ c3).setCell ⟨T,4,none⟩ c4).setCell ⟨T,5,none⟩ c5).setCell ⟨T,6,none⟩ c6).heap[T]? =some (.cells #[c0,c1,c2,c3,c4,c5,c6] e (0,0))∧Chg (·=T) w (((((((w.setCell ⟨T,0,none⟩ c0).setCell ⟨T,1,none⟩ c1).setCell ⟨T,2,none⟩ c2).setCell ⟨T,3,none⟩ c3).setCell ⟨T,4,none⟩ c4).setCell ⟨T,5,none⟩ c5).setCell ⟨T,6,none⟩ c6):=by
 exact yq3 1
theorem pexp1_any (b LB LV:Nat) (l:List UInt8) (n:Nat) (lv:Int) (hlv:1≤lv∧lv≤24) (i:Nat) (d:Bool) (r:List Value) (w:World) (h:CurAt w b (strB l) i d r) (hLB:w.heap[LB]? =some (.cells #[.pointer (some ⟨b,0,none⟩)] 175 (0,0))) (hLV:w.heap[LV]? =some (.cells #[.int .i64 lv] 3 (0,0)))
  (ih:∀V,CurAt V b (strB l) i d r→Bl w V→Calls prog 145 #[.pointer (some ⟨b,0,none⟩),.int .i64 (lv+1)] V (OneQ (fun x:RE=>.agg x.enc.toArray) exAll RE.er b l r (pExp l n (i,d)) V)):
  Calls prog 203 #[.pointer (some ⟨LB,0,none⟩),.pointer (some ⟨LV,0,none⟩)] w (OneQ (fun x:RE=>.agg x.enc.toArray) exAll RE.er b l r (pExp l n (i,d)) w):=by
 exact yq2 0
theorem pexp2_any (b LB:Nat) (l:List UInt8) (n:Nat) (i:Nat) (d:Bool) (r:List Value) (w:World) (h:CurAt w b (strB l) i d r) (hLB:w.heap[LB]? =some (.cells #[.pointer (some ⟨b,0,none⟩)] 175 (0,0)))
  (ih:∀V,CurAt V b (strB l) i d r→Bl w V→Calls prog 145 #[.pointer (some ⟨b,0,none⟩),.int .i64 1] V (OneQ (fun x:RE=>.agg x.enc.toArray) exAll RE.er b l r (pExp l n (i,d)) V)):
  Calls prog 144 #[.pointer (some ⟨LB,0,none⟩)] w (OneQ (fun x:RE=>.agg x.enc.toArray) exAll RE.er b l r (pExp l n (i,d)) w):=by
 exact yq2 1
theorem ersQ:∀l:List RE,ersX l=l.map RE.er
 |[]=>by simp only [ersX,List.map_nil]
 |x::r=>by simp only [ersX,List.map_cons,ersQ r]
theorem reErQ (op it:Int) (v:Val) (nm:ByteArray) (A:Option Addr) (c:Nat) (args:List RE):(RE.mk op it v nm A c args).er=.mk op it v nm none 0 (args.map RE.er):=by
 simp only [RE.er,ersQ]
theorem nodes_mem {a:RE}:∀ {l:List RE},a∈l→a.nodes≤(l.map RE.nodes).sum
 |x::r,h=>by
  rw [List.map_cons,List.sum_cons]
  rcases List.mem_cons.1 h with rfl|h
  ·omega
  ·have:=nodes_mem h
   omega
theorem exAll_zero (w:World) (F:Nat→Prop):exAll w F (RE.mk 0 0 zeroV ⟨#[]⟩ none 0 []):=fun d=>by
 cases d with
 |zero=>trivial
 |succ d=>exact ⟨Rd.nil _ _ _,⟨by decide,by decide,by unfold maxLen;decide⟩,by unfold maxLen;decide,fun a ha=>by cases ha⟩
theorem exp_boxes (b:Nat) (lv:Int) (w:World) (_:b<w.heap.size):∃W,W=((w.alloc (.cells #[.pointer (some ⟨b,0,none⟩)] 175)).alloc (.cells #[.int .i64 lv] 3)).alloc (.cells #[.int .i64 0,.int .i64 0,.int .i64 0,.int .i64 0,.string ⟨#[]⟩,.string ⟨#[]⟩,.slice none 0 0] 117)∧W.heap[w.heap.size]? =some (.cells #[.pointer (some ⟨b,0,none⟩)] 175 (0,0))∧W.heap[w.heap.size+1]? =some (.cells #[.int .i64 lv] 3 (0,0))∧W.heap[w.heap.size+1+1]? =some (.cells #[.int .i64 0,.int .i64 0,.int .i64 0,.int .i64 0,.string ⟨#[]⟩,.string ⟨#[]⟩,.slice none 0 0] 117 (0,0))∧Bl w W∧W.heap.size=w.heap.size+3:=by
 refine ⟨_,rfl,?_,?_,?_,?_,?_⟩
 ·have h1:=heap_alloc_new w (.cells #[.pointer (some ⟨b,0,none⟩)] 175)
  have h2:=Below.heap_alloc (w.alloc (.cells #[.pointer (some ⟨b,0,none⟩)] 175)) (.cells #[.int .i64 lv] 3) w.heap.size (by simp)
  have h3:=Below.heap_alloc ((w.alloc (.cells #[.pointer (some ⟨b,0,none⟩)] 175)).alloc (.cells #[.int .i64 lv] 3)) (.cells #[.int .i64 0,.int .i64 0,.int .i64 0,.int .i64 0,.string ⟨#[]⟩,.string ⟨#[]⟩,.slice none 0 0] 117) w.heap.size (by simp;omega)
  exact h3.trans (h2.trans h1)
 ·have h1:=heap_alloc_new (w.alloc (.cells #[.pointer (some ⟨b,0,none⟩)] 175)) (.cells #[.int .i64 lv] 3)
  have h3:=Below.heap_alloc ((w.alloc (.cells #[.pointer (some ⟨b,0,none⟩)] 175)).alloc (.cells #[.int .i64 lv] 3)) (.cells #[.int .i64 0,.int .i64 0,.int .i64 0,.int .i64 0,.string ⟨#[]⟩,.string ⟨#[]⟩,.slice none 0 0] 117) (w.heap.size+1) (by simp)
  have e:(w.alloc (.cells #[.pointer (some ⟨b,0,none⟩)] 175)).heap.size=w.heap.size+1:=by simp
  rw [e] at h1
  exact h3.trans h1
 ·have h1:=heap_alloc_new ((w.alloc (.cells #[.pointer (some ⟨b,0,none⟩)] 175)).alloc (.cells #[.int .i64 lv] 3)) (.cells #[.int .i64 0,.int .i64 0,.int .i64 0,.int .i64 0,.string ⟨#[]⟩,.string ⟨#[]⟩,.slice none 0 0] 117)
  have e:((w.alloc (.cells #[.pointer (some ⟨b,0,none⟩)] 175)).alloc (.cells #[.int .i64 lv] 3)).heap.size=w.heap.size+1+1:=by simp
  rw [e] at h1
  exact h1
 ·exact ((Below.of_alloc _).alloc (by simp) _).alloc (by simp;omega) _
 ·simp
theorem pexp0_any (b:Nat) (l:List UInt8) (i:Nat) (d:Bool) (r:List Value) (w:World) (h:CurAt w b (strB l) i d r):
  Calls prog 145 #[.pointer (some ⟨b,0,none⟩),.int .i64 25] w (OneQ (fun x:RE=>.agg x.enc.toArray) exAll RE.er b l r (pExp l 0 (i,d)) w):=by
 obtain ⟨W,hW,hA,hB,hC,hbW,hz⟩:=exp_boxes b 25 w h.lt
 have hbw:=h.lt
 have hx:=h.below hbW
 have a0:=cW1 0 hA rfl
 have b0:=cW1 0 hB rfl
 have k2:=cW1 2 hx rfl
 have f2:W.frozen? ⟨b,2,none⟩=false:=fW0 _ _ _ _ _ hx
 have hX2:Hid (CurAt (W.setCell ⟨b,2,none⟩ (.bool true)) b (strB l) i true r):=hI0 (CurAt.bad hx)
 have HC0:Hid (Chg (·=b) w (W.setCell ⟨b,2,none⟩ (.bool true))):=hI0 ((Chg.of_below hbW _).trans (chg_set W b 2 _) (fun _ _ h=>h))
 have hR:(W.setCell ⟨b,2,none⟩ (.bool true)).heap[w.heap.size+1+1]? =some (.cells #[.int .i64 0,.int .i64 0,.int .i64 0,.int .i64 0,.string ⟨#[]⟩,.string ⟨#[]⟩,.slice none 0 0] 117 (0,0)):=((chg_set W b 2 (.bool true)).block _ (by omega) (by omega)).trans hC
 have p6:=cW1 6 hC rfl
 have p5:=cW1 5 hC rfl
 have p4:=cW1 4 hC rfl
 have p3:=cW1 3 hC rfl
 have p2:=cW1 2 hC rfl
 have p1:=cW1 1 hC rfl
 have p0:=cW1 0 hC rfl
 have g0:W.frozen? ⟨(w.heap.size+1+1),0,none⟩=false:=fW0 W _ 0 _ _ hC
 have g1:W.frozen? ⟨(w.heap.size+1+1),1,none⟩=false:=fW0 W _ 1 _ _ hC
 have g2:W.frozen? ⟨(w.heap.size+1+1),2,none⟩=false:=fW0 W _ 2 _ _ hC
 have g3:W.frozen? ⟨(w.heap.size+1+1),3,none⟩=false:=fW0 W _ 3 _ _ hC
 have g4:W.frozen? ⟨(w.heap.size+1+1),4,none⟩=false:=fW0 W _ 4 _ _ hC
 have g5:W.frozen? ⟨(w.heap.size+1+1),5,none⟩=false:=fW0 W _ 5 _ _ hC
 have g6:W.frozen? ⟨(w.heap.size+1+1),6,none⟩=false:=fW0 W _ 6 _ _ hC
 have HZ:=hI0 (zset7 hR (.int .i64 0) (.int .i64 0) (.int .i64 0) (.int .i64 0) (.string ⟨#[]⟩) (.string ⟨#[]⟩) (.slice none 0 0))
 have eW:((w.alloc (.cells #[.pointer (some ⟨b,0,none⟩)] 175)).alloc (.cells #[.int .i64 25] 3)).alloc (.cells #[.int .i64 0,.int .i64 0,.int .i64 0,.int .i64 0,.string ⟨#[]⟩,.string ⟨#[]⟩,.slice none 0 0] 117)=W:=hW.symm
 have HBb:=hI0 hbw
 have HZ2:=hI0 hz
 clear h hx hA hB hC hbW hW hR
 go_in
 go_wp2_with fail
 clear a0 b0 k2 f2 p0 g0 p1 g1 p2 g2 p3 g3 p4 g4 p5 g5 p6 g6
 generalize ((((((((W.setCell ⟨b,2,none⟩ (.bool true)).setCell ⟨w.heap.size+1+1,0,none⟩ (.int .i64 0)).setCell ⟨w.heap.size+1+1,1,none⟩ (.int .i64 0)).setCell ⟨w.heap.size+1+1,2,none⟩ (.int .i64 0)).setCell ⟨w.heap.size+1+1,3,none⟩ (.int .i64 0)).setCell ⟨w.heap.size+1+1,4,none⟩ (.string ⟨#[]⟩)).setCell ⟨w.heap.size+1+1,5,none⟩ (.string ⟨#[]⟩)).setCell ⟨w.heap.size+1+1,6,none⟩ (.slice none 0 0))=Y at *
 have p6:Y.cell? ⟨(w.heap.size+1+1),6,none⟩=some (.slice none 0 0):=cW0 Y _ 6 _ _ _ HZ.out.1
 have p5:Y.cell? ⟨(w.heap.size+1+1),5,none⟩=some (.string ⟨#[]⟩):=cW0 Y _ 5 _ _ _ HZ.out.1
 have p4:Y.cell? ⟨(w.heap.size+1+1),4,none⟩=some (.string ⟨#[]⟩):=cW0 Y _ 4 _ _ _ HZ.out.1
 have p3:Y.cell? ⟨(w.heap.size+1+1),3,none⟩=some (.int .i64 0):=cW0 Y _ 3 _ _ _ HZ.out.1
 have p2:Y.cell? ⟨(w.heap.size+1+1),2,none⟩=some (.int .i64 0):=cW0 Y _ 2 _ _ _ HZ.out.1
 have p1:Y.cell? ⟨(w.heap.size+1+1),1,none⟩=some (.int .i64 0):=cW0 Y _ 1 _ _ _ HZ.out.1
 have p0:Y.cell? ⟨(w.heap.size+1+1),0,none⟩=some (.int .i64 0):=cW0 Y _ 0 _ _ _ HZ.out.1
 have hS:CurAt Y b (strB l) i true r:=(HZ.out.2.block b hX2.out.lt (by have:=HBb.out;omega)).trans hX2.out
 have hC:Chg (·=b) w Y:=HC0.out.trans HZ.out.2 (fun i hi (h:i=w.heap.size+1+1)=>by omega)
 exact bodyPost_ret (v:=.agg #[.int .i64 0,.int .i64 0,.int .i64 0,.int .i64 0,.string ⟨#[]⟩,.string ⟨#[]⟩,.slice none 0 0]) (by simp [results,results145,go_sem,p0,p1,p2,p3,p4,p5,p6]) rfl ⟨RE.mk 0 0 zeroV ⟨#[]⟩ none 0 [],rfl,exAll_zero _ _,by rw [reErQ];rfl,hS,hC⟩
end Go.Proofs.YtgfhknnklapldaaGreatDoor
