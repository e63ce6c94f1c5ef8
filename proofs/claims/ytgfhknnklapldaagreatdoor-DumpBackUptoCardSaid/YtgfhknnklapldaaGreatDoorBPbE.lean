/-
 PbE
-/
import Derived.Test.YtgfhknnklapldaaGreatDoorBPbD
import Derived.Test.YtgfhknnklapldaaGreatDoorBPbB
import Derived.Test.YtgfhknnklapldaaGreatDoorBPbA
namespace Go.Proofs.YtgfhknnklapldaaGreatDoor
open Go.Proofs.Tryz
set_option maxRecDepth 99999
set_option maxHeartbeats 0
open Go.RowKit Go.Lib Go.IntWalk Go.Sort Go.Shelf
theorem yq1 {P:Prop} (i:Nat) (h:Th i→P:=by
 intro yT1
 first
  |guard_hyp yT1:Th 1;rcases h1:cnumI l (i,d) with ⟨n1,kk1,qq1⟩
   have u1:i≤kk1∧kk1≤l.length:=by have u:=adv_num (l:=l) (st:=(i,d)) hi;rw [h1] at u;exact u
  |rcases h1:pText l (i,d) with ⟨n1,kk1,qq1⟩
   have u1:i≤kk1∧kk1≤l.length:=by have u:=adv_text (l:=l) (st:=(i,d)) hi;rw [h1] at u;exact u
 rcases h2:cnumI l (kk1,qq1) with ⟨n2,kk2,qq2⟩
 have u2:kk1≤kk2∧kk2≤l.length:=by have u:=adv_num (l:=l) (st:=(kk1,qq1)) u1.2;rw [h2] at u;exact u
 first
  |guard_hyp yT1:Th 1;have hd:pPer l (i,d)=((n1,n2),kk2,qq2):=by unfold pPer;simp only [h1,h2]
  |rcases h3:pFlag l (kk2,qq2) with ⟨n3,kk3,qq3⟩
   have u3:kk2≤kk3∧kk3≤l.length:=by have u:=adv_flag (l:=l) (st:=(kk2,qq2)) u2.2;rw [h3] at u;exact u
   have hd:pCol l (i,d)=((⟨n1,n2,n3⟩:RCol),kk3,qq3):=by unfold pCol;simp only [h1,h2,h3]
 rw [hd]
 first
  |guard_hyp yT1:Th 1;obtain ⟨W,hW⟩:=eN0 (w.alloc (.cells #[.int .i64 0,.int .i64 0] 54))
  |obtain ⟨W,hW⟩:=eN0 (w.alloc (.cells #[.string ⟨#[]⟩,.int .i64 0,.bool false] 75))
 have hR:=h.lt
 have hbW:=bN0 hW
 have hWs:=sN0 hW
 have hQ:=hN0 hW
 have hS0:CurAt W.drew b (strB l) i d r:=h.below hbW.drew
 have hC0:Chg (·=b) W W.drew:=(Chg.refl _ _).drew
 have hEV:∀V,Chg (·=b) W V→EnvP b V:=fun V hV=>he.chg ((Chg.of_below hbW _).trans hV (fun _ _ h=>h)) (Nat.le_of_lt hR)
 first
  |guard_hyp yT1:Th 1;have K1:∀V,CurAt V b (strB l) i d r→Chg (·=b) W V→Calls prog 93 #[.pointer (some ⟨b,0,none⟩)] V fun x w'=>x=.returned (.int .i64 n1)∧CurAt w' b (strB l) kk1 qq1 r∧Chg (·=b) V w':=fun V hs hV=>by
    have k:=cnum_any b l i d r V (hEV V hV) hs (by omega) hl
    rw [h1] at k
    exact k
  |have K1:∀V,CurAt V b (strB l) i d r→Chg (·=b) W V→Calls prog 96 #[.pointer (some ⟨b,0,none⟩)] V fun x w'=>x=.returned (.string n1)∧CurAt w' b (strB l) kk1 qq1 r∧Chg (·=b) V w':=fun V hs hV=>by
    have k:=text_any b l i d r V hs (by omega) hl
    rw [h1] at k
    exact k
 have K2:∀V,CurAt V b (strB l) kk1 qq1 r→Chg (·=b) W V→Calls prog 93 #[.pointer (some ⟨b,0,none⟩)] V fun x w'=>x=.returned (.int .i64 n2)∧CurAt w' b (strB l) kk2 qq2 r∧Chg (·=b) V w':=fun V hs hV=>by
  have k:=cnum_any b l kk1 qq1 r V (hEV V hV) hs (by omega) hl
  rw [h2] at k
  exact k
 first
  |done
  |guard_hyp yT1:Th 1
  |have K3:∀V,CurAt V b (strB l) kk2 qq2 r→Chg (·=b) W V→Calls prog 202 #[.pointer (some ⟨b,0,none⟩)] V fun x w'=>x=.returned (.bool n3)∧CurAt w' b (strB l) kk3 qq3 r∧Chg (·=b) V w':=fun V hs hV=>by
    have k:=pflag_any b l kk2 qq2 r V hs (by omega) hl
    rw [h3] at k
    exact k
 have HQ:=hI0 hQ
 have HbW:=hI0 hbW
 first
  |guard_hyp yT1:Th 1;clear h hd hEV hQ hbW he h1 u1 h2 u2
  |clear h hd hEV hQ hbW he h1 u1 h2 u2 h3 u3
 go_in
 go_wp2_with fail
 rw [←hW]
 clear hW
 refine wp_region_noPanic ?_
 refine wp_region_held_drew (S:=(fun _:World=>True)) (by kernel_rfl) ?_ (fun zh=>?_)
 ·trivial
 refine hT 0 3 ?_
 refine hT 1 4 ?_
 refine hT 2 5 ?_
 refine hT 4 7 ?_
 refine hT 5 8 ?_
 refine hT 6 9 ?_
 first
  |done
  |guard_hyp yT1:Th 1
  |refine hT 8 11 ?_
   refine hT 9 12 ?_
   refine hT 10 13 ?_
 refine hC 3 6 ?_
 (with_reducible refine (K1 _ hS0 hC0).mono ?_)
 rintro _ v1 ⟨rfl,hS1,hD1⟩
 have hC1:Chg (·=b) W v1:=hC0.trans hD1 (fun _ _ h=>h)
 refine ⟨_,rfl,keepAnd ?_ (fun hNew=>?_)⟩
 ·trivial
 clear zh
 have zh:=hNew
 clear hNew
 simp only [aP]
 refine hC 7 10 ?_
 (with_reducible refine (K2 _ hS1 hC1).mono ?_)
 rintro _ v2 ⟨rfl,hS2,hD2⟩
 have hC2:Chg (·=b) W v2:=hC1.trans hD2 (fun _ _ h=>h)
 refine ⟨_,rfl,keepAnd ?_ (fun hNew=>?_)⟩
 ·trivial
 clear zh
 have zh:=hNew
 clear hNew
 simp only [aP]
 first
  |guard_hyp yT1:Th 1;refine hT 8 11 ?_
   have hNew:(fun _:World=>True) (((v2.setCell ⟨w.heap.size,0,none⟩ (.int .i64 n1)).setCell ⟨w.heap.size,1,none⟩ (.int .i64 n2))):=by trivial
   refine heldSkipQ 9 none (w':=((v2.setCell ⟨w.heap.size,0,none⟩ (.int .i64 n1)).setCell ⟨w.heap.size,1,none⟩ (.int .i64 n2))) rfl rfl (by kernel_rfl) (by rfl) ?_ hNew ?_
  |refine hC 11 14 ?_
   (with_reducible refine (K3 _ hS2 hC2).mono ?_)
   rintro _ v3 ⟨rfl,hS3,hD3⟩
   have hC3:Chg (·=b) W v3:=hC2.trans hD3 (fun _ _ h=>h)
   refine ⟨_,rfl,keepAnd ?_ (fun hNew=>?_)⟩
   ·trivial
   clear zh
   have zh:=hNew
   clear hNew
   simp only [aP]
   refine hT 12 15 ?_
   have hNew:(fun _:World=>True) ((((v3.setCell ⟨w.heap.size,0,none⟩ (.string n1)).setCell ⟨w.heap.size,1,none⟩ (.int .i64 n2)).setCell ⟨w.heap.size,2,none⟩ (.bool n3))):=by trivial
   refine heldSkipQ 13 none (w':=(((v3.setCell ⟨w.heap.size,0,none⟩ (.string n1)).setCell ⟨w.heap.size,1,none⟩ (.int .i64 n2)).setCell ⟨w.heap.size,2,none⟩ (.bool n3))) rfl rfl (by kernel_rfl) (by rfl) ?_ hNew ?_
 ·first
   |guard_hyp yT1:Th 1;have hQn:v2.heap[w.heap.size]? =some (.cells #[.int .i64 0,.int .i64 0] 54 (0,0)):=(hC2.block w.heap.size (by omega) (by omega)).trans HQ.out;have p1:v2.cell? ⟨w.heap.size,1,none⟩=some (.int .i64 0):=cW0 v2 _ 1 _ _ _ hQn;have p0:v2.cell? ⟨w.heap.size,0,none⟩=some (.int .i64 0):=cW0 v2 _ 0 _ _ _ hQn;have g0:v2.frozen? ⟨w.heap.size,0,none⟩=false:=fW0 v2 _ 0 _ _ hQn;have g1:v2.frozen? ⟨w.heap.size,1,none⟩=false:=fW0 v2 _ 1 _ _ hQn;go_simp<;>with_reducible rfl
   |have hQn:v3.heap[w.heap.size]? =some (.cells #[.string ⟨#[]⟩,.int .i64 0,.bool false] 75 (0,0)):=(hC3.block w.heap.size (by omega) (by omega)).trans HQ.out;have p2:v3.cell? ⟨w.heap.size,2,none⟩=some (.bool false):=cW0 v3 _ 2 _ _ _ hQn;have p1:v3.cell? ⟨w.heap.size,1,none⟩=some (.int .i64 0):=cW0 v3 _ 1 _ _ _ hQn;have p0:v3.cell? ⟨w.heap.size,0,none⟩=some (.string ⟨#[]⟩):=cW0 v3 _ 0 _ _ _ hQn;have g0:v3.frozen? ⟨w.heap.size,0,none⟩=false:=fW0 v3 _ 0 _ _ hQn;have g1:v3.frozen? ⟨w.heap.size,1,none⟩=false:=fW0 v3 _ 1 _ _ hQn;have g2:v3.frozen? ⟨w.heap.size,2,none⟩=false:=fW0 v3 _ 2 _ _ hQn;go_simp<;>with_reducible rfl
 clear zh
 have zh:=hNew
 clear hNew
 simp only [Act.put]
 refine rD0 ?_
 clear zh
 first
  |guard_hyp yT1:Th 1;have hQn:v2.heap[w.heap.size]? =some (.cells #[.int .i64 0,.int .i64 0] 54 (0,0)):=(hC2.block w.heap.size (by omega) (by omega)).trans HQ.out
   have hZ:=zset2 hQn (.int .i64 n1) (.int .i64 n2)
   generalize ((v2.setCell ⟨w.heap.size,0,none⟩ (.int .i64 n1)).setCell ⟨w.heap.size,1,none⟩ (.int .i64 n2))=Y at *
  |have hQn:v3.heap[w.heap.size]? =some (.cells #[.string ⟨#[]⟩,.int .i64 0,.bool false] 75 (0,0)):=(hC3.block w.heap.size (by omega) (by omega)).trans HQ.out
   have hZ:=zset3 hQn (.string n1) (.int .i64 n2) (.bool n3)
   generalize (((v3.setCell ⟨w.heap.size,0,none⟩ (.string n1)).setCell ⟨w.heap.size,1,none⟩ (.int .i64 n2)).setCell ⟨w.heap.size,2,none⟩ (.bool n3))=Y at *
   have p2:Y.cell? ⟨w.heap.size,2,none⟩=some (.bool n3):=cW0 Y _ 2 _ _ _ hZ.1
 have p1:Y.cell? ⟨w.heap.size,1,none⟩=some (.int .i64 n2):=cW0 Y _ 1 _ _ _ hZ.1
 first
  |guard_hyp yT1:Th 1;have p0:Y.cell? ⟨w.heap.size,0,none⟩=some (.int .i64 n1):=cW0 Y _ 0 _ _ _ hZ.1
  |have p0:Y.cell? ⟨w.heap.size,0,none⟩=some (.string n1):=cW0 Y _ 0 _ _ _ hZ.1
 have hzY:=hZ.2.size
 have hz1:=hD1.size
 have hz2:=hD2.size
 first
  |done
  |guard_hyp yT1:Th 1
  |have hz3:=hD3.size
 have hzc0:=hC0.size
 first
  |guard_hyp yT1:Th 1;have hSY:CurAt Y b (strB l) kk2 qq2 r:=(hZ.2.block b hS2.lt (by omega)).trans hS2
   have hCY:Chg (·=b) w Y:=((Chg.of_below HbW.out _).trans hC2 (fun _ _ h=>h)).trans hZ.2 (fun i hi (h:i=w.heap.size)=>by omega)
  |have hSY:CurAt Y b (strB l) kk3 qq3 r:=(hZ.2.block b hS3.lt (by omega)).trans hS3
   have hCY:Chg (·=b) w Y:=((Chg.of_below HbW.out _).trans hC3 (fun _ _ h=>h)).trans hZ.2 (fun i hi (h:i=w.heap.size)=>by omega)
 have HSY:=hI0 hSY
 have HCY:=hI0 hCY
 first
  |guard_hyp yT1:Th 1;clear hSY hCY hQn hZ hzY hzc0 hS0 hC0 hS1 hC1 hD1 hz1 hS2 hC2 hD2 hz2
  |clear hSY hCY hQn hZ hzY hzc0 hS0 hC0 hS1 hC1 hD1 hz1 hS2 hC2 hD2 hz2 hS3 hC3 hD3 hz3
 go_wp2_with fail
 first
  |guard_hyp yT1:Th 1;exact bodyPost_ret (v:=.agg #[.int .i64 n1,.int .i64 n2]) (by simp [results,results98,go_sem,p0,p1]) rfl ⟨⟨n1,n2⟩,rfl,trivial,by first|rfl|(simp [id,id];done),HSY.out,HCY.out⟩
  |exact bodyPost_ret (v:=.agg #[.string n1,.int .i64 n2,.bool n3]) (by simp [results,results139,go_sem,p0,p1,p2]) rfl ⟨⟨n1,n2,n3⟩,rfl,trivial,by first|rfl|(simp [id,id];done),HSY.out,HCY.out⟩) : P := h ⟨⟩
theorem yq21 {P:Prop} (h:P:=by
 intro w' hSw;(try dsimp only at hSw);have c0:=cW1 (v:=.pointer (some ⟨b,0,none⟩)) 0 hSw rfl;go_simp<;>with_reducible rfl) : P := h
theorem yq27 {P:Prop} (h:P:=by
 intro w' hSw;(try dsimp only at hSw);have hmf:∀(fn:Fn) (first cap:Array Value) (w:World),(Instr.makeFunc fn first cap).run prog w=.ok (.func fn first cap) w:=fun _ _ _ _=>rfl;go_simp<;>with_reducible rfl) : P := h
theorem heldSkipQ {P:Program} {ops:Array Oper} {Q:Exit→Act→World→Prop} {md:Region.Mode} {S:World→Prop} {fuel:Nat} {listed:Array Bool} {a:Act} {w:World} (i:Nat) (dst:Option Tmp) {oi:Oper} {w':World} (hi:ops.toList[i]? =some oi) (hd:oi.dst=dst) (hr:Region.ready md ops listed=[i]) (hw:Region.wanted oi (yielded ops a.tmps)=true)
  (hrun:(execOp a.eval oi).run P w=.ok .skip w') (hS:S w')
  (h:wpAnyH P md ops Q S fuel (listed.setIfInBounds i true) (a.put dst undef) w'):wpAnyH P md ops Q S (fuel+1) listed a w:=by
 subst hd
 refine heldOp i hi hr hw ?_
 unfold Oper.wp
 rw [hrun]
 exact ⟨hS,h⟩
theorem keepQ {v v1 v2 Y:World} {b T:Nat} (h:Chg (·=b) v1 v2) (hY:Chg (·=T) v2 Y) (hb:b<v.heap.size) (hT:T<v.heap.size):Keeps (fun g=>v.heap.size≤g∧g<v1.heap.size) v1 Y:=fun g hg=>by
 have hz:=h.size
 exact (hY.block g (by omega) (fun e=>by have:=hg.1;omega)).trans (h.block g hg.2 (fun e=>by have:=hg.1;omega))
theorem txG_out:∀(n:Nat) (r o:List UInt8),r.length≤n→(txG r).2=some o→o.length≤r.length:=fun n r o hn h=>by
 obtain ⟨e1,_,_⟩:=txG_got n r o hn h
 have:=congrArg List.length e1
 rw [List.length_append,qB_len] at this
 simp only [List.length_cons] at this
 omega
theorem adv_num {l:List UInt8} {st:Nat×Bool} (h:st.1≤l.length):st.1≤(cnumI l st).2.1∧(cnumI l st).2.1≤l.length:=⟨cnumI_ge,cnumI_le h⟩
theorem adv_flag {l:List UInt8} {st:Nat×Bool} (h:st.1≤l.length):st.1≤(pFlag l st).2.1∧(pFlag l st).2.1≤l.length:=⟨tokI_ge,tokI_le h⟩
theorem adv_val {l:List UInt8} {st:Nat×Bool} (h:st.1≤l.length):st.1≤(pVal l st).2.1∧(pVal l st).2.1≤l.length:=by
 have ht:st.1≤(tokI l st).2.1∧(tokI l st).2.1≤l.length:=⟨tokI_ge,tokI_le h⟩
 unfold pVal
 split
 ·exact adv_text h
 ·split
  ·exact ht
  ·split
   ·exact ht
   ·split
    ·exact ht
    ·exact adv_num h
theorem adv_loop {α:Type} {l:List UInt8} {one:Nat×Bool→α×Nat×Bool} (ho:∀st:Nat×Bool,st.1≤l.length→st.1≤(one st).2.1∧(one st).2.1≤l.length):∀(k:Nat) (st:Nat×Bool),st.1≤l.length→st.1≤(pLoop one k st).2.1∧(pLoop one k st).2.1≤l.length
 |0,_,h=>⟨Nat.le_refl _,h⟩
 |k+1,st,h=>by
  unfold pLoop
  split
  ·exact ⟨Nat.le_refl _,h⟩
  ·have h1:=ho st h
   have h2:=adv_loop ho k (one st).2 h1.2
   simp only
   omega
theorem adv_many {α:Type} {one:Nat×Bool→α×Nat×Bool} {l:List UInt8} (ho:∀st:Nat×Bool,st.1≤l.length→st.1≤(one st).2.1∧(one st).2.1≤l.length) {st:Nat×Bool} (h:st.1≤l.length):st.1≤(pMany l one st).2.1∧(pMany l one st).2.1≤l.length:=by
 have h1:=adv_num h
 have h2:=adv_loop ho (cnumI l st).1.toNat ((cnumI l st).2.1,(cnumI l st).2.2||decide ((cnumI l st).1<0)) h1.2
 unfold pMany
 simp only at h2 ⊢
 omega
theorem adv_per {l:List UInt8} {st:Nat×Bool} (h:st.1≤l.length):st.1≤(pPer l st).2.1∧(pPer l st).2.1≤l.length:=by
 have h1:=adv_num h
 have h2:=adv_num h1.2
 unfold pPer
 simp only
 omega
theorem adv_col {l:List UInt8} {st:Nat×Bool} (h:st.1≤l.length):st.1≤(pCol l st).2.1∧(pCol l st).2.1≤l.length:=by
 have h1:=adv_text h
 have h2:=adv_num h1.2
 have h3:=adv_flag h2.2
 unfold pCol
 simp only
 omega
theorem adv_for {l:List UInt8} {st:Nat×Bool} (h:st.1≤l.length):st.1≤(pFor l st).2.1∧(pFor l st).2.1≤l.length:=by
 have h1:=adv_many (one:=cnumI l) (fun st h=>adv_num h) h
 have h2:=adv_text h1.2
 unfold pFor
 simp only
 omega
theorem adv_exp {l:List UInt8}:∀(n:Nat) {st:Nat×Bool},st.1≤l.length→st.1≤(pExp l n st).2.1∧(pExp l n st).2.1≤l.length
 |0,_,h=>⟨Nat.le_refl _,h⟩
 |n+1,st,h=>by
  have h1:=adv_num h
  have h2:=adv_num h1.2
  have h3:=adv_val h2.2
  have h4:=adv_text h3.2
  have h5:=adv_many (one:=pExp l n) (fun st h=>adv_exp n h) h4.2
  unfold pExp
  simp only
  omega
theorem advI (l:List UInt8):Adv l (cnumI l):=bk_num.gt (fun x _=>by simp [numI]) (fun st h=>adv_num h)
theorem advV (l:List UInt8):Adv l (pVal l):=bk_val.gt (fun x _=>by simp [litI]) (fun st h=>adv_val h)
theorem advC (l:List UInt8):Adv l (pCol l):=bk_col.gt (fun x _=>by simp [colI]) (fun st h=>adv_col h)
theorem advF (l:List UInt8):Adv l (pFor l):=bk_for.gt (fun x _=>by simp [forI,lstI]) (fun st h=>adv_for h)
theorem advX (l:List UInt8) (n:Nat):Adv l (pExp l n):=Bk.gt (one:=fun l=>pExp l n) (bk_exp n) (fun x _=>by obtain ⟨op,it,v,nm,A,c,args⟩:=x;rw [exI_eq];simp) (fun st h=>adv_exp n h)
theorem cnumQ_any (b:Nat) (l:List UInt8) (i:Nat) (d:Bool) (r:List Value) (w:World) (he:EnvP b w) (h:CurAt w b (strB l) i d r) (hi:i≤l.length) (hl:l.length≤4294967281):
  Calls prog 93 #[.pointer (some ⟨b,0,none⟩)] w (OneQ (fun x:Int=>.int .i64 x) (isC (fun _:Int=>True)) id b l r (cnumI l (i,d)) w):=
 (cnum_any b l i d r w he h hi hl).mono fun _ _ ⟨a1,a2,a3⟩=>⟨_,a1,trivial,rfl,a2,a3⟩
theorem zset2 {w:World} {T:Nat} {a0 a1:Value} {e:TypeId} (h:w.heap[T]? =some (.cells #[a0,a1] e (0,0))) (c0 c1:Value):((w.setCell ⟨T,0,none⟩ c0).setCell ⟨T,1,none⟩ c1).heap[T]? =some (.cells #[c0,c1] e (0,0))∧Chg (·=T) w ((w.setCell ⟨T,0,none⟩ c0).setCell ⟨T,1,none⟩ c1):=by
 have h0:=heap_setCell_same w T 0 _ _ c0 h
 have h1:=heap_setCell_same _ T 1 _ _ c1 h0
 exact ⟨by simpa using h1,((Chg.refl (·=T) w).setCell (p:=⟨T,0,none⟩) (.inl rfl) c0).setCell (p:=⟨T,1,none⟩) (.inl rfl) c1⟩
theorem zset3 {w:World} {T:Nat} {a0 a1 a2:Value} {e:TypeId} (h:w.heap[T]? =some (.cells #[a0,a1,a2] e (0,0))) (c0 c1 c2:Value):(((w.setCell ⟨T,0,none⟩ c0).setCell ⟨T,1,none⟩ c1).setCell ⟨T,2,none⟩ c2).heap[T]? =some (.cells #[c0,c1,c2] e (0,0))∧Chg (·=T) w (((w.setCell ⟨T,0,none⟩ c0).setCell ⟨T,1,none⟩ c1).setCell ⟨T,2,none⟩ c2):=by
 have h0:=heap_setCell_same w T 0 _ _ c0 h
 have h1:=heap_setCell_same _ T 1 _ _ c1 h0
 have h2:=heap_setCell_same _ T 2 _ _ c2 h1
 exact ⟨by simpa using h2,(((Chg.refl (·=T) w).setCell (p:=⟨T,0,none⟩) (.inl rfl) c0).setCell (p:=⟨T,1,none⟩) (.inl rfl) c1).setCell (p:=⟨T,2,none⟩) (.inl rfl) c2⟩
theorem pper_any (b:Nat) (l:List UInt8) (i:Nat) (d:Bool) (r:List Value) (w:World) (he:EnvP b w) (h:CurAt w b (strB l) i d r) (_:0<i) (hi:i≤l.length) (hl:l.length≤4294967281):
  Calls prog 98 #[.pointer (some ⟨b,0,none⟩)] w (OneQ (fun p:Int×Int=>.agg #[.int .i64 p.1,.int .i64 p.2]) (isC (fun _:Int×Int=>True)) id b l r (pPer l (i,d)) w):=by
 exact yq1 1
theorem pcol_any (b:Nat) (l:List UInt8) (i:Nat) (d:Bool) (r:List Value) (w:World) (he:EnvP b w) (h:CurAt w b (strB l) i d r) (_:0<i) (hi:i≤l.length) (hl:l.length≤4294967281):
  Calls prog 139 #[.pointer (some ⟨b,0,none⟩)] w (OneQ (fun x:RCol=>.agg x.enc.toArray) (isC (fun _:RCol=>True)) id b l r (pCol l (i,d)) w):=by
 exact yq1 0
theorem pfor_any (b LB:Nat) (l:List UInt8) (i:Nat) (d:Bool) (r:List Value) (w:World) (he:EnvP b w) (h:CurAt w b (strB l) i d r) (h0:0<i) (hi:i≤l.length) (hl:l.length≤4294967281) (hcap0:w.heap[LB]? =some (.cells #[.pointer (some ⟨b,0,none⟩)] 175 (0,0))) (hne0:LB≠b):
  Calls prog 142 #[.pointer (some ⟨LB,0,none⟩)] w (OneQ (fun x:RFor=>.agg x.enc.toArray) RFor.is RFor.er b l r (pFor l (i,d)) w):=by
 rcases h1:pMany l (cnumI l) (i,d) with ⟨xs1,kk1,qq1⟩
 have u1:i≤kk1∧kk1≤l.length:=by have u:=adv_many (advI l).le (l:=l) (st:=(i,d)) hi;rw [h1] at u;exact u
 rcases h2:pText l (kk1,qq1) with ⟨n2,kk2,qq2⟩
 have u2:kk1≤kk2∧kk2≤l.length:=by have u:=adv_text (l:=l) (st:=(kk1,qq1)) u1.2;rw [h2] at u;exact u
 have hd:pFor l (i,d)=((⟨none,0,xs1,n2⟩:RFor),kk2,qq2):=by unfold pFor;simp only [h1,h2]
 rw [hd]
 obtain ⟨W,hW⟩:=eN0 (w.alloc (.cells #[.slice none 0 0,.string ⟨#[]⟩] 158))
 have hR:=h.lt
 have hbW:=bN0 hW
 have hWs:=sN0 hW
 have hQ:=hN0 hW
 have hS0:CurAt W.drew b (strB l) i d r:=h.below hbW.drew
 have hC0:Chg (·=b) W W.drew:=(Chg.refl _ _).drew
 have hEV:∀V,Chg (·=b) W V→EnvP b V:=fun V hV=>he.chg ((Chg.of_below hbW _).trans hV (fun _ _ h=>h)) (Nat.le_of_lt hR)
 have hcW0:∀V,Chg (·=b) W V→V.heap[LB]? =some (.cells #[.pointer (some ⟨b,0,none⟩)] 175 (0,0)):=fun V hV=>(hV.block LB (by have:=(Array.getElem?_eq_some_iff.1 hcap0).1;omega) hne0).trans ((hbW.block LB (Array.getElem?_eq_some_iff.1 hcap0).1).trans hcap0)
 have HCW0:=hI0 hcW0
 have HLT0:Hid (LB<w.heap.size):=hI0 (Array.getElem?_eq_some_iff.1 hcap0).1
 have K1:∀V,CurAt V b (strB l) i d r→Chg (·=b) W V→Calls prog 140 #[.pointer (some ⟨b,0,none⟩),.func (.func 93) #[.pointer (some ⟨b,0,none⟩)] #[]] V (ManyQ 1 intE (isC (fun _:Int=>True)) id b l r (xs1,kk1,qq1) V):=fun V hs hV=>by
  have k:=manyInt_any b l (cnumI l) 93 (entQ func93) i d r V (hEV V hV) hs (by omega) (by omega) hl (advI l) (fun k q U hsU hU hk0 hk1=>cnumQ_any b l k q r U (hEV U (hV.trans hU (fun _ _ h=>h))) hsU hk1 hl)
  rw [h1] at k
  exact k
 have K2:∀V,CurAt V b (strB l) kk1 qq1 r→Chg (·=b) W V→Calls prog 96 #[.pointer (some ⟨b,0,none⟩)] V fun x w'=>x=.returned (.string n2)∧CurAt w' b (strB l) kk2 qq2 r∧Chg (·=b) V w':=fun V hs hV=>by
  have k:=text_any b l kk1 qq1 r V hs (by omega) hl
  rw [h2] at k
  exact k
 have HQ:=hI0 hQ
 have HbW:=hI0 hbW
 clear h hd hEV hQ hbW he hcap0 hcW0 h1 u1 h2 u2
 go_in
 go_wp2_with fail
 rw [←hW]
 clear hW
 refine wp_region_noPanic ?_
 refine wp_region_held_drew (S:=(fun Y:World=>Y.heap[LB]? =some (.cells #[.pointer (some ⟨b,0,none⟩)] 175 (0,0)))) (by kernel_rfl) ?_ (fun zh=>?_)
 ·exact HCW0.out _ hC0
 refine hU 0 2 (v:=?_) zh ?_ ?_
 rotate_left
 ·exact yq21
 refine hU 1 3 (v:=?_) zh ?_ ?_
 rotate_left
 ·exact yq21
 refine hT 2 4 ?_
 refine hT 3 5 ?_
 refine hU 4 6 (v:=?_) zh ?_ ?_
 rotate_left
 ·exact yq27
 refine hU 6 8 (v:=?_) zh ?_ ?_
 rotate_left
 ·exact yq21
 refine hT 7 9 ?_
 refine hT 8 10 ?_
 refine hC 5 7 ?_
 (with_reducible refine (K1 _ hS0 hC0).mono ?_)
 rintro _ v1 ⟨u1,Q1,rfl,hU1,hI1,hE1,hS1,hD1⟩
 rw [List.map_id] at hE1
 obtain ⟨A1,c1,rfl⟩:=rdQ_slice hU1
 have HU1:=hI0 hU1
 have HI1:=hI0 hI1
 have HE1:=hI0 hE1
 clear hU1 hI1 hE1
 have hC1:Chg (·=b) W v1:=hC0.trans hD1 (fun _ _ h=>h)
 refine ⟨_,rfl,keepAnd (HCW0.out _ hC1) ?_⟩
 clear zh
 intro zh
 simp only [aP]
 refine hC 9 11 ?_
 (with_reducible refine (K2 _ hS1 hC1).mono ?_)
 rintro _ v2 ⟨rfl,hS2,hD2⟩
 have hC2:Chg (·=b) W v2:=hC1.trans hD2 (fun _ _ h=>h)
 refine ⟨_,rfl,keepAnd (HCW0.out _ hC2) ?_⟩
 clear zh
 intro zh
 simp only [aP]
 refine hT 10 12 ?_
 have hNew:(fun Y:World=>Y.heap[LB]? =some (.cells #[.pointer (some ⟨b,0,none⟩)] 175 (0,0))) (((v2.setCell ⟨w.heap.size,0,none⟩ (.slice A1 Q1.length c1)).setCell ⟨w.heap.size,1,none⟩ (.string n2))):=by (have hQn:v2.heap[w.heap.size]? =some (.cells #[.slice none 0 0,.string ⟨#[]⟩] 158 (0,0)):=(hC2.block w.heap.size (by omega) (by omega)).trans HQ.out;have hZ:=zset2 hQn (.slice A1 Q1.length c1) (.string n2);exact (hZ.2.block LB (Array.getElem?_eq_some_iff.1 (HCW0.out _ hC2)).1 (by have:=HLT0.out;omega)).trans (HCW0.out _ hC2))
 refine heldSkipQ 11 none (w':=((v2.setCell ⟨w.heap.size,0,none⟩ (.slice A1 Q1.length c1)).setCell ⟨w.heap.size,1,none⟩ (.string n2))) rfl rfl (by kernel_rfl) (by rfl) ?_ hNew ?_
 ·have hQn:v2.heap[w.heap.size]? =some (.cells #[.slice none 0 0,.string ⟨#[]⟩] 158 (0,0)):=(hC2.block w.heap.size (by omega) (by omega)).trans HQ.out;have p1:v2.cell? ⟨w.heap.size,1,none⟩=some (.string ⟨#[]⟩):=cW0 v2 _ 1 _ _ _ hQn;have p0:v2.cell? ⟨w.heap.size,0,none⟩=some (.slice none 0 0):=cW0 v2 _ 0 _ _ _ hQn;have g0:v2.frozen? ⟨w.heap.size,0,none⟩=false:=fW0 v2 _ 0 _ _ hQn;have g1:v2.frozen? ⟨w.heap.size,1,none⟩=false:=fW0 v2 _ 1 _ _ hQn;go_simp<;>with_reducible rfl
 clear zh
 have zh:=hNew
 clear hNew
 simp only [Act.put]
 refine rD0 ?_
 clear zh
 have hQn:v2.heap[w.heap.size]? =some (.cells #[.slice none 0 0,.string ⟨#[]⟩] 158 (0,0)):=(hC2.block w.heap.size (by omega) (by omega)).trans HQ.out
 have hZ:=zset2 hQn (.slice A1 Q1.length c1) (.string n2)
 generalize ((v2.setCell ⟨w.heap.size,0,none⟩ (.slice A1 Q1.length c1)).setCell ⟨w.heap.size,1,none⟩ (.string n2))=Y at *
 have p1:Y.cell? ⟨w.heap.size,1,none⟩=some (.string n2):=cW0 Y _ 1 _ _ _ hZ.1
 have p0:Y.cell? ⟨w.heap.size,0,none⟩=some (.slice A1 Q1.length c1):=cW0 Y _ 0 _ _ _ hZ.1
 have hzY:=hZ.2.size
 have hz1:=hD1.size
 have hz2:=hD2.size
 have hzc0:=hC0.size
 have hk1:Keeps (fun g=>W.drew.heap.size≤g∧g<v1.heap.size) v1 Y:=keepQ (v:=W.drew) ((Chg.refl (·=b) v1).trans hD2 (fun _ _ h=>h)) hZ.2 (by have:=hC0.size;omega) (by have:=hC0.size;omega)
 have hw1:∀g,(W.drew.heap.size≤g∧g<v1.heap.size)→(w.heap.size≤g∧g<Y.heap.size):=fun g hg=>⟨by have:=hC0.size;omega,by omega⟩
 have hRw1:RdE 1 intE Y (fun g=>w.heap.size≤g∧g<Y.heap.size) (.slice A1 Q1.length c1) Q1:=Rd.wide (Rd.keep HU1.out hk1) hw1
 have hRi1:∀p∈Q1,(isC (fun _:Int=>True)) Y (fun g=>w.heap.size≤g∧g<Y.heap.size) p:=fun p hp=>(isQ_C _).wide ((isQ_C _).keep (HI1.out p hp) hk1) hw1
 have hSY:CurAt Y b (strB l) kk2 qq2 r:=(hZ.2.block b hS2.lt (by omega)).trans hS2
 have hCY:Chg (·=b) w Y:=((Chg.of_below HbW.out _).trans hC2 (fun _ _ h=>h)).trans hZ.2 (fun i hi (h:i=w.heap.size)=>by omega)
 have HSY:=hI0 hSY
 have HCY:=hI0 hCY
 have HRw1:=hI0 hRw1
 have HRi1:=hI0 hRi1
 clear hSY hCY hQn hZ hzY hzc0 hS0 hC0 hS1 hC1 hD1 hz1 hS2 hC2 hD2 hz2 hk1 hw1 hRw1 hRi1
 go_wp2_with fail
 exact bodyPost_ret (v:=.agg #[.slice A1 Q1.length c1,.string n2]) (by simp [results,results142,go_sem,p0,p1]) rfl ⟨⟨A1,c1,Q1,n2⟩,rfl,HRw1.out,by first|rfl|(simp [RFor.er,HE1.out];done),HSY.out,HCY.out⟩
end Go.Proofs.YtgfhknnklapldaaGreatDoor
