/-
 DcE
-/
import Derived.Test.YtbfdegkickjbpaaGreatGDcC
namespace Go.Proofs.YtbfdegkickjbpaaGreat
set_option maxRecDepth 1000000
set_option maxHeartbeats 32000000
open Go.RowKit Go.Lib Go.IntWalk Go.Sort Go.Shelf
theorem srcText_any (R:Nat) (v:Value) (l:List UInt8) (s:Int×Int) (w:World) (h:SrcAt w R v s) (hv:RdB w (·<R) v l):
  Calls Tryz.prog 122 #[.pointer (some ⟨R,0,none⟩)] w fun x w'=>x=.returned (.string (rdT l s).1)∧SrcAt w' R v (rdT l s).2∧Chg (·=R) w w':=by
 obtain ⟨k,er⟩:=s
 have hR:=h.lt
 have c0:w.cell? ⟨R,0,none⟩=some v:=cW0 w R 0 _ _ _ h
 have c1:w.cell? ⟨R,1,none⟩=some (.int .i64 k):=cW0 w R 1 _ _ _ h
 have c2:w.cell? ⟨R,2,none⟩=some (.int .i64 er):=cW0 w R 2 _ _ _ h
 have H:=hI0 h
 have HV:=hI0 hv
 clear h hv
 by_cases he:er=0
 case neg=>
  rw [show rdT l (k,er)=(⟨#[]⟩,k,er) from rdS_no he]
  go_enter Tryz.func122,Tryz.ntmps122
  go_wp2_with fail
  go_ret
  exact ⟨rfl,H.out,Chg.refl _ _⟩
 subst he
 rcases hd:decT l k 200 with ⟨n,m,e⟩
 rw [show rdT l (k,0)=(strB n,if e=0 then (m,0) else (k,e)) from rdS_go (dec:=fun k=>(strB (decT l k 200).1,(decT l k 200).2)) (by simp only [hd])]
 have KI:∀W,Below w.heap.size w W→Calls Tryz.prog 190 #[v,.int .i64 k,.int .i64 200] W (Text3 (n,m,e) W):=fun W hW=>by
  rw [←hd]
  exact text_any (·<R) v l k 200 W (Rd.keep HV.out (fun b (hb:b<R)=>hW.block b (by omega)))
 generalize hst:(if e=0 then (m,(0:Int)) else (k,e))=st
 have HS:Hid (∀W,SrcAt W R v (k,0)→Calls Tryz.prog 161 #[.pointer (some ⟨R,0,none⟩),.int .i64 m,.int .i64 e] W fun x w'=>(∃b,x=.returned (.bool b))∧SrcAt w' R v st∧Chg (·=R) W w'):=hI0 (fun W h=>(step_any R v k m e W h).mono fun _ _ ⟨h1,h2,h3⟩=>⟨⟨_,h1⟩,by rw [←hst];exact h2,h3⟩)
 clear hst
 clear hd
 go_enter Tryz.func122,Tryz.ntmps122
 go_wp2_with fail
 refine wp_region_noPanic ?_
 refine wp_region_held_drew (S:=(fun w'=>Below w.heap.size w w')) (by kernel_rfl) ?_ (fun hHeld=>?_)
 ·exact (Below.refl _ _).drew
 refine hT 0 12 hHeld ?_
 simp only [aP]
 refine hT 1 13 hHeld ?_
 simp only [aP]
 refine hT 2 14 hHeld ?_
 simp only [aP]
 refine hU 3 15 (v:=?_) hHeld ?_ ?_
 rotate_left
 ·intro w' hSw;(try dsimp only at hSw);have q0:=(World.cell?_of_block (w:=w) (a:=⟨R,0,none⟩) (hSw.block R hR)).trans c0;go_simp<;>with_reducible rfl
 simp only [aP]
 refine hT 4 16 hHeld ?_
 simp only [aP]
 refine hT 5 17 hHeld ?_
 simp only [aP]
 refine hT 6 18 hHeld ?_
 simp only [aP]
 refine hU 7 19 (v:=?_) hHeld ?_ ?_
 rotate_left
 ·intro w' hSw;(try dsimp only at hSw);have q0:=(World.cell?_of_block (w:=w) (a:=⟨R,1,none⟩) (hSw.block R hR)).trans c1;go_simp<;>with_reducible rfl
 simp only [aP]
 refine hC 8 20 ?_
 (with_reducible refine (KI _ (Below.refl _ _).drew).mono ?_)
 rintro _ _ ⟨rfl,rfl⟩
 refine ⟨_,rfl,keepAnd ?_ (fun hNew=>?_)⟩
 ·exact (Below.refl _ _).drew
 clear hHeld
 have hHeld:=hNew
 clear hNew
 simp only [aP]
 refine hT 9 11 hHeld ?_
 simp only [aP]
 refine hT 10 21 hHeld ?_
 simp only [aP]
 refine hT 11 22 hHeld ?_
 simp only [aP]
 refine hT 12 23 hHeld ?_
 simp only [aP]
 refine hT 13 3 hHeld ?_
 simp only [aP]
 refine hT 14 4 hHeld ?_
 simp only [aP]
 refine hT 15 5 hHeld ?_
 simp only [aP]
 refine wpAnyH_done (by kernel_rfl) ?_ _
 refine NoPanic.normal ?_
 clear hHeld
 go_wp2_with fail
 (with_reducible refine (HS.out _ (SrcAt.below H.out (Below.refl _ _).drew)).mono ?_)
 rintro _ w2 ⟨⟨b2,rfl⟩,hs2,hc2⟩
 go_wp2_with fail
 go_ret
 exact ⟨rfl,hs2,(Chg.refl _ _).drew.trans hc2 (fun _ _ h=>h)⟩
theorem three_set {w:World} {T:Nat} {a b c:Value} {e:TypeId} (h:w.heap[T]? =some (.cells #[a,b,c] e (0,0))) (x y z:Value):(((w.setCell ⟨T,0,none⟩ x).setCell ⟨T,1,none⟩ y).setCell ⟨T,2,none⟩ z).heap[T]? =some (.cells #[x,y,z] e (0,0)):=by
 have h1:=heap_setCell_same w T 0 _ _ x h
 have h2:=heap_setCell_same _ T 1 _ _ y h1
 have h3:=heap_setCell_same _ T 2 _ _ z h2
 simpa using h3
theorem srcValue_any (R:Nat) (v:Value) (l:List UInt8) (s:Int×Int) (w:World) (h:SrcAt w R v s) (hv:RdB w (·<R) v l):
  Calls Tryz.prog 164 #[.pointer (some ⟨R,0,none⟩)] w fun x w'=>x=.returned (.agg (rdV l s).1.cells.toArray)∧SrcAt w' R v (rdV l s).2∧Chg (·=R) w w':=by
 obtain ⟨k,er⟩:=s
 have hR:=h.lt
 have c0:w.cell? ⟨R,0,none⟩=some v:=cW0 w R 0 _ _ _ h
 have c1:w.cell? ⟨R,1,none⟩=some (.int .i64 k):=cW0 w R 1 _ _ _ h
 have c2:w.cell? ⟨R,2,none⟩=some (.int .i64 er):=cW0 w R 2 _ _ _ h
 have H:=hI0 h
 have HV:=hI0 hv
 clear h hv
 by_cases he:er=0
 case neg=>
  rw [show rdV l (k,er)=(zeroV,k,er) from rdS_no he]
  have hQ:(w.alloc (.cells #[.int .i64 0,.int .i64 0,.string ⟨#[]⟩] 79)).heap[w.heap.size]? =some (.cells #[.int .i64 0,.int .i64 0,.string ⟨#[]⟩] 79 (0,0)):=heap_alloc_new _ _
  have p0:(w.alloc (.cells #[.int .i64 0,.int .i64 0,.string ⟨#[]⟩] 79)).cell? ⟨w.heap.size,0,none⟩=some (.int .i64 0):=cW0 (w.alloc (.cells #[.int .i64 0,.int .i64 0,.string ⟨#[]⟩] 79)) _ 0 _ _ _ hQ
  have p1:(w.alloc (.cells #[.int .i64 0,.int .i64 0,.string ⟨#[]⟩] 79)).cell? ⟨w.heap.size,1,none⟩=some (.int .i64 0):=cW0 (w.alloc (.cells #[.int .i64 0,.int .i64 0,.string ⟨#[]⟩] 79)) _ 1 _ _ _ hQ
  have p2:(w.alloc (.cells #[.int .i64 0,.int .i64 0,.string ⟨#[]⟩] 79)).cell? ⟨w.heap.size,2,none⟩=some (.string ⟨#[]⟩):=cW0 (w.alloc (.cells #[.int .i64 0,.int .i64 0,.string ⟨#[]⟩] 79)) _ 2 _ _ _ hQ
  have hb:Below w.heap.size w (w.alloc (.cells #[.int .i64 0,.int .i64 0,.string ⟨#[]⟩] 79)):=Below.of_alloc _
  have c2':(w.alloc (.cells #[.int .i64 0,.int .i64 0,.string ⟨#[]⟩] 79)).cell? ⟨R,2,none⟩=some (.int .i64 er):=(World.cell?_of_block (hb.block R hR)).trans c2
  have HB:=hI0 hb
  clear hb hQ
  go_enter Tryz.func164,Tryz.ntmps164
  go_wp2_with fail
  refine bodyPost_ret (v:=.agg #[.int .i64 0,.int .i64 0,.string ⟨#[]⟩]) (by simp [results,Tryz.results164,go_sem]) rfl ⟨rfl,?_,?_⟩
  ·exact SrcAt.below H.out HB.out
  ·exact Chg.of_below HB.out _
 subst he
 rcases hd:decV l k with ⟨⟨f,t,u⟩,m,e⟩
 rw [show rdV l (k,0)=(⟨f,t,u⟩,if e=0 then (m,0) else (k,e)) from rdS_go hd]
 generalize hst:(if e=0 then (m,(0:Int)) else (k,e))=st
 have HS:Hid (∀W,SrcAt W R v (k,0)→Calls Tryz.prog 161 #[.pointer (some ⟨R,0,none⟩),.int .i64 m,.int .i64 e] W fun x w'=>(∃b,x=.returned (.bool b))∧SrcAt w' R v st∧Chg (·=R) W w'):=hI0 (fun W h=>(step_any R v k m e W h).mono fun _ _ ⟨h1,h2,h3⟩=>⟨⟨_,h1⟩,by rw [←hst];exact h2,h3⟩)
 clear hst
 obtain ⟨W,hW⟩:∃W,W=w.alloc (.cells #[.int .i64 0,.int .i64 0,.string ⟨#[]⟩] 79):=⟨_,rfl⟩
 have hbW:Below w.heap.size w W:=by rw [hW];exact Below.of_alloc _
 have hWs:W.heap.size=w.heap.size+1:=by rw [hW];simp
 have hQ:W.heap[w.heap.size]? =some (.cells #[.int .i64 0,.int .i64 0,.string ⟨#[]⟩] 79 (0,0)):=by rw [hW];exact heap_alloc_new _ _
 have KI:∀V,Below W.heap.size W V→Calls Tryz.prog 221 #[v,.int .i64 k] V (Value3 (⟨f,t,u⟩,m,e) V):=fun V hV=>by
  rw [←hd]
  exact value_any v l k V ((Rd.keep HV.out (fun b (hb:b<R)=>(hV.block b (by omega)).trans (hbW.block b (by omega)))).wide (fun b (hb:b<R)=>by show b<V.heap.size;have:=hV.size;omega))
 have c0':W.cell? ⟨R,0,none⟩=some v:=(World.cell?_of_block (hbW.block R hR)).trans c0
 have c1':W.cell? ⟨R,1,none⟩=some (.int .i64 k):=(World.cell?_of_block (hbW.block R hR)).trans c1
 have c2':W.cell? ⟨R,2,none⟩=some (.int .i64 0):=(World.cell?_of_block (hbW.block R hR)).trans c2
 have HW:Hid (SrcAt W R v (k,0)):=hI0 (H.out.below hbW)
 have c3:(w.alloc (.cells #[.int .i64 0,.int .i64 0,.string ⟨#[]⟩] 79)).cell? ⟨R,2,none⟩=some (.int .i64 0):=by rw [←hW];exact c2'
 have HQ:=hI0 hQ
 have HbW:=hI0 hbW
 have hRW:R<W.heap.size:=by omega
 have hB0:Below W.heap.size W W.drew:=(Below.refl _ _).drew
 show Calls _ _ _ _ (fun x w'=>x=.returned (.agg #[.int .i64 f,.int .i64 t,.string u])∧SrcAt w' R v st∧Chg (·=R) w w')
 clear hd c0 c1 c2 hQ hbW
 go_enter Tryz.func164,Tryz.ntmps164
 go_wp2_with fail
 rw [←hW]
 clear hW c3
 refine wp_region_noPanic ?_
 refine beginT (S:=(fun w'=>Below W.heap.size W w')) 16 (by kernel_rfl) ?_ (fun hHeld=>?_)
 ·exact hB0
 refine tT 0 13 hHeld ?_
 simp only [aP]
 refine tT 1 14 hHeld ?_
 simp only [aP]
 refine tT 2 15 hHeld ?_
 simp only [aP]
 refine tU 3 16 (v:=?_) hHeld ?_ ?_
 rotate_left
 ·intro w' hSw;(try dsimp only at hSw);have q0:=(World.cell?_of_block (w:=W) (a:=⟨R,0,none⟩) (hSw.block R hRW)).trans c0';go_simp<;>with_reducible rfl
 simp only [aP]
 refine tT 4 17 hHeld ?_
 simp only [aP]
 refine tT 5 18 hHeld ?_
 simp only [aP]
 refine tT 6 19 hHeld ?_
 simp only [aP]
 refine tU 7 20 (v:=?_) hHeld ?_ ?_
 rotate_left
 ·intro w' hSw;(try dsimp only at hSw);have q0:=(World.cell?_of_block (w:=W) (a:=⟨R,1,none⟩) (hSw.block R hRW)).trans c1';go_simp<;>with_reducible rfl
 simp only [aP]
 refine fork2 8 13 (by kernel_rfl) ?_ ?_
 ·refine fC 8 21 ?_
  (with_reducible refine (KI _ hB0).mono ?_)
  rintro _ w3 ⟨rfl,hb3'⟩
  have hB3:Below W.heap.size W w3:=hB0.trans (hb3'.mono hB0.size)
  refine ⟨_,rfl,?_⟩
  refine keepAnd ?_ (fun hNew=>?_)
  ·intro _;exact hB3
  have hNew:=hNew (by decide)
  clear hHeld
  have hHeld:=hNew
  clear hNew
  simp only [aP]
  refine tT 9 12 hHeld ?_
  simp only [aP]
  refine tT 10 22 hHeld ?_
  simp only [aP]
  refine tT 11 23 hHeld ?_
  simp only [aP]
  refine tT 12 24 hHeld ?_
  simp only [aP]
  refine fork1 13 (by kernel_rfl) ?_
  refine runF 13 (some 3) (v:=.pointer (some ⟨w3.heap.size,0,none⟩)) (w':=w3.alloc (.cells #[.int .i64 0,.int .i64 0,.string ⟨#[]⟩] 79)) rfl rfl (by rfl) ?_ ?_
  ·go_simp<;>with_reducible rfl
  obtain ⟨T,hTe⟩:∃T,T=w3.heap.size:=⟨_,rfl⟩
  rw [←hTe]
  obtain ⟨X,hX⟩:∃X,X=w3.alloc (.cells #[.int .i64 0,.int .i64 0,.string ⟨#[]⟩] 79):=⟨_,rfl⟩
  rw [←hX]
  have hBX:Below W.heap.size W X:=by rw [hX];exact hB3.alloc hB3.size _
  have hTX:X.heap[T]? =some (.cells #[.int .i64 0,.int .i64 0,.string ⟨#[]⟩] 79 (0,0)):=by rw [hX,hTe];exact heap_alloc_new _ _
  have hTl:T<X.heap.size:=by rw [hX,hTe];simp
  have hTW:W.heap.size≤T:=by rw [hTe];exact hB3.size
  clear hX hTe
  refine keepAnd ?_ (fun hNew=>?_)
  ·intro _;exact hBX
  have hNew:=hNew (by decide)
  clear hHeld
  have hHeld:=hNew
  clear hNew
  simp only [aP]
  refine fork1 14 (by kernel_rfl) ?_
  refine skipRunF 14 none (w':=(((X.setCell ⟨T,0,none⟩ (.int .i64 f)).setCell ⟨T,1,none⟩ (.int .i64 t)).setCell ⟨T,2,none⟩ (.string u))) rfl rfl (by rfl) ?_ ?_
  ·have q0:X.cell? ⟨T,0,none⟩=some (.int .i64 0):=cW0 X T 0 _ _ _ hTX;have q1:X.cell? ⟨T,1,none⟩=some (.int .i64 0):=cW0 X T 1 _ _ _ hTX;have q2:X.cell? ⟨T,2,none⟩=some (.string ⟨#[]⟩):=cW0 X T 2 _ _ _ hTX;have p0:X.frozen? ⟨T,0,none⟩=false:=fW0 X T 0 _ _ hTX;have p1:X.frozen? ⟨T,1,none⟩=false:=fW0 X T 1 _ _ hTX;have p2:X.frozen? ⟨T,2,none⟩=false:=fW0 X T 2 _ _ hTX;go_simp<;>with_reducible rfl
  obtain ⟨Y,hY⟩:∃Y,Y=(((X.setCell ⟨T,0,none⟩ (.int .i64 f)).setCell ⟨T,1,none⟩ (.int .i64 t)).setCell ⟨T,2,none⟩ (.string u)):=⟨_,rfl⟩
  rw [←hY]
  have hBY:Below W.heap.size W Y:=by rw [hY];exact ((hBX.setCell (p:=⟨T,0,none⟩) hTW _).setCell (p:=⟨T,1,none⟩) hTW _).setCell (p:=⟨T,2,none⟩) hTW _
  have hTY:Y.heap[T]? =some (.cells #[.int .i64 f,.int .i64 t,.string u] 79 (0,0)):=by rw [hY];exact three_set hTX _ _ _
  clear hY
  refine keepAnd ?_ (fun hNew=>?_)
  ·intro _;exact hBY
  have hNew:=hNew (by decide)
  clear hHeld
  have hHeld:=hNew
  clear hNew
  simp only [Act.put]
  refine tT 15 4 hHeld ?_
  simp only [aP]
  refine fork1 16 (by kernel_rfl) ?_
  refine runF 16 (some 5) (v:=?_) (w':=?_) rfl rfl (by rfl) ?_ ?_
  rotate_left 2
  ·go_simp<;>first|with_reducible rfl|(constructor<;>with_reducible rfl)
  refine ⟨fun h=>absurd rfl h,?_⟩
  clear hHeld
  simp only [aP]
  refine doneT (by kernel_rfl) ?_ _
  refine NoPanic.normal ?_
  go_wp2_with fail
  (with_reducible refine (HS.out _ (SrcAt.below HW.out hBY)).mono ?_)
  rintro _ w2 ⟨⟨b2,rfl⟩,hs2,hc2⟩
  have hlY:T<Y.heap.size:=(Array.getElem?_eq_some_iff.1 hTY).1
  have hT2:w2.heap[T]? =some (.cells #[.int .i64 f,.int .i64 t,.string u] 79 (0,0)):=(hc2.block T hlY (by omega)).trans hTY
  have hsY:=hBY.size
  have hQ2:w2.heap[w.heap.size]? =some (.cells #[.int .i64 0,.int .i64 0,.string ⟨#[]⟩] 79 (0,0)):=(hc2.block w.heap.size (by omega) (by omega)).trans ((hBY.block w.heap.size (by omega)).trans HQ.out)
  have q0:w2.cell? ⟨T,0,none⟩=some (.int .i64 f):=cW0 w2 _ 0 _ _ _ hT2
  have q1:w2.cell? ⟨T,1,none⟩=some (.int .i64 t):=cW0 w2 _ 1 _ _ _ hT2
  have q2:w2.cell? ⟨T,2,none⟩=some (.string u):=cW0 w2 _ 2 _ _ _ hT2
  have p0:w2.cell? ⟨w.heap.size,0,none⟩=some (.int .i64 0):=cW0 w2 _ 0 _ _ _ hQ2
  have p1:w2.cell? ⟨w.heap.size,1,none⟩=some (.int .i64 0):=cW0 w2 _ 1 _ _ _ hQ2
  have p2:w2.cell? ⟨w.heap.size,2,none⟩=some (.string ⟨#[]⟩):=cW0 w2 _ 2 _ _ _ hQ2
  have g0:w2.frozen? ⟨w.heap.size,0,none⟩=false:=fW0 w2 _ 0 _ _ hQ2
  have g1:w2.frozen? ⟨w.heap.size,1,none⟩=false:=fW0 w2 _ 1 _ _ hQ2
  have g2:w2.frozen? ⟨w.heap.size,2,none⟩=false:=fW0 w2 _ 2 _ _ hQ2
  have HS2:=hI0 hs2
  have HC2:=hI0 hc2
  have HBY:=hI0 hBY
  have HQ3:=hI0 (three_set hQ2 (.int .i64 f) (.int .i64 t) (.string u))
  clear hs2 hc2 hBY hT2 hQ2 hTY
  go_wp2_with fail
  have r0:(((w2.setCell ⟨w.heap.size,0,none⟩ (.int .i64 f)).setCell ⟨w.heap.size,1,none⟩ (.int .i64 t)).setCell ⟨w.heap.size,2,none⟩ (.string u)).cell? ⟨w.heap.size,0,none⟩=some (.int .i64 f):=cW0 (((w2.setCell ⟨w.heap.size,0,none⟩ (.int .i64 f)).setCell ⟨w.heap.size,1,none⟩ (.int .i64 t)).setCell ⟨w.heap.size,2,none⟩ (.string u)) _ 0 _ _ _ HQ3.out
  have r1:(((w2.setCell ⟨w.heap.size,0,none⟩ (.int .i64 f)).setCell ⟨w.heap.size,1,none⟩ (.int .i64 t)).setCell ⟨w.heap.size,2,none⟩ (.string u)).cell? ⟨w.heap.size,1,none⟩=some (.int .i64 t):=cW0 (((w2.setCell ⟨w.heap.size,0,none⟩ (.int .i64 f)).setCell ⟨w.heap.size,1,none⟩ (.int .i64 t)).setCell ⟨w.heap.size,2,none⟩ (.string u)) _ 1 _ _ _ HQ3.out
  have r2:(((w2.setCell ⟨w.heap.size,0,none⟩ (.int .i64 f)).setCell ⟨w.heap.size,1,none⟩ (.int .i64 t)).setCell ⟨w.heap.size,2,none⟩ (.string u)).cell? ⟨w.heap.size,2,none⟩=some (.string u):=cW0 (((w2.setCell ⟨w.heap.size,0,none⟩ (.int .i64 f)).setCell ⟨w.heap.size,1,none⟩ (.int .i64 t)).setCell ⟨w.heap.size,2,none⟩ (.string u)) _ 2 _ _ _ HQ3.out
  refine bodyPost_ret (v:=.agg #[.int .i64 f,.int .i64 t,.string u]) (by simp [results,Tryz.results164,go_sem,r0,r1,r2]) rfl ⟨rfl,?_,?_⟩
  ·exact SrcAt.other (p:=⟨w.heap.size,2,none⟩) (SrcAt.other (p:=⟨w.heap.size,1,none⟩) (SrcAt.other (p:=⟨w.heap.size,0,none⟩) HS2.out (by show w.heap.size≠R;omega)) (by show w.heap.size≠R;omega)) (by show w.heap.size≠R;omega)
  ·exact ((((Chg.of_below (HbW.out.trans (HBY.out.mono (by omega))) _).trans HC2.out (fun _ _ h=>h)).setCell (p:=⟨w.heap.size,0,none⟩) (.inr (Nat.le_refl _)) _).setCell (p:=⟨w.heap.size,1,none⟩) (.inr (Nat.le_refl _)) _).setCell (p:=⟨w.heap.size,2,none⟩) (.inr (Nat.le_refl _)) _
 ·refine runF 13 (some 3) (v:=.pointer (some ⟨W.drew.heap.size,0,none⟩)) (w':=W.drew.alloc (.cells #[.int .i64 0,.int .i64 0,.string ⟨#[]⟩] 79)) rfl rfl (by rfl) ?_ ?_
  ·go_simp<;>with_reducible rfl
  obtain ⟨T,hTe⟩:∃T,T=W.drew.heap.size:=⟨_,rfl⟩
  rw [←hTe]
  obtain ⟨x3,hx3⟩:∃X,X=W.drew.alloc (.cells #[.int .i64 0,.int .i64 0,.string ⟨#[]⟩] 79):=⟨_,rfl⟩
  rw [←hx3]
  have hB1:Below W.heap.size W x3:=by rw [hx3];exact hB0.alloc hB0.size _
  have hT:x3.heap[T]? =some (.cells #[.int .i64 0,.int .i64 0,.string ⟨#[]⟩] 79 (0,0)):=by rw [hx3,hTe];exact heap_alloc_new _ _
  have hTl:T<x3.heap.size:=by rw [hx3,hTe];simp
  have hTW:W.heap.size≤T:=by rw [hTe];exact hB0.size
  clear hx3 hTe
  refine keepAnd ?_ (fun hNew=>?_)
  ·intro _;exact hB1
  have hNew:=hNew (by decide)
  clear hHeld
  have hHeld:=hNew
  clear hNew
  simp only [aP]
  refine fork1 8 (by kernel_rfl) ?_
  refine fC 8 21 ?_
  (with_reducible refine (KI _ hB1).mono ?_)
  rintro _ w3 ⟨rfl,hb3'⟩
  have hB3:Below W.heap.size W w3:=hB1.trans (hb3'.mono hB1.size)
  have hT3:w3.heap[T]? =some (.cells #[.int .i64 0,.int .i64 0,.string ⟨#[]⟩] 79 (0,0)):=(hb3'.block T hTl).trans hT
  obtain ⟨X,hX⟩:∃X,X=w3:=⟨_,rfl⟩
  rw [←hX]
  have hBX:Below W.heap.size W X:=by rw [hX];exact hB3
  have hTX:X.heap[T]? =some (.cells #[.int .i64 0,.int .i64 0,.string ⟨#[]⟩] 79 (0,0)):=by rw [hX];exact hT3
  clear hX hB3 hT3 hB1 hT
  refine ⟨_,rfl,?_⟩
  refine keepAnd ?_ (fun hNew=>?_)
  ·intro _;exact hBX
  have hNew:=hNew (by decide)
  clear hHeld
  have hHeld:=hNew
  clear hNew
  simp only [aP]
  refine tT 9 12 hHeld ?_
  simp only [aP]
  refine tT 10 22 hHeld ?_
  simp only [aP]
  refine tT 11 23 hHeld ?_
  simp only [aP]
  refine tT 12 24 hHeld ?_
  simp only [aP]
  refine fork1 14 (by kernel_rfl) ?_
  refine skipRunF 14 none (w':=(((X.setCell ⟨T,0,none⟩ (.int .i64 f)).setCell ⟨T,1,none⟩ (.int .i64 t)).setCell ⟨T,2,none⟩ (.string u))) rfl rfl (by rfl) ?_ ?_
  ·have q0:X.cell? ⟨T,0,none⟩=some (.int .i64 0):=cW0 X T 0 _ _ _ hTX;have q1:X.cell? ⟨T,1,none⟩=some (.int .i64 0):=cW0 X T 1 _ _ _ hTX;have q2:X.cell? ⟨T,2,none⟩=some (.string ⟨#[]⟩):=cW0 X T 2 _ _ _ hTX;have p0:X.frozen? ⟨T,0,none⟩=false:=fW0 X T 0 _ _ hTX;have p1:X.frozen? ⟨T,1,none⟩=false:=fW0 X T 1 _ _ hTX;have p2:X.frozen? ⟨T,2,none⟩=false:=fW0 X T 2 _ _ hTX;go_simp<;>with_reducible rfl
  obtain ⟨Y,hY⟩:∃Y,Y=(((X.setCell ⟨T,0,none⟩ (.int .i64 f)).setCell ⟨T,1,none⟩ (.int .i64 t)).setCell ⟨T,2,none⟩ (.string u)):=⟨_,rfl⟩
  rw [←hY]
  have hBY:Below W.heap.size W Y:=by rw [hY];exact ((hBX.setCell (p:=⟨T,0,none⟩) hTW _).setCell (p:=⟨T,1,none⟩) hTW _).setCell (p:=⟨T,2,none⟩) hTW _
  have hTY:Y.heap[T]? =some (.cells #[.int .i64 f,.int .i64 t,.string u] 79 (0,0)):=by rw [hY];exact three_set hTX _ _ _
  clear hY
  refine keepAnd ?_ (fun hNew=>?_)
  ·intro _;exact hBY
  have hNew:=hNew (by decide)
  clear hHeld
  have hHeld:=hNew
  clear hNew
  simp only [Act.put]
  refine tT 15 4 hHeld ?_
  simp only [aP]
  refine fork1 16 (by kernel_rfl) ?_
  refine runF 16 (some 5) (v:=?_) (w':=?_) rfl rfl (by rfl) ?_ ?_
  rotate_left 2
  ·go_simp<;>first|with_reducible rfl|(constructor<;>with_reducible rfl)
  refine ⟨fun h=>absurd rfl h,?_⟩
  clear hHeld
  simp only [aP]
  refine doneT (by kernel_rfl) ?_ _
  refine NoPanic.normal ?_
  go_wp2_with fail
  (with_reducible refine (HS.out _ (SrcAt.below HW.out hBY)).mono ?_)
  rintro _ w2 ⟨⟨b2,rfl⟩,hs2,hc2⟩
  have hlY:T<Y.heap.size:=(Array.getElem?_eq_some_iff.1 hTY).1
  have hT2:w2.heap[T]? =some (.cells #[.int .i64 f,.int .i64 t,.string u] 79 (0,0)):=(hc2.block T hlY (by omega)).trans hTY
  have hsY:=hBY.size
  have hQ2:w2.heap[w.heap.size]? =some (.cells #[.int .i64 0,.int .i64 0,.string ⟨#[]⟩] 79 (0,0)):=(hc2.block w.heap.size (by omega) (by omega)).trans ((hBY.block w.heap.size (by omega)).trans HQ.out)
  have q0:w2.cell? ⟨T,0,none⟩=some (.int .i64 f):=cW0 w2 _ 0 _ _ _ hT2
  have q1:w2.cell? ⟨T,1,none⟩=some (.int .i64 t):=cW0 w2 _ 1 _ _ _ hT2
  have q2:w2.cell? ⟨T,2,none⟩=some (.string u):=cW0 w2 _ 2 _ _ _ hT2
  have p0:w2.cell? ⟨w.heap.size,0,none⟩=some (.int .i64 0):=cW0 w2 _ 0 _ _ _ hQ2
  have p1:w2.cell? ⟨w.heap.size,1,none⟩=some (.int .i64 0):=cW0 w2 _ 1 _ _ _ hQ2
  have p2:w2.cell? ⟨w.heap.size,2,none⟩=some (.string ⟨#[]⟩):=cW0 w2 _ 2 _ _ _ hQ2
  have g0:w2.frozen? ⟨w.heap.size,0,none⟩=false:=fW0 w2 _ 0 _ _ hQ2
  have g1:w2.frozen? ⟨w.heap.size,1,none⟩=false:=fW0 w2 _ 1 _ _ hQ2
  have g2:w2.frozen? ⟨w.heap.size,2,none⟩=false:=fW0 w2 _ 2 _ _ hQ2
  have HS2:=hI0 hs2
  have HC2:=hI0 hc2
  have HBY:=hI0 hBY
  have HQ3:=hI0 (three_set hQ2 (.int .i64 f) (.int .i64 t) (.string u))
  clear hs2 hc2 hBY hT2 hQ2 hTY
  go_wp2_with fail
  have r0:(((w2.setCell ⟨w.heap.size,0,none⟩ (.int .i64 f)).setCell ⟨w.heap.size,1,none⟩ (.int .i64 t)).setCell ⟨w.heap.size,2,none⟩ (.string u)).cell? ⟨w.heap.size,0,none⟩=some (.int .i64 f):=cW0 (((w2.setCell ⟨w.heap.size,0,none⟩ (.int .i64 f)).setCell ⟨w.heap.size,1,none⟩ (.int .i64 t)).setCell ⟨w.heap.size,2,none⟩ (.string u)) _ 0 _ _ _ HQ3.out
  have r1:(((w2.setCell ⟨w.heap.size,0,none⟩ (.int .i64 f)).setCell ⟨w.heap.size,1,none⟩ (.int .i64 t)).setCell ⟨w.heap.size,2,none⟩ (.string u)).cell? ⟨w.heap.size,1,none⟩=some (.int .i64 t):=cW0 (((w2.setCell ⟨w.heap.size,0,none⟩ (.int .i64 f)).setCell ⟨w.heap.size,1,none⟩ (.int .i64 t)).setCell ⟨w.heap.size,2,none⟩ (.string u)) _ 1 _ _ _ HQ3.out
  have r2:(((w2.setCell ⟨w.heap.size,0,none⟩ (.int .i64 f)).setCell ⟨w.heap.size,1,none⟩ (.int .i64 t)).setCell ⟨w.heap.size,2,none⟩ (.string u)).cell? ⟨w.heap.size,2,none⟩=some (.string u):=cW0 (((w2.setCell ⟨w.heap.size,0,none⟩ (.int .i64 f)).setCell ⟨w.heap.size,1,none⟩ (.int .i64 t)).setCell ⟨w.heap.size,2,none⟩ (.string u)) _ 2 _ _ _ HQ3.out
  refine bodyPost_ret (v:=.agg #[.int .i64 f,.int .i64 t,.string u]) (by simp [results,Tryz.results164,go_sem,r0,r1,r2]) rfl ⟨rfl,?_,?_⟩
  ·exact SrcAt.other (p:=⟨w.heap.size,2,none⟩) (SrcAt.other (p:=⟨w.heap.size,1,none⟩) (SrcAt.other (p:=⟨w.heap.size,0,none⟩) HS2.out (by show w.heap.size≠R;omega)) (by show w.heap.size≠R;omega)) (by show w.heap.size≠R;omega)
  ·exact ((((Chg.of_below (HbW.out.trans (HBY.out.mono (by omega))) _).trans HC2.out (fun _ _ h=>h)).setCell (p:=⟨w.heap.size,0,none⟩) (.inr (Nat.le_refl _)) _).setCell (p:=⟨w.heap.size,1,none⟩) (.inr (Nat.le_refl _)) _).setCell (p:=⟨w.heap.size,2,none⟩) (.inr (Nat.le_refl _)) _
theorem srcBool_any (R:Nat) (v:Value) (l:List UInt8) (s:Int×Int) (w:World) (h:SrcAt w R v s) (hv:RdB w (·<R) v l):
  Calls Tryz.prog 220 #[.pointer (some ⟨R,0,none⟩)] w fun x w'=>x=.returned (.bool (rdBool l s).1)∧SrcAt w' R v (rdBool l s).2∧Chg (·=R) w w':=by
 have KI:=srcInt_any R v l s w h hv
 unfold rdBool
 rcases hi:rdI l s with ⟨n,k,e⟩
 rw [hi] at KI
 clear hi h hv
 simp only at KI ⊢
 obtain ⟨bo,hbo⟩:∃bo,bo=if e=0∧n≠0∧n≠1 then (false,k,1) else (decide (n=1),k,e):=⟨_,rfl⟩
 rw [←hbo]
 have HBO:=hI0 hbo
 clear hbo
 go_enter Tryz.func220,Tryz.ntmps220
 go_wp2_with fail
 (with_reducible refine KI.mono ?_)
 rintro _ w1 ⟨rfl,hs,hc⟩
 have c2:w1.cell? ⟨R,2,none⟩=some (.int .i64 e):=cW0 w1 R 2 _ _ _ hs
 have f2:w1.frozen? ⟨R,2,none⟩=false:=fW0 w1 R 2 _ _ hs
 have HS:=hI0 hs
 have HC:=hI0 hc
 clear hs hc KI
 by_cases he:e=0
 case neg=>
  have HB:Hid (bo=(decide (n=1),k,e)):=hI0 (HBO.out.trans (if_neg (fun h=>he h.1)))
  have he2:(e==0)=false:=by simpa using he
  by_cases h1:n=1
  ·subst h1
   go_wp2_with fail
   go_ret
   rw [HB.out]
   exact ⟨rfl,HS.out,HC.out⟩
  ·have h12:(n==1)=false:=by simpa using h1
   go_wp2_with fail
   go_ret
   rw [HB.out]
   exact ⟨by first|rfl|simp [h1],HS.out,HC.out⟩
 subst he
 by_cases h0:n=0
 ·subst h0
  have HB:Hid (bo=(false,k,0)):=hI0 (HBO.out.trans (if_neg (by simp)))
  go_wp2_with fail
  go_ret
  rw [HB.out]
  exact ⟨rfl,HS.out,HC.out⟩
 ·by_cases h1:n=1
  ·subst h1
   have HB:Hid (bo=(true,k,0)):=hI0 (HBO.out.trans (if_neg (by simp)))
   go_wp2_with fail
   go_ret
   rw [HB.out]
   exact ⟨rfl,HS.out,HC.out⟩
  ·have h02:(n != 0)=true:=by simpa using h0
   have h12:(n != 1)=true:=by simpa using h1
   have h13:(n==1)=false:=by simpa using h1
   have HB:Hid (bo=(false,k,1)):=hI0 (HBO.out.trans (if_pos ⟨rfl,h0,h1⟩))
   go_wp2_with fail
   go_ret
   rw [HB.out]
   exact ⟨by first|rfl|simp [h1],HS.out.set2 1,Chg.setCell (S:=(·=R)) (p:=⟨R,2,none⟩) HC.out (.inl rfl) _⟩
end Go.Proofs.YtbfdegkickjbpaaGreat
