/-
 PbA
-/
import Derived.Test.YtgfhknnklapldaaGreatDoorBPaB
import Derived.Test.YtgfhknnklapldaaGreatDoorBDuO
import Derived.Test.YtgfhknnklapldaaGreatDoorBRr1
import Derived.Test.YtgfhknnklapldaaGreatDoorBDuK
namespace Go.Proofs.YtgfhknnklapldaaGreatDoor
open Go.Proofs.Tryz
set_option maxRecDepth 99999
set_option maxHeartbeats 0
open Go.RowKit Go.Lib Go.IntWalk Go.Sort Go.Shelf
inductive Th (n:Nat):Prop|mk
theorem yq6 {P:Prop} (i:Nat) (h:Th i→P:=by
 intro yT6
 first
  |guard_hyp yT6:Th 2;have e1:¬(c2.toNat:Int)=39:=fun h=>hd (by apply UInt8.toNat_inj.1;show c2.toNat=39;omega)
   have HE:Hid (txG (l.drop k)=(1,some [])):=hI0 (by rw [HTA.out,if_neg (by simpa using hd)])
   have HR:=hI0 (HYES.out _ _ H39.out (HTR.out.done HE.out))
   have HK:Hid (i1+1+(k-(i1+1)+1)=k+1):=hI0 (by have:=HTR.out.1;omega)
   rw [HK.out] at HR
   have hst:=run_bytes_str (w:=(wi.setCell ⟨b,1,none⟩ (.int .i64 ((k:Int)+1))).drew.drew.drew) (own_set HO.out HBW.out (chg_set wi b 1 _).drew.drew.drew).rd
   clear hd
  |first
    |guard_hyp yT6:Th 1;have HE:Hid (txG (l.drop k)=(1,none)):=hI0 (by rw [HTA.out,if_neg hc,if_neg hp])
     have HR:=hI0 (HNO.out _ H39.out (HTR.out.done HE.out))
     have HK:Hid (i1+1+(k-(i1+1)+1)=k+1):=hI0 (by have:=HTR.out.1;omega)
     rw [HK.out] at HR
     have hp2:¬(¬(c.toNat:Int)<32∧¬ 126<(c.toNat:Int)):=fun h=>hp ((chP_iff c).2 h)
     have c2:=cW1 2 HXi.out rfl
     have f2:wi.frozen? ⟨b,2,none⟩=false:=fW0 _ _ _ _ _ HXi.out
    |have e1:¬(c.toNat:Int)=39:=fun h=>hc (by apply UInt8.toNat_inj.1;show c.toNat=39;omega)
     by_cases hp:chP c=true
     case neg=>
      exact yq26 0
     have HE:Hid (txG (l.drop k)=(k+1-k+(txG (l.drop (k+1))).1,(txG (l.drop (k+1))).2.map (c:: ·))):=hI0 (by rw [HTA.out,if_neg hc,if_pos hp,show k+1-k=1 by omega,Nat.add_comm])
     obtain ⟨h32,h126⟩:=(chP_iff c).1 hp
     have HCW:Hid (Chg (·=b) wi ((wi.setCell ⟨b,1,none⟩ (.int .i64 ((k:Int)+1))).alloc (.cells #[.int .u8 (c.toNat:Int)] 5)).drew.drew):=hI0 ((chg_set wi b 1 _).alloc _).drew.drew
     have HCS:Hid (w.heap.size≤((wi.setCell ⟨b,1,none⟩ (.int .i64 ((k:Int)+1))).alloc (.cells #[.int .u8 (c.toNat:Int)] 5)).drew.drew.heap.size):=hI0 (Nat.le_trans HC.out.size HCW.out.size)
     have HXA:Hid (CurAt ((wi.setCell ⟨b,1,none⟩ (.int .i64 ((k:Int)+1))).alloc (.cells #[.int .u8 (c.toNat:Int)] 5)).drew.drew b S (k+1) d1 r):=hI0 (CurAt.below (show CurAt (wi.setCell ⟨b,1,none⟩ (.int .i64 ((k:Int)+1))) b S (k+1) d1 r from CurAt.pos HX.out (k+1)) ((Below.of_alloc _).drew.drew))
   clear hc hp
   first
    |done
    |guard_hyp yT6:Th 1;by_cases h32:(c.toNat:Int)<32
     case pos=>
      exact yq26 1
     have h126:126<(c.toNat:Int):=by omega
     clear hp2
    |skip
 go_wp2_with fail
 refine wp_region_noPanic ?_
 refine wp_region_held_drew (S:=(fun Y=>Y.heap[b]? =some (.cells (.string S::.int .i64 (k:Int)::.bool d1::r).toArray 104 (0,0)))) (by kernel_rfl) ?_ (fun zh=>?_)
 ·exact HXi.out
 refine hT 0 39 ?_
 refine hT 1 40 ?_
 refine hT 2 41 ?_
 refine hU 3 42 (v:=?_) zh ?_ ?_
 rotate_left
 ·exact yq31
 refine hT 4 43 ?_
 refine hT 5 44 ?_
 refine hT 6 45 ?_
 refine hU 7 46 (v:=?_) zh ?_ ?_
 rotate_left
 ·exact yq32
 refine hT 8 47 ?_
 refine hT 9 48 ?_
 refine rD0 ?_
 go_wp2_with fail
 refine wp_region_noPanic ?_
 refine wp_region_held_drew (S:=(fun Y=>Y.heap[b]? =some (.cells (.string S::.int .i64 (k:Int)::.bool d1::r).toArray 104 (0,0)))) (by kernel_rfl) ?_ (fun zh=>?_)
 ·exact HXi.out
 refine hT 0 49 ?_
 refine hT 1 50 ?_
 refine hT 2 51 ?_
 refine hU 3 52 (v:=?_) zh ?_ ?_
 rotate_left
 ·exact yq32
 refine hT 4 53 ?_
 refine hT 5 54 ?_
 refine hT 6 55 ?_
 refine hU 7 56 (v:=?_) zh ?_ ?_
 rotate_left
 ·exact yq31
 refine hU 8 57 (v:=?_) zh ?_ ?_
 rotate_left
 ·exact yq33
 refine hT 9 4 ?_
 refine rD0 ?_
 first
  |guard_hyp yT6:Th 2;go_wp2_with fail
   have q3:=HQ3.out
   have q4:=HQ4.out
   have q5:=HQ5.out
   have q6:decide ((l.length:Int)≤(k:Int)+1)=false:=decide_eq_false (by have:=HQ5.out;omega)
   refine wp_region_noPanic ?_
   refine wp_region_held_drew (S:=(fun Y=>Y.heap[b]? =some (.cells (.string S::.int .i64 ((k:Int)+1)::.bool d1::r).toArray 104 (0,0)))) (by kernel_rfl) ?_ (fun zh=>?_)
   ·exact HX2.out
   refine hT 0 67 ?_
   refine hT 1 68 ?_
   refine hT 2 69 ?_
   refine hU 3 70 (v:=?_) zh ?_ ?_
   rotate_left
   ·exact yq29
   refine hT 4 71 ?_
   refine hT 5 72 ?_
   refine hT 6 73 ?_
   refine hU 7 74 (v:=?_) zh ?_ ?_
   rotate_left
   ·exact yq32
   refine hT 8 75 ?_
   refine hT 9 76 ?_
   refine hT 10 77 ?_
   refine hT 11 78 ?_
   refine hT 12 79 ?_
   refine hT 13 80 ?_
   refine hU 14 81 (v:=?_) zh ?_ ?_
   rotate_left
   ·exact yq32
   refine hT 15 82 ?_
   refine hT 16 83 ?_
   refine hT 17 84 ?_
   refine hU 18 85 (v:=?_) zh ?_ ?_
   rotate_left
   ·exact yq29
   refine hU 19 86 (v:=?_) zh ?_ ?_
   rotate_left
   ·intro w' hSw;(try dsimp only at hSw);have hx:=HIY.out w';go_simp<;>with_reducible rfl
   refine hT 20 87 ?_
   refine hT 21 88 ?_
   refine rD0 ?_
   go_wp2_with fail
   go_ret
   rw [HR.out]
   exact ⟨by simp,CurAt.pos HX.out (k+1),((HC.out.trans (chg_set wi b 1 _) (fun _ _ h=>h))).drew.drew.drew⟩
  |guard_hyp yT6:Th 1;go_wp2_with fail
   go_ret
   rw [HR.out]
   exact ⟨rfl,CurAt.bad (CurAt.pos HX.out (k+1)),((HC.out.trans (chg_set wi b 1 _) (fun _ _ h=>h)).trans (chg_set _ b 2 _) (fun _ _ h=>h)).drew.drew⟩
  |go_wp2_with (at_builtin;refine wpList_append_b rfl (.tmp 104) (.tmp 106) rfl w.heap.size _ acc rfl (own_set HO.out HBW.out HCW.out) (fun _=>True) _ [c] rfl (rdB_byteT (wi.setCell ⟨b,1,none⟩ (.int .i64 ((k:Int)+1))) _ (by first|rfl|simp) c _ rfl) yi11 HCS.out ?_;intro v9 w9 hO9 hb9 hg9 hv9)
   go_roundw
   case rel=>exact ⟨k+1,acc++[c],hI0 hO9,hI0 (cur_grow HO.out HBW.out HXA.out hg9),hI0 (HTR.out.next (c:=c) (by omega) HE.out),by omega,hI0 (chg_grow HO.out (HC.out.trans HCW.out (fun _ _ h=>h)) hg9),hI0 yi10⟩
   rw [HPW.out,(CurAt.posW (cur_grow HO.out HBW.out HXA.out hg9))]
   omega) : P := h ⟨⟩
theorem yq8 {P:Prop} (i:Nat) (h:Th i→P:=by
 intro yT8
 first
  |guard_hyp yT8:Th 1;have q1:¬(k:Int)<(l.length:Int):=by omega
   have HR:=hI0 (HNO.out _ H39.out (HTR.out.done (m:=0) (o:=none) (by rw [List.drop_of_length_le (by omega)];rfl)))
   have HK:Hid (i1+1+(k-(i1+1)+0)=k):=hI0 (by have:=HTR.out.1;omega)
  |have q3:((S.size:Int))≤(k:Int)+1:=by omega
   have q4:l.length≤k+1:=by omega
   have q5:(l.length:Int)≤(k:Int)+1:=by omega
   have HE:Hid (txG (l.drop k)=(1,some [])):=hI0 (by rw [HTA.out,if_neg (by rw [List.getElem?_eq_none (by omega)];simp)])
   have HR:=hI0 (HYES.out _ _ H39.out (HTR.out.done HE.out))
   have HK:Hid (i1+1+(k-(i1+1)+1)=k+1):=hI0 (by have:=HTR.out.1;omega)
 rw [HK.out] at HR
 first
  |guard_hyp yT8:Th 1;have c2:=cW1 2 HXi.out rfl
   have f2:wi.frozen? ⟨b,2,none⟩=false:=fW0 _ _ _ _ _ HXi.out
  |have hst:=run_bytes_str (w:=(wi.setCell ⟨b,1,none⟩ (.int .i64 ((k:Int)+1))).drew.drew.drew) (own_set HO.out HBW.out (chg_set wi b 1 _).drew.drew.drew).rd
 go_wp2_with fail
 refine wp_region_noPanic ?_
 refine wp_region_held_drew (S:=(fun Y=>Y.heap[b]? =some (.cells (.string S::.int .i64 (k:Int)::.bool d1::r).toArray 104 (0,0)))) (by kernel_rfl) ?_ (fun zh=>?_)
 ·exact HXi.out
 refine hT 0 39 ?_
 refine hT 1 40 ?_
 refine hT 2 41 ?_
 refine hU 3 42 (v:=?_) zh ?_ ?_
 rotate_left
 ·exact yq31
 refine hT 4 43 ?_
 refine hT 5 44 ?_
 refine hT 6 45 ?_
 refine hU 7 46 (v:=?_) zh ?_ ?_
 rotate_left
 ·exact yq32
 refine hT 8 47 ?_
 refine hT 9 48 ?_
 refine rD0 ?_
 go_wp2_with fail
 first
  |done
  |guard_hyp yT8:Th 1
  |refine wp_region_noPanic ?_
   refine wp_region_held_drew (S:=(fun Y=>Y.heap[b]? =some (.cells (.string S::.int .i64 (k:Int)::.bool d1::r).toArray 104 (0,0)))) (by kernel_rfl) ?_ (fun zh=>?_)
   ·exact HXi.out
   refine hT 0 49 ?_
   refine hT 1 50 ?_
   refine hT 2 51 ?_
   refine hU 3 52 (v:=?_) zh ?_ ?_
   rotate_left
   ·exact yq32
   refine hT 4 53 ?_
   refine hT 5 54 ?_
   refine hT 6 55 ?_
   refine hU 7 56 (v:=?_) zh ?_ ?_
   rotate_left
   ·exact yq31
   refine hU 8 57 (v:=?_) zh ?_ ?_
   rotate_left
   ·exact yq33
   refine hT 9 4 ?_
   refine rD0 ?_
   go_wp2_with fail
   refine wp_region_noPanic ?_
   refine wp_region_held_drew (S:=(fun Y=>Y.heap[b]? =some (.cells (.string S::.int .i64 ((k:Int)+1)::.bool d1::r).toArray 104 (0,0)))) (by kernel_rfl) ?_ (fun zh=>?_)
   ·exact HX2.out
   refine hT 0 67 ?_
   refine hT 1 68 ?_
   refine hT 2 69 ?_
   refine hU 3 70 (v:=?_) zh ?_ ?_
   rotate_left
   ·exact yq29
   refine hT 4 71 ?_
   refine hT 5 72 ?_
   refine hT 6 73 ?_
   refine hU 7 74 (v:=?_) zh ?_ ?_
   rotate_left
   ·exact yq32
   refine hT 8 75 ?_
   refine hT 9 76 ?_
   refine hT 10 77 ?_
   refine hK 11 78 ?_
   refine hK 12 79 ?_
   refine hK 13 80 ?_
   refine hK 14 81 ?_
   refine hK 15 82 ?_
   refine hK 16 83 ?_
   refine hK 17 84 ?_
   refine hK 18 85 ?_
   refine hK 19 86 ?_
   refine hK 20 87 ?_
   refine hT 21 88 ?_
   refine rD0 ?_
   go_wp2_with fail
 go_ret
 rw [HR.out]
 first
  |guard_hyp yT8:Th 1;exact ⟨rfl,CurAt.bad HX.out,((HC.out.trans (chg_set wi b 2 _) (fun _ _ h=>h))).drew⟩
  |exact ⟨by simp,CurAt.pos HX.out (k+1),((HC.out.trans (chg_set wi b 1 _) (fun _ _ h=>h))).drew.drew.drew⟩) : P := h ⟨⟩
theorem yq11 {P:Prop} (i:Nat) (h:Th i→P:=by
 intro yT11
 first
  |guard_hyp yT11:Th 1;have q0:(S.size:Int)≤(i1:Int):=by omega
   have q1:l.length≤i1:=by omega
   have HR:=hI0 (HBAD.out (by rw [List.getElem?_eq_none (by omega)];simp))
  |have HR:=hI0 (HBAD.out (by rw [List.getElem?_eq_getElem hlt];simpa using hc))
   have e1:¬(l[i1].toNat:Int)=39:=fun h=>hc (by apply UInt8.toNat_inj.1;show l[i1].toNat=39;omega)
   have h256:=l[i1].toNat_lt
   generalize l[i1].toNat=ch at *
   clear hc
 go_wp2_with fail
 refine wp_region_noPanic ?_
 refine wp_region_held_drew (S:=(fun Y=>Y.heap[b]? =some (.cells (.string S::.int .i64 (i1:Int)::.bool d1::r).toArray 104 (0,0)))) (by kernel_rfl) ?_ (fun zh=>?_)
 ·exact HX1.out
 refine hT 0 7 ?_
 refine hT 1 8 ?_
 refine hT 2 9 ?_
 refine hU 3 10 (v:=?_) zh ?_ ?_
 rotate_left
 ·exact yq30
 refine hT 4 11 ?_
 refine hT 5 12 ?_
 refine hT 6 13 ?_
 refine hU 7 14 (v:=?_) zh ?_ ?_
 rotate_left
 ·exact yq32
 refine hT 8 15 ?_
 refine hT 9 16 ?_
 refine hT 10 17 ?_
 first
  |guard_hyp yT11:Th 1;refine hK 11 18 ?_
   refine hK 12 19 ?_
   refine hK 13 20 ?_
   refine hK 14 21 ?_
   refine hK 15 22 ?_
   refine hK 16 23 ?_
   refine hK 17 24 ?_
   refine hK 18 25 ?_
   refine hK 19 26 ?_
   refine hK 20 27 ?_
  |refine hT 11 18 ?_
   refine hT 12 19 ?_
   refine hT 13 20 ?_
   refine hU 14 21 (v:=?_) zh ?_ ?_
   rotate_left
   ·exact yq32
   refine hT 15 22 ?_
   refine hT 16 23 ?_
   refine hT 17 24 ?_
   refine hU 18 25 (v:=?_) zh ?_ ?_
   rotate_left
   ·exact yq30
   refine hU 19 26 (v:=?_) zh ?_ ?_
   rotate_left
   ·exact yq33
   refine hT 20 27 ?_
 refine hT 21 28 ?_
 refine rD0 ?_
 go_wp2_with fail
 go_ret
 rw [HR.out]
 exact ⟨rfl,CurAt.bad HXc.out,((HC1.out.trans (chg_set w1 b 2 _) (fun _ _ h=>h))).drew⟩) : P := h ⟨⟩
theorem yq22 {P:Prop} (h:P:=by
 intro w' hSw;(try dsimp only at hSw);have c0:=cW1 (v:=.string S) 0 hSw rfl;go_simp<;>with_reducible rfl) : P := h
theorem yq26 {P:Prop} (i:Nat) (h:Th i→P:=by
 intro yT26
 first
  |done
  |guard_hyp yT26:Th 1
  |have HE:Hid (txG (l.drop k)=(1,none)):=hI0 (by rw [HTA.out,if_neg hc,if_neg hp])
   have HR:=hI0 (HNO.out _ H39.out (HTR.out.done HE.out))
   have HK:Hid (i1+1+(k-(i1+1)+1)=k+1):=hI0 (by have:=HTR.out.1;omega)
   rw [HK.out] at HR
   have hp2:¬(¬(c.toNat:Int)<32∧¬ 126<(c.toNat:Int)):=fun h=>hp ((chP_iff c).2 h)
   have c2:=cW1 2 HXi.out rfl
   have f2:wi.frozen? ⟨b,2,none⟩=false:=fW0 _ _ _ _ _ HXi.out
   clear hc hp
   by_cases h32:(c.toNat:Int)<32
   case pos=>
    clear hp2
    go_wp2_with fail
    refine wp_region_noPanic ?_
    refine wp_region_held_drew (S:=(fun Y=>Y.heap[b]? =some (.cells (.string S::.int .i64 (k:Int)::.bool d1::r).toArray 104 (0,0)))) (by kernel_rfl) ?_ (fun zh=>?_)
    ·exact HXi.out
    refine hT 0 39 ?_
    refine hT 1 40 ?_
    refine hT 2 41 ?_
    refine hU 3 42 (v:=?_) zh ?_ ?_
    rotate_left
    ·exact yq34
    refine hT 4 43 ?_
    refine hT 5 44 ?_
    refine hT 6 45 ?_
    refine hU 7 46 (v:=?_) zh ?_ ?_
    rotate_left
    ·exact yq35
    refine hT 8 47 ?_
    refine hT 9 48 ?_
    refine rD0 ?_
    go_wp2_with fail
    refine wp_region_noPanic ?_
    refine wp_region_held_drew (S:=(fun Y=>Y.heap[b]? =some (.cells (.string S::.int .i64 (k:Int)::.bool d1::r).toArray 104 (0,0)))) (by kernel_rfl) ?_ (fun zh=>?_)
    ·exact HXi.out
    refine hT 0 49 ?_
    refine hT 1 50 ?_
    refine hT 2 51 ?_
    refine hU 3 52 (v:=?_) zh ?_ ?_
    rotate_left
    ·exact yq35
    refine hT 4 53 ?_
    refine hT 5 54 ?_
    refine hT 6 55 ?_
    refine hU 7 56 (v:=?_) zh ?_ ?_
    rotate_left
    ·exact yq34
    refine hU 8 57 (v:=?_) zh ?_ ?_
    rotate_left
    ·intro w' hSw;(try dsimp only at hSw);have hx:=HIX.out w';go_simp<;>with_reducible rfl
    refine hT 9 4 ?_
    refine rD0 ?_
    go_wp2_with fail
    go_ret
    rw [HR.out]
    exact ⟨rfl,CurAt.bad (CurAt.pos HX.out (k+1)),((HC.out.trans (chg_set wi b 1 _) (fun _ _ h=>h)).trans (chg_set _ b 2 _) (fun _ _ h=>h)).drew.drew⟩
   have h126:126<(c.toNat:Int):=by omega
 clear hp2
 go_wp2_with fail
 refine wp_region_noPanic ?_
 refine wp_region_held_drew (S:=(fun Y=>Y.heap[b]? =some (.cells (.string S::.int .i64 (k:Int)::.bool d1::r).toArray 104 (0,0)))) (by kernel_rfl) ?_ (fun zh=>?_)
 ·exact HXi.out
 refine hT 0 39 ?_
 refine hT 1 40 ?_
 refine hT 2 41 ?_
 refine hU 3 42 (v:=?_) zh ?_ ?_
 rotate_left
 ·exact yq34
 refine hT 4 43 ?_
 refine hT 5 44 ?_
 refine hT 6 45 ?_
 refine hU 7 46 (v:=?_) zh ?_ ?_
 rotate_left
 ·exact yq35
 refine hT 8 47 ?_
 refine hT 9 48 ?_
 refine rD0 ?_
 go_wp2_with fail
 refine wp_region_noPanic ?_
 refine wp_region_held_drew (S:=(fun Y=>Y.heap[b]? =some (.cells (.string S::.int .i64 (k:Int)::.bool d1::r).toArray 104 (0,0)))) (by kernel_rfl) ?_ (fun zh=>?_)
 ·exact HXi.out
 refine hT 0 49 ?_
 refine hT 1 50 ?_
 refine hT 2 51 ?_
 refine hU 3 52 (v:=?_) zh ?_ ?_
 rotate_left
 ·exact yq35
 refine hT 4 53 ?_
 refine hT 5 54 ?_
 refine hT 6 55 ?_
 refine hU 7 56 (v:=?_) zh ?_ ?_
 rotate_left
 ·exact yq34
 refine hU 8 57 (v:=?_) zh ?_ ?_
 rotate_left
 ·intro w' hSw;(try dsimp only at hSw);have hx:=HIX.out w';go_simp<;>with_reducible rfl
 refine hT 9 4 ?_
 refine rD0 ?_
 go_wp2_with fail
 go_ret
 rw [HR.out]
 exact ⟨rfl,CurAt.bad (CurAt.pos HX.out (k+1)),((HC.out.trans (chg_set wi b 1 _) (fun _ _ h=>h)).trans (chg_set _ b 2 _) (fun _ _ h=>h)).drew.drew⟩) : P := h ⟨⟩
theorem yq29 {P:Prop} (h:P:=by
 intro w' hSw;(try dsimp only at hSw);have c1:=cW1 (v:=.int .i64 ((k:Int)+1)) 1 hSw rfl;go_simp<;>with_reducible rfl) : P := h
theorem yq30 {P:Prop} (h:P:=by
 intro w' hSw;(try dsimp only at hSw);have c1:=cW1 (v:=.int .i64 (i1:Int)) 1 hSw rfl;go_simp<;>with_reducible rfl) : P := h
theorem yq31 {P:Prop} (h:P:=by
 intro w' hSw;(try dsimp only at hSw);have c1:=cW1 (v:=.int .i64 (k:Int)) 1 hSw rfl;go_simp<;>with_reducible rfl) : P := h
theorem yq32 {P:Prop} (h:P:=by
 intro w' hSw;(try dsimp only at hSw);have c0:=cW1 (v:=.string S) 0 hSw rfl;go_simp<;>with_reducible rfl) : P := h
theorem yq33 {P:Prop} (h:P:=by
 intro w' hSw;(try dsimp only at hSw);have hx:=HIX.out w';go_simp<;>with_reducible rfl) : P := h
theorem yq34 {P:Prop} (h:P:=by
 intro w' hSw;(try dsimp only at hSw);have c1:=cW1 (v:=.int .i64 (k:Int)) 1 hSw rfl;go_simp<;>with_reducible rfl) : P := h
theorem yq35 {P:Prop} (h:P:=by
 intro w' hSw;(try dsimp only at hSw);have c0:=cW1 (v:=.string S) 0 hSw rfl;go_simp<;>with_reducible rfl) : P := h
theorem yi10 {P:Prop} (h:P:=by have:=HAL.out;simp only [List.length_append,List.length_cons,List.length_nil];omega):P:=h
theorem yi11 {P:Prop} (h:P:=by have:=HAL.out;simp only [List.length_cons,List.length_nil];omega):P:=h
theorem rdB_byteT (w:World) (H:Nat) (hH:w.heap.size=H) (x:UInt8) (y:Int) (hy:y=(x.toNat:Int)):RdB (w.alloc (.cells #[.int .u8 y] 5)) (fun _=>True) (.slice (some ⟨H,0,none⟩) 1 1) [x]:=Rd.wide (rdB_byteD w H hH x y hy) (fun _ _=>trivial)
theorem own_set {w w':World} {b base:Nat} {v:Value} {l:List UInt8} (h:OwnB w base v l) (hb:b<base) (hc:Chg (·=b) w w'):OwnB w' base v l:=
 own_chg h hc (fun g hg (e:g=b)=>by have:=(own_block h hg).1;omega)
theorem chg_grow {w0 w X w':World} {b:Nat} {v:Value} {l:List UInt8} (h:OwnB w w0.heap.size v l) (hc:Chg (·=b) w0 X) (hg:X.grownBy w' v.ownBlock):Chg (·=b) w0 w':=
 hc.trans (Chg.of_grown hg) (fun g hb e=>by have:=(own_block h e).1;omega)
theorem cur_grow {w X w':World} {b base:Nat} {v:Value} {l:List UInt8} {S:ByteArray} {k:Nat} {d:Bool} {r:List Value} (h:OwnB w base v l) (hb:b<base) (hx:CurAt X b S k d r) (hg:X.grownBy w' v.ownBlock):CurAt w' b S k d r:=
 (hg.block b hx.lt (fun e=>by have:=(own_block h e).1;omega)).trans hx
theorem txG_len:∀(n:Nat) (r:List UInt8),r.length≤n→(txG r).1≤r.length
 |_,[],_=>Nat.le_refl _
 |0,_::_,h=>absurd h (by simp)
 |n+1,x::r,hn=>by
  simp only [List.length_cons] at hn
  unfold txG
  split
  ·cases r with
   |nil=>simp
   |cons y r'=>
    simp only [List.length_cons] at hn ⊢
    split
    ·have:=txG_len n r' (by omega)
     simp only
     omega
    ·simp
  ·split
   ·have:=txG_len n r (by omega)
    simp only [List.length_cons]
    omega
   ·simp
theorem txG_at {l:List UInt8} {k:Nat} (h:k<l.length):txG (l.drop k)=if l[k]=39 then (if l[k+1]? =some 39 then ((txG (l.drop (k+2))).1+2,(txG (l.drop (k+2))).2.map (39:: ·)) else (1,some [])) else if chP l[k]=true then ((txG (l.drop (k+1))).1+1,(txG (l.drop (k+1))).2.map (l[k]:: ·)) else (1,none):=by
 rw [List.drop_eq_getElem_cons h]
 conv=>lhs;unfold txG
 by_cases h1:l[k]=39
 ·rw [if_pos h1,if_pos h1]
  by_cases h2:k+1<l.length
  ·rw [List.drop_eq_getElem_cons h2,List.getElem?_eq_getElem h2]
   simp only [Option.some.injEq]
  ·rw [List.drop_of_length_le (by omega),List.getElem?_eq_none (by omega)]
   rfl
 ·rw [if_neg h1,if_neg h1]
theorem chP_iff (c:UInt8):chP c=true↔¬(c.toNat:Int)<32∧¬ 126<(c.toNat:Int):=by
 unfold chP
 rw [decide_eq_true_eq]
 omega
theorem adv_text {l:List UInt8} {st:Nat×Bool} (h:st.1≤l.length):st.1≤(pText l st).2.1∧(pText l st).2.1≤l.length:=by
 have h1:=spI_le (l:=l) h
 have h2:st.1≤(spI l st).1:=by unfold spI;split<;>(try split)<;>simp
 unfold pText
 simp only
 split
 ·rename_i h3
  have h4:=(List.getElem?_eq_some_iff.1 h3).1
  have h5:=txG_len _ (l.drop ((spI l st).1+1)) (Nat.le_refl _)
  rw [List.length_drop] at h5
  split<;>(simp only;omega)
 ·simp only;omega
def txR (l:List UInt8) (i k:Nat) (acc:List UInt8):Prop:=i≤k∧txG (l.drop i)=(k-i+(txG (l.drop k)).1,(txG (l.drop k)).2.map (acc++ ·))
theorem txR.start (l:List UInt8) (i:Nat):txR l i i []:=⟨Nat.le_refl _,by cases h:(txG (l.drop i)).2<;>(rw [Prod.ext_iff];simp [h])⟩
theorem txR.next {l:List UInt8} {i k j:Nat} {acc:List UInt8} {c:UInt8} (h:txR l i k acc) (hj:k≤j) (e:txG (l.drop k)=(j-k+(txG (l.drop j)).1,(txG (l.drop j)).2.map (c:: ·))):txR l i j (acc++[c]):=by
 refine ⟨Nat.le_trans h.1 hj,?_⟩
 rw [h.2,e]
 have:=h.1
 simp only [Prod.mk.injEq,Option.map_map]
 refine ⟨by omega,?_⟩
 congr 1
 funext x
 simp
theorem txR.done {l:List UInt8} {i k m:Nat} {acc:List UInt8} {o:Option (List UInt8)} (h:txR l i k acc) (e:txG (l.drop k)=(m,o)):txG (l.drop i)=(k-i+m,o.map (acc++ ·)):=by
 rw [h.2,e]
theorem text_any (b:Nat) (l:List UInt8) (i:Nat) (d:Bool) (r:List Value) (w:World) (h:CurAt w b (strB l) i d r) (hi:i≤l.length) (hl:l.length≤4294967281):
  Calls prog 96 #[.pointer (some ⟨b,0,none⟩)] w fun e w'=>e=.returned (.string (pText l (i,d)).1)∧CurTo b (strB l) (pText l (i,d)).2 r w w':=by
 have KS:=hI0 (space_any b l i d r w h hi hl)
 have hle:=spI_le (l:=l) (st:=(i,d)) hi
 have HIX0:=hI0 (run_index_str (strB l) l rfl)
 have hsz:=strB_size l
 have HBW:Hid (b<w.heap.size):=hI0 h.lt
 have HT:Hid (pText l (i,d)=if l[(spI l (i,d)).1]? =some 39 then (match (txG (l.drop ((spI l (i,d)).1+1))).2 with|some o=>(strB o,(spI l (i,d)).1+1+(txG (l.drop ((spI l (i,d)).1+1))).1,(spI l (i,d)).2)|none=>(⟨#[]⟩,(spI l (i,d)).1+1+(txG (l.drop ((spI l (i,d)).1+1))).1,true)) else (⟨#[]⟩,(spI l (i,d)).1,true)):=hI0 rfl
 obtain ⟨res,hres⟩:=eN0 (pText l (i,d))
 rw [←hres] at HT ⊢
 unfold CurTo at KS
 obtain ⟨p1,hp1⟩:=eN0 (spI l (i,d))
 rw [←hp1] at hle HT KS
 clear hp1 hres
 obtain ⟨i1,d1⟩:=p1
 dsimp only at hle HT KS
 obtain ⟨S,hS⟩:=eN0 (strB l)
 rw [←hS] at KS HIX0 hsz ⊢
 clear h hS
 have HBAD:Hid (l[i1]? ≠some 39→res=(⟨#[]⟩,i1,true)):=hI0 (fun h=>by rw [HT.out,if_neg h])
 have HNO:Hid (∀m,l[i1]? =some 39→txG (l.drop (i1+1))=(m,none)→res=(⟨#[]⟩,i1+1+m,true)):=hI0 (fun m h1 h2=>by rw [HT.out,if_pos h1,h2])
 have HYES:Hid (∀m o,l[i1]? =some 39→txG (l.drop (i1+1))=(m,some o)→res=(strB o,i1+1+m,d1)):=hI0 (fun m o h1 h2=>by rw [HT.out,if_pos h1,h2])
 clear HT
 go_in
 go_wp2_with fail
 (with_reducible refine KS.out.mono ?_)
 rintro _ w1 ⟨rfl,hx1,hc1⟩
 have HX1:Hid (w1.heap[b]? =some (.cells (.string S::.int .i64 (i1:Int)::.bool d1::r).toArray 104 (0,0))):=hI0 hx1
 have HC1:=hI0 hc1
 have HXc:Hid (CurAt w1 b S i1 d1 r):=hI0 hx1
 clear hx1 hc1 KS
 have c2:=cW1 2 HX1.out rfl
 have f2:w1.frozen? ⟨b,2,none⟩=false:=fW0 _ _ _ _ _ HX1.out
 by_cases hlt:i1<l.length
 case neg=>
  exact yq11 1
 have q0:¬(S.size:Int)≤(i1:Int):=by omega
 have q1:¬l.length≤i1:=by omega
 have HIX:=hI0 (HIX0.out i1 hlt)
 by_cases hc:l[i1]=39
 case neg=>
  exact yq11 0
 have H39:Hid (l[i1]? =some 39):=hI0 (by rw [List.getElem?_eq_getElem hlt,hc])
 have e1:(l[i1].toNat:Int)=39:=by rw [hc];rfl
 rw [e1] at HIX
 have c1:=cW1 1 HX1.out rfl
 have f1:w1.frozen? ⟨b,1,none⟩=false:=fW0 _ _ _ _ _ HX1.out
 clear e1 hc c2 f2
 go_wp2_with fail
 refine wp_region_noPanic ?_
 refine wp_region_held_drew (S:=(fun Y=>Y.heap[b]? =some (.cells (.string S::.int .i64 (i1:Int)::.bool d1::r).toArray 104 (0,0)))) (by kernel_rfl) ?_ (fun zh=>?_)
 ·exact HX1.out
 refine hT 0 7 ?_
 refine hT 1 8 ?_
 refine hT 2 9 ?_
 refine hU 3 10 (v:=?_) zh ?_ ?_
 rotate_left
 ·exact yq30
 refine hT 4 11 ?_
 refine hT 5 12 ?_
 refine hT 6 13 ?_
 refine hU 7 14 (v:=?_) zh ?_ ?_
 rotate_left
 ·exact yq22
 refine hT 8 15 ?_
 refine hT 9 16 ?_
 refine hT 10 17 ?_
 refine hT 11 18 ?_
 refine hT 12 19 ?_
 refine hT 13 20 ?_
 refine hU 14 21 (v:=?_) zh ?_ ?_
 rotate_left
 ·exact yq22
 refine hT 15 22 ?_
 refine hT 16 23 ?_
 refine hT 17 24 ?_
 refine hU 18 25 (v:=?_) zh ?_ ?_
 rotate_left
 ·exact yq30
 refine hU 19 26 (v:=?_) zh ?_ ?_
 rotate_left
 ·exact yq33
 refine hT 20 27 ?_
 refine hT 21 28 ?_
 refine rD0 ?_
 go_wp2_with fail
 clear c1 f1
 have HZ0:Hid (w.heap.size≤w1.heap.size):=hI0 HC1.out.size
 go_loopw [3] (fun o wr=>∃(k:Nat) (acc:List UInt8),Hid (OwnB wr w.heap.size o acc)∧Hid (CurAt wr b S k d1 r)∧Hid (txR l (i1+1) k acc)∧k≤l.length∧Hid (Chg (·=b) w wr)∧Hid (acc.length≤k)) (fun _ wr=>l.length-posW wr b)
 case atStart=>exact ⟨i1+1,[],hI0 (OwnB.nil _ _),hI0 (CurAt.pos HXc.out (i1+1)),hI0 (txR.start _ _),by omega,hI0 (HC1.out.trans (chg_set w1 b 1 _) (fun _ _ h=>h)).drew,hI0 (Nat.zero_le _)⟩
 clear hlt q0 q1 HIX
 obtain ⟨k,acc,HO,HX,HTR,hk,HC,HAL⟩:=hrel
 obtain ⟨wi,rfl⟩:=eN0 wr
 have HPW:=hI0 HX.out.posW
 have HXi:Hid (wi.heap[b]? =some (.cells (.string S::.int .i64 (k:Int)::.bool d1::r).toArray 104 (0,0))):=HX
 by_cases hlt:k<l.length
 case neg=>
  exact yq8 1
 have q1:(k:Int)<(l.length:Int):=by omega
 have HIX:=hI0 (HIX0.out k hlt)
 have HTA:=hI0 (txG_at hlt)
 have c1:=cW1 1 HXi.out rfl
 have f1:wi.frozen? ⟨b,1,none⟩=false:=fW0 _ _ _ _ _ HXi.out
 obtain ⟨c,hcc⟩:=eN0 (l[k])
 rw [←hcc] at HIX HTA
 clear hcc
 have h256:=c.toNat_lt
 by_cases hc:c=39
 case neg=>
  exact yq6 0
 subst hc
 rw [show ((39:UInt8).toNat:Int)=39 from rfl] at HIX
 rw [if_pos rfl] at HTA
 have HX2:Hid ((wi.setCell ⟨b,1,none⟩ (.int .i64 ((k:Int)+1))).drew.drew.heap[b]? =some (.cells (.string S::.int .i64 ((k:Int)+1)::.bool d1::r).toArray 104 (0,0))):=hI0 (CurAt.pos HX.out (k+1))
 by_cases hlt2:k+1<l.length
 case neg=>
  exact yq8 0
 have HQ3:Hid (¬((S.size:Int))≤(k:Int)+1):=hI0 (by omega)
 have HQ4:Hid (¬l.length≤k+1):=hI0 (by omega)
 have HQ5:Hid (¬(l.length:Int)≤(k:Int)+1):=hI0 (by omega)
 have hiy:=HIX0.out (k+1) hlt2
 rw [show ((k+1:Nat):Int)=(k:Int)+1 from rfl] at hiy
 have HIY:=hI0 hiy
 clear hiy
 have H2:Hid (l[k+1]? =some l[k+1]):=hI0 (List.getElem?_eq_getElem hlt2)
 rw [H2.out] at HTA
 obtain ⟨c2,hcc⟩:=eN0 (l[k+1])
 rw [←hcc] at HIY HTA
 clear hcc H2
 have h257:=c2.toNat_lt
 by_cases hd:c2=39
 case neg=>
  exact yq6 2
 subst hd
 rw [show ((39:UInt8).toNat:Int)=39 from rfl] at HIY
 have HE:Hid (txG (l.drop k)=(k+2-k+(txG (l.drop (k+2))).1,(txG (l.drop (k+2))).2.map (39:: ·))):=hI0 (by rw [HTA.out,if_pos rfl,show k+2-k=2 by omega,Nat.add_comm])
 have HCW:Hid (Chg (·=b) wi (((wi.setCell ⟨b,1,none⟩ (.int .i64 ((k:Int)+1))).setCell ⟨b,1,none⟩ (.int .i64 ((k:Int)+1+1))).alloc (.cells #[.int .u8 39] 5)).drew.drew.drew):=hI0 (((chg_set wi b 1 _).trans (chg_set _ b 1 _) (fun _ _ h=>h)).alloc _).drew.drew.drew
 have HCS:Hid (w.heap.size≤(((wi.setCell ⟨b,1,none⟩ (.int .i64 ((k:Int)+1))).setCell ⟨b,1,none⟩ (.int .i64 ((k:Int)+1+1))).alloc (.cells #[.int .u8 39] 5)).drew.drew.drew.heap.size):=hI0 (Nat.le_trans HC.out.size HCW.out.size)
 have HXA:Hid (CurAt (((wi.setCell ⟨b,1,none⟩ (.int .i64 ((k:Int)+1))).setCell ⟨b,1,none⟩ (.int .i64 ((k:Int)+1+1))).alloc (.cells #[.int .u8 39] 5)).drew.drew.drew b S (k+2) d1 r):=hI0 (CurAt.below (show CurAt ((wi.setCell ⟨b,1,none⟩ (.int .i64 ((k:Int)+1))).setCell ⟨b,1,none⟩ (.int .i64 ((k:Int)+1+1))) b S (k+2) d1 r from by have hp:=CurAt.pos (show CurAt (wi.setCell ⟨b,1,none⟩ (.int .i64 ((k:Int)+1))) b S (k+1) d1 r from CurAt.pos HX.out (k+1)) (k+2);rw [show ((k+2:Nat):Int)=(k:Int)+1+1 by omega] at hp;exact hp) ((Below.of_alloc _).drew.drew.drew))
 go_wp2_with fail
 refine wp_region_noPanic ?_
 refine wp_region_held_drew (S:=(fun Y=>Y.heap[b]? =some (.cells (.string S::.int .i64 (k:Int)::.bool d1::r).toArray 104 (0,0)))) (by kernel_rfl) ?_ (fun zh=>?_)
 ·exact HXi.out
 refine hT 0 39 ?_
 refine hT 1 40 ?_
 refine hT 2 41 ?_
 refine hU 3 42 (v:=?_) zh ?_ ?_
 rotate_left
 ·exact yq31
 refine hT 4 43 ?_
 refine hT 5 44 ?_
 refine hT 6 45 ?_
 refine hU 7 46 (v:=?_) zh ?_ ?_
 rotate_left
 ·exact yq22
 refine hT 8 47 ?_
 refine hT 9 48 ?_
 refine rD0 ?_
 go_wp2_with fail
 refine wp_region_noPanic ?_
 refine wp_region_held_drew (S:=(fun Y=>Y.heap[b]? =some (.cells (.string S::.int .i64 (k:Int)::.bool d1::r).toArray 104 (0,0)))) (by kernel_rfl) ?_ (fun zh=>?_)
 ·exact HXi.out
 refine hT 0 49 ?_
 refine hT 1 50 ?_
 refine hT 2 51 ?_
 refine hU 3 52 (v:=?_) zh ?_ ?_
 rotate_left
 ·exact yq22
 refine hT 4 53 ?_
 refine hT 5 54 ?_
 refine hT 6 55 ?_
 refine hU 7 56 (v:=?_) zh ?_ ?_
 rotate_left
 ·exact yq31
 refine hU 8 57 (v:=?_) zh ?_ ?_
 rotate_left
 ·exact yq33
 refine hT 9 4 ?_
 refine rD0 ?_
 go_wp2_with fail
 have q3:=HQ3.out
 have q4:=HQ4.out
 have q5:=HQ5.out
 have q6:decide ((l.length:Int)≤(k:Int)+1)=false:=decide_eq_false (by have:=HQ5.out;omega)
 refine wp_region_noPanic ?_
 refine wp_region_held_drew (S:=(fun Y=>Y.heap[b]? =some (.cells (.string S::.int .i64 ((k:Int)+1)::.bool d1::r).toArray 104 (0,0)))) (by kernel_rfl) ?_ (fun zh=>?_)
 ·exact HX2.out
 refine hT 0 67 ?_
 refine hT 1 68 ?_
 refine hT 2 69 ?_
 refine hU 3 70 (v:=?_) zh ?_ ?_
 rotate_left
 ·exact yq29
 refine hT 4 71 ?_
 refine hT 5 72 ?_
 refine hT 6 73 ?_
 refine hU 7 74 (v:=?_) zh ?_ ?_
 rotate_left
 ·exact yq22
 refine hT 8 75 ?_
 refine hT 9 76 ?_
 refine hT 10 77 ?_
 refine hT 11 78 ?_
 refine hT 12 79 ?_
 refine hT 13 80 ?_
 refine hU 14 81 (v:=?_) zh ?_ ?_
 rotate_left
 ·exact yq22
 refine hT 15 82 ?_
 refine hT 16 83 ?_
 refine hT 17 84 ?_
 refine hU 18 85 (v:=?_) zh ?_ ?_
 rotate_left
 ·exact yq29
 refine hU 19 86 (v:=?_) zh ?_ ?_
 rotate_left
 ·intro w' hSw;(try dsimp only at hSw);have hx:=HIY.out w';go_simp<;>with_reducible rfl
 refine hT 20 87 ?_
 refine hT 21 88 ?_
 refine rD0 ?_
 go_wp2_with (at_builtin;refine wpList_append_b rfl (.tmp 104) (.tmp 106) rfl w.heap.size _ acc rfl (own_set HO.out HBW.out HCW.out) (fun _=>True) _ [39] rfl (rdB_byteT ((wi.setCell ⟨b,1,none⟩ (.int .i64 ((k:Int)+1))).setCell ⟨b,1,none⟩ (.int .i64 ((k:Int)+1+1))) _ (by first|rfl|simp) 39 _ rfl) yi11 HCS.out ?_;intro v9 w9 hO9 hb9 hg9 hv9)
 go_roundw
 case rel=>exact ⟨k+2,acc++[39],hI0 hO9,hI0 (cur_grow HO.out HBW.out HXA.out hg9),hI0 (HTR.out.next (c:=39) (by omega) HE.out),by omega,hI0 (chg_grow HO.out (HC.out.trans HCW.out (fun _ _ h=>h)) hg9),hI0 yi10⟩
 rw [HPW.out,(CurAt.posW (cur_grow HO.out HBW.out HXA.out hg9))]
 omega
end Go.Proofs.YtgfhknnklapldaaGreatDoor
