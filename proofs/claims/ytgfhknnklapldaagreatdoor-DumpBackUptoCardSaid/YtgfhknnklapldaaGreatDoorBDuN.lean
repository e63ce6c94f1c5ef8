/-
 DuN
-/
import Derived.Test.YtgfhknnklapldaaGreatDoorBDuD
import Derived.Test.YtgfhknnklapldaaGreatDoorBDuE
import Derived.Test.YtgfhknnklapldaaGreatDoorBDuK
import Derived.Test.YtgfhknnklapldaaGreatDoorBSeg1
import Derived.Test.YtgfhknnklapldaaGreatDoorBBase
import Derived.Test.YtgfhknnklapldaaGreatDoorBDuH
namespace Go.Proofs.YtgfhknnklapldaaGreatDoor
open Go.Proofs.Tryz
set_option maxRecDepth 99999
set_option maxHeartbeats 0
open Go.RowKit Go.Lib Go.IntWalk Go.Sort Go.Shelf
def CurAt (w:World) (b:Nat) (S:ByteArray) (i:Nat) (d:Bool) (r:List Value):Prop:=w.heap[b]? =some (.cells (.string S::.int .i64 (i:Int)::.bool d::r).toArray 104 (0,0))
def CurTo (b:Nat) (S:ByteArray) (st:Nat×Bool) (r:List Value) (w0 w:World):Prop:=CurAt w b S st.1 st.2 r∧Chg (·=b) w0 w
section
variable {w w':World} {b:Nat} {S:ByteArray} {i:Nat} {d:Bool} {r:List Value} {st:Nat×Bool}
theorem CurAt.lt (h:CurAt w b S i d r):b<w.heap.size:=(Array.getElem?_eq_some_iff.1 h).1
theorem CurAt.below (h:CurAt w b S i d r) (hb:Bl w w'):CurAt w' b S i d r:=(hb.block b h.lt).trans h
theorem CurAt.pos (h:CurAt w b S i d r) (j:Nat):CurAt (w.setCell ⟨b,1,none⟩ (.int .i64 (j:Int))) b S j d r:=by
 have:=heap_setCell_same w b 1 _ _ (.int .i64 (j:Int)) h
 unfold CurAt
 simpa using this
theorem CurAt.bad (h:CurAt w b S i d r):CurAt (w.setCell ⟨b,2,none⟩ (.bool true)) b S i true r:=by
 have:=heap_setCell_same w b 2 _ _ (.bool true) h
 unfold CurAt
 simpa using this
theorem CurTo.refl (h:CurAt w b S i d r):CurTo b S (i,d) r w w:=⟨h,Chg.refl _ _⟩
theorem CurTo.trans {w2:World} {st2:Nat×Bool} (h:Chg (·=b) w w') (k:CurTo b S st2 r w' w2):CurTo b S st2 r w w2:=⟨k.1,h.trans k.2 (fun _ _ h=>h)⟩
end
theorem chg_set (w:World) (b j:Nat) (u:Value):Chg (·=b) w (w.setCell ⟨b,j,none⟩ u):=Chg.setCell (S:=(·=b)) (p:=⟨b,j,none⟩) (Chg.refl _ _) (.inl rfl) _
def spI (l:List UInt8) (st:Nat×Bool):Nat×Bool:=if st.1=0 then st else if l[st.1]? =some 32 then (st.1+1,st.2) else (st.1,true)
def itB (l:List UInt8) (i:Nat):List UInt8:=(l.drop i).takeWhile (fun x=>x != 32)
def tokI (l:List UInt8) (st:Nat×Bool):List UInt8×Nat×Bool:=(itB l (spI l st).1,(spI l st).1+(itB l (spI l st).1).length,(spI l st).2)
theorem spI_le {l:List UInt8} {st:Nat×Bool} (h:st.1≤l.length):(spI l st).1≤l.length:=by
 unfold spI
 split
 ·exact h
 ·split
  ·rename_i h2
   exact (List.getElem?_eq_some_iff.1 h2).1
  ·exact h
theorem itB_le {l:List UInt8} {i:Nat} (h:i≤l.length):i+(itB l i).length≤l.length:=by
 have h1:(itB l i).length≤(l.drop i).length:=(List.takeWhile_prefix _).length_le
 rw [List.length_drop] at h1
 omega
theorem tokI_le {l:List UInt8} {st:Nat×Bool} (h:st.1≤l.length):(tokI l st).2.1≤l.length:=itB_le (spI_le h)
theorem itB_end {l:List UInt8} {i:Nat} (h:¬i<l.length):itB l i=[]:=by
 unfold itB
 rw [List.drop_of_length_le (by omega)];rfl
theorem itB_space {l:List UInt8} {i:Nat} (h:i<l.length) (he:l[i]=32):itB l i=[]:=by
 unfold itB
 rw [List.drop_eq_getElem_cons h,List.takeWhile_cons,he];rfl
theorem itB_step {l:List UInt8} {i:Nat} (h:i<l.length) (he:l[i]≠32):itB l i=l[i]::itB l (i+1):=by
 unfold itB
 rw [List.drop_eq_getElem_cons h,List.takeWhile_cons,if_pos (by simpa using he)]
theorem take_drop_app {l:List UInt8} {i:Nat} {p:List UInt8} (h:p <+: l.drop i):(l.drop i).take p.length=p:=(List.prefix_iff_eq_take.1 h).symm
theorem space_any (b:Nat) (l:List UInt8) (i:Nat) (d:Bool) (r:List Value) (w:World) (h:CurAt w b (strB l) i d r) (hi:i≤l.length) (hl:l.length≤4294967281):
  Calls prog 136 #[.pointer (some ⟨b,0,none⟩)] w fun e w'=>e=.returned (.tuple #[])∧CurTo b (strB l) (spI l (i,d)) r w w':=by
 have hsz:=strB_size l
 have HX0:=hI0 h
 have HIX0:=hI0 (run_index_str (strB l) l rfl)
 obtain ⟨S,hS⟩:=eN0 (strB l)
 rw [←hS] at HX0 HIX0 hsz ⊢
 clear h hS
 have HX:Hid (w.heap[b]? =some (.cells (.string S::.int .i64 (i:Int)::.bool d::r).toArray 104 (0,0))):=HX0
 have c1:=cW1 1 HX.out rfl
 by_cases h0:i=0
 case pos=>
  have HR:Hid (spI l (i,d)=(i,d)):=hI0 (if_pos h0)
  subst h0
  go_in
  go_wp2_with fail
  (try simp only [Exit.inBlock,Exit.then])
  refine bodyPost_ret (results_none rfl _ _ _) rfl ?_
  exact ⟨rfl,by rw [HR.out];exact CurTo.refl HX0.out⟩
 case neg=>
 have z0:¬(i:Int)=0:=by omega
 have c2:=cW1 2 HX.out rfl
 have f1:w.frozen? ⟨b,1,none⟩=false:=fW0 _ _ _ _ _ HX.out
 have f2:w.frozen? ⟨b,2,none⟩=false:=fW0 _ _ _ _ _ HX.out
 by_cases hlt:i<l.length
 case neg=>
  have q0:(S.size:Int)≤(i:Int):=by omega
  have q1:l.length≤i:=by omega
  have HR:Hid (spI l (i,d)=(i,true)):=hI0 (by unfold spI;rw [if_neg h0,if_neg (by rw [List.getElem?_eq_none (by omega)];simp)])
  go_in
  go_wp2_with fail
  refine wp_region_noPanic ?_
  refine wp_region_held_drew (S:=(fun Y=>Y.heap[b]? =some (.cells (.string S::.int .i64 (i:Int)::.bool d::r).toArray 104 (0,0)))) (by kernel_rfl) ?_ (fun zh=>?_)
  ·exact HX.out
  refine hT 0 7 ?_
  refine hT 1 8 ?_
  refine hT 2 9 ?_
  refine hU 3 10 (v:=?_) zh ?_ ?_
  rotate_left
  ·intro w' hSw;(try dsimp only at hSw);have c1:=cW1 (v:=.int .i64 (i:Int)) 1 hSw rfl;go_simp<;>with_reducible rfl
  refine hT 4 11 ?_
  refine hT 5 12 ?_
  refine hT 6 13 ?_
  refine hU 7 14 (v:=?_) zh ?_ ?_
  rotate_left
  ·intro w' hSw;(try dsimp only at hSw);have c0:=cW1 (v:=.string S) 0 hSw rfl;go_simp<;>with_reducible rfl
  refine hT 8 15 ?_
  refine hT 9 16 ?_
  refine hT 10 17 ?_
  refine hK 11 18 ?_
  refine hK 12 19 ?_
  refine hK 13 20 ?_
  refine hK 14 21 ?_
  refine hK 15 22 ?_
  refine hK 16 23 ?_
  refine hK 17 24 ?_
  refine hK 18 25 ?_
  refine hK 19 26 ?_
  refine hK 20 27 ?_
  refine hT 21 28 ?_
  refine rD0 ?_
  go_wp2_with fail
  (try simp only [Exit.inBlock,Exit.then])
  refine bodyPost_ret (results_none rfl _ _ _) rfl ?_
  exact ⟨rfl,by rw [HR.out];exact ⟨CurAt.bad HX0.out,(chg_set w b 2 _).drew⟩⟩
 have q0:¬(S.size:Int)≤(i:Int):=by omega
 have q1:¬l.length≤i:=by omega
 have HIX:=hI0 (HIX0.out i hlt)
 by_cases hc:l[i]=32
 case pos=>
  have HR:Hid (spI l (i,d)=(i+1,d)):=hI0 (by unfold spI;rw [if_neg h0,if_pos (by rw [List.getElem?_eq_getElem hlt,hc])])
  have e1:(l[i].toNat:Int)=32:=by rw [hc];rfl
  rw [e1] at HIX
  clear e1 hc
  go_in
  go_wp2_with fail
  refine wp_region_noPanic ?_
  refine wp_region_held_drew (S:=(fun Y=>Y.heap[b]? =some (.cells (.string S::.int .i64 (i:Int)::.bool d::r).toArray 104 (0,0)))) (by kernel_rfl) ?_ (fun zh=>?_)
  ·exact HX.out
  refine hT 0 7 ?_
  refine hT 1 8 ?_
  refine hT 2 9 ?_
  refine hU 3 10 (v:=?_) zh ?_ ?_
  rotate_left
  ·intro w' hSw;(try dsimp only at hSw);have c1:=cW1 (v:=.int .i64 (i:Int)) 1 hSw rfl;go_simp<;>with_reducible rfl
  refine hT 4 11 ?_
  refine hT 5 12 ?_
  refine hT 6 13 ?_
  refine hU 7 14 (v:=?_) zh ?_ ?_
  rotate_left
  ·intro w' hSw;(try dsimp only at hSw);have c0:=cW1 (v:=.string S) 0 hSw rfl;go_simp<;>with_reducible rfl
  refine hT 8 15 ?_
  refine hT 9 16 ?_
  refine hT 10 17 ?_
  refine hT 11 18 ?_
  refine hT 12 19 ?_
  refine hT 13 20 ?_
  refine hU 14 21 (v:=?_) zh ?_ ?_
  rotate_left
  ·intro w' hSw;(try dsimp only at hSw);have c0:=cW1 (v:=.string S) 0 hSw rfl;go_simp<;>with_reducible rfl
  refine hT 15 22 ?_
  refine hT 16 23 ?_
  refine hT 17 24 ?_
  refine hU 18 25 (v:=?_) zh ?_ ?_
  rotate_left
  ·intro w' hSw;(try dsimp only at hSw);have c1:=cW1 (v:=.int .i64 (i:Int)) 1 hSw rfl;go_simp<;>with_reducible rfl
  refine hU 19 26 (v:=?_) zh ?_ ?_
  rotate_left
  ·intro w' hSw;(try dsimp only at hSw);have hx:=HIX.out w';go_simp<;>with_reducible rfl
  refine hT 20 27 ?_
  refine hT 21 28 ?_
  refine rD0 ?_
  go_wp2_with fail
  go_end0
  exact ⟨rfl,by rw [HR.out];exact ⟨CurAt.pos HX0.out (i+1),(chg_set w b 1 _).drew⟩⟩
 have HR:Hid (spI l (i,d)=(i,true)):=hI0 (by unfold spI;rw [if_neg h0,if_neg (by rw [List.getElem?_eq_getElem hlt];simpa using hc)])
 have e1:¬(l[i].toNat:Int)=32:=fun h=>hc (by apply UInt8.toNat_inj.1;show l[i].toNat=32;omega)
 have h256:=l[i].toNat_lt
 generalize l[i].toNat=ch at *
 clear hc
 go_in
 go_wp2_with fail
 refine wp_region_noPanic ?_
 refine wp_region_held_drew (S:=(fun Y=>Y.heap[b]? =some (.cells (.string S::.int .i64 (i:Int)::.bool d::r).toArray 104 (0,0)))) (by kernel_rfl) ?_ (fun zh=>?_)
 ·exact HX.out
 refine hT 0 7 ?_
 refine hT 1 8 ?_
 refine hT 2 9 ?_
 refine hU 3 10 (v:=?_) zh ?_ ?_
 rotate_left
 ·intro w' hSw;(try dsimp only at hSw);have c1:=cW1 (v:=.int .i64 (i:Int)) 1 hSw rfl;go_simp<;>with_reducible rfl
 refine hT 4 11 ?_
 refine hT 5 12 ?_
 refine hT 6 13 ?_
 refine hU 7 14 (v:=?_) zh ?_ ?_
 rotate_left
 ·intro w' hSw;(try dsimp only at hSw);have c0:=cW1 (v:=.string S) 0 hSw rfl;go_simp<;>with_reducible rfl
 refine hT 8 15 ?_
 refine hT 9 16 ?_
 refine hT 10 17 ?_
 refine hT 11 18 ?_
 refine hT 12 19 ?_
 refine hT 13 20 ?_
 refine hU 14 21 (v:=?_) zh ?_ ?_
 rotate_left
 ·intro w' hSw;(try dsimp only at hSw);have c0:=cW1 (v:=.string S) 0 hSw rfl;go_simp<;>with_reducible rfl
 refine hT 15 22 ?_
 refine hT 16 23 ?_
 refine hT 17 24 ?_
 refine hU 18 25 (v:=?_) zh ?_ ?_
 rotate_left
 ·intro w' hSw;(try dsimp only at hSw);have c1:=cW1 (v:=.int .i64 (i:Int)) 1 hSw rfl;go_simp<;>with_reducible rfl
 refine hU 19 26 (v:=?_) zh ?_ ?_
 rotate_left
 ·intro w' hSw;(try dsimp only at hSw);have hx:=HIX.out w';go_simp<;>with_reducible rfl
 refine hT 20 27 ?_
 refine hT 21 28 ?_
 refine rD0 ?_
 go_wp2_with fail
 (try simp only [Exit.inBlock,Exit.then])
 refine bodyPost_ret (results_none rfl _ _ _) rfl ?_
 exact ⟨rfl,by rw [HR.out];exact ⟨CurAt.bad HX0.out,(chg_set w b 2 _).drew⟩⟩
def posW (w:World) (b:Nat):Nat:=((w.cell? ⟨b,1,none⟩).map fun v=>(intOf v).toNat).getD 0
theorem CurAt.posW {w:World} {b:Nat} {S:ByteArray} {i:Nat} {d:Bool} {r:List Value} (h:CurAt w b S i d r):posW w b=i:=by
 have c1:=cW1 1 h rfl
 unfold Go.Proofs.YtgfhknnklapldaaGreatDoor.posW
 rw [c1]
 simp [intOf]
theorem strB_ext (l:List UInt8) (i k:Nat):(strB l).extract i k=strB ((l.drop i).take (k-i)):=by
 apply ByteArray.ext
 rw [ByteArray.data_extract]
 apply Array.toList_inj.1
 simp [strB]
theorem itB_ext {l:List UInt8} {i k:Nat} (h:k=i+(itB l i).length):(strB l).extract i k=strB (itB l i):=by
 rw [strB_ext,show k-i=(itB l i).length by omega,take_drop_app (p:=itB l i) (List.takeWhile_prefix _)]
theorem token_any (b:Nat) (l:List UInt8) (i:Nat) (d:Bool) (r:List Value) (w:World) (h:CurAt w b (strB l) i d r) (hi:i≤l.length) (hl:l.length≤4294967281):
  Calls prog 92 #[.pointer (some ⟨b,0,none⟩)] w fun e w'=>e=.returned (.string (strB (tokI l (i,d)).1))∧CurTo b (strB l) (tokI l (i,d)).2 r w w':=by
 have KS:=hI0 (space_any b l i d r w h hi hl)
 have hle:=spI_le (l:=l) (st:=(i,d)) hi
 have HIX0:=hI0 (run_index_str (strB l) l rfl)
 have hsz:=strB_size l
 have hend:=itB_le hle
 have HEX:=hI0 (fun k=>itB_ext (l:=l) (i:=(spI l (i,d)).1) (k:=k))
 have HT:Hid (tokI l (i,d)=(itB l (spI l (i,d)).1,(spI l (i,d)).1+(itB l (spI l (i,d)).1).length,(spI l (i,d)).2)):=hI0 rfl
 unfold CurTo at KS
 obtain ⟨p1,hp1⟩:=eN0 (spI l (i,d))
 rw [←hp1] at hle hend HEX HT KS
 clear hp1
 obtain ⟨i1,d1⟩:=p1
 dsimp only at hle hend HEX HT KS
 obtain ⟨S,hS⟩:=eN0 (strB l)
 rw [←hS] at KS HIX0 hsz HEX
 rw [HT.out,←hS]
 clear h hS
 go_in
 go_wp2_with fail
 (with_reducible refine KS.out.mono ?_)
 rintro _ w1 ⟨rfl,hx1,hc1⟩
 have c1:=cW1 1 hx1 rfl
 have HX1:=hI0 hx1
 have HC1:=hI0 hc1
 clear hx1 hc1 KS
 go_wp2_with fail
 clear c1
 go_loopw [10] (fun _ wr=>∃k:Nat,Hid (CurAt wr b S k d1 r)∧i1≤k∧k≤l.length∧Hid (i1+(itB l i1).length=k+(itB l k).length)∧Hid (Chg (·=b) w wr)) (fun _ wr=>l.length-posW wr b)
 case atStart=>exact ⟨i1,HX1,Nat.le_refl _,hle,hI0 rfl,HC1⟩
 obtain ⟨k,HXi,h1k,hk,HE,HC⟩:=hrel
 obtain ⟨wi,rfl⟩:=eN0 wr
 have HPW:=hI0 HXi.out.posW
 have HXr:Hid (wi.heap[b]? =some (.cells (.string S::.int .i64 (k:Int)::.bool d1::r).toArray 104 (0,0))):=HXi
 by_cases hlt:k<l.length
 case neg=>
  have HF:Hid (k=i1+(itB l i1).length):=hI0 (by have:=HE.out;rw [itB_end hlt,List.length_nil] at this;omega)
  have q1:¬(k:Int)<(l.length:Int):=by omega
  go_wp2_with fail
  refine wp_region_noPanic ?_
  refine wp_region_held_drew (S:=(fun Y=>Y.heap[b]? =some (.cells (.string S::.int .i64 (k:Int)::.bool d1::r).toArray 104 (0,0)))) (by kernel_rfl) ?_ (fun zh=>?_)
  ·exact HXr.out
  refine hT 0 10 ?_
  refine hT 1 11 ?_
  refine hT 2 12 ?_
  refine hU 3 13 (v:=?_) zh ?_ ?_
  rotate_left
  ·intro w' hSw;(try dsimp only at hSw);have c1:=cW1 (v:=.int .i64 (k:Int)) 1 hSw rfl;go_simp<;>with_reducible rfl
  refine hT 4 14 ?_
  refine hT 5 15 ?_
  refine hT 6 16 ?_
  refine hU 7 17 (v:=?_) zh ?_ ?_
  rotate_left
  ·intro w' hSw;(try dsimp only at hSw);have c0:=cW1 (v:=.string S) 0 hSw rfl;go_simp<;>with_reducible rfl
  refine hT 8 18 ?_
  refine hT 9 19 ?_
  refine hT 10 20 ?_
  refine hK 11 21 ?_
  refine hK 12 22 ?_
  refine hK 13 23 ?_
  refine hK 14 24 ?_
  refine hK 15 25 ?_
  refine hK 16 26 ?_
  refine hK 17 27 ?_
  refine hK 18 28 ?_
  refine hK 19 29 ?_
  refine hK 20 30 ?_
  refine hT 21 31 ?_
  refine rD0 ?_
  go_wp2_with fail
  refine wp_region_noPanic ?_
  refine wp_region_held_drew (S:=(fun Y=>Y.heap[b]? =some (.cells (.string S::.int .i64 (k:Int)::.bool d1::r).toArray 104 (0,0)))) (by kernel_rfl) ?_ (fun zh=>?_)
  ·exact HXr.out
  refine hT 0 39 ?_
  refine hT 1 40 ?_
  refine hT 2 41 ?_
  refine hU 3 42 (v:=?_) zh ?_ ?_
  rotate_left
  ·intro w' hSw;(try dsimp only at hSw);have c0:=cW1 (v:=.string S) 0 hSw rfl;go_simp<;>with_reducible rfl
  refine hT 4 43 ?_
  refine hT 5 44 ?_
  refine hT 6 45 ?_
  refine hT 7 46 ?_
  refine hU 8 47 (v:=?_) zh ?_ ?_
  rotate_left
  ·intro w' hSw;(try dsimp only at hSw);have c1:=cW1 (v:=.int .i64 (k:Int)) 1 hSw rfl;go_simp<;>with_reducible rfl
  refine hT 9 48 ?_
  refine hT 10 2 ?_
  refine rD0 ?_
  go_wp2_with fail
  go_ret
  exact ⟨by rw [HEX.out k HF.out];rfl,by rw [←HF.out];exact HXi.out,HC.out.drew.drew⟩
 have q1:(k:Int)<(l.length:Int):=by omega
 have HIX:=hI0 (HIX0.out k hlt)
 by_cases hc:l[k]=32
 case pos=>
  have HF:Hid (k=i1+(itB l i1).length):=hI0 (by have:=HE.out;rw [itB_space hlt hc,List.length_nil] at this;omega)
  have e1:(l[k].toNat:Int)=32:=by rw [hc];rfl
  rw [e1] at HIX
  clear e1 hc
  go_wp2_with fail
  refine wp_region_noPanic ?_
  refine wp_region_held_drew (S:=(fun Y=>Y.heap[b]? =some (.cells (.string S::.int .i64 (k:Int)::.bool d1::r).toArray 104 (0,0)))) (by kernel_rfl) ?_ (fun zh=>?_)
  ·exact HXr.out
  refine hT 0 10 ?_
  refine hT 1 11 ?_
  refine hT 2 12 ?_
  refine hU 3 13 (v:=?_) zh ?_ ?_
  rotate_left
  ·intro w' hSw;(try dsimp only at hSw);have c1:=cW1 (v:=.int .i64 (k:Int)) 1 hSw rfl;go_simp<;>with_reducible rfl
  refine hT 4 14 ?_
  refine hT 5 15 ?_
  refine hT 6 16 ?_
  refine hU 7 17 (v:=?_) zh ?_ ?_
  rotate_left
  ·intro w' hSw;(try dsimp only at hSw);have c0:=cW1 (v:=.string S) 0 hSw rfl;go_simp<;>with_reducible rfl
  refine hT 8 18 ?_
  refine hT 9 19 ?_
  refine hT 10 20 ?_
  refine hT 11 21 ?_
  refine hT 12 22 ?_
  refine hT 13 23 ?_
  refine hU 14 24 (v:=?_) zh ?_ ?_
  rotate_left
  ·intro w' hSw;(try dsimp only at hSw);have c0:=cW1 (v:=.string S) 0 hSw rfl;go_simp<;>with_reducible rfl
  refine hT 15 25 ?_
  refine hT 16 26 ?_
  refine hT 17 27 ?_
  refine hU 18 28 (v:=?_) zh ?_ ?_
  rotate_left
  ·intro w' hSw;(try dsimp only at hSw);have c1:=cW1 (v:=.int .i64 (k:Int)) 1 hSw rfl;go_simp<;>with_reducible rfl
  refine hU 19 29 (v:=?_) zh ?_ ?_
  rotate_left
  ·intro w' hSw;(try dsimp only at hSw);have hx:=HIX.out w';go_simp<;>with_reducible rfl
  refine hT 20 30 ?_
  refine hT 21 31 ?_
  refine rD0 ?_
  go_wp2_with fail
  refine wp_region_noPanic ?_
  refine wp_region_held_drew (S:=(fun Y=>Y.heap[b]? =some (.cells (.string S::.int .i64 (k:Int)::.bool d1::r).toArray 104 (0,0)))) (by kernel_rfl) ?_ (fun zh=>?_)
  ·exact HXr.out
  refine hT 0 39 ?_
  refine hT 1 40 ?_
  refine hT 2 41 ?_
  refine hU 3 42 (v:=?_) zh ?_ ?_
  rotate_left
  ·intro w' hSw;(try dsimp only at hSw);have c0:=cW1 (v:=.string S) 0 hSw rfl;go_simp<;>with_reducible rfl
  refine hT 4 43 ?_
  refine hT 5 44 ?_
  refine hT 6 45 ?_
  refine hT 7 46 ?_
  refine hU 8 47 (v:=?_) zh ?_ ?_
  rotate_left
  ·intro w' hSw;(try dsimp only at hSw);have c1:=cW1 (v:=.int .i64 (k:Int)) 1 hSw rfl;go_simp<;>with_reducible rfl
  refine hT 9 48 ?_
  refine hT 10 2 ?_
  refine rD0 ?_
  go_wp2_with fail
  go_ret
  exact ⟨by rw [HEX.out k HF.out];rfl,by rw [←HF.out];exact HXi.out,HC.out.drew.drew⟩
 have HN:Hid (k+(itB l k).length=k+1+(itB l (k+1)).length):=hI0 (by rw [itB_step hlt hc,List.length_cons];omega)
 have e1:¬(l[k].toNat:Int)=32:=fun h=>hc (by apply UInt8.toNat_inj.1;show l[k].toNat=32;omega)
 have h256:=l[k].toNat_lt
 generalize l[k].toNat=ch at *
 have c1:=cW1 1 HXi.out rfl
 have f1:wi.frozen? ⟨b,1,none⟩=false:=fW0 _ _ _ _ _ HXi.out
 clear hc
 go_wp2_with fail
 refine wp_region_noPanic ?_
 refine wp_region_held_drew (S:=(fun Y=>Y.heap[b]? =some (.cells (.string S::.int .i64 (k:Int)::.bool d1::r).toArray 104 (0,0)))) (by kernel_rfl) ?_ (fun zh=>?_)
 ·exact HXr.out
 refine hT 0 10 ?_
 refine hT 1 11 ?_
 refine hT 2 12 ?_
 refine hU 3 13 (v:=?_) zh ?_ ?_
 rotate_left
 ·intro w' hSw;(try dsimp only at hSw);have c1:=cW1 (v:=.int .i64 (k:Int)) 1 hSw rfl;go_simp<;>with_reducible rfl
 refine hT 4 14 ?_
 refine hT 5 15 ?_
 refine hT 6 16 ?_
 refine hU 7 17 (v:=?_) zh ?_ ?_
 rotate_left
 ·intro w' hSw;(try dsimp only at hSw);have c0:=cW1 (v:=.string S) 0 hSw rfl;go_simp<;>with_reducible rfl
 refine hT 8 18 ?_
 refine hT 9 19 ?_
 refine hT 10 20 ?_
 refine hT 11 21 ?_
 refine hT 12 22 ?_
 refine hT 13 23 ?_
 refine hU 14 24 (v:=?_) zh ?_ ?_
 rotate_left
 ·intro w' hSw;(try dsimp only at hSw);have c0:=cW1 (v:=.string S) 0 hSw rfl;go_simp<;>with_reducible rfl
 refine hT 15 25 ?_
 refine hT 16 26 ?_
 refine hT 17 27 ?_
 refine hU 18 28 (v:=?_) zh ?_ ?_
 rotate_left
 ·intro w' hSw;(try dsimp only at hSw);have c1:=cW1 (v:=.int .i64 (k:Int)) 1 hSw rfl;go_simp<;>with_reducible rfl
 refine hU 19 29 (v:=?_) zh ?_ ?_
 rotate_left
 ·intro w' hSw;(try dsimp only at hSw);have hx:=HIX.out w';go_simp<;>with_reducible rfl
 refine hT 20 30 ?_
 refine hT 21 31 ?_
 refine rD0 ?_
 go_wp2_with fail
 go_roundw
 case rel=>exact ⟨k+1,hI0 (CurAt.pos HXi.out (k+1)),by omega,by omega,hI0 (HE.out.trans HN.out),hI0 (HC.out.trans (chg_set wi b 1 _) (fun _ _ h=>h)).drew⟩
 rw [HPW.out]
 have hq:posW (wi.setCell ⟨b,1,none⟩ (.int .i64 ((k:Int)+1))).drew b=k+1:=CurAt.posW (S:=S) (d:=d1) (r:=r) (CurAt.pos HXi.out (k+1))
 rw [hq]
 omega
def numV (t:List UInt8):Option Int:=match Lib.atoiAll t with
 | .ok v=>if itoa v=t then some v else none
 |_=>none
def numR (o:Option Int) (st:Nat×Bool):Int×Nat×Bool:=match o with
 |some v=>(v,st)
 |none=>(0,st.1,true)
def cnumI (l:List UInt8) (st:Nat×Bool):Int×Nat×Bool:=numR (numV (tokI l st).1) (tokI l st).2
theorem atoiAll_bd {t:List UInt8} {v:Int} (h:Lib.atoiAll t=.ok v): -9223372036854775808≤v∧v≤9223372036854775807:=by
 unfold Lib.atoiAll at h
 cases t with
 |nil=>cases h
 |cons c r=>
  simp only at h
  split at h
  ·cases h
  ·cases h
  ·split at h
   ·cases h
   ·split at h
    ·cases h
    ·injection h with h
     subst h
     split<;>omega
theorem atoiC (t:List UInt8) (w:World) (he:EnvD w) (hl:t.length≤4294967281):
  Calls prog 137 #[.string (strB t)] w fun e w'=>(∃n ev,e=.returned (.tuple #[.int .i64 n,ev])∧((ev=.nilIface∧Lib.atoiAll t=.ok n∧ -9223372036854775808≤n∧n≤9223372036854775807)∨((∃tp p,ev=.iface tp p)∧numV t=none)))∧Bl w w':=by
 have hz:=strB_size t
 have ht:(strB t).data.toList=t:=bas_s t
 rcases h:Lib.atoiAll t with v|_|_
 ·refine (strconv_Atoi_ok (strB t) (by omega) v (by rw [ht];exact h) w).mono ?_
  rintro e w' ⟨rfl,hw⟩
  refine ⟨⟨v,_,rfl,.inl ⟨rfl,rfl,atoiAll_bd h⟩⟩,?_⟩
  rcases hw with rfl|⟨s,rfl⟩
  ·exact Below.refl _ _
  ·exact below_bytesWorld _ _
 ·obtain ⟨tp,p,hv⟩:=he.es
  refine (strconv_Atoi_syntax_var (strB t) (by omega) (by rw [ht];exact h) tp p w hv).mono ?_
  rintro e w' ⟨N,rfl,_,_,hb⟩
  exact ⟨⟨_,_,rfl,.inr ⟨⟨_,_,rfl⟩,by unfold numV;rw [h]⟩⟩,hb⟩
 ·obtain ⟨tp,p,hv⟩:=he.er
  refine (strconv_Atoi_range_var (strB t) (by omega) (by rw [ht];exact h) tp p w hv).mono ?_
  rintro e w' ⟨N,rfl,_,_,hb⟩
  exact ⟨⟨_,_,rfl,.inr ⟨⟨_,_,rfl⟩,by unfold numV;rw [h]⟩⟩,hb⟩
theorem cnum_any (b:Nat) (l:List UInt8) (i:Nat) (d:Bool) (r:List Value) (w:World) (he:EnvP b w) (h:CurAt w b (strB l) i d r) (hi:i≤l.length) (hl:l.length≤4294967281):
  Calls prog 93 #[.pointer (some ⟨b,0,none⟩)] w fun e w'=>e=.returned (.int .i64 (cnumI l (i,d)).1)∧CurTo b (strB l) (cnumI l (i,d)).2 r w w':=by
 have KT:=hI0 (token_any b l i d r w h hi hl)
 have HE:=hI0 he
 have hbw:=h.lt
 have htl:(tokI l (i,d)).1.length≤4294967281:=by
  have h1:=itB_le (spI_le (l:=l) (st:=(i,d)) hi)
  show (itB l (spI l (i,d)).1).length≤_
  omega
 have HN:Hid (cnumI l (i,d)=numR (numV (tokI l (i,d)).1) (tokI l (i,d)).2):=hI0 rfl
 obtain ⟨res,hres⟩:=eN0 (cnumI l (i,d))
 rw [←hres] at HN ⊢
 clear hres
 unfold CurTo at KT
 obtain ⟨p1,hp1⟩:=eN0 (tokI l (i,d))
 rw [←hp1] at HN htl KT
 clear hp1
 obtain ⟨t,i2,d2⟩:=p1
 dsimp only at HN htl KT
 obtain ⟨S,hS⟩:=eN0 (strB l)
 rw [←hS] at KT ⊢
 clear h hS he
 go_in
 go_wp2_with fail
 (with_reducible refine KT.out.mono ?_)
 rintro _ w1 ⟨rfl,hx1,hc1⟩
 have HX1:=hI0 hx1
 have HC1:=hI0 hc1
 have HE1:=hI0 (HE.out.keep (hc1.below (Nat.le_of_lt hbw) (fun _ e=>by omega)))
 have KA:=hI0 (atoiC t w1 HE1.out.now htl)
 have hts:=strB_size t
 clear hx1 hc1 KT
 go_wp2_with fail
 (with_reducible refine KA.out.mono ?_)
 rintro _ w2 ⟨⟨n,ev,rfl,hev⟩,hb2⟩
 have HX2:=hI0 (HX1.out.below hb2)
 have HC2:=hI0 (HC1.out.then_below hb2)
 have HE2:=hI0 (HE1.out.now.below hb2)
 clear hb2 KA
 have c2:=cW1 2 HX2.out rfl
 have f2:w2.frozen? ⟨b,2,none⟩=false:=fW0 _ _ _ _ _ HX2.out
 rcases hev with ⟨rfl,hok,hn1,hn2⟩|⟨⟨tp,p,rfl⟩,hno⟩
 ·have KI:=hI0 (itoaC n w2 HE2.out hn1 hn2)
  have HOK:=hI0 hok
  have HTS:Hid (strB (itoa n)=strB t→numV t=some n):=hI0 (fun e=>by
   unfold numV
   rw [hok]
   have:=congrArg (fun s=>s.data.toList) e
   simp only [bas_s] at this
   exact if_pos this)
  have HTN:Hid (strB (itoa n)≠strB t→numV t=none):=hI0 (fun e=>by
   unfold numV
   rw [hok]
   exact if_neg (fun h=>e (by rw [h])))
  clear hok
  generalize strB (itoa n)=s1 at *
  generalize strB t=s2 at *
  clear c2 f2
  go_wp2_with fail
  (with_reducible refine KI.out.mono ?_)
  rintro _ w3 ⟨rfl,hb3⟩
  have HX3:=hI0 (HX2.out.below hb3)
  have HC3:=hI0 (HC2.out.then_below hb3)
  have c2:=cW1 2 HX3.out rfl
  have f2:w3.frozen? ⟨b,2,none⟩=false:=fW0 _ _ _ _ _ HX3.out
  clear hb3 KI
  by_cases hs:s1=s2
  case pos=>
   have HR:=hI0 (HTS.out hs)
   have e1:(s1.toList==s2.toList)=true:=by rw [hs];simp
   go_wp2_with fail
   go_ret
   rw [HN.out,HR.out]
   exact ⟨rfl,HX3.out,HC3.out⟩
  have HR:=hI0 (HTN.out hs)
  have e1:(s1.toList==s2.toList)=false:=by rw [ByteArray.toList_eq,ByteArray.toList_eq];simpa using fun h=>hs (bas_eq h)
  go_wp2_with fail
  go_ret
  rw [HN.out,HR.out]
  exact ⟨rfl,HX3.out.bad,HC3.out.setCell (p:=⟨b,2,none⟩) (.inl rfl) _⟩
 ·have HR:=hI0 hno
  clear hno
  go_wp2_with fail
  go_ret
  rw [HN.out,HR.out]
  exact ⟨rfl,HX2.out.bad,HC2.out.setCell (p:=⟨b,2,none⟩) (.inl rfl) _⟩
end Go.Proofs.YtgfhknnklapldaaGreatDoor
