/-
 DuC
-/
import Derived.Test.YtgfhknnklapldaaGreatDoorBVer
import Derived.Test.YtgfhknnklapldaaGreatDoorBDuA
import Derived.Test.YtgfhknnklapldaaGreatDoorShelf
import Derived.Shelf.RegionOpenPlain
import Derived.Lib.UnsafeStr
namespace Go.Proofs.YtgfhknnklapldaaGreatDoor
open Go.Proofs.Tryz
set_option maxRecDepth 99999
set_option maxHeartbeats 0
open Go.RowKit Go.Lib Go.IntWalk Go.Shelf
def PrAt (w:World) (b:Nat) (l:List UInt8):Prop:=IsBuilder 64 5 b b (byteCells l) w
def PrOut (b:Nat) (l:List UInt8) (w0:World) (e:Ending) (w:World):Prop:=e=.returned (.tuple #[])∧PrAt w b l∧Below b w0 w∧KeepO b w0 w
theorem PrAt.new (w:World):PrAt (w.alloc (.cells #[.pointer none,.slice none 0 0] 64)) w.heap.size []:=fresh_isBuilder _ _ w
theorem PrAt.lt {w:World} {b:Nat} {l:List UInt8} (h:PrAt w b l):b<w.heap.size:=h.elim BuilderAt.lt BuilderAt.lt
theorem blt_below {T e:TypeId} {B b:Nat} {p:Value} {bs:List Value} {w w':World} (h:BuilderAt T e B b p bs w) (hb:Bl w w'):BuilderAt T e B b p bs w':=by
 have hl:=h.lt
 obtain ⟨h1,v,h2,h3,h4⟩:=h
 exact ⟨h1,v,(hb.block b hl).trans h2,h3.kept (row:=none) ⟨hb.os,hb.tape,hb.output,hb.size,fun k hk _=>hb.block k hk⟩ (by cases v.ownBlock<;>simp),h4⟩
theorem PrAt.below {w w':World} {b:Nat} {l:List UInt8} (h:PrAt w b l) (hb:Bl w w'):PrAt w' b l:=h.imp (fun k=>blt_below k hb) (fun k=>blt_below k hb)
theorem pr_used (b:Nat) (w:World) (h0:w.cell? ⟨b,0,none⟩=some (.pointer (some ⟨b,0,none⟩))):
  Calls prog 118 #[.pointer (some ⟨b,0,none⟩)] w fun e w'=>e=.returned (.tuple #[])∧w'=w:=by
 obtain ⟨j,hj,hjs⟩:=Option.map_eq_some_iff.1 (show (prog.info? 62).map (·.size)=some 2 by kernel_rfl)
 go_in
 go_wp2_with fail
 rw [run_neq_ptr_same w _ underlying60 hj]
 go_wp2_with fail
 go_end0
 exact ⟨rfl,rfl⟩
theorem pr_fresh (b:Nat) (w:World) (h0:w.cell? ⟨b,0,none⟩=some (.pointer none)) (hsh:w.shape? b=some (64,2)) (hfz:w.frozen? ⟨b,0,none⟩=false):
  Calls prog 118 #[.pointer (some ⟨b,0,none⟩)] w fun e w'=>e=.returned (.tuple #[])∧w'=w.setCell ⟨b,0,none⟩ (.pointer (some ⟨b,0,none⟩)):=by
 obtain ⟨j,hj,hjs⟩:=Option.map_eq_some_iff.1 (show (prog.info? 62).map (·.size)=some 2 by kernel_rfl)
 have hlies:liesAt prog prog.depth 64 (2 / prog.cellsOf 64) 0 62 1=true:=by kernel_rfl
 go_in
 go_wp2_with fail
 rw [run_to_unsafe w ⟨b,0,none⟩ underlying60 underlying246 hj (by rw [hjs];decide) hsh (Nat.zero_lt_succ 1)]
 simp only [Result.andThen]
 rw [Oper.upon_value]
 go_wp2_with fail
 rw [run_callFunc_extern func181 (by kernel_rfl) (by kernel_rfl) (by kernel_rfl) (e:=Extern.AbiNoEscape.same) (by kernel_rfl)]
 rw [run_noEscape]
 simp only [Result.andThen]
 rw [Oper.upon_value]
 go_wp2_with fail
 rw [run_from_unsafe w ⟨b,0,none⟩ underlying246 underlying60 hj hsh hlies]
 simp only [Result.andThen]
 rw [Oper.upon_value]
 go_wp2_with fail
 go_end0
 exact ⟨rfl,rfl⟩
theorem pr_check (b:Nat) (l:List UInt8) (w:World) (h:PrAt w b l):
  Calls prog 118 #[.pointer (some ⟨b,0,none⟩)] w fun e w'=>e=.returned (.tuple #[])∧BuilderAt 64 5 b b (.pointer (some ⟨b,0,none⟩)) (byteCells l) w'∧Below b w w'∧Chg (·=b) w w':=by
 rcases h with h|h
 ·refine (pr_fresh b w h.cell0 h.shape h.frozen0).mono ?_
  rintro e w' ⟨rfl,rfl⟩
  exact ⟨rfl,h.used _,(Below.refl b w).setCell (p:=⟨b,0,none⟩) h.1 _,Chg.setCell (S:=(·=b)) (p:=⟨b,0,none⟩) (Chg.refl _ w) (.inl rfl) _⟩
 ·refine (pr_used b w h.cell0).mono ?_
  rintro e w' ⟨rfl,rfl⟩
  exact ⟨rfl,h,Below.refl b _,Chg.refl _ _⟩
theorem pr_write (b:Nat) (l:List UInt8) (s:ByteArray) (w:World) (h:PrAt w b l) (hlen:l.length+s.size≤140737488355328):
  Calls prog 63 #[.pointer (some ⟨b,0,none⟩),.string s] w fun e w'=>e=.returned (.tuple #[.int .i64 s.size,.nilIface])∧PrAt w' b (l++s.data.toList)∧Below b w w'∧KeepO b w w':=by
 obtain ⟨i0,hi,hz0,hz1,hz2⟩:=info_parts infoB
 have hbl:=h.lt
 have KC:=pr_check b l w h
 clear h
 go_in
 go_wp2_with fail
 (with_reducible refine KC.mono ?_)
 rintro e w1 ⟨rfl,⟨_,v,hbk,hown,hne⟩,hb1,hc1⟩
 rw [byteCells_length] at hown
 have c0:w1.cell? ⟨b,0,none⟩=some (.pointer (some ⟨b,0,none⟩)):=by rw [cell_of_heap hbk];rfl
 have c1:w1.cell? ⟨b,1,none⟩=some v:=by rw [cell_of_heap hbk];rfl
 go_wp2_with (at_builtin;refine Lib.wpList_append_own_string _ rfl _ _ 57 9 rfl b 5 i0 underlying57 underlying9 hi hz0 hz1 hz2 _ _ _ rfl hown s rfl ?c3 ?c4 ?c5 ?_)
 case c3=>unfold maxLen;omega
 case c4=>omega
 case c5=>have:=hb1.size;omega
 intro v' w2 hown' hgrow _
 have hlt:b<w1.heap.size:=(Array.getElem?_eq_some_iff.1 hbk).1
 have hb2:w2.heap[b]? =some (.cells #[.pointer (some ⟨b,0,none⟩),v] 64 (0,0)):=(hgrow.block b hlt (fun e=>hne e.symm)).trans hbk
 have d0:w2.cell? ⟨b,0,none⟩=some (.pointer (some ⟨b,0,none⟩)):=by rw [cell_of_heap hb2];rfl
 have d1:w2.cell? ⟨b,1,none⟩=some v:=by rw [cell_of_heap hb2];rfl
 have f1:w2.frozen? ⟨b,1,none⟩=false:=frozen_of_heap hb2 1
 obtain ⟨ao,n',cap,rfl⟩:∃ao n' cap,v'=.slice ao n' cap:=by
  rcases hown'.2 with ⟨hv,_⟩|⟨g,cap,cur,hv,_⟩
  ·exact ⟨_,_,_,hv⟩
  ·exact ⟨_,_,_,hv⟩
 go_wp2_with fail
 go_ret2
 refine ⟨rfl,.inr ?_,?_,?_⟩
 ·exact BuilderAt.put (Nat.le_refl _) hb2 (by rw [byteCells_append,List.length_append,byteCells_length,byteCells_length];simpa [strCells_eq] using hown') (by decide)
 ·exact (hb1.grown hgrow (by have:=hb1.size;omega) (fun k hk=>(hown.lt k hk).1)).setCell (p:=⟨b,1,none⟩) (Nat.le_refl _) _
 ·refine ⟨Nat.le_trans hc1.size (Nat.le_trans hgrow.size (by simp [World.setCell])),fun k hk hkb hku=>?_⟩
  have e1:=hc1.block k hk (fun e=>hkb e)
  have hk1:k<w1.heap.size:=Nat.lt_of_lt_of_le hk hc1.size
  have hkr:some k≠v.ownBlock:=fun e=>by
   rcases hown.2 with ⟨rfl,_⟩|⟨g,cp,cur,rfl,_,hg,_⟩
   ·simp [Value.ownBlock] at e
   ·simp only [Value.ownBlock,Option.some.injEq] at e
    subst e
    exact hku cur (e1.symm.trans hg)
  rw [Below.heap_setCell _ _ _ _ (fun e=>hkb e),hgrow.block k hk1 hkr,e1]
def svL (l:List (List UInt8)):List Value:=l.map fun x=>.string (strB x)
theorem svL_app (a b:List (List UInt8)):svL (a++b)=svL a++svL b:=by simp [svL]
theorem svL_one (l:List (List UInt8)):∀u∈svL l,u.oneCell'=true:=by
 intro u hu
 obtain ⟨x,_,rfl⟩:=List.mem_map.1 hu
 rfl
theorem sjoin_any (items:List (List UInt8)) (v:Value) (w:World) (hv:Rd w (ltw w) 1 v items.length (svL items)) (hn:items≠[]) (hl:sumI items≤100000000000):
  Calls prog 64 #[v,.string ⟨#[32]⟩] w fun e w'=>e=.returned (.string (strB (join items [32])))∧Bl w w':=by
 obtain ⟨A,c,rfl,h1,h2,h3⟩:=hv.open_
 have h0:0<items.length:=List.length_pos_iff.2 hn
 obtain ⟨bk,o,rfl,hF,hc⟩:=Rd.plain hv h0 (by omega)
 have hj:(lineB items).length=(join items [32]).length+1:=by simp [lineB]
 have hs:=sumI_ge items
 have hll:=lineB_len items hn
 have e:(items.map strB).map (fun x=>x.data.toList)=items:=by rw [List.map_map];simp [Function.comp_def,strB]
 have k:=strings_Join bk o c (items.map strB) ⟨#[32]⟩ w (fun j x hx=>by
  refine hc j _ ?_
  rw [List.getElem?_map] at hx
  obtain ⟨y,hy,rfl⟩:=Option.map_eq_some_iff.1 hx
  unfold svL
  rw [List.getElem?_map,hy];rfl) hF (by simp;omega) (by simpa using h1) (by rw [e];show (join items [32]).length≤_;omega)
 rw [e,List.length_map] at k
 exact k
theorem prLine_any (b:Nat) (l:List UInt8) (items:List (List UInt8)) (v:Value) (w:World) (h:PrAt w b l) (hv:Rd w (ltw w) 1 v items.length (svL items)) (hn:items≠[]) (hl:l.length+sumI items≤100000000000):
  Calls prog 21 #[.pointer (some ⟨b,0,none⟩),v] w (PrOut b (l++lineB items) w):=by
 have KJ:=hI0 (sjoin_any items v w.drew hv hn (by omega))
 have hbl:=h.lt
 have hll:=lineB_len items hn
 have hj:(lineB items).length=(join items [32]).length+1:=by simp [lineB]
 have HP:=hI0 h
 have HL:Hid (l++lineB items=(l++(strB (join items [32])).data.toList)++(⟨#[10]⟩:ByteArray).data.toList):=hI0 (by simp [lineB,strB])
 have hSs:(strB (join items [32])).size+1≤sumI items:=by rw [strB_size];omega
 generalize hS:strB (join items [32])=S at *
 have hd:S.data.toList.length=S.size:=rfl
 have HD:=hI0 hd
 clear hv hn h hS hll hj hd
 go_in
 go_wp2_with fail
 refine wp_region_noPanic ?_
 refine wp_region_held_drew (S:=(fun _=>True)) (by kernel_rfl) ?_ (fun zh=>?_)
 ·trivial
 refine hT 0 4 ?_
 refine hT 1 5 ?_
 refine hT 2 6 ?_
 refine hT 3 7 ?_
 refine hC 4 8 ?_
 (with_reducible refine KJ.out.mono ?_)
 rintro _ w1 ⟨rfl,hb1x⟩
 have hb1:Bl w w1:=Below.undrew (B:=w.heap.size) hb1x
 refine ⟨_,rfl,keepAnd ?_ (fun hNew=>?_)⟩
 ·trivial
 clear zh
 have zh:=hNew
 clear hNew
 simp only [aP]
 refine hC 5 9 ?_
 (with_reducible refine (pr_write b l S w1 (HP.out.below hb1) (by omega)).mono ?_)
 rintro _ w2 ⟨rfl,hp2,hb2,hk2⟩
 refine ⟨_,rfl,keepAnd ?_ (fun hNew=>?_)⟩
 ·trivial
 clear zh
 have zh:=hNew
 clear hNew
 simp only [aP]
 refine rD0 ?_
 have KW:=hI0 (pr_write b _ ⟨#[10]⟩ w2 hp2 (by rw [List.length_append,HD.out];show _+1≤_;omega))
 go_wp2_with fail
 (with_reducible refine KW.out.mono ?_)
 rintro _ w3 ⟨rfl,hp3,hb3,hk3⟩
 go_wp2_with fail
 go_end0
 rw [HL.out]
 exact ⟨rfl,hp3,((hb1.mono (Nat.le_of_lt hbl)).trans hb2).trans hb3,((KeepO.of_below hb1).trans hk2).trans hk3⟩
theorem prString_any (b:Nat) (l:List UInt8) (w:World) (h:PrAt w b l) (h0:l≠[]):
  Calls prog 27 #[.pointer (some ⟨b,0,none⟩)] w fun e w'=>e=.returned (.string (strB l))∧Below b w w':=by
 obtain ⟨p,_,v,hbk,hown,hne⟩:∃p,BuilderAt 64 5 b b p (byteCells l) w:=h.elim (fun k=>⟨_,k⟩) (fun k=>⟨_,k⟩)
 have hl0:l.length≠0:=by simpa using h0
 rw [byteCells_length] at hown
 obtain ⟨g,cap,cur,rfl,hbg,hg,hnc,hcm,hcs,htake⟩:∃g cap cur,v=.slice (some ⟨g,0,none⟩) l.length cap∧b≤g∧w.heap[g]? =some (.cells cur 5 (0,0))∧l.length≤cap∧cap≤maxLen∧cur.size=cap*1∧cur.toList.take (l.length*1)=byteCells l:=by
  rcases hown.2 with ⟨_,hz⟩|⟨g,cap,cur,hv,r⟩
  ·exact absurd hz hl0
  ·exact ⟨g,cap,cur,hv,r⟩
 have c1:w.drew.cell? ⟨b,1,none⟩=some (.slice (some ⟨g,0,none⟩) l.length cap):=by
  have:w.drew.heap[b]? =some (.cells #[p,.slice (some ⟨g,0,none⟩) l.length cap] 64 (0,0)):=hbk
  rw [cell_of_heap this];rfl
 have hSD:(Builtin.unsafeSliceData_ #[57] 165 #[.slice (some ⟨g,0,none⟩) l.length cap]).run prog w.drew=.ok (.pointer (some ⟨g,0,none⟩)) w.drew:=
  run_unsafeSliceData_row _ _ _ _ _ _ (by omega)
 have hUS:(Builtin.unsafeString_ #[165,3] 9 #[.pointer (some ⟨g,0,none⟩),.int .i64 l.length]).run prog w.drew=.ok (.string (strB l)) (w.drew.freeze ⟨g,0,none⟩ l.length):=by
  refine run_unsafeString_row w.drew 165 3 9 5 underlying165 (by kernel_rfl) g cur.size (by have hg':w.drew.heap[g]? =some (.cells cur 5 (0,0)):=hg;simp [World.shape?,hg']) l h0 (by omega) (by unfold maxLen at hcm;omega) ?_
  intro j x hx
  exact hown.cells (g:=g) rfl j (.int .u8 x.toNat) (by simp [byteCells,hx])
 have mixed:prog.follows Departure.mixedOrders=true:=by kernel_rfl
 clear h hown htake hcs hne
 go_in
 go_wp2_with fail
 go_region_o
 all_goals (go_wp2_with fail;go_ret;exact ⟨rfl,below_freeze (Below.drew (Below.refl b w)) (p:=⟨g,0,none⟩) hbg _⟩)
end Go.Proofs.YtgfhknnklapldaaGreatDoor
