/-
 Ver
-/
import Derived.Test.YtbfdegkickjbpaaGreatGCodec
import Derived.Sort.LotA
import Derived.Shelf.SlSortCmp.Insertion
namespace Go.Proofs.YtbfdegkickjbpaaGreat
set_option maxRecDepth 1000000
set_option maxHeartbeats 32000000
section
open Go.RowKit Go.Lib Go.IntWalk Go.Sort Go.Shelf
def validRowF (xs:List Val):Bool:=xs.all validV&&decide (xs.length≤12)
theorem within_any (n a b:Int) (w:World):Calls Tryz.prog 31 #[.int .i64 n,.int .i64 a,.int .i64 b] w fun e w'=>e=.returned (.bool (decide (a≤n∧n≤b)))∧w'=w:=by
 go_enter Tryz.func31,Tryz.ntmps31
 go_wp2
 all_goals
  go_ret
  refine ⟨ret_bool (by first|(symm;rw [decide_eq_false_iff_not];omega)|(symm;rw [decide_eq_true_eq];omega)|(rw [Bool.eq_iff_iff];simp;omega)),rfl⟩
theorem refPeriodValid_any (f t:Int) (w:World):
  Calls Tryz.prog 203 #[.agg #[.int .i64 f,.int .i64 t]] w fun e w'=>e=.returned (.bool (validP f t))∧w.alloc (.cells #[.int .i64 f,.int .i64 t] 66)=w':=by
 go_enter Tryz.func203,Tryz.ntmps203
 go_wp2
 all_goals go_ret
 all_goals refine ⟨ret_bool ?_,by first|rfl|(simp_all;done)⟩
 all_goals simp_all [validP]
 all_goals omega
theorem inv1_any (k i:Int) (s:ByteArray) (w:World) (hs:s.size≤maxLen):
  Calls Tryz.prog 198 #[.agg #[.int .i64 k,.int .i64 i,.string s]] w fun e w'=>e=.returned (.bool (!validV ⟨k,i,s⟩))∧Below w.heap.size w w':=by
 go_enter Tryz.func198,Tryz.ntmps198
 go_wp2_with fail
 (with_reducible refine (validValue_any k i s _ hs).mono ?_)
 rintro _ _ ⟨rfl,rfl⟩
 go_wp2_with fail
 go_ret
 exact ⟨rfl,(Below.of_alloc _).alloc (by simp) _⟩
theorem index_any (v:Value) (xs:List Val) (w:World) (hv:RdV w (·<w.heap.size) v xs) (hok:∀x∈xs,goV x):
  Calls Tryz.prog 242 #[v,.func (.func 198) #[] #[]] w fun e w'=>∃m:Int,e=.returned (.int .i64 m)∧(decide (0≤m))=(!xs.all validV)∧Below w.heap.size w w':=by
 obtain ⟨A,c,rfl,hc1,hc2,hc3⟩:=hv.open_
 unfold maxLen at hc2
 have HO:=hI0 hok
 clear hok
 go_enter Tryz.func242,Tryz.ntmps242
 go_wp2_with fail
 go_loopw [8] (fun i wr=>AllRel w xs i wr) (fun i _=>xs.length-(intOf i).toNat)
 case atStart=>exact ⟨0,Nat.zero_le _,rfl,rfl,Below.refl _ _⟩
 obtain ⟨k,hk,rfl,hall,hB⟩:=hrel
 obtain ⟨wo,rfl⟩:∃wo:World,wo=wr:=⟨_,rfl⟩
 have HA:=hI0 hall
 clear hall
 have hsz:=hB.size
 by_cases hlt:k<xs.length
 ·obtain ⟨bb,off,rfl,hF,g0,g1,g2⟩:=RdV.at_ (Rd.below hv hB) hlt
  have hx:=HO.out xs[k] (List.getElem_mem hlt)
  have hs:=all_snoc hlt
  have hn:=all_no hlt
  generalize xs[k]=x at *
  obtain ⟨kd,n,s⟩:=x
  obtain ⟨_,_,x3⟩:=hx
  simp only at g0 g1 g2 x3
  have HS:=hI0 hs
  have HN:=hI0 hn
  clear hs hn
  go_wp2_with fail
  have hc:=inv1_any kd n s wo x3
  cases hval:validV ⟨kd,n,s⟩
  ·rw [hval] at hc
   have HV:=hI0 hval
   clear hval
   (with_reducible refine hc.mono ?_)
   rintro e w2 ⟨rfl,hb2⟩
   go_wp2_with fail
   go_ret
   exact ⟨k,rfl,by rw [HN.out HV.out];simp,hB.trans (hb2.mono hsz)⟩
  ·rw [hval] at hc
   have HV:=hI0 hval
   clear hval
   (with_reducible refine hc.mono ?_)
   rintro e w2 ⟨rfl,hb2⟩
   go_wp2_with fail
   go_roundw
   case rel=>exact ⟨k+1,by omega,by go_num,by rw [HS.out,HA.out,HV.out];rfl,hB.trans (hb2.mono hsz)⟩
   case measure=>simp [intOf];omega
 ·have hke:k=xs.length:=by omega
  subst hke
  go_wp2_with fail
  go_ret
  have h:=HA.out
  rw [List.take_length] at h
  exact ⟨-1,rfl,by rw [h];rfl,hB⟩
theorem containsV_any (v:Value) (xs:List Val) (w:World) (hv:RdV w (·<w.heap.size) v xs) (hok:∀x∈xs,goV x):
  Calls Tryz.prog 197 #[v,.func (.func 198) #[] #[]] w fun e w'=>e=.returned (.bool (!xs.all validV))∧Below w.heap.size w w':=by
 go_enter Tryz.func197,Tryz.ntmps197
 go_wp2_with fail
 (with_reducible refine (index_any v xs _ hv hok).mono ?_)
 rintro _ w2 ⟨m,rfl,hm,hb⟩
 have HM:=hI0 hm
 clear hm
 go_wp2_with fail
 all_goals
  go_ret
  exact ⟨ret_bool (by rw [←HM.out]),hb⟩
theorem validRow_any (v:Value) (xs:List Val) (w:World) (hv:RdV w (·<w.heap.size) v xs) (hok:∀x∈xs,goV x):
  Calls Tryz.prog 133 #[v] w fun e w'=>e=.returned (.bool (validRowF xs))∧Below w.heap.size w w':=by
 obtain ⟨A,c,rfl,hc1,hc2,hc3⟩:=hv.open_
 have hc:=containsV_any _ xs w hv hok
 have HE:Hid (validRowF xs=(xs.all validV&&decide (xs.length≤12))):=hI0 rfl
 generalize validRowF xs=r at *
 generalize xs.all validV=b at *
 by_cases h:xs.length≤12
 ·have hz:(xs.length:Int)≤12:=by omega
  have HR:Hid (r=b):=hI0 (by rw [HE.out];simp [h])
  clear HE
  go_enter Tryz.func133,Tryz.ntmps133
  go_wp2_with fail
  (with_reducible refine hc.mono ?_)
  rintro _ w2 ⟨rfl,hb⟩
  cases b
  ·go_wp2_with fail
   go_ret
   exact ⟨ret_bool HR.out.symm,hb⟩
  ·go_wp2_with fail
   go_ret
   exact ⟨ret_bool HR.out.symm,hb⟩
 ·have hz:¬(xs.length:Int)≤12:=by omega
  have HR:Hid (r=false):=hI0 (by rw [HE.out];simp [h])
  clear HE
  go_enter Tryz.func133,Tryz.ntmps133
  go_wp2_with fail
  go_ret
  exact ⟨ret_bool HR.out.symm,Below.refl _ _⟩
end
section
open Go.RowKit Go.Lib Go.IntWalk Go.Sort Go.Shelf
theorem own_setCell {w:World} {base:Nat} {e:TypeId} {size n:Nat} {v:Value} {cs:List Value} (h:w.ownsRow base e size v n cs) {p:Addr} (hp:v.ownBlock≠some p.block) (u:Value):(w.setCell p u).ownsRow base e size v n cs:=
 World.ownsRow.kept (row:=some p.block) h ⟨rfl,rfl,rfl,by simp [World.setCell],fun k _ hne=>Below.heap_setCell _ _ _ _ (fun e=>hne (by rw [e]))⟩ (.inr hp)
theorem own_below {w w':World} {base:Nat} {e:TypeId} {size n:Nat} {v:Value} {cs:List Value} (h:w.ownsRow base e size v n cs) (hb:Below w.heap.size w w'):w'.ownsRow base e size v n cs:=
 World.ownsRow.kept (row:=none) h ⟨hb.os,hb.tape,hb.output,hb.size,fun k hk _=>hb.block k hk⟩ (by cases v.ownBlock<;>simp)
theorem own_block {w:World} {base:Nat} {e:TypeId} {size n:Nat} {v:Value} {cs:List Value} (h:w.ownsRow base e size v n cs) {b:Nat} (hb:some b=v.ownBlock):base≤b∧∃cur,w.heap[b]? =some (.cells cur e (0,0)):=by
 rcases h.2 with ⟨rfl,h0⟩|⟨g,cap,cur,rfl,hB,hg,hnc,hcm,hcs,htake⟩
 ·cases hb
 ·simp only [Value.ownBlock,Option.some.injEq] at hb
  subst hb
  exact ⟨hB,cur,hg⟩
theorem own_not {w:World} {base B:Nat} {e f:TypeId} {size n:Nat} {v:Value} {cs:List Value} (h:w.ownsRow base e size v n cs) {xs:Array Value} (hB:w.heap[B]? =some (.cells xs f (0,0))) (hef:e≠f):some B≠v.ownBlock:=by
 intro e1
 obtain ⟨_,cur,hc⟩:=own_block h e1
 rw [hB] at hc
 simp only [Option.some.injEq,Obj.cells.injEq] at hc
 exact hef hc.2.1.symm
def BufAt (w:World) (base B:Nat) (l:List UInt8):Prop:=∃v,w.heap[B]? =some (.cells #[v] 97 (0,0))∧OwnB w base v l
def KeepO (B:Nat) (w0 w:World):Prop:=w0.heap.size≤w.heap.size∧∀b,b<w0.heap.size→b≠B→(∀cur,w0.heap[b]? ≠some (.cells cur 5 (0,0)))→w.heap[b]? =w0.heap[b]?
theorem KeepO.refl (B:Nat) (w:World):KeepO B w w:=⟨Nat.le_refl _,fun _ _ _ _=>rfl⟩
theorem KeepO.trans {B:Nat} {a b c:World} (h:KeepO B a b) (k:KeepO B b c):KeepO B a c:=
 ⟨Nat.le_trans h.1 k.1,fun i h1 h2 h3=>by
  have e:=h.2 i h1 h2 h3
  rw [k.2 i (Nat.lt_of_lt_of_le h1 h.1) h2 (fun cur=>by rw [e];exact h3 cur),e]⟩
theorem KeepO.of_below {B:Nat} {a b:World} (h:Below a.heap.size a b):KeepO B a b:=⟨h.size,fun i h1 _ _=>h.block i h1⟩
theorem KeepO.drew {B:Nat} {a b:World} (h:KeepO B a b):KeepO B a b.drew:=h
def BufOut (base B:Nat) (l:List UInt8) (w0:World) (e:Ending) (w:World):Prop:=e=.returned (.tuple #[])∧BufAt w base B l∧Below base w0 w∧KeepO B w0 w
theorem BufAt.drew {w:World} {base B:Nat} {l:List UInt8} (h:BufAt w base B l):BufAt w.drew base B l:=h
theorem BufAt.lt {w:World} {base B:Nat} {l:List UInt8} (h:BufAt w base B l):B<w.heap.size:=by
 obtain ⟨v,hB,_⟩:=h
 exact (Array.getElem?_eq_some_iff.1 hB).1
theorem BufAt.below {w w':World} {base B:Nat} {l:List UInt8} (h:BufAt w base B l) (hb:Below w.heap.size w w'):BufAt w' base B l:=by
 have hl:=h.lt
 obtain ⟨v,hB,hO⟩:=h
 exact ⟨v,(hb.block B hl).trans hB,own_below hO hb⟩
theorem buf_done {w w2 w3:World} {base B:Nat} {v v':Value} {l m:List UInt8} (hbase:base≤B) (hB:w.heap[B]? =some (.cells #[v] 97 (0,0))) (hO:OwnB w base v l) (hb2:Below w.heap.size w w2)
  (hO3:OwnB w3 base v' (l++m)) (hb3:Below base w2 w3) (hg3:w2.grownBy w3 v.ownBlock) (hv:v'.ownBlock=v.ownBlock∨v'.ownBlock=some w2.heap.size):
  BufOut base B (l++m) w (.returned (.tuple #[])) (w3.setCell ⟨B,0,none⟩ v'):=by
 have hb2s:=hb2.size
 have hg3s:=hg3.size
 have hl:=(Array.getElem?_eq_some_iff.1 hB).1
 have hn:=own_not hO hB (by decide)
 have hB2:=(hb2.block B hl).trans hB
 have hB3:=(hg3.block B (by have:=hb2.size;omega) hn).trans hB2
 refine ⟨rfl,⟨v',?_,own_setCell hO3 ?_ _⟩,?_,by simp [World.setCell];omega,fun b g1 g2 g3=>?_⟩
 ·have:=heap_setCell_same w3 B 0 _ _ v' hB3
  simpa using this
 ·intro e
  rcases hv with hv|hv
  ·exact hn (by rw [←hv];exact e.symm)
  ·rw [hv] at e;injection e with e;have e:w2.heap.size=B:=e;have:=hb2.size;omega
 ·exact ((hb2.mono (by omega)).trans hb3).setCell (p:=⟨B,0,none⟩) hbase v'
 ·have e1:(w3.setCell ⟨B,0,none⟩ v').heap[b]? =w3.heap[b]? :=Below.heap_setCell _ _ _ _ g2
  have e2:w3.heap[b]? =w2.heap[b]? :=hg3.block b (by omega) (fun e=>by
   obtain ⟨_,cur,hc⟩:=own_block hO e
   exact g3 cur hc)
  rw [e1,e2,hb2.block b g1]
theorem bufInt_any (base B:Nat) (l:List UInt8) (n:Int) (w:World) (hbB:base≤B) (h:BufAt w base B l) (h1: -9223372036854775808≤n) (h2:n≤9223372036854775807) (hl:l.length+4000≤140737488300000):
  Calls Tryz.prog 46 #[.pointer (some ⟨B,0,none⟩),.int .i64 n] w (BufOut base B (l++encI n) w):=by
 have hBl:=h.lt
 obtain ⟨v,hBB,hO⟩:=h
 have hbase:base≤w.heap.size:=by omega
 have HBB:=hI0 hBB
 have HO:=hI0 hO
 obtain ⟨A0,c0,rfl,y1,y2,y3⟩:=Rd.open_ (Rd.of_own hO)
 have k0:w.cell? ⟨B,0,none⟩=some (.slice A0 l.length c0):=cW0 w B 0 _ _ _ hBB
 clear y3 y2 hBB hO
 have HLE:Hid (l.length+(encI n).length≤140737488300000):=hI0 (by have:=encI_length n;omega)
 have hbW:Below w.heap.size w w:=Below.refl _ _
 have hWs:w.heap.size≤w.heap.size:=Nat.le_refl _
 have hWl:B<w.heap.size:=hBl
 have k1:=k0
 go_enter Tryz.func46,Tryz.ntmps46
 go_wp2_with fail
 refine wp_region_noPanic ?_
 refine beginT (S:=(fun w'=>w'.cell? ⟨B,0,none⟩=some (.slice A0 l.length c0))) 10 (by kernel_rfl) ?_ (fun hHeld=>?_)
 ·exact k1
 refine tT 0 4 hHeld ?_
 simp only [aP]
 refine tT 1 5 hHeld ?_
 simp only [aP]
 refine tT 2 6 hHeld ?_
 simp only [aP]
 refine tT 3 7 hHeld ?_
 simp only [aP]
 refine tT 4 8 hHeld ?_
 simp only [aP]
 refine tT 5 9 hHeld ?_
 simp only [aP]
 refine cT 6 10 ?_
 (with_reducible refine (putInt_any (.slice none 0 0) [] n _ h1 h2 (RdB.nil _ _) (by simp)).mono ?_)
 rintro e w2 ⟨vd,rfl,hOd,hb2⟩
 obtain ⟨Ad,cd,rfl,j1,j2,j3⟩:=Rd.open_ hOd.rd
 clear j3 j2
 refine ⟨_,rfl,keepAnd ?_ (fun hNew=>?_)⟩
 ·intro _;exact (World.cell?_of_block (hb2.block B (by have:=hWl;exact this))).trans k1
 have hNew:=hNew (by decide)
 clear hHeld
 have hHeld:=hNew
 clear hNew
 simp only [aP]
 have hbw2:Below w.heap.size w w2:=hbW.trans ((Below.undrew hb2).mono hWs)
 have hO2:OwnB w2 base (.slice A0 l.length c0) l:=own_below HO.out hbw2
 have hB2:w2.heap[B]? =some (.cells #[.slice A0 l.length c0] 97 (0,0)):=(hbw2.block B hBl).trans HBB.out
 refine opT 7 rfl (by kernel_rfl) (by rfl) ?_
 refine wp_append_b (.tmp 8) (.tmp 10) rfl base (.slice A0 l.length c0) l rfl hO2 (·<w2.heap.size) _ (encI n) rfl hOd.rd (by have:=HLE.out;omega) (by have:=hbw2.size;omega) ?_
 intro v' w3 hO3 hb3 hg3 hv3
 have hDone:=buf_done hbB HBB.out HO.out hbw2 hO3 hb3 hg3 hv3
 have hB3:w3.heap[B]? =some (.cells #[.slice A0 l.length c0] 97 (0,0)):=(hg3.block B (by have:=hbw2.size;omega) (own_not hO2 hB2 (by decide))).trans hB2
 have kf:w3.frozen? ⟨B,0,none⟩=false:=fW0 w3 B 0 _ _ hB3
 have kc:w3.cell? ⟨B,0,none⟩=some (.slice A0 l.length c0):=cW0 w3 B 0 _ _ _ hB3
 obtain ⟨A3,c3,rfl,z1,z2,z3⟩:=Rd.open_ (Rd.of_own hO3)
 clear z3 z2
 refine keepAnd ?_ (fun hNew=>?_)
 ·intro _;exact cW0 _ B 0 _ _ _ hB3
 have hNew:=hNew (by decide)
 clear hHeld
 have hHeld:=hNew
 clear hNew
 simp only [aP]
 refine runT 8 (some 12) (v:=?_) (w':=_) rfl rfl (by kernel_rfl) (by rfl) ?_ (fun _=>hHeld) ?_
 rotate_left
 ·go_simp<;>with_reducible rfl
 simp only [aP]
 refine tT 9 13 hHeld ?_
 simp only [aP]
 refine skipRunT 10 none (w':=w3.setCell ⟨B,0,none⟩ (.slice A3 (l++encI n).length c3)) rfl rfl (by kernel_rfl) (by rfl) ?_ (fun h=>absurd rfl h) ?_
 ·go_simp<;>with_reducible rfl
 clear hHeld
 simp only [Act.put]
 refine doneT (by kernel_rfl) ?_ _
 refine NoPanic.normal ?_
 go_wp2_with fail
 go_end0
 exact hDone
theorem bufRow_any (base B:Nat) (l:List UInt8) (u:Value) (xs:List Val) (w:World) (hbB:base≤B) (h:BufAt w base B l) (hu:RdV w (·<w.heap.size) u xs) (hok:∀x∈xs,putV x) (hr:(encR xs).length≤4000) (hl:l.length+4000≤140737488300000):
  Calls Tryz.prog 184 #[.pointer (some ⟨B,0,none⟩),u] w (BufOut base B (l++encR xs) w):=by
 have hBl:=h.lt
 obtain ⟨v,hBB,hO⟩:=h
 have hbase:base≤w.heap.size:=by omega
 have HBB:=hI0 hBB
 have HO:=hI0 hO
 obtain ⟨A0,c0,rfl,y1,y2,y3⟩:=Rd.open_ (Rd.of_own hO)
 have k0:w.cell? ⟨B,0,none⟩=some (.slice A0 l.length c0):=cW0 w B 0 _ _ _ hBB
 clear y3 y2 hBB hO
 have HLE:Hid (l.length+(encR xs).length≤140737488300000∧(encR xs).length≤4000):=hI0 ⟨by omega,hr⟩
 have hbW:Below w.heap.size w w:=Below.refl _ _
 have hWs:w.heap.size≤w.heap.size:=Nat.le_refl _
 have hWl:B<w.heap.size:=hBl
 have k1:=k0
 go_enter Tryz.func184,Tryz.ntmps184
 go_wp2_with fail
 refine wp_region_noPanic ?_
 refine beginT (S:=(fun w'=>w'.cell? ⟨B,0,none⟩=some (.slice A0 l.length c0))) 10 (by kernel_rfl) ?_ (fun hHeld=>?_)
 ·exact k1
 refine tT 0 4 hHeld ?_
 simp only [aP]
 refine tT 1 5 hHeld ?_
 simp only [aP]
 refine tT 2 6 hHeld ?_
 simp only [aP]
 refine tT 3 7 hHeld ?_
 simp only [aP]
 refine tT 4 8 hHeld ?_
 simp only [aP]
 refine tT 5 9 hHeld ?_
 simp only [aP]
 refine cT 6 10 ?_
 (with_reducible refine (putRow_any (.slice none 0 0) u [] xs _ (RdB.nil _ _) (RdV.below hu (Below.refl _ _).drew) hok (by have:=HLE.out;simp;omega)).mono ?_)
 rintro e w2 ⟨vd,rfl,hOd,hb2⟩
 obtain ⟨Ad,cd,rfl,j1,j2,j3⟩:=Rd.open_ hOd.rd
 clear j3 j2
 refine ⟨_,rfl,keepAnd ?_ (fun hNew=>?_)⟩
 ·intro _;exact (World.cell?_of_block (hb2.block B (by have:=hWl;exact this))).trans k1
 have hNew:=hNew (by decide)
 clear hHeld
 have hHeld:=hNew
 clear hNew
 simp only [aP]
 have hbw2:Below w.heap.size w w2:=hbW.trans ((Below.undrew hb2).mono hWs)
 have hO2:OwnB w2 base (.slice A0 l.length c0) l:=own_below HO.out hbw2
 have hB2:w2.heap[B]? =some (.cells #[.slice A0 l.length c0] 97 (0,0)):=(hbw2.block B hBl).trans HBB.out
 refine opT 7 rfl (by kernel_rfl) (by rfl) ?_
 refine wp_append_b (.tmp 8) (.tmp 10) rfl base (.slice A0 l.length c0) l rfl hO2 (·<w2.heap.size) _ (encR xs) rfl hOd.rd (by have:=HLE.out;omega) (by have:=hbw2.size;omega) ?_
 intro v' w3 hO3 hb3 hg3 hv3
 have hDone:=buf_done hbB HBB.out HO.out hbw2 hO3 hb3 hg3 hv3
 have hB3:w3.heap[B]? =some (.cells #[.slice A0 l.length c0] 97 (0,0)):=(hg3.block B (by have:=hbw2.size;omega) (own_not hO2 hB2 (by decide))).trans hB2
 have kf:w3.frozen? ⟨B,0,none⟩=false:=fW0 w3 B 0 _ _ hB3
 have kc:w3.cell? ⟨B,0,none⟩=some (.slice A0 l.length c0):=cW0 w3 B 0 _ _ _ hB3
 obtain ⟨A3,c3,rfl,z1,z2,z3⟩:=Rd.open_ (Rd.of_own hO3)
 clear z3 z2
 refine keepAnd ?_ (fun hNew=>?_)
 ·intro _;exact cW0 _ B 0 _ _ _ hB3
 have hNew:=hNew (by decide)
 clear hHeld
 have hHeld:=hNew
 clear hNew
 simp only [aP]
 refine runT 8 (some 12) (v:=?_) (w':=_) rfl rfl (by kernel_rfl) (by rfl) ?_ (fun _=>hHeld) ?_
 rotate_left
 ·go_simp<;>with_reducible rfl
 simp only [aP]
 refine tT 9 13 hHeld ?_
 simp only [aP]
 refine skipRunT 10 none (w':=w3.setCell ⟨B,0,none⟩ (.slice A3 (l++encR xs).length c3)) rfl rfl (by kernel_rfl) (by rfl) ?_ (fun h=>absurd rfl h) ?_
 ·go_simp<;>with_reducible rfl
 clear hHeld
 simp only [Act.put]
 refine doneT (by kernel_rfl) ?_ _
 refine NoPanic.normal ?_
 go_wp2_with fail
 go_end0
 exact hDone
theorem bufPeriod_any (base B:Nat) (l:List UInt8) (f t:Int) (w:World) (hbB:base≤B) (h:BufAt w base B l) (f1: -9223372036854775808≤f) (f2:f≤9223372036854775807) (t1: -9223372036854775808≤t) (t2:t≤9223372036854775807) (hl:l.length+4000≤140737488300000):
  Calls Tryz.prog 156 #[.pointer (some ⟨B,0,none⟩),.agg #[.int .i64 f,.int .i64 t]] w (BufOut base B (l++(encI f++encI t)) w):=by
 have hBl:=h.lt
 obtain ⟨v,hBB,hO⟩:=h
 have hbase:base≤w.heap.size:=by omega
 have HBB:=hI0 hBB
 have HO:=hI0 hO
 obtain ⟨A0,c0,rfl,y1,y2,y3⟩:=Rd.open_ (Rd.of_own hO)
 have k0:w.cell? ⟨B,0,none⟩=some (.slice A0 l.length c0):=cW0 w B 0 _ _ _ hBB
 clear y3 y2 hBB hO
 have HLE:Hid (l.length+(encI f++encI t).length≤140737488300000):=hI0 (by have:=encI_length f;have:=encI_length t;simp only [List.length_append];omega)
 have hbW:Below w.heap.size w (w.alloc (.cells #[.int .i64 f,.int .i64 t] 66)):=Below.of_alloc _
 have hWs:w.heap.size≤(w.alloc (.cells #[.int .i64 f,.int .i64 t] 66)).heap.size:=by simp
 have hWl:B<(w.alloc (.cells #[.int .i64 f,.int .i64 t] 66)).heap.size:=by simp;omega
 have k1:(w.alloc (.cells #[.int .i64 f,.int .i64 t] 66)).cell? ⟨B,0,none⟩=some (.slice A0 l.length c0):=(World.cell?_of_block (hbW.block B hBl)).trans k0
 have kp0:(w.alloc (.cells #[.int .i64 f,.int .i64 t] 66)).cell? ⟨w.heap.size,0,none⟩=some (.int .i64 f):=box_cell w _ _ 0 rfl
 have kp1:(w.alloc (.cells #[.int .i64 f,.int .i64 t] 66)).cell? ⟨w.heap.size,1,none⟩=some (.int .i64 t):=box_cell w _ _ 1 rfl
 go_enter Tryz.func156,Tryz.ntmps156
 go_wp2_with fail
 refine wp_region_noPanic ?_
 refine beginT (S:=(fun w'=>w'.cell? ⟨B,0,none⟩=some (.slice A0 l.length c0)∧w'.cell? ⟨w.heap.size,0,none⟩=some (.int .i64 f)∧w'.cell? ⟨w.heap.size,1,none⟩=some (.int .i64 t))) 10 (by kernel_rfl) ?_ (fun hHeld=>?_)
 ·exact ⟨k1,kp0,kp1⟩
 refine tT 0 4 hHeld ?_
 simp only [aP]
 refine tT 1 5 hHeld ?_
 simp only [aP]
 refine tT 2 6 hHeld ?_
 simp only [aP]
 refine tT 3 7 hHeld ?_
 simp only [aP]
 refine tT 4 8 hHeld ?_
 simp only [aP]
 refine tT 5 9 hHeld ?_
 simp only [aP]
 refine cT 6 10 ?_
 (with_reducible refine (putPeriod_any (.slice none 0 0) [] f t _ f1 f2 t1 t2 (RdB.nil _ _) (by simp)).mono ?_)
 rintro e w2 ⟨vd,rfl,hOd,hb2⟩
 obtain ⟨Ad,cd,rfl,j1,j2,j3⟩:=Rd.open_ hOd.rd
 clear j3 j2
 refine ⟨_,rfl,keepAnd ?_ (fun hNew=>?_)⟩
 ·intro _;exact ⟨(World.cell?_of_block (hb2.block B (by have:=hWl;exact this))).trans k1,(World.cell?_of_block (hb2.block w.heap.size (by simp))).trans kp0,(World.cell?_of_block (hb2.block w.heap.size (by simp))).trans kp1⟩
 have hNew:=hNew (by decide)
 clear hHeld
 have hHeld:=hNew
 clear hNew
 simp only [aP]
 have hbw2:Below w.heap.size w w2:=hbW.trans ((Below.undrew hb2).mono hWs)
 have hO2:OwnB w2 base (.slice A0 l.length c0) l:=own_below HO.out hbw2
 have hB2:w2.heap[B]? =some (.cells #[.slice A0 l.length c0] 97 (0,0)):=(hbw2.block B hBl).trans HBB.out
 have hP2:w2.heap[w.heap.size]? =some (.cells #[.int .i64 f,.int .i64 t] 66 (0,0)):=(hb2.block w.heap.size (by simp)).trans (heap_alloc_new w _)
 refine opT 7 rfl (by kernel_rfl) (by rfl) ?_
 refine wp_append_b (.tmp 8) (.tmp 10) rfl base (.slice A0 l.length c0) l rfl hO2 (·<w2.heap.size) _ ((encI f++encI t)) rfl hOd.rd (by have:=HLE.out;omega) (by have:=hbw2.size;omega) ?_
 intro v' w3 hO3 hb3 hg3 hv3
 have hDone:=buf_done hbB HBB.out HO.out hbw2 hO3 hb3 hg3 hv3
 have hB3:w3.heap[B]? =some (.cells #[.slice A0 l.length c0] 97 (0,0)):=(hg3.block B (by have:=hbw2.size;omega) (own_not hO2 hB2 (by decide))).trans hB2
 have kf:w3.frozen? ⟨B,0,none⟩=false:=fW0 w3 B 0 _ _ hB3
 have kc:w3.cell? ⟨B,0,none⟩=some (.slice A0 l.length c0):=cW0 w3 B 0 _ _ _ hB3
 obtain ⟨A3,c3,rfl,z1,z2,z3⟩:=Rd.open_ (Rd.of_own hO3)
 clear z3 z2
 refine keepAnd ?_ (fun hNew=>?_)
 ·intro _;exact ⟨cW0 _ B 0 _ _ _ hB3,(World.cell?_of_block (hg3.block w.heap.size (by have:=hb2.size;simp at this;omega) (own_not hO2 hP2 (by decide)))).trans ((World.cell?_of_block (hb2.block w.heap.size (by simp))).trans kp0),(World.cell?_of_block (hg3.block w.heap.size (by have:=hb2.size;simp at this;omega) (own_not hO2 hP2 (by decide)))).trans ((World.cell?_of_block (hb2.block w.heap.size (by simp))).trans kp1)⟩
 have hNew:=hNew (by decide)
 clear hHeld
 have hHeld:=hNew
 clear hNew
 simp only [aP]
 refine runT 8 (some 12) (v:=?_) (w':=_) rfl rfl (by kernel_rfl) (by rfl) ?_ (fun _=>hHeld) ?_
 rotate_left
 ·go_simp<;>with_reducible rfl
 simp only [aP]
 refine tT 9 13 hHeld ?_
 simp only [aP]
 refine skipRunT 10 none (w':=w3.setCell ⟨B,0,none⟩ (.slice A3 (l++(encI f++encI t)).length c3)) rfl rfl (by kernel_rfl) (by rfl) ?_ (fun h=>absurd rfl h) ?_
 ·go_simp<;>with_reducible rfl
 clear hHeld
 simp only [Act.put]
 refine doneT (by kernel_rfl) ?_ _
 refine NoPanic.normal ?_
 go_wp2_with fail
 go_end0
 exact hDone
end
section
open Go.RowKit Go.Lib Go.IntWalk Go.Sort Go.Shelf
theorem encI_two {n:Nat} (h:n≤200):(encI (n:Int)).length≤2:=by
 have hz:zz (n:Int)=2*n:=by unfold zz;rw [if_neg (by omega)];omega
 unfold encI
 rw [hz]
 by_cases h1:2*n<128
 ·rw [vl_small _ h1];simp
 ·rw [vl_big _ (by omega),vl_small _ (by omega)];simp
theorem valid_parts {x:Val} (h:validV x=true):(x.kind=3→x.int=0∨x.int=1)∧x.text.size≤200∧(encV x).length≤203:=by
 obtain ⟨kd,i,s⟩:=x
 have e:s.data.toList=[]→s.size=0:=fun h=>by rw [←str_len,h];rfl
 have e1:(encI i).length≤10:=encI_length i
 unfold validV at h
 unfold encV
 simp only at h ⊢
 split at h
 ·rename_i h0;subst h0;simp at h;have:=e (by simpa using h.2);simp;omega
 ·split at h
  ·rename_i h0;subst h0;simp at h;have:=e (by simpa using h.2);simp;omega
  ·split at h
   ·rename_i h0
    subst h0
    simp at h
    have hs:s.size≤200:=h.1.2
    have e2:(encI s.size).length≤2:=encI_two hs
    have e3:s.data.size=s.size:=rfl
    simp
    omega
   ·split at h
    ·rename_i h0;subst h0;simp at h;have:=e (by simpa using h.2);simp;omega
    ·cases h
theorem valid_all {xs:List Val} (h:(xs.all validV&&decide (xs.length≤12))=true) (hok:∀x∈xs,goV x):(∀x∈xs,putV x)∧(encR xs).length≤2446:=by
 rw [Bool.and_eq_true,List.all_eq_true,decide_eq_true_eq] at h
 refine ⟨fun x hx=>?_,?_⟩
 ·have hv:=valid_parts (h.1 x hx)
  obtain ⟨a,b,_⟩:=hok x hx
  exact ⟨a,b,hv.2.1,hv.1⟩
 ·have hle:(encVs xs).length≤203*xs.length:=by
   have:∀ys:List Val,(∀y∈ys,validV y=true)→(encVs ys).length≤203*ys.length:=by
    intro ys
    induction ys with
    |nil=>intro _;simp [encVs]
    |cons y ys ih=>
     intro hy
     have h1:=(valid_parts (hy y (List.mem_cons_self ..))).2.2
     have h2:=ih fun z hz=>hy z (List.mem_cons_of_mem _ hz)
     unfold encVs at h2 ⊢
     rw [List.flatMap_cons,List.length_append,List.length_cons]
     omega
   exact this xs h.1
  have:=encI_length xs.length
  unfold encR
  rw [List.length_append]
  omega
end
section
open Go.RowKit Go.Lib Go.IntWalk Go.Sort Go.Shelf
theorem flat_getC {α β:Type} (n:Nat) (ps:List α) (f:α→List β) (hf:∀x∈ps,(f x).length=n) (k j:Nat) (hj:j<n) (x:α) (hx:ps[k]? =some x):(ps.flatMap f)[k*n+j]? =(f x)[j]? :=by
 induction ps generalizing k with
 |nil=>simp at hx
 |cons p ps ih=>
  have hp:=hf p (List.mem_cons_self ..)
  cases k with
  |zero=>
   simp only [List.getElem?_cons_zero,Option.some.injEq] at hx
   subst hx
   rw [List.flatMap_cons,Nat.zero_mul,Nat.zero_add,List.getElem?_append_left (by rw [hp];exact hj)]
  |succ k=>
   simp only [List.getElem?_cons_succ] at hx
   rw [List.flatMap_cons,List.getElem?_append_right (by rw [hp,Nat.succ_mul];omega),hp,show (k+1)*n+j-n=k*n+j by rw [Nat.succ_mul];omega]
   exact ih (fun x hx=>hf x (List.mem_cons_of_mem _ hx)) k hx
theorem flat_lenC {α β:Type} (n:Nat) (ps:List α) (f:α→List β) (hf:∀x∈ps,(f x).length=n):(ps.flatMap f).length=ps.length*n:=by
 induction ps with
 |nil=>simp
 |cons p ps ih=>rw [List.flatMap_cons,List.length_append,hf p (List.mem_cons_self ..),ih (fun x hx=>hf x (List.mem_cons_of_mem _ hx)),List.length_cons,Nat.succ_mul];omega
end
end Go.Proofs.YtbfdegkickjbpaaGreat
