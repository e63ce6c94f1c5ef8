/-
 DuE
-/
import Derived.Test.YtgfhknnklapldaaGreatDoorBDuD
namespace Go.Proofs.YtgfhknnklapldaaGreatDoor
open Go.Proofs.Tryz
set_option maxRecDepth 99999
set_option maxHeartbeats 0
open Go.RowKit Go.Lib Go.IntWalk Go.Sort Go.Shelf
theorem keepRow {w w':World} {H:Nat} {o:Obj} (hb:Bl w w') (h:w.heap[H]? =some o):w'.heap[H]? =some o:=(hb.block _ (Array.getElem?_eq_some_iff.1 h).1).trans h
theorem keepGr {w w':World} {H:Nat} {o:Obj} {v:Value} {l:List (List UInt8)} {b:Nat} (ho:OwnS w b v l) (hg:w.grownBy w' v.ownBlock) (h:w.heap[H]? =some o) (hn:∀cs fr,o≠.cells cs 9 fr):w'.heap[H]? =some o:=by
 refine (hg.block _ (Array.getElem?_eq_some_iff.1 h).1 (fun e=>?_)).trans h
 rcases ho.2 with ⟨rfl,_⟩|⟨g,cap,cur,rfl,_,hh,_⟩
 ·simp [Value.ownBlock] at e
 ·simp only [Value.ownBlock,Option.some.injEq] at e
  subst e
  exact hn _ _ (Option.some.inj (h.symm.trans hh))
section
variable {ops:Array Oper} {rest:List Oper} {o:Oper} {a:Act} {w:World} {Q:Exit→Act→World→Prop} {K:Act→World→Prop} {base:Nat} {v xv:Value} {l news:List (List UInt8)} {F:Nat→Prop}
theorem apO (i j:Nat) (hd:OwnS w base v l) (hr:RdIt w F xv news) (hlen:l.length+news.length≤1000000000000) (hbase:base≤w.heap.size)
  (h:∀v' w',OwnS w' base v' (l++news)→w.grownBy w' v.ownBlock→Below base w w'→K (a.put o.dst v') w')
  (ho:o.op=.call { callee:=.builtin .append,args:=#[.tmp i,.tmp j],argTypes:=#[66,66] }:=by rfl) (hs:a.eval (.tmp i)=v:=by rfl) (hx:a.eval (.tmp j)=xv:=by rfl):o.wp prog a w K Q:=by
 obtain ⟨i0,hi,hz0,hz1,hz2⟩:=info_parts infoS
 refine wp_append_app w (.tmp i) (.tmp j) 66 ho base 9 i0 _ 1 16 underlying66 hi hz0 hz1 hz2 rfl (by omega) v l.length (svL l) hs (.inl hd) F xv news.length (svL news) hx hr (svL_one _) (by unfold maxLen;omega) (by omega) hbase ?_
 intro v' w' _ h2 h3 h4 _
 refine h v' w' ?_ h3 h4
 have k:=h2 (.inr hd)
 unfold OwnS
 rw [svL_app,List.length_append]
 exact k
theorem apS (i j:Nat) (hd:OwnS w base v l) (hr:RdIt w F xv news) (hlen:l.length+news.length≤1000000000000) (hbase:base≤w.heap.size)
  (h:∀v' w',OwnS w' base v' (l++news)→w.grownBy w' v.ownBlock→Below base w w'→wpList prog ops Q rest (a.put o.dst v') w')
  (hgd:o.guard=none:=by rfl) (ho:o.op=.call { callee:=.builtin .append,args:=#[.tmp i,.tmp j],argTypes:=#[66,66] }:=by rfl) (hs:a.eval (.tmp i)=v:=by rfl) (hx:a.eval (.tmp j)=xv:=by rfl):wpList prog ops Q (o::rest) a w:=
 wpList_plain hgd fun _ hK=>apO i j hd hr hlen hbase (fun v' w' h1 h2 h3=>hK _ _ (h v' w' h1 h2 h3)) ho hs hx
end
theorem ItS.keep {w w1 w':World} {e:Ending} {l:List (List UInt8)} (h:ItS l w1 e w') (hb:Bl w w1):ItS l w e w':=by
 obtain ⟨v,h1,h2,h3⟩:=h
 exact ⟨v,h1,h2.base hb.size,hb.trans (h3.mono hb.size)⟩
theorem rdBlkD {α:Type} {K:Nat} {enc:α→List Value} {w:World} {b:Nat} {x:α} {e:TypeId} (h:w.heap[b]? =some (.cells (enc x).toArray e (0,0))) (hl:(enc x).length=K):RdE K enc w (ltw w) (.slice (some ⟨b,0,none⟩) 1 1) [x]:=by
 unfold RdE
 rw [List.flatMap_singleton]
 refine ⟨by rw [hl];simp,_,1,rfl,Nat.le_refl _,by unfold maxLen;decide,fun h=>(Option.some_ne_none _ h).elim,fun _=>⟨_,rfl,(Array.getElem?_eq_some_iff.1 h).1,fun j u hu=>?_⟩⟩
 have hadd:(⟨b,0,none⟩:Addr).add j=⟨b,j,none⟩:=by unfold Addr.add;split<;>simp_all
 rw [hadd,cW0 w b j (enc x).toArray e (0,0) h]
 simpa using hu
theorem rdInts {w:World} {b:Nat} {l:List Int} (h:w.heap[b]? =some (.cells (l.flatMap intE).toArray 3 (0,0))) (hl:l.length≤100) {n:Nat} (hn:n=l.length):RdE 1 intE w (ltw w) (.slice (some ⟨b,0,none⟩) n n) l:=by
 subst hn
 unfold RdE
 refine ⟨flat_lenC 1 l intE (fun _ _=>rfl),_,l.length,rfl,Nat.le_refl _,by unfold maxLen;omega,fun h=>(Option.some_ne_none _ h).elim,fun _=>⟨_,rfl,(Array.getElem?_eq_some_iff.1 h).1,fun j u hu=>?_⟩⟩
 have hadd:(⟨b,0,none⟩:Addr).add j=⟨b,j,none⟩:=by unfold Addr.add;split<;>simp_all
 rw [hadd,cW0 w b j _ _ (0,0) h]
 simpa using hu
theorem takeF {α:Type} {f:α→List (List UInt8)} {l:List α} {k:Nat} (hk:k<l.length):(l.take (k+1)).flatMap f=(l.take k).flatMap f++f l[k]:=by
 rw [List.take_succ_eq_append_getElem hk,List.flatMap_append,List.flatMap_singleton]
theorem takeF_le {α:Type} {f:α→List (List UInt8)} {l:List α} (k:Nat):sumI ((l.take k).flatMap f)≤sumI (l.flatMap f):=by
 have h:=congrArg (fun z=>sumI (z.flatMap f)) (List.take_append_drop k l)
 simp only [List.flatMap_append,sumI_app] at h
 omega
theorem flag_any (b:Bool) (w:World):Calls prog 120 #[.bool b] w fun e w'=>e=.returned (.string (strB (flagB b)))∧Bl w w':=by
 cases b
 ·go_in
  go_wp2_with fail
  go_ret
  exact ⟨rfl,Below.refl _ _⟩
 ·go_in
  go_wp2_with fail
  go_ret
  exact ⟨rfl,Below.refl _ _⟩
theorem literal_any (k i:Int) (s:ByteArray) (w:World) (he:EnvD w) (hv:validV ⟨k,i,s⟩=true):
  Calls prog 66 #[.agg #[.int .i64 k,.int .i64 i,.string s]] w fun e w'=>e=.returned (.string (strB (valB ⟨k,i,s⟩)))∧Bl w w':=by
 have hi:=valid_int hv
 simp only at hi
 have hs:s.size≤1000:=by
  unfold validV at hv
  have e:=str_len s
  split at hv
  ·simp at hv;rw [hv.2] at e;simp at e;omega
  ·split at hv
   ·simp at hv;rw [hv.2] at e;simp at e;omega
   ·split at hv
    ·simp at hv;omega
    ·split at hv
     ·simp at hv;rw [hv.2] at e;simp at e;omega
     ·cases hv
 have hk:k=0∨k=1∨k=2∨k=3:=by
  unfold validV at hv
  split at hv
  ·rename_i h;exact .inl h
  ·split at hv
   ·rename_i h;exact .inr (.inl h)
   ·split at hv
    ·rename_i h;exact .inr (.inr (.inl h))
    ·split at hv
     ·rename_i h;exact .inr (.inr (.inr h))
     ·cases hv
 have KV:=fun W:World=>validValue_any k i s W (by unfold maxLen;omega)
 rw [hv] at KV
 have HW:∀W:World,W=w.alloc (.cells #[.int .i64 k,.int .i64 i,.string s] 51)→EnvD W∧Bl w W:=fun W h=>by
  have hb:=bN0 h
  exact ⟨he.below hb,hb⟩
 have HX:Bl w ((w.alloc (.cells #[.int .i64 k,.int .i64 i,.string s] 51)).alloc (.cells #[.int .i64 k,.int .i64 i,.string s] 51)):=(Below.of_alloc _).alloc (by simp) _
 have HE2:=hI0 (he.below HX)
 have HX2:=hI0 HX
 clear HW hv he HX
 rcases hk with rfl|rfl|rfl|rfl
 ·go_in
  go_wp2_with fail
  (with_reducible refine (KV _).mono ?_)
  rintro _ _ ⟨rfl,rfl⟩
  go_wp2_with fail
  go_ret
  exact ⟨rfl,HX2.out⟩
 ·go_in
  go_wp2_with fail
  (with_reducible refine (KV _).mono ?_)
  rintro _ _ ⟨rfl,rfl⟩
  go_wp2_with fail
  (with_reducible refine (itoaC i _ HE2.out (by omega) (by omega)).mono ?_)
  rintro _ w1 ⟨rfl,hb1⟩
  generalize hq:strB (itoa i)=q at *
  have HQ:=hI0 hq
  clear hq
  go_wp2_with fail
  go_ret
  exact ⟨by rw [←HQ.out];rfl,bU0 HX2 hb1⟩
 ·have HR:=hI0 (replC s _ HE2.out hs)
  have HS:=hI0 (qS_str s)
  have hq:(strB (qB s.data.toList)).size≤2*s.size:=by
   have h1:=qB_len s.data.toList
   have h2:=str_len s
   have h3:s.data.toList.count 39≤s.data.toList.length:=List.count_le_length
   rw [strB_size];omega
  go_in
  go_wp2_with fail
  (with_reducible refine (KV _).mono ?_)
  rintro _ _ ⟨rfl,rfl⟩
  go_wp2_with fail
  (with_reducible refine HR.out.mono ?_)
  rintro _ w1 ⟨rfl,hb1⟩
  generalize strB (qB s.data.toList)=q at *
  go_wp2_with fail
  go_ret
  exact ⟨by rw [show valB ⟨2,i,s⟩=qS s from rfl,←HS.out];rfl,bU0 HX2 hb1⟩
 ·by_cases h1:i=1
  ·subst h1
   go_in
   go_wp2_with fail
   (with_reducible refine (KV _).mono ?_)
   rintro _ _ ⟨rfl,rfl⟩
   go_wp2_with fail
   go_ret
   exact ⟨rfl,HX2.out⟩
  ·have HN:Hid (valB ⟨3,i,s⟩=[70,65,76,83,69]):=hI0 (by unfold valB litB;simp [h1])
   go_in
   go_wp2_with fail
   (with_reducible refine (KV _).mono ?_)
   rintro _ _ ⟨rfl,rfl⟩
   go_wp2_with fail
   go_ret
   exact ⟨by rw [HN.out];rfl,HX2.out⟩
theorem dnum_any (n:Int) (w:World) (he:EnvD w) (h1: -9223372036854775808≤n) (h2:n≤9223372036854775807):
  Calls prog 69 #[.int .i64 n] w (ItS (numI n) w):=by
 have hb:Bl w (w.alloc (.cells #[.int .i64 n] 3)):=Below.of_alloc _
 have KD:=hI0 (digits_any (.slice (some ⟨w.heap.size,0,none⟩) 1 1) [n] _ (he.below hb) (rdBlkD (enc:=intE) (K:=1) (x:=n) (e:=3) (heap_alloc_new w _) rfl) (by intro m hm;rw [List.mem_singleton] at hm;subst hm;exact ⟨h1,h2⟩) (by simp))
 have HB:=hI0 hb
 clear he h1 h2 hb
 go_in
 go_wp2_with fail
 (with_reducible refine KD.out.mono ?_)
 rintro _ w1 ⟨v,rfl,ho,hb1⟩
 go_wp2_with fail
 go_ret
 exact ItS.keep (w1:=w.alloc (.cells #[.int .i64 n] 3)) ⟨_,rfl,ho,hb1⟩ HB.out
theorem lit1_any (x:Val) (w:World) (he:EnvD w) (hv:validV x=true):Calls prog 75 #[.agg x.cells.toArray] w (ItS (litI x) w):=by
 obtain ⟨k,i,s⟩:=x
 show Calls prog 75 #[.agg #[.int .i64 k,.int .i64 i,.string s]] w _
 have hb:Bl w (w.alloc (.cells #[.int .i64 k,.int .i64 i,.string s] 51)):=Below.of_alloc _
 have KL:=hI0 (literal_any k i s _ (he.below hb) hv)
 have HB:=hI0 hb
 clear he hv hb
 go_in
 go_wp2_with fail
 (with_reducible refine KL.out.mono ?_)
 rintro _ w1 ⟨rfl,hb1⟩
 have HL:Hid (litI ⟨k,i,s⟩=[valB ⟨k,i,s⟩]):=hI0 rfl
 generalize valB ⟨k,i,s⟩=q at *
 go_wp2_with fail
 go_ret
 have h2:=bU0 HB hb1
 exact ⟨_,rfl,OwnS.lit _ _ (heap_alloc_new w1 _) h2.size (by rw [HL.out];rfl) (by rw [HL.out];simp) (by rw [HL.out];rfl),h2.alloc h2.size _⟩
theorem column_any (a:ByteArray) (n:Int) (b:Bool) (w:World) (he:EnvD w) (ha:a.size≤1000) (h1: -9223372036854775808≤n) (h2:n≤9223372036854775807):Calls prog 65 #[.agg #[.string a,.int .i64 n,.bool b]] w (ItS (colI ⟨a,n,b⟩) w):=by
 have hBx:(w.alloc (.cells #[.string a,.int .i64 n,.bool b] 75)).heap[w.heap.size]? =some (.cells #[.string a,.int .i64 n,.bool b] 75 (0,0)):=heap_alloc_new w _
 have hb:Bl w (w.alloc (.cells #[.string a,.int .i64 n,.bool b] 75)):=Below.of_alloc _
 have HE:=hI0 he
 have HB:=hI0 hb
 clear he hb
 go_in
 go_wp2_with fail
 refine wp_region_noPanic ?_
 refine wp_region_held_drew (S:=(fun Y=>Y.heap[w.heap.size]? =some (.cells #[.string a,.int .i64 n,.bool b] 75 (0,0)))) (by kernel_rfl) ?_ (fun zh=>?_)
 ·exact hBx
 refine hT 0 3 ?_
 refine hU 1 4 (v:=?_) zh ?_ ?_
 rotate_left
 ·intro w' hSw;(try dsimp only at hSw);have c0:=cW1 (v:=.string a) 0 hSw rfl;go_simp<;>with_reducible rfl
 refine hT 3 6 ?_
 refine hU 4 7 (v:=?_) zh ?_ ?_
 rotate_left
 ·intro w' hSw;(try dsimp only at hSw);have c1:=cW1 (v:=.int .i64 n) 1 hSw rfl;go_simp<;>with_reducible rfl
 refine hT 6 9 ?_
 refine hU 7 10 (v:=?_) zh ?_ ?_
 rotate_left
 ·intro w' hSw;(try dsimp only at hSw);have c2:=cW1 (v:=.bool b) 2 hSw rfl;go_simp<;>with_reducible rfl
 refine hC 2 5 ?_
 (with_reducible refine (quote_any a _ (HE.out.below HB.out.drew) ha).mono ?_)
 rintro _ w1 ⟨rfl,hb1⟩
 have hB1:Bl w w1:=HB.out.drew.trans (hb1.mono HB.out.size)
 refine ⟨_,rfl,keepAnd (keepRow hb1 zh) ?_⟩
 clear zh
 intro zh
 simp only [aP]
 refine hC 5 8 ?_
 (with_reducible refine (itoaC n w1 (HE.out.below hB1) h1 h2).mono ?_)
 rintro _ w2 ⟨rfl,hb2⟩
 refine ⟨_,rfl,keepAnd (keepRow hb2 zh) ?_⟩
 clear zh
 intro zh
 simp only [aP]
 refine hC 8 11 ?_
 (with_reducible refine (flag_any b w2).mono ?_)
 rintro _ w3 ⟨rfl,hb3⟩
 refine ⟨_,rfl,keepAnd (keepRow hb3 zh) ?_⟩
 clear zh
 intro zh
 simp only [aP]
 have hNew:(fun Y=>Y.heap[w.heap.size]? =some (.cells #[.string a,.int .i64 n,.bool b] 75 (0,0))) (w3.alloc (.cells (svL (colI ⟨a,n,b⟩)).toArray 9)):=by exact (Below.heap_alloc w3 _ _ (Array.getElem?_eq_some_iff.1 zh).1).trans zh
 refine heldRun 9 (some 12) (v:=.slice (some ⟨w3.heap.size,0,none⟩) 3 3) (w':=w3.alloc (.cells (svL (colI ⟨a,n,b⟩)).toArray 9)) rfl rfl (by kernel_rfl) (by rfl) ?_ hNew ?_
 ·go_simp;rfl
 clear zh
 have zh:=hNew
 clear hNew
 simp only [aP]
 refine hT 10 2 ?_
 refine rD0 ?_
 go_wp2_with fail
 go_ret
 have hB3:=(hB1.trans (hb2.mono hB1.size)).trans (hb3.mono (Nat.le_trans hB1.size hb2.size))
 exact ⟨_,rfl,OwnS.lit _ _ (heap_alloc_new w3 _) hB3.size rfl (by simp [colI]) rfl,hB3.alloc hB3.size _⟩
end Go.Proofs.YtgfhknnklapldaaGreatDoor
