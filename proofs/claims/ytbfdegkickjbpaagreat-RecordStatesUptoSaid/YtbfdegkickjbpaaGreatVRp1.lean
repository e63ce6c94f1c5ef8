/-
 Rp1
-/
import Derived.Test.YtbfdegkickjbpaaGreatVRw1
import Derived.Test.YtbfdegkickjbpaaGreatVRcO
namespace Go.Proofs.YtbfdegkickjbpaaGreat
open Go.Proofs.Tryz
set_option maxRecDepth 99999
set_option maxHeartbeats 0
open Go.RowKit Go.Lib Go.IntWalk Go.Sort Go.Shelf
theorem zq91 {P:Prop} (h:P:=by
 intro w' hSw;(try dsimp only at hSw);have q0:w'.cell? ⟨w.heap.size,0,none⟩=some (.string nm):=cW0 w' _ 0 _ _ _ ((hSw.block _ HBL.out).trans HT.out);go_simp<;>with_reducible rfl) : P := h
theorem zi17 {P:Prop} (h:P:=by rw [List.take_zero,List.flatMap_nil,List.append_nil]):P:=h
theorem zi50 {P:Prop} (h:P:=by rw [hW0];exact heap_alloc_new _ _):P:=h
theorem nmB_le {s:ByteArray} (h:nmB s=true):s.size≤24:=by
 unfold nmB nmW at h
 simp only [Bool.and_eq_true,decide_eq_true_eq] at h
 have e:=str_len s
 omega
theorem emp_le {s:ByteArray} (h:s.toList.isEmpty=true):s.size=0:=by
 rw [ByteArray.toList_eq,List.isEmpty_iff] at h
 rw [←str_len,h]
 rfl
theorem emW_le {s:ByteArray} (h:emW s=true):s.size≤24:=by
 unfold emW at h
 rw [Bool.or_eq_true] at h
 rcases h with h|h
 ·rw [emp_le h];omega
 ·exact nmB_le h
theorem txt_le {s:ByteArray} {n:Nat} (h:s.size≤n):(encI s.size++s.data.toList).length≤10+n:=by
 have e:=str_len s
 have:=encI_length s.size
 rw [List.length_append]
 omega
theorem flat_bd {α:Type} {en:α→List UInt8} {sz:α→Nat} {C:Nat} {l:List α} (h:∀x∈l,(en x).length≤C*sz x):(l.flatMap en).length+C≤C*szL sz l:=by
 unfold szL
 induction l with
 |nil=>simp
 |cons x r ih=>
  have h1:=h x (List.mem_cons_self ..)
  have h2:=ih (fun y hy=>h y (List.mem_cons_of_mem _ hy))
  rw [List.flatMap_cons,List.length_append,List.map_cons,List.sum_cons]
  have e:C*(sz x+(r.map sz).sum+1)=C*sz x+C*((r.map sz).sum+1):=by rw [Nat.add_assoc,Nat.mul_add]
  omega
theorem flat_bd1 {α:Type} {en:α→List UInt8} {C:Nat} {l:List α} (h:∀x∈l,(en x).length≤C):(l.flatMap en).length≤C*l.length:=by
 induction l with
 |nil=>simp
 |cons x r ih=>
  have h1:=h x (List.mem_cons_self ..)
  have h2:=ih (fun y hy=>h y (List.mem_cons_of_mem _ hy))
  rw [List.flatMap_cons,List.length_append,List.length_cons,Nat.mul_add]
  omega
theorem valid_int {x:Val} (h:validV x=true): -1125899906842624≤x.int∧x.int≤1125899906842624:=by
 unfold validV at h
 split at h
 ·simp at h;omega
 ·split at h
  ·simp at h;omega
  ·split at h
   ·simp at h;omega
   ·split at h
    ·simp at h;omega
    ·cases h
theorem encX_le:∀(d:Nat) (e:RE),okX d e=true→(encX e).length≤300*e.nodes:=by
 intro d
 induction d with
 |zero=>intro e h;simp [okX] at h
 |succ d ih=>
  intro e h
  obtain ⟨op,it,val,nm,A,c,args⟩:=e
  simp only [okX,Bool.and_eq_true,decide_eq_true_eq,List.all_eq_true] at h
  obtain ⟨_,_,hv,hn,_,ha⟩:=h
  have h1:=encI_length op
  have h2:=encI_length it
  have h3:=(valid_parts hv).2.2
  have h4:=txt_le hn
  have h5:=encI_length args.length
  have h6:=flat_bd (en:=encX) (sz:=RE.nodes) (C:=300) (l:=args) fun x hx=>ih x (ha x hx)
  simp only [encX,RE.nodes,List.length_append,encXs_flat,nodesL_sum] at *
  unfold szL at h6
  omega
theorem col_le {x:RCol} (h:x.ok=true):x.name.size≤24∧(1≤x.kind∧x.kind≤3)∧(encCol x).length≤60:=by
 unfold RCol.ok at h
 simp only [Bool.and_eq_true,decide_eq_true_eq] at h
 have h1:=nmB_le h.1
 have h2:=txt_le h1
 have h3:=encI_length x.kind
 have h4:(flagE x.null).length≤10:=encI_length _
 refine ⟨h1,h.2,?_⟩
 unfold encCol
 simp only [List.length_append] at *
 omega
theorem ix_le {l:List Int} (h:ixF l=true):l.length≤12∧(∀n∈l,0≤n∧n≤11)∧(encI l.length++l.flatMap encI).length≤10+10*l.length:=by
 unfold ixF at h
 simp only [Bool.and_eq_true,decide_eq_true_eq,List.all_eq_true] at h
 refine ⟨h.2,fun n hn=>by have:=h.1 n hn;unfold ix11 at this;simpa using this,?_⟩
 have h1:=encI_length l.length
 have h2:=flat_bd1 (en:=encI) (C:=10) (l:=l) fun n _=>encI_length n
 rw [List.length_append]
 omega
theorem for_le {x:RFor} (h:x.ok=true):x.table.size≤24∧(∀n∈x.cols,0≤n∧n≤11)∧(encFor x).length≤60*x.sz:=by
 unfold RFor.ok at h
 simp only [Bool.and_eq_true] at h
 have h1:=nmB_le h.2
 have h2:=txt_le h1
 obtain ⟨h3,h4,h5⟩:=ix_le h.1
 refine ⟨h1,h4,?_⟩
 unfold encFor RFor.sz
 simp only [List.length_append] at *
 omega
theorem tab_le {t:RTab} (h:t.ok=true):(encTab t).length≤300*t.sz:=by
 unfold RTab.ok at h
 simp only [Bool.and_eq_true,decide_eq_true_eq,List.all_eq_true] at h
 obtain ⟨h1,_,h3,_,_,h6,h7,h8⟩:=h
 have q1:=txt_le (nmB_le h1)
 have q2:=flat_bd1 (en:=encCol) (C:=60) (l:=t.cols) fun x hx=>(col_le (h6 x hx)).2.2
 have q3:=(ix_le h3).2.2
 have q4:=flat_bd (en:=encFor) (sz:=RFor.sz) (C:=60) (l:=t.fors) fun x hx=>(for_le (h7 x hx)).2.2
 have q5:=flat_bd (en:=encX) (sz:=RE.nodes) (C:=300) (l:=t.chks) fun x hx=>encX_le 24 x (h8 x hx)
 have r1:=encI_length t.cols.length
 have r2:=encI_length t.fors.length
 have r3:=encI_length t.chks.length
 unfold encTab RTab.sz
 simp only [List.length_append] at *
 omega
theorem chn_le {x:Chn} (h:x.ok=true):chnW x∧x.name.size≤24∧x.to.size≤24∧x.cname.size≤24∧(1≤x.kind∧x.kind≤4)∧(encV x.def_).length≤203:=by
 unfold Chn.ok at h
 simp only [Bool.and_eq_true,decide_eq_true_eq] at h
 obtain ⟨h1,h2,h3,h4,h5,h6⟩:=h
 have q:=valid_parts h6
 have qi:=valid_int h6
 have e1:=emW_le h1
 have e2:=emW_le h2
 have e3:=emW_le h3
 exact ⟨⟨by omega,by omega,by omega,by omega,by omega,q.2.1,by omega,q.1⟩,e1,e2,e3,h4,q.2.2⟩
theorem ent_le {x:REn} (h:x.ok=true):(encEnt x).length≤400*x.sz:=by
 unfold REn.ok at h
 rw [Bool.and_eq_true,Bool.and_eq_true] at h
 obtain ⟨h1,h2,h3⟩:=h
 have q1:=encI_length x.time
 have q2:=txt_le (nmB_le h2)
 unfold encEnt REn.sz
 by_cases hk:x.change.kind=0
 ·rw [if_pos hk] at h3
  rw [Bool.and_eq_true,Bool.and_eq_true] at h3
  have q3:=tab_le h3.2.1
  have q4:=encI_length 0
  rw [if_pos hk]
  unfold encEnt0
  simp only [List.length_append] at *
  omega
 ·rw [if_neg hk] at h3
  rw [Bool.and_eq_true] at h3
  obtain ⟨_,e1,e2,e3,_,e5⟩:=chn_le h3.1
  have r1:=txt_le e1
  have r2:=txt_le e2
  have r3:=txt_le e3
  have r4:=encI_length x.change.kind
  have r5:=encI_length x.change.ckind
  have r6:(flagE x.change.cnull).length≤10:=encI_length _
  rw [if_neg hk]
  unfold encEnt1
  simp only [List.length_append] at *
  omega
theorem ent_W {w:World} {x:REn} {base:Nat} (h:x.ok=true) (hi:x.create.is w (·<base)):entW w base x:=by
 unfold REn.ok instB at h
 rw [Bool.and_eq_true,Bool.and_eq_true,decide_eq_true_eq] at h
 obtain ⟨h1,h2,h3⟩:=h
 have q2:=nmB_le h2
 refine ⟨by omega,by omega,?_,fun hk=>?_,fun hk=>?_⟩
 ·by_cases hk:x.change.kind=0
  ·omega
  ·rw [if_neg hk,Bool.and_eq_true] at h3
   have:=(chn_le h3.1).2.2.2.2.1
   omega
 ·rw [if_pos hk,Bool.and_eq_true,Bool.and_eq_true] at h3
  have ht:=h3.2.1
  unfold RTab.ok at ht
  simp only [Bool.and_eq_true,decide_eq_true_eq,List.all_eq_true] at ht
  obtain ⟨t1,_,t3,_,_,t6,t7,t8⟩:=ht
  exact ⟨by have:=nmB_le t1;omega,hi.cols,fun c hc=>by have:=col_le (t6 c hc);omega,hi.key,fun n hn=>by have:=(ix_le t3).2.1 n hn;omega,hi.fors,fun f hf=>⟨hi.forI f hf,fun n hn=>by have:=(for_le (t7 f hf)).2.1 n hn;omega,by have:=(for_le (t7 f hf)).1;omega⟩,hi.chks,fun e he=>⟨hi.chkI e he,t8 e he⟩⟩
 ·rw [if_neg hk,Bool.and_eq_true] at h3
  exact (chn_le h3.1).1
theorem if9 {b:Bool} {X:Int} (h:(if b=true then (9:Int) else X)=0):X=0:=by
 cases b with
 |true=>simp at h
 |false=>simpa using h
theorem if8 {b:Bool} {X:Int} (h:(if b=false then (8:Int) else X)=0):b=true∧X=0:=by
 cases b with
 |true=>exact ⟨rfl,by simpa using h⟩
 |false=>simp at h
theorem namedF_ok {α:Type} {nm:α→ByteArray} {ok:α→Bool} {l:List α}:∀ {p:Option ByteArray},namedF nm ok p l=0→∀x∈l,ok x=true:=by
 induction l with
 |nil=>intro p _ x hx;cases hx
 |cons y r ih=>
  intro p h x hx
  rw [namedF_cons] at h
  obtain ⟨h1,h2⟩:=if8 h
  rcases List.mem_cons.1 hx with e|hx
  ·rw [e];exact h1
  ·exact ih (if9 h2) x hx
theorem hld_W {x:Hld} (h:x.ok=true):(x.name.size≤24∧x.table.size≤24)∧((0≤x.vf∧x.vf<x.vt∧x.vt≤1099511627776)∧0≤x.sf∧x.sf<x.st∧x.st≤1099511627776)∧(encHld x).length≤200:=by
 unfold Hld.ok validP at h
 simp only [Bool.and_eq_true,decide_eq_true_eq] at h
 have q1:=nmB_le h.1
 have q2:=nmB_le h.2.1
 have r1:=txt_le q1
 have r2:=txt_le q2
 have e1:=encI_length x.vf
 have e2:=encI_length x.vt
 have e3:=encI_length x.sf
 have e4:=encI_length x.st
 refine ⟨⟨q1,q2⟩,by omega,?_⟩
 unfold encHld
 simp only [List.length_append] at *
 omega
theorem pol_W {x:Pol} (h:x.ok=true):x.table.size≤24∧(0≤x.keep∧x.keep≤1099511627776)∧(encPol x).length≤200:=by
 unfold Pol.ok at h
 simp only [Bool.and_eq_true,decide_eq_true_eq] at h
 have q1:=nmB_le h.1
 have r1:=txt_le q1
 have e1:=encI_length x.keep
 refine ⟨q1,h.2,?_⟩
 unfold encPol
 simp only [List.length_append] at *
 omega
theorem hor_W {x:Hor} (h:x.ok=true):x.table.size≤24∧(0≤x.time∧x.time≤1099511627775)∧(encHor x).length≤200:=by
 unfold Hor.ok instB at h
 simp only [Bool.and_eq_true,decide_eq_true_eq] at h
 have q1:=nmB_le h.1
 have r1:=txt_le q1
 have e1:=encI_length x.time
 refine ⟨q1,h.2,?_⟩
 unfold encHor
 simp only [List.length_append] at *
 omega
def encE (l:List REn):List UInt8:=encI l.length++l.flatMap encEnt
def encH (l:List Hld):List UInt8:=encI l.length++l.flatMap encHld
def encP (l:List Pol):List UInt8:=encI l.length++l.flatMap encPol
def encZ (l:List Hor):List UInt8:=encI l.length++l.flatMap encHor
structure AtB (w0 w:World) (v:Value) (L:List UInt8):Prop where
 own:OwnB w w0.heap.size v L
 bel:Bl w0 w
theorem AtB.rd {w0 w:World} {v:Value} {L:List UInt8} (h:AtB w0 w v L):RdB w (ltw w) v L:=h.own.rd
theorem AtB.cast {w0 w:World} {v:Value} {L L':List UInt8} (h:AtB w0 w v L) (e:L=L'):AtB w0 w v L':=e▸h
theorem AtB.next {w0 W1 W2:World} {v:Value} {L:List UInt8} (h:Bl w0 W1) (hO:OwnB W2 W1.heap.size v L) (hb:Bl W1 W2):AtB w0 W2 v L:=
 ⟨⟨hO.1,by
  refine hO.2.imp id ?_
  rintro ⟨g,cap,cur,e,h1,h2⟩
  exact ⟨g,cap,cur,e,Nat.le_trans h.size h1,h2⟩⟩,h.trans (hb.mono h.size)⟩
theorem AtB.done {w W0 w':World} {v:Value} {L L':List UInt8} (h:AtB W0 w' v L) (hb:Bl w W0) (e:L=L'):NewB w L' (.returned v) w':=by
 subst e
 have q:AtB w w' v L:=⟨⟨h.own.1,by
  refine h.own.2.imp id ?_
  rintro ⟨g,cap,cur,e,h1,h2⟩
  exact ⟨g,cap,cur,e,Nat.le_trans hb.size h1,h2⟩⟩,hb.trans (h.bel.mono hb.size)⟩
 exact ⟨v,rfl,q.own,q.bel⟩
theorem refPutInts_any (v:Value) (l:List UInt8) (A:Option Addr) (c:Nat) (xs:List Int) (w:World) (hu:RdB w (ltw w) v l) (hx:RdE 1 intE w (ltw w) (.slice A xs.length c) xs) (hb:∀n∈xs,(-9223372036854775808≤n∧n≤9223372036854775807)) (hl:(l++(encI xs.length++xs.flatMap encI)).length≤100000000000):
  Calls prog 157 #[v,.slice A xs.length c] w (NewB w (l++(encI xs.length++xs.flatMap encI))):=by
 obtain ⟨hc1,hc2⟩:=RdE.bd hx
 have HV:=hI0 hx
 have HBD:=hI0 hb
 obtain ⟨sL1,hsL1⟩:=eN0 (l++encI xs.length)
 obtain ⟨sL2,hsL2⟩:=eN0 (sL1++xs.flatMap encI)
 have sE:sL2=l++(encI xs.length++xs.flatMap encI):=by rw [hsL2,hsL1];simp only [List.append_assoc]
 have sn2:sL2.length≤100000000000:=by rw [sE];exact hl
 have sn1:=rL0 hsL2 sn2
 have sn0:=rL0 hsL1 sn1
 have sE:=hI0 sE
 have sn0:=hI0 sn0
 have sn1:=hI0 sn1
 have sn2:=hI0 sn2
 have sK1:∀v W,RdB W (ltw W) v l→Bl w W→Calls prog 113 #[v,.int .i64 (xs.length:Int)] W (NewB W sL1):=fun v W h hW=>by
  rw [hsL1]
  exact refPutInt_any v l xs.length W (by omega) (by omega) h (by have:=sn0.out;omega)
 have hsL2:=hI0 hsL2
 clear hsL1
 have hR0:=hu
 clear hx hb hl hu
 go_in
 have KC:=sK1 _ _ hR0 (Below.refl _ _)
 go_wp2_with fail
 (with_reducible refine KC.mono ?_)
 rintro _ y1 ⟨vy1,rfl,hO,hb⟩
 have HA1:Hid (AtB w y1 vy1 sL1):=hI0 (AtB.next (Below.refl _ _) hO hb)
 clear KC hO hb sK1
 clear hR0
 go_wp2_with fail
 go_loopw [0,13] (fun b i wr=>∃k:Nat,i=.int .i64 (k:Int)∧k≤xs.length∧Hid (AtB w wr b (sL1++(xs.take k).flatMap encI))) (fun _ i _=>xs.length-(intOf i).toNat)
 case atStart=>exact ⟨0,rfl,Nat.zero_le _,hI0 (HA1.out.cast zi17)⟩
 clear HA1
 obtain ⟨ki,rfl,hki,HAii⟩:=hrel
 obtain ⟨wii,rfl⟩:=eN0 wr
 by_cases hlti:ki<xs.length
 case neg=>
  have hltZ:¬(ki:Int)<(xs.length:Int):=by omega
  have HFi:=hI0 (HAii.out.cast (show sL1++(xs.take ki).flatMap encI=sL2 by rw [List.take_of_length_le (by omega),hsL2.out]))
  clear HAii
  go_wp2_with fail
  go_ret
  exact HFi.out.done (Below.refl _ _) sE.out
 have hltZ:(ki:Int)<(xs.length:Int):=by omega
 have hBi:=HAii.out.bel
 obtain ⟨bi,offi,rfl,hF,hcl⟩:=RdE.at_ (K:=1) (enc:=intE) (fun _=>rfl) (by omega) (HV.out.keep (Keeps.below hBi)) hlti
 have hcx:=hcl ki hlti
 have hmem:=List.getElem_mem hlti
 have hsn:=flat_snoc encI hlti
 have hle:=flat_le encI hlti
 obtain ⟨xi,hx⟩:=eN0 (xs[ki])
 rw [←hx] at hcx hmem hsn hle
 obtain ⟨Lki,hLk⟩:=eN0 (sL1++(xs.take ki).flatMap encI)
 have hM:(Lki++encI xi).length≤100000000000:=by
  have q:=sn2.out
  rw [hsL2.out] at q
  rw [hLk]
  simp only [List.length_append] at q ⊢
  omega
 have hS:sL1++(xs.take (ki+1)).flatMap encI=Lki++encI xi:=by rw [hsn,←List.append_assoc,←hLk]
 have HBii:=hI0 hBi
 have hRi:=HAii.out.rd
 rw [←hLk] at hRi
 clear hcl hx hF hsn hle hBi hLk HAii
 have HXB:=hI0 (HBD.out _ hmem)
 obtain ⟨xi,hxix⟩:=eN0 xi
 subst hxix
 have HSi:Hid (sL1++(xs.take (ki+1)).flatMap encI=Lki++encI xi):=hI0 hS
 have hM:(Lki++encI xi).length≤100000000000:=hM
 have gi0:wii.cell? ⟨bi,offi+ki,none⟩=some (.int .i64 xi):=by have h:=hcx 0 _ (by decide) rfl;rw [Nat.mul_one] at h;exact h
 clear hcx hS hmem
 have HBbi:=HBii
 have hRbi:=hRi
 clear hRi
 have bK1:∀v W,RdB W (ltw W) v Lki→Bl w W→Calls prog 113 #[v,.int .i64 xi] W (NewB W (Lki++encI xi)):=fun v W h _=>refPutInt_any v Lki xi W HXB.out.1 HXB.out.2 h (by rw [List.length_append] at hM;omega)
 have KC:=bK1 _ _ hRbi HBbi.out
 go_wp2_with fail
 (with_reducible refine KC.mono ?_)
 rintro _ y2 ⟨vy2,rfl,hO,hb⟩
 have HAni:Hid (AtB w y2 vy2 (Lki++encI xi)):=hI0 (AtB.next HBbi.out hO hb)
 clear KC hO hb bK1 hM
 go_wp2_with fail
 go_roundw
 case rel=>exact ⟨ki+1,by go_num,by omega,hI0 (HAni.out.cast HSi.out.symm)⟩
 case measure=>simp [intOf];omega
theorem bool01_any (b:Bool) (w:World):Calls prog 237 #[.bool b] w fun e w'=>e=.returned (.int .i64 (if b then 1 else 0))∧Bl w w':=by
 cases b
 ·go_in
  go_wp2_with fail
  go_ret
  exact ⟨rfl,Below.refl _ _⟩
 ·go_in
  go_wp2_with fail
  go_ret
  exact ⟨rfl,Below.refl _ _⟩
theorem refPutColumn_any (v:Value) (l:List UInt8) (nm:ByteArray) (kd:Int) (nl:Bool) (w:World) (hu:RdB w (ltw w) v l) (hn:nm.size≤300) (hk: -9223372036854775808≤kd∧kd≤9223372036854775807) (hl:(l++((encI nm.size++nm.data.toList)++(encI kd++flagE nl))).length≤100000000000):
  Calls prog 189 #[v,.agg #[.string nm,.int .i64 kd,.bool nl]] w (NewB w (l++((encI nm.size++nm.data.toList)++(encI kd++flagE nl)))):=by
 obtain ⟨W0,hW0⟩:=eN0 (w.alloc (.cells #[.string nm,.int .i64 kd,.bool nl] 77))
 have hbW:=bN0 hW0
 have HBW:=hI0 hbW
 have HBL:Hid (w.heap.size<W0.heap.size):=hI0 (by rw [hW0];simp)
 have HT:Hid (W0.heap[w.heap.size]? =some (.cells #[.string nm,.int .i64 kd,.bool nl] 77 (0,0))):=hI0 zi50
 have hR0:=hu.below hbW
 have HNM:=hI0 hn
 have HKD:=hI0 hk
 obtain ⟨sL1,hsL1⟩:=eN0 (l++(encI nm.size++nm.data.toList))
 obtain ⟨sL2,hsL2⟩:=eN0 (sL1++encI kd)
 obtain ⟨sL3,hsL3⟩:=eN0 (sL2++flagE nl)
 have sE:sL3=l++((encI nm.size++nm.data.toList)++(encI kd++flagE nl)):=by rw [hsL3,hsL2,hsL1];simp only [List.append_assoc]
 have sn3:sL3.length≤100000000000:=by rw [sE];exact hl
 have sn2:=rL0 hsL3 sn3
 have sn1:=rL0 hsL2 sn2
 have sn0:=rL0 hsL1 sn1
 have sE:=hI0 sE
 have sn0:=hI0 sn0
 have sn1:=hI0 sn1
 have sn2:=hI0 sn2
 have sn3:=hI0 sn3
 have sK1:∀v W,RdB W (ltw W) v l→Bl W0 W→Calls prog 116 #[v,.string nm] W (NewB W sL1):=fun v W h hW=>by
  rw [hsL1]
  exact refPutText_any v l nm W h (by have q1:=sn0.out;have q2:nm.size≤300:=HNM.out;omega)
 have sK2:∀v W,RdB W (ltw W) v sL1→Bl W0 W→Calls prog 113 #[v,.int .i64 kd] W (NewB W sL2):=fun v W h hW=>by
  rw [hsL2]
  exact refPutInt_any v sL1 kd W HKD.out.1 HKD.out.2 h (by have:=sn1.out;omega)
 have sK3:∀v W,RdB W (ltw W) v sL2→Bl W0 W→Calls prog 113 #[v,.int .i64 (if nl then 1 else 0)] W (NewB W sL3):=fun v W h hW=>by
  rw [hsL3]
  exact refPutInt_any v sL2 (if nl then 1 else 0) W (by split<;>omega) (by split<;>omega) h (by have:=sn2.out;omega)
 clear hsL1 hsL2 hsL3
 clear hbW hl hu hn hk
 go_in
 go_wp2_with fail
 rw [←hW0]
 clear hW0
 refine rB0 W0 (fun zh=>?_)
 refine hT 0 5 ?_
 refine hT 1 6 ?_
 refine hU 2 7 (v:=?_) zh ?_ ?_
 rotate_left
 ·exact zq91
 refine hT 4 9 ?_
 refine hU 5 10 (v:=?_) zh ?_ ?_
 rotate_left
 ·intro w' hSw;(try dsimp only at hSw);have q1:w'.cell? ⟨w.heap.size,1,none⟩=some (.int .i64 kd):=cW0 w' _ 1 _ _ _ ((hSw.block _ HBL.out).trans HT.out);go_simp<;>with_reducible rfl
 refine hT 7 12 ?_
 refine hU 8 13 (v:=?_) zh ?_ ?_
 rotate_left
 ·intro w' hSw;(try dsimp only at hSw);have q2:w'.cell? ⟨w.heap.size,2,none⟩=some (.bool nl):=cW0 w' _ 2 _ _ _ ((hSw.block _ HBL.out).trans HT.out);go_simp<;>with_reducible rfl
 refine hC 3 8 ?_
 (with_reducible refine (sK1 _ _ (hR0.below (Below.refl _ _).drew) ((Below.refl W0.heap.size W0).trans ((Below.refl W0.heap.size W0).drew.mono (Below.refl W0.heap.size W0).size))).mono ?_)
 rintro _ y1 ⟨vy1,rfl,hOy1,hby1'⟩
 have hby1:Bl W0 y1:=Below.undrew hby1'
 have hRy1:=hOy1.rd
 refine ⟨_,rfl,keepAnd hby1 ?_⟩
 clear zh
 intro zh
 simp only [aP]
 refine hC 6 11 ?_
 (with_reducible refine (sK2 _ _ hRy1 ((Below.refl W0.heap.size W0).trans (hby1.mono (Below.refl W0.heap.size W0).size))).mono ?_)
 rintro _ y2 ⟨vy2,rfl,hOy2,hby2'⟩
 have hby2:Bl W0 y2:=hby1.trans (hby2'.mono hby1.size)
 have hRy2:=hOy2.rd
 refine ⟨_,rfl,keepAnd hby2 ?_⟩
 clear zh
 intro zh
 simp only [aP]
 refine hC 9 14 ?_
 (with_reducible refine (bool01_any _ _).mono ?_)
 rintro _ y3 ⟨rfl,hby3'⟩
 have hby3:Bl W0 y3:=hby2.trans (hby3'.mono hby2.size)
 have hRy3:=hRy2.below hby3'
 refine ⟨_,rfl,keepAnd hby3 ?_⟩
 clear zh
 intro zh
 simp only [aP]
 refine hC 10 15 ?_
 (with_reducible refine (sK3 _ _ hRy3 ((Below.refl W0.heap.size W0).trans (hby3.mono (Below.refl W0.heap.size W0).size))).mono ?_)
 rintro _ y4 ⟨vy4,rfl,hOy4,hby4'⟩
 have hby4:Bl W0 y4:=hby3.trans (hby4'.mono hby3.size)
 have hRy4:=hOy4.rd
 refine ⟨_,rfl,keepAnd hby4 ?_⟩
 clear zh
 intro zh
 simp only [aP]
 refine hT 11 4 ?_
 refine rD0 ?_
 clear zh
 have HA1:Hid (AtB W0 y4 vy4 sL3):=hI0 (AtB.next ((Below.refl W0.heap.size W0).trans (hby3.mono (Below.refl W0.heap.size W0).size)) hOy4 hby4')
 clear hRy1 hby1 hby1' hOy1 hRy2 hby2 hby2' hOy2 hRy3 hby3 hby3' hRy4 hby4 hby4' hOy4 sK1 sK2 sK3
 clear hR0
 go_wp2_with fail
 all_goals go_ret
 all_goals exact HA1.out.done HBW.out (by rw [sE.out]<;>first|rfl|(simp only [List.append_assoc];done)|(simp [*,List.append_assoc];done))
theorem refPutExpr0 (v:Value) (l:List UInt8) (op it vk vi:Int) (vs nm:ByteArray) (aA:Option Addr) (ac:Nat) (args:List RE) (w:World) (hu:RdB w (ltw w) v l) (b1: -9223372036854775808≤op∧op≤9223372036854775807) (b2: -9223372036854775808≤it∧it≤9223372036854775807) (b3: -9223372036854775808≤vi∧vi≤9223372036854775807) (b4:vk=3→vi=0∨vi=1) (b5:vs.size≤300) (b6:nm.size≤300) (hx:RdE 7 RE.enc w (ltw w) (.slice aA args.length ac) args)
  (hone:∀x∈args,∀(v:Value) (m:List UInt8) (V:World),RdB V (ltw V) v m→Bl w V→(m++encX x).length≤100000000000→Calls prog 236 #[v,.agg x.enc.toArray] V (NewB V (m++encX x)))
  (hl:(l++(encI op++(encI it++(encV ⟨vk,vi,vs⟩++((encI nm.size++nm.data.toList)++(encI args.length++args.flatMap encX)))))).length≤100000000000):
  Calls prog 236 #[v,.agg #[.int .i64 op,.int .i64 it,.int .i64 vk,.int .i64 vi,.string vs,.string nm,.slice aA args.length ac]] w (NewB w (l++(encI op++(encI it++(encV ⟨vk,vi,vs⟩++((encI nm.size++nm.data.toList)++(encI args.length++args.flatMap encX))))))):=by
 obtain ⟨hc1,hc2⟩:=RdE.bd hx
 obtain ⟨W0,hW0⟩:=eN0 (w.alloc (.cells #[.int .i64 op,.int .i64 it,.int .i64 vk,.int .i64 vi,.string vs,.string nm,.slice aA args.length ac] 212))
 have hbW:=bN0 hW0
 have HBW:=hI0 hbW
 have HBL:Hid (w.heap.size<W0.heap.size):=hI0 (by rw [hW0];simp)
 have HT:Hid (W0.heap[w.heap.size]? =some (.cells #[.int .i64 op,.int .i64 it,.int .i64 vk,.int .i64 vi,.string vs,.string nm,.slice aA args.length ac] 212 (0,0))):=hI0 zi50
 have hR0:=hu.below hbW
 have HB1:=hI0 b1
 have HB2:=hI0 b2
 have HB3:=hI0 b3
 have HB4:=hI0 b4
 have HB5:=hI0 b5
 have HB6:=hI0 b6
 have HV:=hI0 (hx.below hbW)
 have HONE:Hid (∀x∈args,∀(v:Value) (m:List UInt8) (V:World),RdB V (ltw V) v m→Bl W0 V→(m++encX x).length≤100000000000→Calls prog 236 #[v,.agg x.enc.toArray] V (NewB V (m++encX x))):=hI0 (fun x hx v m V h1 h2 h3=>hone x hx v m V h1 (bU0 HBW h2) h3)
 obtain ⟨sL1,hsL1⟩:=eN0 (l++encI op)
 obtain ⟨sL2,hsL2⟩:=eN0 (sL1++encI it)
 obtain ⟨sL3,hsL3⟩:=eN0 (sL2++encV ⟨vk,vi,vs⟩)
 obtain ⟨sL4,hsL4⟩:=eN0 (sL3++(encI nm.size++nm.data.toList))
 obtain ⟨sL5,hsL5⟩:=eN0 (sL4++encI args.length)
 obtain ⟨sL6,hsL6⟩:=eN0 (sL5++args.flatMap encX)
 have sE:sL6=l++(encI op++(encI it++(encV ⟨vk,vi,vs⟩++((encI nm.size++nm.data.toList)++(encI args.length++args.flatMap encX))))):=by rw [hsL6,hsL5,hsL4,hsL3,hsL2,hsL1];simp only [List.append_assoc]
 have sn6:sL6.length≤100000000000:=by rw [sE];exact hl
 have sn5:=rL0 hsL6 sn6
 have sn4:=rL0 hsL5 sn5
 have sn3:=rL0 hsL4 sn4
 have sn2:=rL0 hsL3 sn3
 have sn1:=rL0 hsL2 sn2
 have sn0:=rL0 hsL1 sn1
 have sE:=hI0 sE
 have sn0:=hI0 sn0
 have sn1:=hI0 sn1
 have sn2:=hI0 sn2
 have sn3:=hI0 sn3
 have sn4:=hI0 sn4
 have sn5:=hI0 sn5
 have sn6:=hI0 sn6
 have sK1:∀v W,RdB W (ltw W) v l→Bl W0 W→Calls prog 113 #[v,.int .i64 op] W (NewB W sL1):=fun v W h hW=>by
  rw [hsL1]
  exact refPutInt_any v l op W HB1.out.1 HB1.out.2 h (by have:=sn0.out;omega)
 have sK2:∀v W,RdB W (ltw W) v sL1→Bl W0 W→Calls prog 113 #[v,.int .i64 it] W (NewB W sL2):=fun v W h hW=>by
  rw [hsL2]
  exact refPutInt_any v sL1 it W HB2.out.1 HB2.out.2 h (by have:=sn1.out;omega)
 have sK3:∀v W,RdB W (ltw W) v sL2→Bl W0 W→Calls prog 188 #[v,.agg #[.int .i64 vk,.int .i64 vi,.string vs]] W (NewB W sL3):=fun v W h hW=>by
  rw [hsL3]
  exact refPutValue_any v sL2 ⟨vk,vi,vs⟩ W HB3.out.1 HB3.out.2 HB4.out h (by have q1:=sn2.out;have q2:vs.size≤300:=HB5.out;show sL2.length+vs.size≤_;omega)
 have sK4:∀v W,RdB W (ltw W) v sL3→Bl W0 W→Calls prog 116 #[v,.string nm] W (NewB W sL4):=fun v W h hW=>by
  rw [hsL4]
  exact refPutText_any v sL3 nm W h (by have q1:=sn3.out;have q2:nm.size≤300:=HB6.out;omega)
 have sK5:∀v W,RdB W (ltw W) v sL4→Bl W0 W→Calls prog 113 #[v,.int .i64 (args.length:Int)] W (NewB W sL5):=fun v W h hW=>by
  rw [hsL5]
  exact refPutInt_any v sL4 args.length W (by omega) (by omega) h (by have:=sn4.out;omega)
 have hsL6:=hI0 hsL6
 clear hsL1 hsL2 hsL3 hsL4 hsL5
 clear hbW hl hu b1 b2 b3 b4 b5 b6 hx hone
 go_in
 go_wp2_with fail
 rw [←hW0]
 clear hW0
 refine rB0 W0 (fun zh=>?_)
 refine hT 0 7 ?_
 refine hT 1 8 ?_
 refine hU 2 9 (v:=?_) zh ?_ ?_
 rotate_left
 ·intro w' hSw;(try dsimp only at hSw);have q0:w'.cell? ⟨w.heap.size,0,none⟩=some (.int .i64 op):=cW0 w' _ 0 _ _ _ ((hSw.block _ HBL.out).trans HT.out);go_simp<;>with_reducible rfl
 refine hT 4 11 ?_
 refine hU 5 12 (v:=?_) zh ?_ ?_
 rotate_left
 ·intro w' hSw;(try dsimp only at hSw);have q1:w'.cell? ⟨w.heap.size,1,none⟩=some (.int .i64 it):=cW0 w' _ 1 _ _ _ ((hSw.block _ HBL.out).trans HT.out);go_simp<;>with_reducible rfl
 refine hC 3 10 ?_
 (with_reducible refine (sK1 _ _ (hR0.below (Below.refl _ _).drew) ((Below.refl W0.heap.size W0).trans ((Below.refl W0.heap.size W0).drew.mono (Below.refl W0.heap.size W0).size))).mono ?_)
 rintro _ y1 ⟨vy1,rfl,hOy1,hby1'⟩
 have hby1:Bl W0 y1:=Below.undrew hby1'
 have hRy1:=hOy1.rd
 refine ⟨_,rfl,keepAnd hby1 ?_⟩
 clear zh
 intro zh
 simp only [aP]
 refine hC 6 13 ?_
 (with_reducible refine (sK2 _ _ hRy1 ((Below.refl W0.heap.size W0).trans (hby1.mono (Below.refl W0.heap.size W0).size))).mono ?_)
 rintro _ y2 ⟨vy2,rfl,hOy2,hby2'⟩
 have hby2:Bl W0 y2:=hby1.trans (hby2'.mono hby1.size)
 have hRy2:=hOy2.rd
 refine ⟨_,rfl,keepAnd hby2 ?_⟩
 clear zh
 intro zh
 simp only [aP]
 refine hT 7 0 ?_
 refine rD0 ?_
 clear zh
 have HA1:Hid (AtB W0 y2 vy2 sL2):=hI0 (AtB.next ((Below.refl W0.heap.size W0).trans (hby1.mono (Below.refl W0.heap.size W0).size)) hOy2 hby2')
 clear hRy1 hby1 hby1' hOy1 hRy2 hby2 hby2' hOy2 sK1 sK2
 clear hR0
 go_wp2_with fail
 have hR1:=HA1.out.rd
 have HT2:=hI0 ((HA1.out.bel.block _ HBL.out).trans HT.out)
 have HBL2:Hid (w.heap.size<y2.heap.size):=hI0 (Nat.lt_of_lt_of_le HBL.out HA1.out.bel.size)
 refine rB0 y2 (fun zh=>?_)
 refine hT 0 14 ?_
 refine hT 1 15 ?_
 refine hU 2 16 (v:=?_) zh ?_ ?_
 rotate_left
 ·intro w' hSw;(try dsimp only at hSw);have q2:w'.cell? ⟨w.heap.size,2,none⟩=some (.int .i64 vk):=cW0 w' _ 2 _ _ _ ((hSw.block _ HBL2.out).trans HT2.out);have q3:w'.cell? ⟨w.heap.size,3,none⟩=some (.int .i64 vi):=cW0 w' _ 3 _ _ _ ((hSw.block _ HBL2.out).trans HT2.out);have q4:w'.cell? ⟨w.heap.size,4,none⟩=some (.string vs):=cW0 w' _ 4 _ _ _ ((hSw.block _ HBL2.out).trans HT2.out);go_simp<;>with_reducible rfl
 refine hT 4 18 ?_
 refine hU 5 19 (v:=?_) zh ?_ ?_
 rotate_left
 ·intro w' hSw;(try dsimp only at hSw);have q5:w'.cell? ⟨w.heap.size,5,none⟩=some (.string nm):=cW0 w' _ 5 _ _ _ ((hSw.block _ HBL2.out).trans HT2.out);go_simp<;>with_reducible rfl
 refine hC 3 17 ?_
 (with_reducible refine (sK3 _ _ (hR1.below (Below.refl _ _).drew) (HA1.out.bel.trans ((Below.refl y2.heap.size y2).drew.mono HA1.out.bel.size))).mono ?_)
 rintro _ z1 ⟨vz1,rfl,hOz1,hbz1'⟩
 have hbz1:Bl y2 z1:=Below.undrew hbz1'
 have hRz1:=hOz1.rd
 refine ⟨_,rfl,keepAnd hbz1 ?_⟩
 clear zh
 intro zh
 simp only [aP]
 refine hC 6 20 ?_
 (with_reducible refine (sK4 _ _ hRz1 (HA1.out.bel.trans (hbz1.mono HA1.out.bel.size))).mono ?_)
 rintro _ z2 ⟨vz2,rfl,hOz2,hbz2'⟩
 have hbz2:Bl y2 z2:=hbz1.trans (hbz2'.mono hbz1.size)
 have hRz2:=hOz2.rd
 refine ⟨_,rfl,keepAnd hbz2 ?_⟩
 clear zh
 intro zh
 simp only [aP]
 refine hT 7 0 ?_
 refine rD0 ?_
 clear zh
 have HA2:Hid (AtB W0 z2 vz2 sL4):=hI0 (AtB.next (HA1.out.bel.trans (hbz1.mono HA1.out.bel.size)) hOz2 hbz2')
 clear hRz1 hbz1 hbz1' hOz1 hRz2 hbz2 hbz2' hOz2 sK3 sK4
 clear hR1 HT2 HBL2
 have hT3:=(HA2.out.bel.block _ HBL.out).trans HT.out
 have c6:=cW1 6 hT3 rfl
 clear hT3
 have KC:=sK5 _ _ HA2.out.rd HA2.out.bel
 go_wp2_with fail
 (with_reducible refine KC.mono ?_)
 rintro _ y8 ⟨vy8,rfl,hO,hb⟩
 have HA3:Hid (AtB W0 y8 vy8 sL5):=hI0 (AtB.next HA2.out.bel hO hb)
 clear KC hO hb sK5
 clear c6
 have hT3:=(HA3.out.bel.block _ HBL.out).trans HT.out
 have c6:=cW1 6 hT3 rfl
 clear hT3
 go_wp2_with fail
 clear c6
 go_loopw [0,29] (fun b i wr=>∃k:Nat,i=.int .i64 (k:Int)∧k≤args.length∧Hid (AtB W0 wr b (sL5++(args.take k).flatMap encX))) (fun _ i _=>args.length-(intOf i).toNat)
 case atStart=>exact ⟨0,rfl,Nat.zero_le _,hI0 (HA3.out.cast zi17)⟩
 clear HA3
 obtain ⟨ki,rfl,hki,HAii⟩:=hrel
 obtain ⟨wii,rfl⟩:=eN0 wr
 by_cases hlti:ki<args.length
 case neg=>
  have hltZ:¬(ki:Int)<(args.length:Int):=by omega
  have HFi:=hI0 (HAii.out.cast (show sL5++(args.take ki).flatMap encX=sL6 by rw [List.take_of_length_le (by omega),hsL6.out]))
  clear HAii
  go_wp2_with fail
  go_ret
  exact HFi.out.done HBW.out (by rw [sE.out]<;>first|rfl|(simp only [List.append_assoc];done)|(simp [*,List.append_assoc];done))
 have hltZ:(ki:Int)<(args.length:Int):=by omega
 have hBi:=HAii.out.bel
 obtain ⟨bi,offi,rfl,hF,hcl⟩:=RdE.at_ (K:=7) (enc:=RE.enc) RE.enc_length (by omega) (HV.out.keep (Keeps.below hBi)) hlti
 have hcx:=hcl ki hlti
 have hmem:=List.getElem_mem hlti
 have hsn:=flat_snoc encX hlti
 have hle:=flat_le encX hlti
 obtain ⟨xi,hx⟩:=eN0 (args[ki])
 rw [←hx] at hcx hmem hsn hle
 obtain ⟨Lki,hLk⟩:=eN0 (sL5++(args.take ki).flatMap encX)
 have hM:(Lki++encX xi).length≤100000000000:=by
  have q:=sn6.out
  rw [hsL6.out] at q
  rw [hLk]
  simp only [List.length_append] at q ⊢
  omega
 have hS:sL5++(args.take (ki+1)).flatMap encX=Lki++encX xi:=by rw [hsn,←List.append_assoc,←hLk]
 have HBii:=hI0 hBi
 have hRi:=HAii.out.rd
 rw [←hLk] at hRi
 clear hcl hx hF hsn hle hBi hLk HAii
 have hmx:=hI0 hmem
 obtain ⟨op2,it2,⟨vk2,vi2,vs2⟩,nm2,aA2,ac2,args2⟩:=xi
 have HSi:Hid (sL5++(args.take (ki+1)).flatMap encX=Lki++encX (RE.mk op2 it2 ⟨vk2,vi2,vs2⟩ nm2 aA2 ac2 args2)):=hI0 hS
 have hM:(Lki++encX (RE.mk op2 it2 ⟨vk2,vi2,vs2⟩ nm2 aA2 ac2 args2)).length≤100000000000:=hM
 obtain ⟨gi0,gi1,gi2,gi3,gi4,gi5,gi6⟩:=cK7 hcx (show _=[.int .i64 op2,.int .i64 it2,.int .i64 vk2,.int .i64 vi2,.string vs2,.string nm2,.slice aA2 args2.length ac2] from rfl)
 clear hcx hS hmem
 obtain ⟨wbi,hwbi⟩:=eN0 (wii.alloc (.cells #[.int .i64 op2,.int .i64 it2,.int .i64 vk2,.int .i64 vi2,.string vs2,.string nm2,.slice aA2 args2.length ac2] 212))
 have hbb:=bN0 hwbi
 have HBbi:=bT0 HBii hbb
 have HXLi:Hid (wii.heap.size<wbi.heap.size):=hI0 (by rw [hwbi];simp)
 have HXi:Hid (wbi.heap[wii.heap.size]? =some (.cells #[.int .i64 op2,.int .i64 it2,.int .i64 vk2,.int .i64 vi2,.string vs2,.string nm2,.slice aA2 args2.length ac2] 212 (0,0))):=hI0 (by rw [hwbi];exact heap_alloc_new _ _)
 have hRbi:=hRi.below hbb
 clear hbb hRi
 have KC:Calls prog 236 #[_,.agg #[.int .i64 op2,.int .i64 it2,.int .i64 vk2,.int .i64 vi2,.string vs2,.string nm2,.slice aA2 args2.length ac2]] wbi (NewB wbi (Lki++encX (RE.mk op2 it2 ⟨vk2,vi2,vs2⟩ nm2 aA2 ac2 args2))):=HONE.out _ hmx.out _ _ _ hRbi HBbi.out hM
 go_wp2_with fail
 rw [←hwbi]
 (with_reducible refine KC.mono ?_)
 rintro _ y9 ⟨vy9,rfl,hO,hb⟩
 have HAni:Hid (AtB W0 y9 vy9 (Lki++encX (RE.mk op2 it2 ⟨vk2,vi2,vs2⟩ nm2 aA2 ac2 args2))):=hI0 (AtB.next HBbi.out hO hb)
 clear KC hO hb hM
 go_wp2_with fail
 go_roundw
 case rel=>exact ⟨ki+1,by go_num,by omega,hI0 (HAni.out.cast HSi.out.symm)⟩
 case measure=>simp [intOf];omega
theorem refPutExpr_any:∀(d:Nat) (e:RE) (v:Value) (l:List UInt8) (w:World),okX d e=true→exIs d w (ltw w) e→RdB w (ltw w) v l→(l++encX e).length≤100000000000→Calls prog 236 #[v,.agg e.enc.toArray] w (NewB w (l++encX e)):=by
 intro d
 induction d with
 |zero=>intro e v l w h;exact absurd h (by simp [okX])
 |succ d ih=>
  intro e v l w hok he hu hl
  obtain ⟨op,it,⟨vk,vi,vs⟩,nm,aA,ac,args⟩:=e
  obtain ⟨h1,h2,h3,h4⟩:=he
  simp only [okX,Bool.and_eq_true,decide_eq_true_eq,List.all_eq_true] at hok
  obtain ⟨k1,k2,k3,k4,k5,k6⟩:=hok
  obtain ⟨v1,v2,v3⟩:=valid_parts k3
  simp only [encX,encXs_flat] at hl ⊢
  exact refPutExpr0 v l op it vk vi vs nm aA ac args w hu (by omega) (by omega) ⟨h2.1,h2.2.1⟩ v1 (by simp only at v2;omega) (by omega) h1 (fun x hx v m V h5 h6 h7=>ih x v m V (k6 x hx) (exIs_below h6 d x (h4 x hx)) h5 h7) hl
end Go.Proofs.YtbfdegkickjbpaaGreat
