/-
 Rp1
-/
import Derived.Test.YtgfhknnklapldaaGreatDoorBRw1
import Derived.Test.YtgfhknnklapldaaGreatDoorBRcO
namespace Go.Proofs.YtgfhknnklapldaaGreatDoor
set_option maxRecDepth 99999
set_option maxHeartbeats 0
open Go.RowKit Go.Lib Go.IntWalk Go.Sort Go.Shelf
theorem nmB_le {s:ByteArray} (h:nmB s=true):s.size≤24:=by
 unfold nmB nmW at h
 simp only [Bool.and_eq_true,decide_eq_true_eq] at h
 have e:=str_len s
 omega
theorem emp_le {s:ByteArray} (h:s.toList.isEmpty=true):s.size=0:=by
 rw [ByteArray.toList_eq,List.isEmpty_iff] at h
 rw [←str_len,h]
 rfl
theorem emW_le {s:ByteArray} (h:emW s=true):s.size≤24:=by
 unfold emW at h
 rw [Bool.or_eq_true] at h
 rcases h with h|h
 ·rw [emp_le h];omega
 ·exact nmB_le h
theorem txt_le {s:ByteArray} {n:Nat} (h:s.size≤n):(encI s.size++s.data.toList).length≤10+n:=by
 have e:=str_len s
 have:=encI_length s.size
 rw [List.length_append]
 omega
theorem flat_bd {α:Type} {en:α→List UInt8} {sz:α→Nat} {C:Nat} {l:List α} (h:∀x∈l,(en x).length≤C*sz x):(l.flatMap en).length+C≤C*szL sz l:=by
 unfold szL
 induction l with
 |nil=>simp
 |cons x r ih=>
  have h1:=h x (List.mem_cons_self ..)
  have h2:=ih (fun y hy=>h y (List.mem_cons_of_mem _ hy))
  rw [List.flatMap_cons,List.length_append,List.map_cons,List.sum_cons]
  have e:C*(sz x+(r.map sz).sum+1)=C*sz x+C*((r.map sz).sum+1):=by rw [Nat.add_assoc,Nat.mul_add]
  omega
theorem flat_bd1 {α:Type} {en:α→List UInt8} {C:Nat} {l:List α} (h:∀x∈l,(en x).length≤C):(l.flatMap en).length≤C*l.length:=by
 induction l with
 |nil=>simp
 |cons x r ih=>
  have h1:=h x (List.mem_cons_self ..)
  have h2:=ih (fun y hy=>h y (List.mem_cons_of_mem _ hy))
  rw [List.flatMap_cons,List.length_append,List.length_cons,Nat.mul_add]
  omega
theorem valid_int {x:Val} (h:validV x=true): -1125899906842624≤x.int∧x.int≤1125899906842624:=by
 unfold validV at h
 split at h
 ·simp at h;omega
 ·split at h
  ·simp at h;omega
  ·split at h
   ·simp at h;omega
   ·split at h
    ·simp at h;omega
    ·cases h
theorem encX_le:∀(d:Nat) (e:RE),okX d e=true→(encX e).length≤300*e.nodes:=by
 intro d
 induction d with
 |zero=>intro e h;simp [okX] at h
 |succ d ih=>
  intro e h
  obtain ⟨op,it,val,nm,A,c,args⟩:=e
  simp only [okX,Bool.and_eq_true,decide_eq_true_eq,List.all_eq_true] at h
  obtain ⟨_,_,hv,hn,_,ha⟩:=h
  have h1:=encI_length op
  have h2:=encI_length it
  have h3:=(valid_parts hv).2.2
  have h4:=txt_le hn
  have h5:=encI_length args.length
  have h6:=flat_bd (en:=encX) (sz:=RE.nodes) (C:=300) (l:=args) fun x hx=>ih x (ha x hx)
  simp only [encX,RE.nodes,List.length_append,encXs_flat,nodesL_sum] at *
  unfold szL at h6
  omega
theorem col_le {x:RCol} (h:x.ok=true):x.name.size≤24∧(1≤x.kind∧x.kind≤3)∧(encCol x).length≤60:=by
 unfold RCol.ok at h
 simp only [Bool.and_eq_true,decide_eq_true_eq] at h
 have h1:=nmB_le h.1
 have h2:=txt_le h1
 have h3:=encI_length x.kind
 have h4:(flagE x.null).length≤10:=encI_length _
 refine ⟨h1,h.2,?_⟩
 unfold encCol
 simp only [List.length_append] at *
 omega
theorem ix_le {l:List Int} (h:ixF l=true):l.length≤12∧(∀n∈l,0≤n∧n≤11)∧(encI l.length++l.flatMap encI).length≤10+10*l.length:=by
 unfold ixF at h
 simp only [Bool.and_eq_true,decide_eq_true_eq,List.all_eq_true] at h
 refine ⟨h.2,fun n hn=>by have:=h.1 n hn;unfold ix11 at this;simpa using this,?_⟩
 have h1:=encI_length l.length
 have h2:=flat_bd1 (en:=encI) (C:=10) (l:=l) fun n _=>encI_length n
 rw [List.length_append]
 omega
theorem for_le {x:RFor} (h:x.ok=true):x.table.size≤24∧(∀n∈x.cols,0≤n∧n≤11)∧(encFor x).length≤60*x.sz:=by
 unfold RFor.ok at h
 simp only [Bool.and_eq_true] at h
 have h1:=nmB_le h.2
 have h2:=txt_le h1
 obtain ⟨h3,h4,h5⟩:=ix_le h.1
 refine ⟨h1,h4,?_⟩
 unfold encFor RFor.sz
 simp only [List.length_append] at *
 omega
theorem tab_le {t:RTab} (h:t.ok=true):(encTab t).length≤300*t.sz:=by
 unfold RTab.ok at h
 simp only [Bool.and_eq_true,decide_eq_true_eq,List.all_eq_true] at h
 obtain ⟨h1,_,h3,_,_,h6,h7,h8⟩:=h
 have q1:=txt_le (nmB_le h1)
 have q2:=flat_bd1 (en:=encCol) (C:=60) (l:=t.cols) fun x hx=>(col_le (h6 x hx)).2.2
 have q3:=(ix_le h3).2.2
 have q4:=flat_bd (en:=encFor) (sz:=RFor.sz) (C:=60) (l:=t.fors) fun x hx=>(for_le (h7 x hx)).2.2
 have q5:=flat_bd (en:=encX) (sz:=RE.nodes) (C:=300) (l:=t.chks) fun x hx=>encX_le 24 x (h8 x hx)
 have r1:=encI_length t.cols.length
 have r2:=encI_length t.fors.length
 have r3:=encI_length t.chks.length
 unfold encTab RTab.sz
 simp only [List.length_append] at *
 omega
theorem chn_le {x:Chn} (h:x.ok=true):chnW x∧x.name.size≤24∧x.to.size≤24∧x.cname.size≤24∧(1≤x.kind∧x.kind≤4)∧(encV x.def_).length≤203:=by
 unfold Chn.ok at h
 simp only [Bool.and_eq_true,decide_eq_true_eq] at h
 obtain ⟨h1,h2,h3,h4,h5,h6⟩:=h
 have q:=valid_parts h6
 have qi:=valid_int h6
 have e1:=emW_le h1
 have e2:=emW_le h2
 have e3:=emW_le h3
 exact ⟨⟨by omega,by omega,by omega,by omega,by omega,q.2.1,by omega,q.1⟩,e1,e2,e3,h4,q.2.2⟩
theorem ent_le {x:REn} (h:x.ok=true):(encEnt x).length≤400*x.sz:=by
 unfold REn.ok at h
 rw [Bool.and_eq_true,Bool.and_eq_true] at h
 obtain ⟨h1,h2,h3⟩:=h
 have q1:=encI_length x.time
 have q2:=txt_le (nmB_le h2)
 unfold encEnt REn.sz
 by_cases hk:x.change.kind=0
 ·rw [if_pos hk] at h3
  rw [Bool.and_eq_true,Bool.and_eq_true] at h3
  have q3:=tab_le h3.2.1
  have q4:=encI_length 0
  rw [if_pos hk]
  unfold encEnt0
  simp only [List.length_append] at *
  omega
 ·rw [if_neg hk] at h3
  rw [Bool.and_eq_true] at h3
  obtain ⟨_,e1,e2,e3,_,e5⟩:=chn_le h3.1
  have r1:=txt_le e1
  have r2:=txt_le e2
  have r3:=txt_le e3
  have r4:=encI_length x.change.kind
  have r5:=encI_length x.change.ckind
  have r6:(flagE x.change.cnull).length≤10:=encI_length _
  rw [if_neg hk]
  unfold encEnt1
  simp only [List.length_append] at *
  omega
theorem ent_W {w:World} {x:REn} {base:Nat} (h:x.ok=true) (hi:x.create.is w (·<base)):entW w base x:=by
 unfold REn.ok instB at h
 rw [Bool.and_eq_true,Bool.and_eq_true,decide_eq_true_eq] at h
 obtain ⟨h1,h2,h3⟩:=h
 have q2:=nmB_le h2
 refine ⟨by omega,by omega,?_,fun hk=>?_,fun hk=>?_⟩
 ·by_cases hk:x.change.kind=0
  ·omega
  ·rw [if_neg hk,Bool.and_eq_true] at h3
   have:=(chn_le h3.1).2.2.2.2.1
   omega
 ·rw [if_pos hk,Bool.and_eq_true,Bool.and_eq_true] at h3
  have ht:=h3.2.1
  unfold RTab.ok at ht
  simp only [Bool.and_eq_true,decide_eq_true_eq,List.all_eq_true] at ht
  obtain ⟨t1,_,t3,_,_,t6,t7,t8⟩:=ht
  exact ⟨by have:=nmB_le t1;omega,hi.cols,fun c hc=>by have:=col_le (t6 c hc);omega,hi.key,fun n hn=>by have:=(ix_le t3).2.1 n hn;omega,hi.fors,fun f hf=>⟨hi.forI f hf,fun n hn=>by have:=(for_le (t7 f hf)).2.1 n hn;omega,by have:=(for_le (t7 f hf)).1;omega⟩,hi.chks,fun e he=>⟨hi.chkI e he,t8 e he⟩⟩
 ·rw [if_neg hk,Bool.and_eq_true] at h3
  exact (chn_le h3.1).1
theorem if9 {b:Bool} {X:Int} (h:(if b=true then (9:Int) else X)=0):X=0:=by
 cases b with
 |true=>simp at h
 |false=>simpa using h
theorem if8 {b:Bool} {X:Int} (h:(if b=false then (8:Int) else X)=0):b=true∧X=0:=by
 cases b with
 |true=>exact ⟨rfl,by simpa using h⟩
 |false=>simp at h
theorem namedF_ok {α:Type} {nm:α→ByteArray} {ok:α→Bool} {l:List α}:∀ {p:Option ByteArray},namedF nm ok p l=0→∀x∈l,ok x=true:=by
 induction l with
 |nil=>intro p _ x hx;cases hx
 |cons y r ih=>
  intro p h x hx
  rw [namedF_cons] at h
  obtain ⟨h1,h2⟩:=if8 h
  rcases List.mem_cons.1 hx with e|hx
  ·rw [e];exact h1
  ·exact ih (if9 h2) x hx
theorem hld_W {x:Hld} (h:x.ok=true):(x.name.size≤24∧x.table.size≤24)∧((0≤x.vf∧x.vf<x.vt∧x.vt≤1099511627776)∧0≤x.sf∧x.sf<x.st∧x.st≤1099511627776)∧(encHld x).length≤200:=by
 unfold Hld.ok validP at h
 simp only [Bool.and_eq_true,decide_eq_true_eq] at h
 have q1:=nmB_le h.1
 have q2:=nmB_le h.2.1
 have r1:=txt_le q1
 have r2:=txt_le q2
 have e1:=encI_length x.vf
 have e2:=encI_length x.vt
 have e3:=encI_length x.sf
 have e4:=encI_length x.st
 refine ⟨⟨q1,q2⟩,by omega,?_⟩
 unfold encHld
 simp only [List.length_append] at *
 omega
theorem pol_W {x:Pol} (h:x.ok=true):x.table.size≤24∧(0≤x.keep∧x.keep≤1099511627776)∧(encPol x).length≤200:=by
 unfold Pol.ok at h
 simp only [Bool.and_eq_true,decide_eq_true_eq] at h
 have q1:=nmB_le h.1
 have r1:=txt_le q1
 have e1:=encI_length x.keep
 refine ⟨q1,h.2,?_⟩
 unfold encPol
 simp only [List.length_append] at *
 omega
theorem hor_W {x:Hor} (h:x.ok=true):x.table.size≤24∧(0≤x.time∧x.time≤1099511627775)∧(encHor x).length≤200:=by
 unfold Hor.ok instB at h
 simp only [Bool.and_eq_true,decide_eq_true_eq] at h
 have q1:=nmB_le h.1
 have r1:=txt_le q1
 have e1:=encI_length x.time
 refine ⟨q1,h.2,?_⟩
 unfold encHor
 simp only [List.length_append] at *
 omega
def encE (l:List REn):List UInt8:=encI l.length++l.flatMap encEnt
def encH (l:List Hld):List UInt8:=encI l.length++l.flatMap encHld
def encP (l:List Pol):List UInt8:=encI l.length++l.flatMap encPol
def encZ (l:List Hor):List UInt8:=encI l.length++l.flatMap encHor
end Go.Proofs.YtgfhknnklapldaaGreatDoor
