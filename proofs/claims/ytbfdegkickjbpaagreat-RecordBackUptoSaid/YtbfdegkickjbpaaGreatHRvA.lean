/-
 RvA
-/
import Derived.Test.YtbfdegkickjbpaaGreatHRwD
import Derived.Test.YtbfdegkickjbpaaGreatHRcO
namespace Go.Proofs.YtbfdegkickjbpaaGreat
open Go.RowKit Go.Lib Go.IntWalk Go.Sort Go.Shelf
theorem zq19 {P:Prop} (i:Nat) (h:Tg i→P:=by
 intro zT19
 unfold checkF restC holdsF restF at h
 split at h
 ·omega
 ·rename_i h1
  split at h
  ·omega
  ·rename_i h2
   split at h
   ·omega
   ·rename_i h3
    split at h
    ·omega
    ·rename_i h4
     split at h
     ·omega
     ·rename_i h5
      split at h
      ·omega
      ·rename_i h6
       first
        |guard_hyp zT19:Tg 1
        |have g3:=deltasF_ok (Decidable.of_not_not h3)
         have g4:=namedF_ok (Decidable.of_not_not h4)
         have g5:=namedF_ok (Decidable.of_not_not h5)
         have g6:=namedF_ok (Decidable.of_not_not h6)
         have g7:=namedF_ok h
       rw [Bool.not_eq_false] at h1 h2
       rw [Bool.and_eq_true,Bool.and_eq_true,Bool.and_eq_true,decide_eq_true_eq,decide_eq_true_eq,decide_eq_true_eq,decide_eq_true_eq] at h1
       obtain ⟨b1,b2,b3,b4⟩:=h1
       first
        |guard_hyp zT19:Tg 1
         refine ⟨b1,b2,b3,by omega,fun x hx=>?_,deltasF_ok (Decidable.of_not_not h3),namedF_ok (Decidable.of_not_not h4),namedF_ok (Decidable.of_not_not h5),namedF_ok (Decidable.of_not_not h6),namedF_ok h⟩
         have:=List.all_eq_true.1 h2 x hx
         unfold enOk at this
         rw [Bool.and_eq_true] at this
         exact this.1
        |have g2:∀x∈c.ents,x.ok=true:=fun x hx=>by
          have:=List.all_eq_true.1 h2 x hx
          unfold enOk at this
          rw [Bool.and_eq_true] at this
          exact this.1
         refine ⟨b1,b2,b3,by omega,g2,fun x hx=>ent_W (g2 x hx) (hi.entI x hx).create,fun x hx=>(del_W b2.2 (g3 x hx) (hi.delI x hx)).1,fun x hx=>⟨(hld_W (g4 x hx)).1,(hld_W (g4 x hx)).2.1⟩,fun x hx=>(str_W (g5 x hx)).1,fun x hx=>⟨(pol_W (g6 x hx)).1,(pol_W (g6 x hx)).2.1⟩,fun x hx=>⟨(hor_W (g7 x hx)).1,(hor_W (g7 x hx)).2.1⟩,?_⟩
         have q1:=flat_bd (en:=encEnt) (sz:=REn.sz) (C:=400) (l:=c.ents) fun x hx=>ent_le (g2 x hx)
         have q2:=flat_bd (en:=encDel) (sz:=RDl.sz) (C:=2500) (l:=c.dels) fun x hx=>(del_W b2.2 (g3 x hx) (hi.delI x hx)).2
         have q3:=flat_bd1 (en:=encHld) (C:=200) (l:=c.pla) fun x hx=>(hld_W (g4 x hx)).2.2
         have q4:=flat_bd1 (en:=encStr) (C:=200) (l:=c.rel) fun x hx=>(str_W (g5 x hx)).2
         have q5:=flat_bd1 (en:=encPol) (C:=200) (l:=c.pol) fun x hx=>(pol_W (g6 x hx)).2.2
         have q6:=flat_bd1 (en:=encHor) (C:=200) (l:=c.hor) fun x hx=>(hor_W (g7 x hx)).2.2
         have z1:=hl.entZ
         have z2:=hl.delZ
         have z3:=hl.pla
         have z4:=hl.rel
         have z5:=hl.pol
         have z6:=hl.hor
         have i1:=encI_length c.tx
         have i2:=encI_length c.time
         have i3:=encI_length c.wall
         have i4:=encI_length c.first
         have i5:=encI_length c.ents.length
         have i6:=encI_length c.dels.length
         have i7:=encI_length c.pla.length
         have i8:=encI_length c.rel.length
         have i9:=encI_length c.pol.length
         have ia:=encI_length c.hor.length
         unfold encC encE encD encH encS encP encZ
         simp only [List.length_append]
         omega) : P := h ⟨⟩
theorem nmB_le {s:ByteArray} (h:nmB s=true):s.size≤24:=by
 unfold nmB nmW at h
 simp only [Bool.and_eq_true,decide_eq_true_eq] at h
 have e:=str_len s
 omega
theorem emp_le {s:ByteArray} (h:s.toList.isEmpty=true):s.size=0:=by
 rw [ByteArray.toList_eq,List.isEmpty_iff] at h
 rw [←str_len,h]
 rfl
theorem emW_le {s:ByteArray} (h:emW s=true):s.size≤24:=by
 unfold emW at h
 rw [Bool.or_eq_true] at h
 rcases h with h|h
 ·rw [emp_le h];omega
 ·exact nmB_le h
theorem txt_le {s:ByteArray} {n:Nat} (h:s.size≤n):(encI s.size++s.data.toList).length≤10+n:=by
 have e:=str_len s
 have:=encI_length s.size
 rw [List.length_append]
 omega
theorem flat_bd {α:Type} {en:α→List UInt8} {sz:α→Nat} {C:Nat} {l:List α} (h:∀x∈l,(en x).length≤C*sz x):(l.flatMap en).length+C≤C*szL sz l:=by
 unfold szL
 induction l with
 |nil=>simp
 |cons x r ih=>
  have h1:=h x (List.mem_cons_self ..)
  have h2:=ih (fun y hy=>h y (List.mem_cons_of_mem _ hy))
  rw [List.flatMap_cons,List.length_append,List.map_cons,List.sum_cons]
  have e:C*(sz x+(r.map sz).sum+1)=C*sz x+C*((r.map sz).sum+1):=by rw [Nat.add_assoc,Nat.mul_add]
  omega
theorem flat_bd1 {α:Type} {en:α→List UInt8} {C:Nat} {l:List α} (h:∀x∈l,(en x).length≤C):(l.flatMap en).length≤C*l.length:=by
 induction l with
 |nil=>simp
 |cons x r ih=>
  have h1:=h x (List.mem_cons_self ..)
  have h2:=ih (fun y hy=>h y (List.mem_cons_of_mem _ hy))
  rw [List.flatMap_cons,List.length_append,List.length_cons,Nat.mul_add]
  omega
theorem valid_int {x:Val} (h:validV x=true): -1125899906842624≤x.int∧x.int≤1125899906842624:=by
 unfold validV at h
 split at h
 ·simp at h;omega
 ·split at h
  ·simp at h;omega
  ·split at h
   ·simp at h;omega
   ·split at h
    ·simp at h;omega
    ·cases h
theorem encX_le:∀(d:Nat) (e:RE),okX d e=true→(encX e).length≤300*e.nodes:=by
 intro d
 induction d with
 |zero=>intro e h;simp [okX] at h
 |succ d ih=>
  intro e h
  obtain ⟨op,it,val,nm,A,c,args⟩:=e
  simp only [okX,Bool.and_eq_true,decide_eq_true_eq,List.all_eq_true] at h
  obtain ⟨_,_,hv,hn,_,ha⟩:=h
  have h1:=encI_length op
  have h2:=encI_length it
  have h3:=(valid_parts hv).2.2
  have h4:=txt_le hn
  have h5:=encI_length args.length
  have h6:=flat_bd (en:=encX) (sz:=RE.nodes) (C:=300) (l:=args) fun x hx=>ih x (ha x hx)
  simp only [encX,RE.nodes,List.length_append,encXs_flat,nodesL_sum] at *
  unfold szL at h6
  omega
theorem col_le {x:RCol} (h:x.ok=true):x.name.size≤24∧(1≤x.kind∧x.kind≤3)∧(encCol x).length≤60:=by
 unfold RCol.ok at h
 simp only [Bool.and_eq_true,decide_eq_true_eq] at h
 have h1:=nmB_le h.1
 have h2:=txt_le h1
 have h3:=encI_length x.kind
 have h4:(flagE x.null).length≤10:=encI_length _
 refine ⟨h1,h.2,?_⟩
 unfold encCol
 simp only [List.length_append] at *
 omega
theorem ix_le {l:List Int} (h:ixF l=true):l.length≤12∧(∀n∈l,0≤n∧n≤11)∧(encI l.length++l.flatMap encI).length≤10+10*l.length:=by
 unfold ixF at h
 simp only [Bool.and_eq_true,decide_eq_true_eq,List.all_eq_true] at h
 refine ⟨h.2,fun n hn=>by have:=h.1 n hn;unfold ix11 at this;simpa using this,?_⟩
 have h1:=encI_length l.length
 have h2:=flat_bd1 (en:=encI) (C:=10) (l:=l) fun n _=>encI_length n
 rw [List.length_append]
 omega
theorem for_le {x:RFor} (h:x.ok=true):x.table.size≤24∧(∀n∈x.cols,0≤n∧n≤11)∧(encFor x).length≤60*x.sz:=by
 unfold RFor.ok at h
 simp only [Bool.and_eq_true] at h
 have h1:=nmB_le h.2
 have h2:=txt_le h1
 obtain ⟨h3,h4,h5⟩:=ix_le h.1
 refine ⟨h1,h4,?_⟩
 unfold encFor RFor.sz
 simp only [List.length_append] at *
 omega
theorem tab_le {t:RTab} (h:t.ok=true):(encTab t).length≤300*t.sz:=by
 unfold RTab.ok at h
 simp only [Bool.and_eq_true,decide_eq_true_eq,List.all_eq_true] at h
 obtain ⟨h1,_,h3,_,_,h6,h7,h8⟩:=h
 have q1:=txt_le (nmB_le h1)
 have q2:=flat_bd1 (en:=encCol) (C:=60) (l:=t.cols) fun x hx=>(col_le (h6 x hx)).2.2
 have q3:=(ix_le h3).2.2
 have q4:=flat_bd (en:=encFor) (sz:=RFor.sz) (C:=60) (l:=t.fors) fun x hx=>(for_le (h7 x hx)).2.2
 have q5:=flat_bd (en:=encX) (sz:=RE.nodes) (C:=300) (l:=t.chks) fun x hx=>encX_le 24 x (h8 x hx)
 have r1:=encI_length t.cols.length
 have r2:=encI_length t.fors.length
 have r3:=encI_length t.chks.length
 unfold encTab RTab.sz
 simp only [List.length_append] at *
 omega
theorem chn_le {x:Chn} (h:x.ok=true):chnW x∧x.name.size≤24∧x.to.size≤24∧x.cname.size≤24∧(1≤x.kind∧x.kind≤4)∧(encV x.def_).length≤203:=by
 unfold Chn.ok at h
 simp only [Bool.and_eq_true,decide_eq_true_eq] at h
 obtain ⟨h1,h2,h3,h4,h5,h6⟩:=h
 have q:=valid_parts h6
 have qi:=valid_int h6
 have e1:=emW_le h1
 have e2:=emW_le h2
 have e3:=emW_le h3
 exact ⟨⟨by omega,by omega,by omega,by omega,by omega,q.2.1,by omega,q.1⟩,e1,e2,e3,h4,q.2.2⟩
theorem ent_le {x:REn} (h:x.ok=true):(encEnt x).length≤400*x.sz:=by
 unfold REn.ok at h
 rw [Bool.and_eq_true,Bool.and_eq_true] at h
 obtain ⟨h1,h2,h3⟩:=h
 have q1:=encI_length x.time
 have q2:=txt_le (nmB_le h2)
 unfold encEnt REn.sz
 by_cases hk:x.change.kind=0
 ·rw [if_pos hk] at h3
  rw [Bool.and_eq_true,Bool.and_eq_true] at h3
  have q3:=tab_le h3.2.1
  have q4:=encI_length 0
  rw [if_pos hk]
  unfold encEnt0
  simp only [List.length_append] at *
  omega
 ·rw [if_neg hk] at h3
  rw [Bool.and_eq_true] at h3
  obtain ⟨_,e1,e2,e3,_,e5⟩:=chn_le h3.1
  have r1:=txt_le e1
  have r2:=txt_le e2
  have r3:=txt_le e3
  have r4:=encI_length x.change.kind
  have r5:=encI_length x.change.ckind
  have r6:(flagE x.change.cnull).length≤10:=encI_length _
  rw [if_neg hk]
  unfold encEnt1
  simp only [List.length_append] at *
  omega
theorem ent_W {w:World} {x:REn} {base:Nat} (h:x.ok=true) (hi:x.create.is w (·<base)):entW w base x:=by
 unfold REn.ok instB at h
 rw [Bool.and_eq_true,Bool.and_eq_true,decide_eq_true_eq] at h
 obtain ⟨h1,h2,h3⟩:=h
 have q2:=nmB_le h2
 refine ⟨by omega,by omega,?_,fun hk=>?_,fun hk=>?_⟩
 ·by_cases hk:x.change.kind=0
  ·omega
  ·rw [if_neg hk,Bool.and_eq_true] at h3
   have:=(chn_le h3.1).2.2.2.2.1
   omega
 ·rw [if_pos hk,Bool.and_eq_true,Bool.and_eq_true] at h3
  have ht:=h3.2.1
  unfold RTab.ok at ht
  simp only [Bool.and_eq_true,decide_eq_true_eq,List.all_eq_true] at ht
  obtain ⟨t1,_,t3,_,_,t6,t7,t8⟩:=ht
  exact ⟨by have:=nmB_le t1;omega,hi.cols,fun c hc=>by have:=col_le (t6 c hc);omega,hi.key,fun n hn=>by have:=(ix_le t3).2.1 n hn;omega,hi.fors,fun f hf=>⟨hi.forI f hf,fun n hn=>by have:=(for_le (t7 f hf)).2.1 n hn;omega,by have:=(for_le (t7 f hf)).1;omega⟩,hi.chks,fun e he=>⟨hi.chkI e he,t8 e he⟩⟩
 ·rw [if_neg hk,Bool.and_eq_true] at h3
  exact (chn_le h3.1).1
theorem fct_le {w:World} {F:Nat→Prop} {p:RF} (h:p.fct.ok=true) (hi:p.is w F):(∀x∈p.row,putV x)∧(encR p.row).length≤2446∧(0≤p.vf∧p.vf<p.vt∧p.vt≤1099511627776)∧(encF p).length≤2500:=by
 unfold Fct.ok validRowF RF.fct validP at h
 simp only at h
 rw [Bool.and_eq_true] at h
 obtain ⟨h1,h2⟩:=h
 obtain ⟨q1,q2⟩:=valid_all h1 hi.2
 simp only [Bool.and_eq_true,decide_eq_true_eq] at h2
 have e1:=encI_length p.vf
 have e2:=encI_length p.vt
 refine ⟨q1,q2,by omega,?_⟩
 unfold encF
 simp only [List.length_append]
 omega
structure delW (w:World) (base:Nat) (d:RDl):Prop where
 nm:d.name.size≤300
 cl:RdE 1 intE w (·<base) (.slice d.cA d.cl.length d.cc) d.cl
 clB:∀n∈d.cl,(-9223372036854775808≤n∧n≤9223372036854775807)
 ops:RdE 3 RF.enc w (·<base) (.slice d.oA d.ops.length d.oc) d.ops
 opB:∀x∈d.ops,facW w base x
theorem delW.keep {w w':World} {base:Nat} {d:RDl} (h:delW w base d) (hb:Below base w w'):delW w' base d:=⟨h.nm,h.cl.keep (Keeps.below hb),h.clB,h.ops.keep (Keeps.below hb),fun x hx=>(h.opB x hx).keep hb⟩
theorem if9 {b:Bool} {X:Int} (h:(if b=true then (9:Int) else X)=0):X=0:=by
 cases b with
 |true=>simp at h
 |false=>simpa using h
theorem if8 {b:Bool} {X:Int} (h:(if b=false then (8:Int) else X)=0):b=true∧X=0:=by
 cases b with
 |true=>exact ⟨rfl,by simpa using h⟩
 |false=>simp at h
theorem closeF_ok {first:Int} {l:List Int}:∀ {p:Option Int},closeF first p l=0→∀n∈l,1≤n∧n≤first-1:=by
 induction l with
 |nil=>intro p _ n hn;cases hn
 |cons x r ih=>
  intro p h n hn
  rw [closeF_cons] at h
  by_cases h1:1≤x∧x≤first-1
  ·rw [if_neg (fun g=>g h1)] at h
   rcases List.mem_cons.1 hn with e|hn
   ·rw [e];exact h1
   ·exact ih (if9 h) n hn
  ·rw [if_pos h1] at h
   exact absurd h (by decide)
theorem deltaF_ok {first:Int} {cl:List Int} {l:List Fct} (h:deltaF first cl l=0):(∀n∈cl,1≤n∧n≤first-1)∧∀x∈l,x.ok=true:=by
 unfold deltaF opensF at h
 by_cases h1:closeF first none cl=0
 ·rw [if_neg (fun g=>g h1)] at h
  by_cases h2:l.all Fct.ok=true
  ·exact ⟨closeF_ok h1,List.all_eq_true.1 h2⟩
  ·rw [if_neg h2] at h
   exact absurd h (by decide)
 ·rw [if_pos h1] at h
  exact absurd h h1
theorem deltasF_ok {first:Int} {l:List RDl}:∀ {p:Option ByteArray},deltasF first p l=0→∀d∈l,nmB d.name=true∧(∀n∈d.cl,1≤n∧n≤first-1)∧∀x∈d.ops,x.fct.ok=true:=by
 induction l with
 |nil=>intro p _ d hd;cases hd
 |cons x r ih=>
  intro p h d hd
  rw [deltasF_cons] at h
  obtain ⟨h1,h2⟩:=if8 h
  have h3:=if9 h2
  by_cases h4:deltaF first x.cl (x.ops.map RF.fct)=0
  ·rw [if_neg (fun g=>g h4)] at h3
   rcases List.mem_cons.1 hd with e|hd
   ·rw [Bool.and_eq_true] at h1
    have q:=deltaF_ok h4
    rw [e]
    exact ⟨h1.1,q.1,fun y hy=>q.2 _ (List.mem_map_of_mem hy)⟩
   ·exact ih h3 d hd
  ·rw [if_pos h4] at h3
   exact absurd h3 h4
theorem namedF_ok {α:Type} {nm:α→ByteArray} {ok:α→Bool} {l:List α}:∀ {p:Option ByteArray},namedF nm ok p l=0→∀x∈l,ok x=true:=by
 induction l with
 |nil=>intro p _ x hx;cases hx
 |cons y r ih=>
  intro p h x hx
  rw [namedF_cons] at h
  obtain ⟨h1,h2⟩:=if8 h
  rcases List.mem_cons.1 hx with e|hx
  ·rw [e];exact h1
  ·exact ih (if9 h2) x hx
theorem del_W {w:World} {base:Nat} {first:Int} {d:RDl} (hf:first≤1125899906842624) (h:nmB d.name=true∧(∀n∈d.cl,1≤n∧n≤first-1)∧∀x∈d.ops,x.fct.ok=true) (hi:d.is w (·<base)):delW w base d∧(encDel d).length≤2500*d.sz:=by
 obtain ⟨h1,h2,h3⟩:=h
 refine ⟨⟨by have:=nmB_le h1;omega,hi.close,fun n hn=>by have:=h2 n hn;omega,hi.opens.1,fun x hx=>?_⟩,?_⟩
 ·obtain ⟨q1,q2,q3,_⟩:=fct_le (h3 x hx) (hi.opens.2 x hx)
  exact ⟨(hi.opens.2 x hx).1,q1,by omega,by omega,by omega⟩
 ·have q1:=txt_le (nmB_le h1)
  have q2:=flat_bd1 (en:=encI) (C:=10) (l:=d.cl) fun n _=>encI_length n
  have q3:=flat_bd (en:=encF) (sz:=RF.sz) (C:=2500) (l:=d.ops) fun x hx=>by
   have:=(fct_le (h3 x hx) (hi.opens.2 x hx)).2.2.2
   unfold RF.sz
   omega
  have r1:=encI_length d.cl.length
  have r2:=encI_length d.ops.length
  unfold encDel RDl.sz
  simp only [List.length_append] at *
  omega
theorem hld_W {x:Hld} (h:x.ok=true):(x.name.size≤24∧x.table.size≤24)∧((0≤x.vf∧x.vf<x.vt∧x.vt≤1099511627776)∧0≤x.sf∧x.sf<x.st∧x.st≤1099511627776)∧(encHld x).length≤200:=by
 unfold Hld.ok validP at h
 simp only [Bool.and_eq_true,decide_eq_true_eq] at h
 have q1:=nmB_le h.1
 have q2:=nmB_le h.2.1
 have r1:=txt_le q1
 have r2:=txt_le q2
 have e1:=encI_length x.vf
 have e2:=encI_length x.vt
 have e3:=encI_length x.sf
 have e4:=encI_length x.st
 refine ⟨⟨q1,q2⟩,by omega,?_⟩
 unfold encHld
 simp only [List.length_append] at *
 omega
theorem pol_W {x:Pol} (h:x.ok=true):x.table.size≤24∧(0≤x.keep∧x.keep≤1099511627776)∧(encPol x).length≤200:=by
 unfold Pol.ok at h
 simp only [Bool.and_eq_true,decide_eq_true_eq] at h
 have q1:=nmB_le h.1
 have r1:=txt_le q1
 have e1:=encI_length x.keep
 refine ⟨q1,h.2,?_⟩
 unfold encPol
 simp only [List.length_append] at *
 omega
theorem hor_W {x:Hor} (h:x.ok=true):x.table.size≤24∧(0≤x.time∧x.time≤1099511627775)∧(encHor x).length≤200:=by
 unfold Hor.ok instB at h
 simp only [Bool.and_eq_true,decide_eq_true_eq] at h
 have q1:=nmB_le h.1
 have r1:=txt_le q1
 have e1:=encI_length x.time
 refine ⟨q1,h.2,?_⟩
 unfold encHor
 simp only [List.length_append] at *
 omega
theorem str_W {x:ByteArray} (h:nmB x=true):x.size≤24∧(encStr x).length≤200:=by
 have q1:=nmB_le h
 have r1:=txt_le q1
 exact ⟨q1,by unfold encStr;omega⟩
def encE (l:List REn):List UInt8:=encI l.length++l.flatMap encEnt
def encD (l:List RDl):List UInt8:=encI l.length++l.flatMap encDel
def encH (l:List Hld):List UInt8:=encI l.length++l.flatMap encHld
def encS (l:List ByteArray):List UInt8:=encI l.length++l.flatMap encStr
def encP (l:List Pol):List UInt8:=encI l.length++l.flatMap encPol
def encZ (l:List Hor):List UInt8:=encI l.length++l.flatMap encHor
def encC (c:RCm):List UInt8:=encI c.tx++encI c.time++encI c.wall++encI c.first++encE c.ents++encD c.dels++encH c.pla++encS c.rel++encP c.pol++encZ c.hor
def encCE (c:RCm):Int:=if checkF c≠0 then checkF c else if 1048576<(encC c).length then 5 else 0
structure cmW (w:World) (base:Nat) (c:RCm):Prop where
 tx:1≤c.tx∧c.tx≤1125899906842624
 first:1≤c.first∧c.first≤1125899906842624
 time:1≤c.time∧c.time≤1099511627775
 wall:0≤c.wall∧c.wall≤1099511627775
 eok:∀x∈c.ents,x.ok=true
 ents:∀x∈c.ents,entW w base x
 dels:∀x∈c.dels,delW w base x
 pla:∀x∈c.pla,(x.name.size≤24∧x.table.size≤24)∧((0≤x.vf∧x.vf<x.vt∧x.vt≤1099511627776)∧0≤x.sf∧x.sf<x.st∧x.st≤1099511627776)
 rel:∀x∈c.rel,x.size≤24
 pol:∀x∈c.pol,x.table.size≤24∧(0≤x.keep∧x.keep≤1099511627776)
 hor:∀x∈c.hor,x.table.size≤24∧(0≤x.time∧x.time≤1099511627775)
 len:(encC c).length≤10000000000
theorem cm_W {w w0:World} {base:Nat} {c:RCm} (h:checkF c=0) (hi:c.is w (·<base)) (hl:c.lim w0):cmW w base c:=by
 exact zq19 0
end Go.Proofs.YtbfdegkickjbpaaGreat
