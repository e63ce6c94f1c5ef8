/-
 Tn1
-/
import Derived.Test.YtbfdegkickjbpaaGreatHDcP
import Derived.Test.YtbfdegkickjbpaaGreatHRvA
namespace Go.Proofs.YtbfdegkickjbpaaGreat
set_option maxRecDepth 1000000
set_option maxHeartbeats 32000000
section
open Go.RowKit Go.Lib Go.IntWalk Go.Sort Go.Shelf
abbrev Rdn (α:Type):Type:=List UInt8→Int×Int→α×Int×Int
def sq {α β:Type} (r1:Rdn α) (r2:α→Rdn β):Rdn β:=fun l s=>r2 (r1 l s).1 l (r1 l s).2
def mp {α β:Type} (f:α→β) (r:Rdn α):Rdn β:=fun l s=>(f (r l s).1,(r l s).2)
end
section
open Go.RowKit Go.Lib Go.IntWalk Go.Sort Go.Shelf
def Put {α:Type} (rd:Rdn α) (b:List UInt8) (a:α):Prop:=b.length≤9223372036854775807→∀pre suf:List UInt8,rd (pre++(b++suf)) ((pre.length:Int),0)=(a,((pre++b).length:Int),0)
theorem Put.sq {α β:Type} {r1:Rdn α} {r2:α→Rdn β} {b1 b2:List UInt8} {a1:α} {a2:β} (h1:Put r1 b1 a1) (h2:Put (r2 a1) b2 a2):Put (sq r1 r2) (b1++b2) a2:=by
 intro hl pre suf
 rw [List.length_append] at hl
 have e1:=h1 (by omega) pre (b2++suf)
 have e2:=h2 (by omega) (pre++b1) suf
 have el:pre++((b1++b2)++suf)=pre++(b1++(b2++suf)):=by simp only [List.append_assoc]
 have er:(pre++b1)++(b2++suf)=pre++(b1++(b2++suf)):=by simp only [List.append_assoc]
 rw [er] at e2
 show r2 _ _ _=_
 rw [el,e1,e2]
 simp only [List.append_assoc]
theorem Put.mp {α β:Type} {r:Rdn α} {b:List UInt8} {a:α} (h:Put r b a) (f:α→β):Put (mp f r) b (f a):=by
 intro hl pre suf
 show (f _,_)=_
 rw [h hl pre suf]
theorem put_S {α:Type} {dec:List UInt8→Int→α×Int×Int} {z a:α} {b:List UInt8} (h:∀pre suf:List UInt8,dec (pre++(b++suf)) (pre.length:Int)=(a,((pre++b).length:Int),0)):Put (fun l=>rdS (dec l) z) b a:=by
 intro _ pre suf
 simp only [rdS,h pre suf,ne_eq,not_true_eq_false,if_false,if_true]
theorem put_I {n:Int} (h1: -9223372036854775808≤n) (h2:n≤9223372036854775807):Put rdI (encI n) n:=put_S (fun pre suf=>decI_put pre suf n h1 h2)
theorem put_V {x:Val} (h:validV x=true):Put rdV (encV x) x:=put_S (fun pre suf=>decV_put pre suf x h)
theorem put_R {xs:List Val} (h:xs.all validV=true) (hn:xs.length≤12):Put rdR (encR xs) xs:=put_S (fun pre suf=>decR_put pre suf xs h hn)
theorem put_T {s:ByteArray} (h:s.size≤200):Put rdT (encI s.size++s.data.toList) s:=by
 refine put_S (fun pre suf=>?_)
 have e:=decT_put pre suf s.data.toList 200 (by rw [Array.length_toList];show (s.size:Int)≤200;omega) (by rw [Array.length_toList];show s.size≤_;omega)
 rw [Array.length_toList] at e
 simp only [show s.data.size=s.size from rfl] at e
 simp only [List.append_assoc]
 rw [e,strB_of]
theorem put_P {f t:Int} (h:validP f t=true) (h1: -9223372036854775808≤f∧f≤9223372036854775807) (h2: -9223372036854775808≤t∧t≤9223372036854775807):Put rdP (encI f++encI t) (f,t):=by
 refine put_S (fun pre suf=>?_)
 have e1:=decI_put pre (encI t++suf) f h1.1 h1.2
 have e2:=decI_put (pre++encI f) suf t h2.1 h2.2
 simp only [List.append_assoc] at e1 e2 ⊢
 unfold decP
 rw [e1]
 simp only [ne_eq,not_true_eq_false,if_false]
 rw [e2]
 simp [h]
theorem put_pos {α:Type} {rd:Rdn α} {b:List UInt8} {a:α} (h:Put rd b a) (hm:∀l,Mon l (rd l)):0<b.length:=by
 rcases Nat.lt_or_ge 9223372036854775807 b.length with hb|hb
 ·omega
 ·have e:=h hb [] []
  simp only [List.nil_append,List.append_nil,List.length_nil] at e
  have g:=hm b (((0:Nat):Int),0) (by rw [e])
  rw [e] at g
  have:=g.2.1
  simp only at this
  omega
theorem put_getS {α:Type} {rd:Rdn α} {enc:α→List UInt8} {er:α→α}:∀(xs:List α),(∀x∈xs,Put rd (enc x) (er x))→(xs.flatMap enc).length≤9223372036854775807→∀pre suf:List UInt8,getS (rd (pre++(xs.flatMap enc++suf))) xs.length ((pre.length:Int),0)=(xs.map er,((pre++xs.flatMap enc).length:Int),0)
 |[],_,_,pre,suf=>by simp [getS]
 |x::r,h,hl,pre,suf=>by
  rw [List.flatMap_cons,List.length_append] at hl
  have e1:=h x (List.mem_cons_self ..) (by omega) pre (r.flatMap enc++suf)
  have e2:=put_getS r (fun y hy=>h y (List.mem_cons_of_mem _ hy)) (by omega) (pre++enc x) suf
  simp only [List.append_assoc] at e2
  rw [List.flatMap_cons,List.append_assoc,List.length_cons,getS_step (one:=rd (pre++(enc x++(r.flatMap enc++suf)))) rfl e1,e2]
  simp only [List.map_cons]
theorem flat_pos {α:Type} {enc:α→List UInt8}:∀(xs:List α),(∀x∈xs,0<(enc x).length)→xs.length≤(xs.flatMap enc).length
 |[],_=>Nat.zero_le _
 |x::r,h=>by
  have h1:=h x (List.mem_cons_self ..)
  have h2:=flat_pos r (fun y hy=>h y (List.mem_cons_of_mem _ hy))
  rw [List.flatMap_cons,List.length_append,List.length_cons]
  omega
theorem put_L {α:Type} {rd:Rdn α} {enc:α→List UInt8} {er:α→α} (xs:List α) (h:∀x∈xs,Put rd (enc x) (er x)) (hm:∀l,Mon l (rd l)):Put (fun l=>rdL l (rd l)) (encI xs.length++xs.flatMap enc) (xs.map er):=by
 intro hl pre suf
 rw [List.length_append] at hl
 have hn:=flat_pos xs (fun x hx=>put_pos (h x hx) hm)
 have e1:=put_I (n:=(xs.length:Int)) (by omega) (by omega) (by omega) pre (xs.flatMap enc++suf)
 have e2:=put_getS xs h (by omega) (pre++encI xs.length) suf
 simp only [List.append_assoc] at e1 e2 ⊢
 unfold rdL
 rw [e1]
 simp only
 rw [if_neg (by omega),show ((xs.length:Int)).toNat=xs.length by omega,e2]
theorem put_L0 {α:Type} {rd:Rdn α} {enc:α→List UInt8} (xs:List α) (h:∀x∈xs,Put rd (enc x) x) (hm:∀l,Mon l (rd l)):Put (fun l=>rdL l (rd l)) (encI xs.length++xs.flatMap enc) xs:=by
 have k:=put_L (er:=id) xs h hm
 rw [List.map_id] at k
 exact k
end
section
open Go.RowKit Go.Lib Go.IntWalk Go.Sort Go.Shelf
theorem put_B (b:Bool):Put rdBool (flagE b) b:=by
 intro hl pre suf
 have e:=put_I (n:=if b then 1 else 0) (by cases b<;>decide) (by cases b<;>decide) hl pre suf
 unfold rdBool flagE
 rw [e]
 cases b<;>simp
theorem put_N {s:ByteArray} (h:nmB s=true):Put rdT (encI s.size++s.data.toList) s:=put_T (by have:=nmB_le h;omega)
theorem em_size {s:ByteArray} (h:emW s=true):s.size≤200:=by
 unfold emW at h
 rcases (Bool.or_eq_true ..).mp h with h|h
 ·have:=emp_le h;omega
 ·have:=nmB_le h;omega
theorem put_Col {x:RCol} (h:x.name.size≤200) (hk:0≤x.kind∧x.kind≤3):Put rdCol (encCol x) x:=by
 show Put (sq rdT (fun a=>sq rdI (fun b=>mp (fun c=>(⟨a,b,c⟩:RCol)) rdBool))) _ _
 exact (put_T h).sq ((put_I (by omega) (by omega)).sq ((put_B x.null).mp (fun c=>(⟨x.name,x.kind,c⟩:RCol))))
theorem put_ints {xs:List Int} (h:∀n∈xs,-9223372036854775808≤n∧n≤9223372036854775807):Put (fun l=>rdL l (rdI l)) (encI xs.length++xs.flatMap encI) xs:=
 put_L0 (rd:=rdI) xs (fun n hn=>put_I (h n hn).1 (h n hn).2) (fun _=>mon_I)
theorem ix_bd {l:List Int} (h:ixF l=true):∀n∈l,-9223372036854775808≤n∧n≤9223372036854775807:=fun n hn=>by have:=(ix_le h).2.1 n hn;omega
theorem put_For {x:RFor} (h:x.ok=true):Put rdFor (encFor x) x.er:=by
 unfold RFor.ok at h
 rw [Bool.and_eq_true] at h
 show Put (sq (fun l=>rdL l (rdI l)) (fun a=>mp (fun b=>(⟨none,0,a,b⟩:RFor)) rdT)) _ _
 exact (put_ints (ix_bd h.1)).sq ((put_N h.2).mp (fun b=>(⟨none,0,x.cols,b⟩:RFor)))
theorem put_X:∀(d:Nat) (e:RE),okX d e=true→Put (fun l=>rdX l d) (encX e) e.er
 |0,_,h=>by exact absurd h (by simp [okX])
 |d+1,.mk op it v nm A c args,h=>by
  simp only [okX,Bool.and_eq_true,decide_eq_true_eq] at h
  obtain ⟨h1,h2,h3,h4,_,h6⟩:=h
  rw [RE.er_mk,encX,encXs_flat]
  show Put (sq rdI (fun a=>sq rdI (fun b=>sq rdV (fun c=>sq rdT (fun t=>mp (fun r=>RE.mk a b c t none 0 r) (fun l=>rdL l (rdX l d))))))) _ _
  exact (put_I (by omega) (by omega)).sq ((put_I (by omega) (by omega)).sq ((put_V h3).sq ((put_T (by omega)).sq ((put_L (rd:=fun l=>rdX l d) args (fun x hx=>put_X d x (List.all_eq_true.1 h6 x hx)) (fun _=>mon_X d)).mp (fun r=>RE.mk op it v nm none 0 r)))))
theorem put_Tab {t:RTab} (h:t.ok=true):Put rdTab (encTab t) t.er:=by
 unfold RTab.ok at h
 simp only [Bool.and_eq_true,decide_eq_true_eq] at h
 obtain ⟨h1,_,h3,_,_,h6,h7,h8⟩:=h
 show Put (sq rdT (fun a=>sq (fun l=>rdL l (rdCol l)) (fun b=>sq (fun l=>rdL l (rdI l)) (fun c=>sq (fun l=>rdL l (rdFor l)) (fun d=>mp (fun e=>(⟨a,none,0,b,none,0,c,none,0,d,none,0,e⟩:RTab)) (fun l=>rdL l (rdX l 24))))))) _ _
 refine (put_N h1).sq ((put_L0 (rd:=rdCol) t.cols (fun x hx=>?_) (fun _=>mon_Col)).sq ((put_ints (ix_bd h3)).sq ((put_L (rd:=rdFor) t.fors (fun x hx=>put_For (List.all_eq_true.1 h7 x hx)) (fun _=>mon_For)).sq ((put_L (rd:=fun l=>rdX l 24) t.chks (fun x hx=>put_X 24 x (List.all_eq_true.1 h8 x hx)) (fun _=>mon_X 24)).mp (fun e=>(⟨t.name,none,0,t.cols,none,0,t.key,none,0,t.fors.map RFor.er,none,0,e⟩:RTab))))))
 have q:=List.all_eq_true.1 h6 x hx
 unfold RCol.ok at q
 simp only [Bool.and_eq_true,decide_eq_true_eq] at q
 exact put_Col (by have:=nmB_le q.1;omega) (by omega)
theorem put_Chn {x:Chn} (h:x.ok=true):Put (fun l=>rdChn l x.kind) ((encI x.name.size++x.name.data.toList)++((encI x.to.size++x.to.data.toList)++(((encI x.cname.size++x.cname.data.toList)++(encI x.ckind++flagE x.cnull))++encV x.def_))) x:=by
 unfold Chn.ok at h
 simp only [Bool.and_eq_true,decide_eq_true_eq] at h
 obtain ⟨h1,h2,h3,_,h5,h6⟩:=h
 show Put (sq rdT (fun a=>sq rdT (fun b=>sq rdCol (fun c=>mp (fun d=>(⟨x.kind,a,b,c.name,c.kind,c.null,d⟩:Chn)) rdV)))) _ _
 exact (put_T (em_size h1)).sq ((put_T (em_size h2)).sq ((put_Col (x:=⟨x.cname,x.ckind,x.cnull⟩) (em_size h3) h5).sq ((put_V h6).mp (fun d=>(⟨x.kind,x.name,x.to,x.cname,x.ckind,x.cnull,d⟩:Chn)))))
theorem str_emp {s:ByteArray} (h:s.toList.isEmpty=true):s=⟨#[]⟩:=by
 have e:=emp_le h
 obtain ⟨a⟩:=s
 have:a.size=0:=e
 rw [Array.eq_empty_of_size_eq_zero this]
theorem blank_er {t:RTab} (h:t.blank=true):t.er=RTab.none_:=by
 unfold RTab.blank at h
 simp only [Bool.and_eq_true,decide_eq_true_eq] at h
 obtain ⟨h1,h2⟩:=h
 obtain ⟨nm,colA,colC,cols,keyA,keyC,key,forA,forC,fors,chkA,chkC,chks⟩:=t
 simp only at h1 h2
 have e:=str_emp h1
 have a1:cols=[]:=List.eq_nil_of_length_eq_zero (by omega)
 have a2:key=[]:=List.eq_nil_of_length_eq_zero (by omega)
 have a3:fors=[]:=List.eq_nil_of_length_eq_zero (by omega)
 have a4:chks=[]:=List.eq_nil_of_length_eq_zero (by omega)
 subst e a1 a2 a3 a4
 rfl
theorem zero_chn {x:Chn} (h:x.zero=true):x=⟨0,⟨#[]⟩,⟨#[]⟩,⟨#[]⟩,0,false,zeroV⟩:=by
 unfold Chn.zero at h
 simp only [Bool.and_eq_true,decide_eq_true_eq,Bool.not_eq_true'] at h
 obtain ⟨k,nm,to,cn,ck,cu,⟨vk,vi,vt⟩⟩:=x
 obtain ⟨h1,h2,h3,h4,h5,h6,h7,h8,h9⟩:=h
 simp only at h1 h2 h3 h4 h5 h6 h7 h8 h9
 have e2:=str_emp h2
 have e3:=str_emp h3
 have e4:=str_emp h4
 have e9:=str_emp h9
 subst h1 e2 e3 e4 h5 h6 h7 h8 e9
 rfl
theorem put_Ent {x:REn} (h:x.ok=true):Put rdEnt (encEnt x) x.er:=by
 have hf:rdEnt=sq rdI (fun a=>sq rdT (fun b=>sq rdI (fun c=>if c=0 then mp (fun t=>(⟨a,b,t,⟨0,⟨#[]⟩,⟨#[]⟩,⟨#[]⟩,0,false,zeroV⟩⟩:REn)) rdTab else mp (fun x=>(⟨a,b,RTab.none_,x⟩:REn)) (fun l=>rdChn l c)))):=by
  funext l s
  unfold rdEnt sq
  simp only
  split<;>rfl
 rw [hf]
 unfold REn.ok instB at h
 simp only [Bool.and_eq_true,decide_eq_true_eq] at h
 obtain ⟨h1,h2,h3⟩:=h
 unfold encEnt REn.er
 by_cases hk:x.change.kind=0
 ·rw [if_pos hk] at h3
  simp only [Bool.and_eq_true] at h3
  obtain ⟨g1,g2,_⟩:=h3
  rw [if_pos hk,zero_chn g1]
  refine (put_I (by omega) (by omega)).sq ((put_N h2).sq ((put_I (by omega) (by omega)).sq ?_))
  rw [if_pos rfl]
  exact (put_Tab g2).mp (fun t=>(⟨x.time,x.table,t,⟨0,⟨#[]⟩,⟨#[]⟩,⟨#[]⟩,0,false,zeroV⟩⟩:REn))
 ·rw [if_neg hk] at h3
  simp only [Bool.and_eq_true] at h3
  obtain ⟨g1,g2⟩:=h3
  have g3:1≤x.change.kind∧x.change.kind≤4:=by
   unfold Chn.ok at g1
   simp only [Bool.and_eq_true,decide_eq_true_eq] at g1
   exact g1.2.2.2.1
  rw [if_neg hk,blank_er g2]
  refine (put_I (by omega) (by omega)).sq ((put_N h2).sq ((put_I (by omega) (by omega)).sq ?_))
  rw [if_neg hk]
  exact (put_Chn g1).mp (fun c=>(⟨x.time,x.table,RTab.none_,c⟩:REn))
theorem put_Per {f t:Int} (h:validP f t=true):Put rdP (encI f++encI t) (f,t):=by
 have g:=h
 unfold validP at g
 simp only [Bool.and_eq_true,decide_eq_true_eq] at g
 exact put_P h (by omega) (by omega)
theorem put_Fct {p:RF} (h:p.fct.ok=true):Put rdFct (encF p) p.er:=by
 unfold Fct.ok validRowF RF.fct at h
 simp only [Bool.and_eq_true,decide_eq_true_eq] at h
 show Put (sq rdR (fun a=>mp (fun b=>(⟨none,0,0,a,b.1,b.2⟩:RF)) rdP)) _ _
 exact (put_R (by simp_all) (by omega)).sq ((put_Per h.2).mp (fun b=>(⟨none,0,0,p.row,b.1,b.2⟩:RF)))
theorem put_Del {first:Int} {d:RDl} (hf:first≤1125899906842624) (h:nmB d.name=true∧(∀n∈d.cl,1≤n∧n≤first-1)∧∀x∈d.ops,x.fct.ok=true):Put rdDel (encDel d) d.er:=by
 obtain ⟨h1,h2,h3⟩:=h
 show Put (sq rdT (fun a=>sq (fun l=>rdL l (rdI l)) (fun b=>mp (fun c=>(⟨a,none,0,b,none,0,c⟩:RDl)) (fun l=>rdL l (rdFct l))))) _ _
 exact (put_N h1).sq ((put_ints (fun n hn=>by have:=h2 n hn;omega)).sq ((put_L (rd:=rdFct) d.ops (fun x hx=>put_Fct (h3 x hx)) (fun _=>mon_Fct)).mp (fun c=>(⟨d.name,none,0,d.cl,none,0,c⟩:RDl))))
theorem put_Hld {x:Hld} (h:x.ok=true):Put rdHld (encHld x) x:=by
 unfold Hld.ok at h
 simp only [Bool.and_eq_true] at h
 obtain ⟨h1,h2,h3,h4⟩:=h
 show Put (sq rdT (fun a=>sq rdT (fun b=>sq rdP (fun c=>mp (fun d=>(⟨a,b,c.1,c.2,d.1,d.2⟩:Hld)) rdP)))) _ _
 exact (put_N h1).sq ((put_N h2).sq ((put_Per h3).sq ((put_Per h4).mp (fun d=>(⟨x.name,x.table,x.vf,x.vt,d.1,d.2⟩:Hld)))))
theorem put_Pol {x:Pol} (h:x.ok=true):Put rdPol (encPol x) x:=by
 unfold Pol.ok at h
 simp only [Bool.and_eq_true,decide_eq_true_eq] at h
 show Put (sq rdT (fun a=>mp (fun b=>(⟨a,b⟩:Pol)) rdI)) _ _
 exact (put_N h.1).sq ((put_I (by omega) (by omega)).mp (fun b=>(⟨x.table,b⟩:Pol)))
theorem put_Hor {x:Hor} (h:x.ok=true):Put rdHor (encHor x) x:=by
 unfold Hor.ok instB at h
 simp only [Bool.and_eq_true,decide_eq_true_eq] at h
 show Put (sq rdT (fun a=>mp (fun b=>(⟨a,b⟩:Hor)) rdI)) _ _
 exact (put_N h.1).sq ((put_I (by omega) (by omega)).mp (fun b=>(⟨x.table,b⟩:Hor)))
theorem chk_ok {c:RCm} (h:checkF c=0):(1≤c.tx∧c.tx≤1125899906842624)∧(1≤c.first∧c.first≤1125899906842624)∧(1≤c.time∧c.time≤1099511627775)∧(0≤c.wall∧c.wall≤1099511627775)∧(∀x∈c.ents,x.ok=true)∧(∀d∈c.dels,nmB d.name=true∧(∀n∈d.cl,1≤n∧n≤c.first-1)∧∀x∈d.ops,x.fct.ok=true)∧(∀x∈c.pla,x.ok=true)∧(∀x∈c.rel,nmB x=true)∧(∀x∈c.pol,x.ok=true)∧∀x∈c.hor,x.ok=true:=by
 exact zq19 1
theorem put_Cm {c:RCm} (h:checkF c=0):Put rdCm (encC c) c.er:=by
 obtain ⟨b1,b2,b3,b4,g1,g2,g3,g4,g5,g6⟩:=chk_ok h
 have e:encC c=encI c.tx++(encI c.time++(encI c.wall++(encI c.first++(encE c.ents++(encD c.dels++(encH c.pla++(encS c.rel++(encP c.pol++encZ c.hor)))))))):=by unfold encC;simp only [List.append_assoc]
 rw [e]
 show Put (sq rdI (fun a=>sq rdI (fun b=>sq rdI (fun c=>sq rdI (fun d=>sq (fun l=>rdL l (rdEnt l)) (fun e=>sq (fun l=>rdL l (rdDel l)) (fun f=>sq (fun l=>rdL l (rdHld l)) (fun g=>sq (fun l=>rdL l (rdT l)) (fun h=>sq (fun l=>rdL l (rdPol l)) (fun i=>mp (fun j=>
  (⟨a,b,c,d,none,0,e,none,0,f,none,0,g,none,0,h,none,0,i,none,0,j⟩:RCm)) (fun l=>rdL l (rdHor l)))))))))))) _ _
 exact (put_I (by omega) (by omega)).sq ((put_I (by omega) (by omega)).sq ((put_I (by omega) (by omega)).sq ((put_I (by omega) (by omega)).sq
  ((put_L (rd:=rdEnt) c.ents (fun x hx=>put_Ent (g1 x hx)) (fun _=>mon_Ent)).sq ((put_L (rd:=rdDel) c.dels (fun x hx=>put_Del b2.2 (g2 x hx)) (fun _=>mon_Del)).sq
  ((put_L0 (rd:=rdHld) c.pla (fun x hx=>put_Hld (g3 x hx)) (fun _=>mon_Hld)).sq ((put_L0 (rd:=rdT) c.rel (fun x hx=>put_N (g4 x hx)) (fun _=>mon_T)).sq
  ((put_L0 (rd:=rdPol) c.pol (fun x hx=>put_Pol (g5 x hx)) (fun _=>mon_Pol)).sq ((put_L0 (rd:=rdHor) c.hor (fun x hx=>put_Hor (g6 x hx)) (fun _=>mon_Hor)).mp
  (fun j=>(⟨c.tx,c.time,c.wall,c.first,none,0,c.ents.map REn.er,none,0,c.dels.map RDl.er,none,0,c.pla,none,0,c.rel,none,0,c.pol,none,0,j⟩:RCm)))))))))))
theorem rdCm_enc {c:RCm} (h:checkF c=0) (hl:(encC c).length≤1048576):rdCm (encC c) (0,0)=(c.er,((encC c).length:Int),0):=by
 have k:=put_Cm h (by omega) [] []
 simpa using k
end
end Go.Proofs.YtbfdegkickjbpaaGreat
