/-
 DcP
-/
import Derived.Test.YtbfdegkickjbpaaGreatHDcB
import Derived.Test.YtbfdegkickjbpaaGreatHRcG
namespace Go.Proofs.YtbfdegkickjbpaaGreat
open Go.RowKit Go.Lib Go.IntWalk Go.Sort Go.Shelf
theorem okX_er:∀(d:Nat) (e:RE),okX d e.er=okX d e
 |0,_=>rfl
 |d+1,.mk op it v nm A c args=>by
  rw [RE.er_mk]
  simp only [okX,List.all_map,Function.comp_def,okX_er d]
theorem RTab.er_ok (t:RTab):t.er.ok=t.ok:=by
 simp only [RTab.ok,RTab.er,List.length_map,List.all_map,Function.comp_def,RFor.ok,RFor.er,okX_er]
 rfl
theorem RTab.er_blank (t:RTab):t.er.blank=t.blank:=by
 simp only [RTab.blank,RTab.er,List.length_map]
theorem REn.er_ok (x:REn):x.er.ok=x.ok:=by
 simp only [REn.ok,REn.er,RTab.er_ok,RTab.er_blank]
 rfl
theorem deltasF_er (first:Int):∀(l:List RDl) (p:Option ByteArray),deltasF first p (l.map RDl.er)=deltasF first p l
 |[],p=>by cases p<;>rfl
 |d::r,p=>by
  rw [List.map_cons,deltasF_cons,deltasF_cons,deltasF_er first r]
  simp only [RDl.er,List.length_map,List.map_map,Function.comp_def]
  rfl
theorem checkF_er (c:RCm):checkF c.er=checkF c:=by
 simp only [checkF,restC,RCm.er,deltasF_er,List.all_map,Function.comp_def,enOk,REn.er_ok]
 rfl
theorem getS_lenM {α:Type} {l:List UInt8} {one:Int×Int→α×Int×Int} (hm:Mon l one):∀(n:Nat) (s:Int×Int),((getS one n s).1.length:Int)≤((l.length-s.1).toNat:Int)+1:=by
 intro n
 induction n with
 |zero=>intro s;simp [getS];omega
 |succ n ih=>
  intro s
  by_cases hs:s.2=0
  ·rcases e:one s with ⟨x,s'⟩
   rw [getS_step hs e]
   simp only [List.length_cons]
   have h1:=ih s'
   by_cases he:s'.2=0
   ·have h2:=hm s (by rw [e];exact he)
    rw [e] at h2
    simp only at h2
    omega
   ·have h3:(getS one n s').1=[]:=by rw [getS_stop (.inr he)]
    rw [h3]
    simp;omega
  ·rw [getS_stop (.inr hs)]
   simp;omega
theorem rdI_pos {l:List UInt8} {s:Int×Int} (h:(rdI l s).2.2=0):0≤s.1:=by
 rcases e:rdI l s with ⟨a,m,c⟩
 rw [e] at h
 simp only at h
 subst h
 obtain ⟨x,r,hl,hk,hm⟩:=decI_got (rdI_mono e).2.2
 omega
theorem rdL_len {α:Type} {l:List UInt8} {one:Int×Int→α×Int×Int} (hm:Mon l one) (hl:l.length≤10000000000) (s:Int×Int):(rdL l one s).1.length≤10000000000:=by
 unfold rdL
 split
 ·simp
 ·have h:=getS_lenM hm (rdI l s).1.toNat (rdI l s).2
  by_cases he:(rdI l s).2.2=0
  ·have h1:=(mon_I s he).2
   have h2:=rdI_pos he
   omega
  ·rw [getS_stop (.inr he)]
   simp
theorem rdTab_few {l:List UInt8} (hl:l.length≤10000000000) (s:Int×Int):(rdTab l s).1.few:=
 ⟨rdL_len mon_Col hl _,rdL_len mon_I hl _,rdL_len mon_For hl _,rdL_len (mon_X 24) hl _⟩
theorem rdEnt_few {l:List UInt8} (hl:l.length≤10000000000) (s:Int×Int):(rdEnt l s).1.create.few:=by
 unfold rdEnt
 simp only
 split
 ·exact rdTab_few hl _
 ·exact ⟨Nat.zero_le _,Nat.zero_le _,Nat.zero_le _,Nat.zero_le _⟩
theorem rdDel_few {l:List UInt8} (hl:l.length≤10000000000) (s:Int×Int):(rdDel l s).1.cl.length≤10000000000∧(rdDel l s).1.ops.length≤10000000000:=
 ⟨rdL_len mon_I hl _,rdL_len mon_Fct hl _⟩
theorem getS_all {α:Type} {p:α→Prop} {one:Int×Int→α×Int×Int} (h:∀s,p (one s).1):∀(n:Nat) (s:Int×Int),∀y∈(getS one n s).1,p y:=by
 intro n
 induction n with
 |zero=>intro s y hy;simp [getS] at hy
 |succ n ih=>
  intro s y hy
  by_cases hs:s.2=0
  ·rw [getS_step hs (show one s=((one s).1,(one s).2) from rfl)] at hy
   rcases List.mem_cons.1 hy with rfl|hy
   ·exact h s
   ·exact ih _ y hy
  ·rw [getS_stop (.inr hs)] at hy;cases hy
theorem rdL_all {α:Type} {p:α→Prop} {l:List UInt8} {one:Int×Int→α×Int×Int} (h:∀s,p (one s).1) (s:Int×Int):∀y∈(rdL l one s).1,p y:=by
 unfold rdL
 split
 ·intro y hy;cases hy
 ·exact getS_all h _ _
end Go.Proofs.YtbfdegkickjbpaaGreat
