/-
 DuA
-/
import Derived.Test.YtgfhknnklapldaaGreatDoorBBase
import Derived.Lib.Replace
import Derived.Lib.Join
import Derived.Lib.ItoaNum
import Derived.Lib.ItoaLen
import Derived.Lib.IndexBytes
namespace Go.Proofs.YtgfhknnklapldaaGreatDoor
open Go.Lib
def qB (s:List UInt8):List UInt8:=s.flatMap fun c=>if c=39 then [39,39] else [c]
def quoteB (s:List UInt8):List UInt8:=39::(qB s++[39])
theorem qB_free {s:List UInt8} (h:∀c∈s,c≠39):qB s=s:=by
 induction s with
 |nil=>rfl
 |cons a s ih=>
  have h1:a≠39:=h a (List.mem_cons_self ..)
  show (if a=39 then [39,39] else [a])++qB s=_
  rw [if_neg h1,ih (fun c hc=>h c (List.mem_cons_of_mem _ hc))]
  rfl
theorem index39:∀s:List UInt8,(index s [39]= -1∧∀c∈s,c≠39)∨∃a b,s=a++39::b∧(∀c∈a,c≠39)∧index s [39]=a.length
 |[]=>.inl ⟨rfl,fun c h=>by cases h⟩
 |x::s=>by
  by_cases hx:x=39
  ·subst hx
   exact .inr ⟨[],s,rfl,fun c h=>(by cases h),rfl⟩
  ·have e:index (x::s) [39]=if index s [39]== -1 then -1 else index s [39]+1:=by
    rw [index,if_neg]
    simp [List.isPrefixOf]
    exact fun h=>hx h.symm
   rcases index39 s with ⟨h1,h2⟩|⟨a,b,rfl,h2,h3⟩
   ·refine .inl ⟨by rw [e,h1];rfl,fun c hc=>?_⟩
    rcases List.mem_cons.1 hc with rfl|hc
    ·exact hx
    ·exact h2 c hc
   ·refine .inr ⟨x::a,b,rfl,fun c hc=>?_,?_⟩
    ·rcases List.mem_cons.1 hc with rfl|hc
     ·exact hx
     ·exact h2 c hc
    ·rw [e,if_neg (by rw [h3];intro h;have:=beq_iff_eq.1 h;omega),h3,List.length_cons];omega
theorem drop39 {a b:List UInt8} (h:index (a++39::b) [39]=a.length):(a++39::b).drop ((index (a++39::b) [39]).toNat+[(39:UInt8)].length)=b:=by
 rw [h,Int.toNat_natCast,show a++39::b=(a++[39])++b by simp]
 exact List.drop_left' (by simp)
theorem count39:∀(f:Nat) (s:List UInt8),s.length<f→countFrom [39] f s=s.count 39
 |0,s,h=>absurd h (Nat.not_lt_zero _)
 |f+1,s,h=>by
  rcases index39 s with ⟨h1,h2⟩|⟨a,b,rfl,h2,h3⟩
  ·rw [countFrom,if_pos (by rw [h1];rfl),List.count_eq_zero.2 (fun hm=>h2 _ hm rfl)]
  ·have hb:b.length<f:=by simp at h;omega
   rw [countFrom,if_neg (by rw [h3];intro h;have:=beq_iff_eq.1 h;omega),drop39 h3,count39 f b hb,List.count_append,List.count_eq_zero.2 (fun hm=>h2 _ hm rfl),List.count_cons_self]
   omega
theorem replaceK39:∀(k:Nat) (s:List UInt8),s.count 39=k→replaceK [39] [39,39] k s=qB s
 |0,s,h=>by
  rw [replaceK,qB_free]
  intro c hc e
  subst e
  exact absurd hc (List.count_eq_zero.1 h)
 |k+1,s,h=>by
  rcases index39 s with ⟨h1,h2⟩|⟨a,b,rfl,h2,h3⟩
  ·rw [List.count_eq_zero.2 (fun hm=>h2 _ hm rfl)] at h;omega
  ·have hb:b.count 39=k:=by
    rw [List.count_append,List.count_eq_zero.2 (fun hm=>h2 _ hm rfl),List.count_cons_self] at h;omega
   rw [replaceK,if_neg (by rw [h3];intro h;have:=beq_iff_eq.1 h;omega),drop39 h3,replaceK39 k b hb,h3,Int.toNat_natCast,List.take_left]
   show _=(a++39::b).flatMap _
   rw [List.flatMap_append]
   show _=qB a++([39,39]++qB b)
   rw [qB_free h2,List.append_assoc]
theorem replaceAll39 (s:List UInt8):replaceAll s [39] [39,39]=qB s:=by
 unfold replaceAll replace
 rw [if_neg (by decide)]
 unfold replaceNum
 rw [if_pos (.inl (by decide))]
 unfold count
 rw [count39 _ _ (Nat.lt_succ_self _)]
 exact replaceK39 _ _ rfl
theorem qB_len (s:List UInt8):(qB s).length=s.length+s.count 39:=by
 induction s with
 |nil=>rfl
 |cons a s ih=>
  show ((if a=39 then [39,39] else [a])++qB s).length=_
  by_cases h:a=39
  ·subst h;rw [if_pos rfl,List.length_append,ih,List.count_cons_self];simp;omega
  ·rw [if_neg h,List.length_append,ih,List.count_cons_of_ne h];simp;omega
def litB (kind int:Int) (text:List UInt8):List UInt8:=
 if kind=1 then itoa int else if kind=2 then quoteB text else if kind=3 then (if int=1 then [84,82,85,69] else [70,65,76,83,69]) else [78,85,76,76]
def lineB (l:List (List UInt8)):List UInt8:=join l [32]++[10]
theorem join_app {l:List (List UInt8)} (h:l≠[]) (r:List (List UInt8)):join (l++r) [32]=join l [32]++r.flatMap (32:: ·):=by
 cases l with
 |nil=>exact absurd rfl h
 |cons a t=>
  rw [List.cons_append,join_cons,join_cons]
  unfold joinTail
  simp [List.flatMap_def]
theorem joinTail_len (r:List (List UInt8)):(joinTail [32] r).length=(r.map (fun x=>x.length+1)).sum:=by
 unfold joinTail
 induction r with
 |nil=>rfl
 |cons a r ih=>rw [List.map_cons,List.flatten_cons,List.length_append,ih,List.map_cons,List.sum_cons,List.length_append];simp only [List.length_cons,List.length_nil];omega
def sumI (l:List (List UInt8)):Nat:=(l.map (fun x=>x.length+1)).sum
theorem sumI_cons (a:List UInt8) (l:List (List UInt8)):sumI (a::l)=a.length+1+sumI l:=rfl
theorem sumI_nil:sumI []=0:=rfl
theorem sumI_app (a b:List (List UInt8)):sumI (a++b)=sumI a+sumI b:=by simp [sumI]
theorem sumI_ge (l:List (List UInt8)):l.length≤sumI l:=by
 induction l with
 |nil=>simp
 |cons a r ih=>rw [sumI_cons,List.length_cons];omega
theorem lineB_len (l:List (List UInt8)) (h:l≠[]):(lineB l).length=sumI l:=by
 cases l with
 |nil=>exact absurd rfl h
 |cons a r=>unfold lineB;rw [join_cons,List.length_append,List.length_append,joinTail_len,sumI_cons];simp;unfold sumI;omega
theorem itoaN_len {k:Nat} (h:k≤9223372036854775807):(itoa k).length≤21:=itoa_length_le _ (by omega) (by omega)
theorem quoteB_len (s:List UInt8):(quoteB s).length≤2*s.length+2:=by
 have h:s.count 39≤s.length:=List.count_le_length
 unfold quoteB
 simp only [List.length_cons,List.length_append,List.length_nil,qB_len]
 omega
end Go.Proofs.YtgfhknnklapldaaGreatDoor
