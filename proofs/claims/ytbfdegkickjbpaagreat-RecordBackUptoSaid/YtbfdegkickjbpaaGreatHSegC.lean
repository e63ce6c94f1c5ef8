/-
 SegC
-/
import Derived.Test.YtbfdegkickjbpaaGreatHSegA
namespace Go.Proofs.YtbfdegkickjbpaaGreat
open Go.RowKit Go.Lib Go.IntWalk Go.Sort Go.Shelf
section
variable {P:Program} {t e:TypeId} {i:TypeInfo} {size:Nat}
end
theorem flat_drop {α:Type} (n:Nat) (f:α→List Value) (hf:∀x,(f x).length=n):∀(i:Nat) (l:List α),(l.flatMap f).drop (i*n)=(l.drop i).flatMap f:=by
 intro i
 induction i with
 |zero=>intro l;simp
 |succ i ih=>
  intro l
  cases l with
  |nil=>simp
  |cons a r=>
   rw [List.flatMap_cons,List.drop_succ_cons,←ih r,Nat.succ_mul,Nat.add_comm,←List.drop_drop]
   congr 1
   rw [←hf a,List.drop_left]
theorem flat_take {α:Type} (n:Nat) (f:α→List Value) (hf:∀x,(f x).length=n):∀(i:Nat) (l:List α),(l.flatMap f).take (i*n)=(l.take i).flatMap f:=by
 intro i
 induction i with
 |zero=>intro l;simp
 |succ i ih=>
  intro l
  cases l with
  |nil=>simp
  |cons a r=>
   rw [List.flatMap_cons,List.take_succ_cons,List.flatMap_cons,←ih r,Nat.succ_mul,Nat.add_comm,List.take_add,←hf a,List.take_left,List.drop_left]
theorem RdVs.cut {w:World} {F:Nat→Prop} {A:Option Addr} {c:Nat} {ps:List VP} (h:RdVs w F (.slice A ps.length c) ps) {i j m:Nat} (hij:i≤j) (hj:j≤ps.length) (hm:j≤m) (hmc:m≤c):
  RdVs w F (.slice (cutA A m i 9) (j-i) (m-i)) ((ps.drop i).take (j-i)):=by
 refine ⟨?_,fun p hp=>h.2 p (List.mem_of_mem_drop (List.mem_of_mem_take hp))⟩
 have h1:=Rd.cut' h.1 (l:=i) (h:=j) (m:=m) hij hj hm hmc
 rw [flat_drop 9 _ (fun p=>p.1.enc_length),flat_take 9 _ (fun p=>p.1.enc_length)] at h1
 have e:((ps.drop i).take (j-i)).length=j-i:=by rw [List.length_take,List.length_drop];omega
 rw [e]
 exact h1
end Go.Proofs.YtbfdegkickjbpaaGreat
