/-
 SmE
-/
import Derived.Lib.Bytealg
import Derived.Test.YtbfdegkickjbpaaGreatHSmA
import Derived.Test.YtbfdegkickjbpaaGreatHSmC
namespace Go.Proofs.YtbfdegkickjbpaaGreat
open Go.RowKit Go.Lib Go.IntWalk Go.Sort Go.Shelf
def RE.sl:RE→Value
 | .mk _ _ _ _ A c args=>.slice A args.length c
def RE.as:RE→List RE
 | .mk _ _ _ _ _ _ args=>args
theorem exAll.blw {w w':World} {e:RE} (h:exAll w (·<w.heap.size) e) (hb:Below w.heap.size w w'):exAll w' (·<w'.heap.size) e:=fun d=>exIs_below hb d e (h d)
theorem exAll.parts {w:World} {F:Nat→Prop} {e:RE} (h:exAll w F e):RdE 7 RE.enc w F e.sl e.as∧∀a∈e.as,exAll w F a:=by
 obtain ⟨op,it,v,nm,A,c,args⟩:=e
 exact ⟨(h 1).1,fun a ha d=>(h (d+1)).2.2.2 a ha⟩
theorem nodesL_mem {a:RE} {l:List RE} (h:a∈l):a.nodes≤nodesL l:=by
 induction l with
 |nil=>cases h
 |cons x r ih=>
  simp only [nodesL]
  rcases List.mem_cons.1 h with rfl|h
  ·omega
  ·have:=ih h;omega
theorem RE.nodes_arg {e a:RE} (h:a∈e.as):a.nodes<e.nodes:=by
 obtain ⟨op,it,v,nm,A,c,args⟩:=e
 show a.nodes<nodesL args+1
 have h1:=nodesL_mem (show a∈args from h)
 omega
end Go.Proofs.YtbfdegkickjbpaaGreat
