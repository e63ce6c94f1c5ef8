/-
 Frame
-/
import Derived.Test.YtgfhknnklapldaaGreatDoorBBase
import Derived.Laws.CopyOwn
import Derived.Laws.OwnMore
namespace Go.Proofs.YtgfhknnklapldaaGreatDoor
set_option maxRecDepth 99999
set_option maxHeartbeats 0
section
open Go.RowKit Go.Lib Go.IntWalk
theorem RdB.byte {w:World} {F:Nat→Prop} {A:Option Addr} {c:Nat} {l:List UInt8} (h:RdB w F (.slice A l.length c) l) {k:Nat} (hk:k<l.length):
  ∃b off,A=some ⟨b,off,none⟩∧F b∧w.cell? ⟨b,off+k,none⟩=some (.int .u8 (l[k].toNat:Int)):=by
 obtain ⟨h1,A',c',hv,h2,h3,h4,h5⟩:=h
 injection hv with e1 e2 e3
 subst e1;subst e3
 obtain ⟨ad,rfl,hF,hc⟩:=h5 (by omega)
 obtain ⟨b,off,sp⟩:=ad
 have hk':=hc k _ (bv_get hk)
 have hsp:sp=none:=by
  cases sp with
  |none=>rfl
  |some q=>
   have h0:=hc 0 _ (bv_get (show 0<l.length by omega))
   rw [add_zero'] at h0
   simp only [World.cell?] at h0
   split at h0<;>simp at h0
 subst hsp
 refine ⟨b,off,rfl,hF,?_⟩
 unfold Addr.add at hk'
 split at hk'
 ·rename_i hj;subst hj;exact hk'
 ·exact hk'
end
section
open Go.RowKit Go.Lib
theorem OwnB.below {w w':World} {base:Nat} {v:Value} {l:List UInt8} (h:OwnB w base v l) (hb:Bl w w'):OwnB w' base v l:=
 World.ownsRow.kept (row:=none) h ⟨hb.os,hb.tape,hb.output,hb.size,fun k hk _=>hb.block k hk⟩ (by cases v.ownBlock<;>simp)
end
section
open Go.RowKit Go.Lib Go.IntWalk
theorem OwnB.base {w:World} {b b':Nat} {v:Value} {l:List UInt8} (h:OwnB w b v l) (hb:b'≤b):OwnB w b' v l:=by
 refine ⟨h.1,h.2.imp id ?_⟩
 rintro ⟨g,cap,cur,e,h1,h2⟩
 exact ⟨g,cap,cur,e,Nat.le_trans hb h1,h2⟩
end
end Go.Proofs.YtgfhknnklapldaaGreatDoor
