/-
 DcK
-/
import Derived.Test.YtbfdegkickjbpaaGreatHDcI
namespace Go.Proofs.YtbfdegkickjbpaaGreat
set_option maxRecDepth 1000000
set_option maxHeartbeats 32000000
open Go.RowKit Go.Lib Go.IntWalk Go.Sort Go.Shelf
theorem info_Ent:(Tryz.prog.info? 83).map (fun i=>(i.zero,i.size,i.bytes))=some (some (.agg #[.int .i64 0,.string ⟨#[]⟩,.string ⟨#[]⟩,.slice none 0 0,.slice none 0 0,.slice none 0 0,.slice none 0 0,.int .i64 0,.string ⟨#[]⟩,.string ⟨#[]⟩,.string ⟨#[]⟩,.int .i64 0,.bool false,.int .i64 0,.int .i64 0,.string ⟨#[]⟩]),16,240):=by kernel_rfl
theorem getEnt_any (R:Nat) (v:Value) (l:List UInt8) (rd:Int×Int→REn×Int×Int) (f:FuncId) (hf:EntF f) (s:Int×Int) (w:World) (h:SrcAt w R v s) (hv:RdB w (·<R) v l) (hl:l.length≤10000000000) (hmon:Mon l rd)
  (hone:∀s V,SrcAt V R v s→Chg (·=R) w V→Calls Tryz.prog f #[.pointer (some ⟨R,0,none⟩)] V (OneE (fun x:REn=>.agg x.enc.toArray) enIs REn.er R v (rd s) V)):
  Calls Tryz.prog 61 #[.pointer (some ⟨R,0,none⟩),.func (.func f) #[] #[]] w (GetE 16 REn.enc enIs REn.er R v (rdL l rd s) w):=by
 exact zq4 0
theorem info_Del:(Tryz.prog.info? 63).map (fun i=>(i.zero,i.size,i.bytes))=some (some (.agg #[.string ⟨#[]⟩,.slice none 0 0,.slice none 0 0]),3,64):=by kernel_rfl
theorem getDel_any (R:Nat) (v:Value) (l:List UInt8) (rd:Int×Int→RDl×Int×Int) (f:FuncId) (hf:EntF f) (s:Int×Int) (w:World) (h:SrcAt w R v s) (hv:RdB w (·<R) v l) (hl:l.length≤10000000000) (hmon:Mon l rd)
  (hone:∀s V,SrcAt V R v s→Chg (·=R) w V→Calls Tryz.prog f #[.pointer (some ⟨R,0,none⟩)] V (OneE (fun x:RDl=>.agg x.enc.toArray) delIs RDl.er R v (rd s) V)):
  Calls Tryz.prog 63 #[.pointer (some ⟨R,0,none⟩),.func (.func f) #[] #[]] w (GetE 3 RDl.enc delIs RDl.er R v (rdL l rd s) w):=by
 exact zq4 3
end Go.Proofs.YtbfdegkickjbpaaGreat
