/-
 PbD
-/
import Derived.Test.YtgfhknnklapldaaGreatDoorBPbC
namespace Go.Proofs.YtgfhknnklapldaaGreatDoor
open Go.Proofs.Tryz
set_option maxRecDepth 99999
set_option maxHeartbeats 0
open Go.RowKit Go.Lib Go.IntWalk Go.Sort Go.Shelf
theorem yi7 {P:Prop} (h:P:=by rw [←hQl];exact ⟨(Rd.of_own HO.out),fun p hp=>isQ_X.wide (HR.out p hp) fun g hg=>⟨hg.1,hg.2.1⟩⟩):P:=h
theorem infCol:(prog.info? 75).map (fun i=>(i.zero,i.size,i.bytes))=some (some (.agg #[.string ⟨#[]⟩,.int .i64 0,.bool false]),3,32):=by kernel_rfl
theorem manyCol_any (b:Nat) (l:List UInt8) (one:Nat×Bool→RCol×Nat×Bool) (f:FuncId) (hf:EntQ f) (i:Nat) (d:Bool) (r:List Value) (w:World) (he:EnvP b w) (h:CurAt w b (strB l) i d r) (h0:0<i) (hi:i≤l.length) (hl:l.length≤4294967281) (hadv:Adv l one)
  (hone:∀k q V,CurAt V b (strB l) k q r→Chg (·=b) w V→0<k→k≤l.length→Calls prog f #[.pointer (some ⟨b,0,none⟩)] V (OneQ (fun x:RCol=>.agg x.enc.toArray) (isC (fun _:RCol=>True)) id b l r (one (k,q)) V)):
  Calls prog 138 #[.pointer (some ⟨b,0,none⟩),.func (.func f) #[.pointer (some ⟨b,0,none⟩)] #[]] w (ManyQ 3 RCol.enc (isC (fun _:RCol=>True)) id b l r (pMany l one (i,d)) w):=by
 exact yq0 3
theorem infFor:(prog.info? 158).map (fun i=>(i.zero,i.size,i.bytes))=some (some (.agg #[.slice none 0 0,.string ⟨#[]⟩]),2,40):=by kernel_rfl
theorem manyFor_any (b LB:Nat) (l:List UInt8) (one:Nat×Bool→RFor×Nat×Bool) (f:FuncId) (hf:EntQ f) (i:Nat) (d:Bool) (r:List Value) (w:World) (he:EnvP b w) (h:CurAt w b (strB l) i d r) (h0:0<i) (hi:i≤l.length) (hl:l.length≤4294967281) (hadv:Adv l one)
  (hone:∀k q V,CurAt V b (strB l) k q r→Chg (·=b) w V→0<k→k≤l.length→Calls prog f #[.pointer (some ⟨LB,0,none⟩)] V (OneQ (fun x:RFor=>.agg x.enc.toArray) RFor.is RFor.er b l r (one (k,q)) V)):
  Calls prog 141 #[.pointer (some ⟨b,0,none⟩),.func (.func f) #[] #[.pointer (some ⟨LB,0,none⟩)]] w (ManyQ 2 RFor.enc RFor.is RFor.er b l r (pMany l one (i,d)) w):=by
 exact yq0 2
theorem infExp:(prog.info? 117).map (fun i=>(i.zero,i.size,i.bytes))=some (some (.agg #[.int .i64 0,.int .i64 0,.int .i64 0,.int .i64 0,.string ⟨#[]⟩,.string ⟨#[]⟩,.slice none 0 0]),7,88):=by kernel_rfl
theorem manyExp_any (b LB:Nat) (l:List UInt8) (one:Nat×Bool→RE×Nat×Bool) (f:FuncId) (hf:EntQ f) (i:Nat) (d:Bool) (r:List Value) (w:World) (he:EnvP b w) (h:CurAt w b (strB l) i d r) (h0:0<i) (hi:i≤l.length) (hl:l.length≤4294967281) (hadv:Adv l one)
  (hone:∀k q V,CurAt V b (strB l) k q r→Chg (·=b) w V→0<k→k≤l.length→Calls prog f #[.pointer (some ⟨LB,0,none⟩)] V (OneQ (fun x:RE=>.agg x.enc.toArray) exAll RE.er b l r (one (k,q)) V)):
  Calls prog 143 #[.pointer (some ⟨b,0,none⟩),.func (.func f) #[] #[.pointer (some ⟨LB,0,none⟩)]] w (ManyQ 7 RE.enc exAll RE.er b l r (pMany l one (i,d)) w):=by
 exact yq0 1
theorem manyExp2_any (b LB LV:Nat) (l:List UInt8) (one:Nat×Bool→RE×Nat×Bool) (f:FuncId) (hf:EntQ f) (i:Nat) (d:Bool) (r:List Value) (w:World) (he:EnvP b w) (h:CurAt w b (strB l) i d r) (h0:0<i) (hi:i≤l.length) (hl:l.length≤4294967281) (hadv:Adv l one)
  (hone:∀k q V,CurAt V b (strB l) k q r→Chg (·=b) w V→0<k→k≤l.length→Calls prog f #[.pointer (some ⟨LB,0,none⟩),.pointer (some ⟨LV,0,none⟩)] V (OneQ (fun x:RE=>.agg x.enc.toArray) exAll RE.er b l r (one (k,q)) V)):
  Calls prog 143 #[.pointer (some ⟨b,0,none⟩),.func (.func f) #[] #[.pointer (some ⟨LB,0,none⟩),.pointer (some ⟨LV,0,none⟩)]] w (ManyQ 7 RE.enc exAll RE.er b l r (pMany l one (i,d)) w):=by
 exact yq0 0
end Go.Proofs.YtgfhknnklapldaaGreatDoor
