/-
 RwD
-/
import Derived.Test.YtbfdegkickjbpaaGreatHRwC
namespace Go.Proofs.YtbfdegkickjbpaaGreat
set_option maxRecDepth 1000000
set_option maxHeartbeats 32000000
open Go.RowKit Go.Lib Go.IntWalk Go.Sort Go.Shelf
structure tabW (w:World) (base:Nat) (t:RTab):Prop where
 nm:t.name.size≤300
 cols:RdE 3 RCol.enc w (·<base) (.slice t.colA t.cols.length t.colC) t.cols
 colS:∀x∈t.cols,x.name.size≤300∧(-9223372036854775808≤x.kind∧x.kind≤9223372036854775807)
 key:RdE 1 intE w (·<base) (.slice t.keyA t.key.length t.keyC) t.key
 keyS:∀n∈t.key,(-9223372036854775808≤n∧n≤9223372036854775807)
 fors:RdE 2 RFor.enc w (·<base) (.slice t.forA t.fors.length t.forC) t.fors
 forS:∀x∈t.fors,forW w base x
 chks:RdE 7 RE.enc w (·<base) (.slice t.chkA t.chks.length t.chkC) t.chks
 chkS:∀e∈t.chks,exIs 24 w (·<base) e∧okX 24 e=true
theorem tabW.keep {w w':World} {base:Nat} {t:RTab} (h:tabW w base t) (hb:Below base w w'):tabW w' base t:=
 ⟨h.nm,h.cols.keep (Keeps.below hb),h.colS,h.key.keep (Keeps.below hb),h.keyS,h.fors.keep (Keeps.below hb),fun x hx=>(h.forS x hx).keep hb,h.chks.keep (Keeps.below hb),fun e he=>⟨exIs_keep (Keeps.below hb) 24 e (h.chkS e he).1,(h.chkS e he).2⟩⟩
theorem wTab_x (base B:Nat) (l:List UInt8) (t:RTab) (w:World) (hbB:base≤B) (h:BufAt w base B l) (ht:tabW w base t) (hl:(l++encTab t).length+4000≤140737488300000):
  Calls Tryz.prog 149 #[.pointer (some ⟨B,0,none⟩),.agg t.enc.toArray] w (BufOut base B (l++encTab t) w):=
 wTab0 base B l t.name t.colA t.colC t.cols t.keyA t.keyC t.key t.forA t.forC t.fors t.chkA t.chkC t.chks w hbB h ht.nm ht.cols ht.colS ht.key ht.keyS ht.fors ht.forS ht.chks ht.chkS hl
structure chnW (c:Chn):Prop where
 name:c.name.size≤300
 to:c.to.size≤300
 cname:c.cname.size≤300
 ckind:(-9223372036854775808≤c.ckind∧c.ckind≤9223372036854775807)
 di:(-9223372036854775808≤c.def_.int∧c.def_.int≤9223372036854775807)
 dt:c.def_.text.size≤200
 dl:(encV c.def_).length≤4000
 d3:c.def_.kind=3→c.def_.int=0∨c.def_.int=1
structure entW (w:World) (base:Nat) (x:REn):Prop where
 tm:(-9223372036854775808≤x.time∧x.time≤9223372036854775807)
 tb:x.table.size≤300
 kd:(-9223372036854775808≤x.change.kind∧x.change.kind≤9223372036854775807)
 tab:x.change.kind=0→tabW w base x.create
 ch:x.change.kind≠0→chnW x.change
theorem entW.keep {w w':World} {base:Nat} {x:REn} (h:entW w base x) (hb:Below base w w'):entW w' base x:=⟨h.tm,h.tb,h.kd,fun hk=>(h.tab hk).keep hb,h.ch⟩
def encEnt0 (x:REn):List UInt8:=encI x.time++((encI x.table.size++x.table.data.toList)++(encI 0++encTab x.create))
def encEnt1 (x:REn):List UInt8:=encI x.time++((encI x.table.size++x.table.data.toList)++(encI x.change.kind++((encI x.change.name.size++x.change.name.data.toList)++((encI x.change.to.size++x.change.to.data.toList)++(((encI x.change.cname.size++x.change.cname.data.toList)++(encI x.change.ckind++flagE x.change.cnull))++encV x.change.def_)))))
def encEnt (x:REn):List UInt8:=if x.change.kind=0 then encEnt0 x else encEnt1 x
theorem wEnt0 (base B:Nat) (l:List UInt8) (tm:Int) (tb nm:ByteArray) (colA:Option Addr) (colC:Nat) (cols:List RCol) (keyA:Option Addr) (keyC:Nat) (key:List Int) (forA:Option Addr) (forC:Nat) (fors:List RFor) (chkA:Option Addr) (chkC:Nat) (chks:List RE) (x2 x3 x4:ByteArray) (x5:Int) (x6:Bool) (x7 x8:Int) (x9:ByteArray) (w:World) (hbB:base≤B) (h:BufAt w base B l) (htm1: -9223372036854775808≤tm) (htm2:tm≤9223372036854775807) (htb:tb.size≤300) (ht:tabW w base ⟨nm,colA,colC,cols,keyA,keyC,key,forA,forC,fors,chkA,chkC,chks⟩) (hl:(l++(encI tm++((encI tb.size++tb.data.toList)++(encI 0++(encTab ⟨nm,colA,colC,cols,keyA,keyC,key,forA,forC,fors,chkA,chkC,chks⟩))))).length+4000≤140737488300000):
  Calls Tryz.prog 48 #[.pointer (some ⟨B,0,none⟩),.agg #[.int .i64 tm,.string tb,.string nm,.slice colA cols.length colC,.slice keyA key.length keyC,.slice forA fors.length forC,.slice chkA chks.length chkC,.int .i64 0,.string x2,.string x3,.string x4,.int .i64 x5,.bool x6,.int .i64 x7,.int .i64 x8,.string x9]] w (BufOut base B (l++(encI tm++((encI tb.size++tb.data.toList)++(encI 0++(encTab ⟨nm,colA,colC,cols,keyA,keyC,key,forA,forC,fors,chkA,chkC,chks⟩))))) w):=by
 exact zq1 2
theorem wEnt1 (base B:Nat) (l:List UInt8) (tm:Int) (tb nm:ByteArray) (colA:Option Addr) (colC:Nat) (cols:List RCol) (keyA:Option Addr) (keyC:Nat) (key:List Int) (forA:Option Addr) (forC:Nat) (fors:List RFor) (chkA:Option Addr) (chkC:Nat) (chks:List RE) (x1:Int) (x2 x3 x4:ByteArray) (x5:Int) (x6:Bool) (x7 x8:Int) (x9:ByteArray) (w:World) (hbB:base≤B) (h:BufAt w base B l) (hk:¬x1=0) (htm1: -9223372036854775808≤tm) (htm2:tm≤9223372036854775807) (htb:tb.size≤300) (hx11: -9223372036854775808≤x1) (hx12:x1≤9223372036854775807) (hx2:x2.size≤300) (hx3:x3.size≤300) (hx4:x4.size≤300) (hx51: -9223372036854775808≤x5) (hx52:x5≤9223372036854775807) (hx81: -9223372036854775808≤x8) (hx82:x8≤9223372036854775807) (hx9:x9.size≤3000) (hvx9:(encV ⟨x7,x8,x9⟩).length≤4000) (hl:(l++(encI tm++((encI tb.size++tb.data.toList)++(encI x1++((encI x2.size++x2.data.toList)++((encI x3.size++x3.data.toList)++(((encI x4.size++x4.data.toList)++(encI x5++flagE x6))++(encV ⟨x7,x8,x9⟩)))))))).length+4000≤140737488300000):
  Calls Tryz.prog 48 #[.pointer (some ⟨B,0,none⟩),.agg #[.int .i64 tm,.string tb,.string nm,.slice colA cols.length colC,.slice keyA key.length keyC,.slice forA fors.length forC,.slice chkA chks.length chkC,.int .i64 x1,.string x2,.string x3,.string x4,.int .i64 x5,.bool x6,.int .i64 x7,.int .i64 x8,.string x9]] w (BufOut base B (l++(encI tm++((encI tb.size++tb.data.toList)++(encI x1++((encI x2.size++x2.data.toList)++((encI x3.size++x3.data.toList)++(((encI x4.size++x4.data.toList)++(encI x5++flagE x6))++(encV ⟨x7,x8,x9⟩)))))))) w):=by
 exact zq1 1
theorem wEnt_x (base B:Nat) (l:List UInt8) (x:REn) (w:World) (hbB:base≤B) (h:BufAt w base B l) (hx:entW w base x) (hl:(l++encEnt x).length+4000≤140737488300000):
  Calls Tryz.prog 48 #[.pointer (some ⟨B,0,none⟩),.agg x.enc.toArray] w (BufOut base B (l++encEnt x) w):=by
 obtain ⟨tm,tb,⟨nm,colA,colC,cols,keyA,keyC,key,forA,forC,fors,chkA,chkC,chks⟩,⟨x1,x2,x3,x4,x5,x6,⟨x7,x8,x9⟩⟩⟩:=x
 by_cases hk:x1=0
 ·have e:encEnt ⟨tm,tb,⟨nm,colA,colC,cols,keyA,keyC,key,forA,forC,fors,chkA,chkC,chks⟩,⟨x1,x2,x3,x4,x5,x6,⟨x7,x8,x9⟩⟩⟩=encEnt0 ⟨tm,tb,⟨nm,colA,colC,cols,keyA,keyC,key,forA,forC,fors,chkA,chkC,chks⟩,⟨x1,x2,x3,x4,x5,x6,⟨x7,x8,x9⟩⟩⟩:=if_pos hk
  have ht:=hx.tab hk
  rw [e] at hl ⊢
  subst hk
  exact wEnt0 base B l tm tb nm colA colC cols keyA keyC key forA forC fors chkA chkC chks x2 x3 x4 x5 x6 x7 x8 x9 w hbB h hx.tm.1 hx.tm.2 hx.tb ht hl
 ·have e:encEnt ⟨tm,tb,⟨nm,colA,colC,cols,keyA,keyC,key,forA,forC,fors,chkA,chkC,chks⟩,⟨x1,x2,x3,x4,x5,x6,⟨x7,x8,x9⟩⟩⟩=encEnt1 ⟨tm,tb,⟨nm,colA,colC,cols,keyA,keyC,key,forA,forC,fors,chkA,chkC,chks⟩,⟨x1,x2,x3,x4,x5,x6,⟨x7,x8,x9⟩⟩⟩:=if_neg hk
  have hc:=hx.ch hk
  rw [e] at hl ⊢
  have t9:x9.size≤200:=hc.dt
  exact wEnt1 base B l tm tb nm colA colC cols keyA keyC key forA forC fors chkA chkC chks x1 x2 x3 x4 x5 x6 x7 x8 x9 w hbB h hk hx.tm.1 hx.tm.2 hx.tb hx.kd.1 hx.kd.2 hc.name hc.to hc.cname hc.ckind.1 hc.ckind.2 hc.di.1 hc.di.2 (by omega) hc.dl hl
end Go.Proofs.YtbfdegkickjbpaaGreat
