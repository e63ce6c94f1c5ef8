/-
 RwC
-/
import Derived.Test.YtbfdegkickjbpaaGreatHRwB
namespace Go.Proofs.YtbfdegkickjbpaaGreat
set_option maxRecDepth 1000000
set_option maxHeartbeats 32000000
open Go.RowKit Go.Lib Go.IntWalk Go.Sort Go.Shelf
theorem zq8 {P:Prop} (i:Nat) (h:Tg i→P:=by
 intro zT8
 have hBl:=h.lt
 have hw0:base≤w.heap.size:=by omega
 have HLn:=hI0 hl
 clear hl
 first
  |guard_hyp zT8:Tg 1
   obtain ⟨W,hW⟩:∃W,W=w.alloc (.cells #[.string S,.slice cA cl.length cc,.slice oA ops.length oc] 63):=⟨_,rfl⟩
  |obtain ⟨W,hW⟩:∃W,W=w.alloc (.cells #[.string nm,.slice colA cols.length colC,.slice keyA key.length keyC,.slice forA fors.length forC,.slice chkA chks.length chkC] 75):=⟨_,rfl⟩
 have hbW:Below w.heap.size w W:=by rw [hW];exact Below.of_alloc _
 have hWs:W.heap.size=w.heap.size+1:=by rw [hW];simp
 first
  |guard_hyp zT8:Tg 1
   have hWh:W.heap[w.heap.size]? =some (.cells #[.string S,.slice cA cl.length cc,.slice oA ops.length oc] 63 (0,0)):=by rw [hW];exact heap_alloc_new _ _
  |have hWh:W.heap[w.heap.size]? =some (.cells #[.string nm,.slice colA cols.length colC,.slice keyA key.length keyC,.slice forA fors.length forC,.slice chkA chks.length chkC] 75 (0,0)):=by rw [hW];exact heap_alloc_new _ _
 have HW:=hI0 hW
 clear hW
 have HC:=hI0 hc
 first
  |guard_hyp zT8:Tg 1
   have HCL:=hI0 hcl
   have HO:=hI0 ho
   have HOP:=hI0 hop
   clear hc hcl ho hop
   go_enter Tryz.func50,Tryz.ntmps50
  |have HCS:=hI0 hcS
   have HK:=hI0 hk
   have HKS:=hI0 hkS
   have HF:=hI0 hf
   have HFS:=hI0 hfS
   have HX:=hI0 hx
   have HXS:=hI0 hxS
   clear hc hcS hk hkS hf hfS hx hxS
   go_enter Tryz.func149,Tryz.ntmps149
 go_wp2_with fail
 rw [←HW.out]
 have hA0:BufAt W base B l:=h.below hbW
 have hB0:Below base w W:=hbW.mono hw0
 have hK0:KeepO B w W:=KeepO.of_below hbW
 clear h hbW
 refine wp_region_noPanic ?_
 first
  |guard_hyp zT8:Tg 1
   refine wp_region_held_drew (S:=(fun w'=>∀j u,[.string S,.slice cA cl.length cc,.slice oA ops.length oc][j]? =some u→w'.cell? ⟨w.heap.size,j,none⟩=some u)) (by kernel_rfl) ?_ (fun hHeld=>?_)
  |refine wp_region_held_drew (S:=(fun w'=>∀j u,[.string nm,.slice colA cols.length colC,.slice keyA key.length keyC,.slice forA fors.length forC,.slice chkA chks.length chkC][j]? =some u→w'.cell? ⟨w.heap.size,j,none⟩=some u)) (by kernel_rfl) ?_ (fun hHeld=>?_)
 ·exact zq71
 refine hT 0 4 hHeld ?_
 simp only [aP]
 refine hT 1 5 hHeld ?_
 simp only [aP]
 refine hT 2 6 hHeld ?_
 simp only [aP]
 refine hT 3 7 hHeld ?_
 simp only [aP]
 refine hU 4 8 (v:=?_) hHeld ?_ ?_
 rotate_left
 ·intro w' hSw;(try dsimp only at hSw);have q0:=hSw 0 _ rfl;go_simp<;>with_reducible rfl
 simp only [aP]
 refine hC 5 9 ?_
 first
  |guard_hyp zT8:Tg 1
   (with_reducible refine (bufText_any base B (l) S _ hbB hA0.drew hS (by have:=HLn.out;simp only [List.length_append] at this ⊢;omega)).mono ?_)
  |(with_reducible refine (bufText_any base B (l) nm _ hbB hA0.drew hnm (by have:=HLn.out;simp only [List.length_append] at this ⊢;omega)).mono ?_)
 rintro _ w1 ⟨rfl,hA1,hb',hk'⟩
 have hB1:Below base w w1:=hB0.trans (Below.undrew hb')
 have hK1:KeepO B w w1:=hK0.trans hk'
 have hWh':=(hk'.2 w.heap.size (by have:W.drew.heap.size=W.heap.size:=rfl;have:=hWs;first|omega|(have:=hsz0;omega)) (by omega) (by intro cur;rw [show W.drew.heap[w.heap.size]? =_ from hWh];simp)).trans (show W.drew.heap[w.heap.size]? =_ from hWh)
 have hsz1:w.heap.size+1≤w1.heap.size:=by have:=hk'.1;have:W.drew.heap.size=W.heap.size:=rfl;first|omega|(have:=hsz0;omega)
 clear hWh hb' hk'
 have hWh:=hWh'
 clear hWh'
 refine ⟨_,rfl,keepAnd ?_ (fun hNew=>?_)⟩
 ·exact zq71
 clear hHeld
 have hHeld:=hNew
 clear hNew
 simp only [aP]
 refine wpAnyH_done (by kernel_rfl) ?_ _
 refine NoPanic.normal ?_
 clear hHeld
 clear hA0 hB0 hK0
 first
  |guard_hyp zT8:Tg 1
   have q1:w1.cell? ⟨w.heap.size,1,none⟩=some (.slice cA cl.length cc):=cW0 _ w.heap.size 1 _ _ _ hWh
  |have q1:w1.cell? ⟨w.heap.size,1,none⟩=some (.slice colA cols.length colC):=cW0 _ w.heap.size 1 _ _ _ hWh
 go_wp2_with fail
 first
  |guard_hyp zT8:Tg 1
   (with_reducible refine (putNum base B (l++(encI S.size++S.data.toList)) cA cc cl encI _ hbB hA1 (HC.out.keep (Keeps.below hB1)) (fun n hn V m hA hB hK hlm=>wNum_any base B m n V hbB hA (HCL.out n hn).1 (HCL.out n hn).2 (by rw [List.length_append] at hlm;omega)) (by have:=HLn.out;simp only [List.length_append] at this ⊢;omega)).mono ?_)
  |(with_reducible refine (putCol base B (l++(encI nm.size++nm.data.toList)) colA colC cols encCol _ hbB hA1 (HC.out.keep (Keeps.below hB1)) (fun x hx V m hA hB hK hlm=>wCol_x base B m x V hbB hA (HCS.out x hx) hlm) (by have:=HLn.out;simp only [List.length_append] at this ⊢;omega)).mono ?_)
 rintro _ w2 ⟨rfl,hA2,hb',hk'⟩
 have hB2:Below base w w2:=hB1.trans hb'
 have hK2:KeepO B w w2:=hK1.trans hk'
 have hWh':=(hk'.2 w.heap.size (by have:w1.drew.heap.size=w1.heap.size:=rfl;have:=hWs;first|omega|(have:=hsz1;omega)) (by omega) (by intro cur;rw [show w1.heap[w.heap.size]? =_ from hWh];simp)).trans (show w1.heap[w.heap.size]? =_ from hWh)
 have hsz2:w.heap.size+1≤w2.heap.size:=by have:=hk'.1;have:w1.drew.heap.size=w1.heap.size:=rfl;first|omega|(have:=hsz1;omega)
 clear hWh hb' hk'
 have hWh:=hWh'
 clear hWh'
 clear q1
 clear hA1 hB1 hK1
 first
  |guard_hyp zT8:Tg 1
   have q2:w2.cell? ⟨w.heap.size,2,none⟩=some (.slice oA ops.length oc):=cW0 _ w.heap.size 2 _ _ _ hWh
  |have q2:w2.cell? ⟨w.heap.size,2,none⟩=some (.slice keyA key.length keyC):=cW0 _ w.heap.size 2 _ _ _ hWh
 go_wp2_with fail
 first
  |guard_hyp zT8:Tg 1
   (with_reducible refine (putFct base B (l++(encI S.size++S.data.toList)++(encI cl.length++cl.flatMap encI)) oA oc ops encF _ hbB hA2 (HO.out.keep (Keeps.below hB2)) (fun p hp V m hA hB hK hlm=>wFct_x base B m p V hbB hA ((HOP.out p hp).keep (hB2.trans hB)) hlm) (by have:=HLn.out;simp only [List.length_append] at this ⊢;omega)).mono ?_)
  |(with_reducible refine (putNum base B (l++(encI nm.size++nm.data.toList)++(encI cols.length++cols.flatMap encCol)) keyA keyC key encI _ hbB hA2 (HK.out.keep (Keeps.below hB2)) (fun n hn V m hA hB hK hlm=>wNum_any base B m n V hbB hA (HKS.out n hn).1 (HKS.out n hn).2 (by rw [List.length_append] at hlm;omega)) (by have:=HLn.out;simp only [List.length_append] at this ⊢;omega)).mono ?_)
 rintro _ w3 ⟨rfl,hA3,hb',hk'⟩
 have hB3:Below base w w3:=hB2.trans hb'
 have hK3:KeepO B w w3:=hK2.trans hk'
 have hWh':=(hk'.2 w.heap.size (by have:w2.drew.heap.size=w2.heap.size:=rfl;have:=hWs;first|omega|(have:=hsz2;omega)) (by omega) (by intro cur;rw [show w2.heap[w.heap.size]? =_ from hWh];simp)).trans (show w2.heap[w.heap.size]? =_ from hWh)
 have hsz3:w.heap.size+1≤w3.heap.size:=by have:=hk'.1;have:w2.drew.heap.size=w2.heap.size:=rfl;first|omega|(have:=hsz2;omega)
 clear hWh hb' hk'
 have hWh:=hWh'
 clear hWh'
 clear q2
 clear hA2 hB2 hK2
 first
  |guard_hyp zT8:Tg 1
  |have q3:w3.cell? ⟨w.heap.size,3,none⟩=some (.slice forA fors.length forC):=cW0 _ w.heap.size 3 _ _ _ hWh
   go_wp2_with fail
   (with_reducible refine (putFor base B (l++(encI nm.size++nm.data.toList)++(encI cols.length++cols.flatMap encCol)++(encI key.length++key.flatMap encI)) forA forC fors encFor _ hbB hA3 (HF.out.keep (Keeps.below hB3)) (fun x hx V m hA hB hK hlm=>wFor_x base B m x V hbB hA ((HFS.out x hx).keep (hB3.trans hB)) hlm) (by have:=HLn.out;simp only [List.length_append] at this ⊢;omega)).mono ?_)
   rintro _ w4 ⟨rfl,hA4,hb',hk'⟩
   have hB4:Below base w w4:=hB3.trans hb'
   have hK4:KeepO B w w4:=hK3.trans hk'
   have hWh':=(hk'.2 w.heap.size (by have:w3.drew.heap.size=w3.heap.size:=rfl;have:=hWs;first|omega|(have:=hsz3;omega)) (by omega) (by intro cur;rw [show w3.heap[w.heap.size]? =_ from hWh];simp)).trans (show w3.heap[w.heap.size]? =_ from hWh)
   have hsz4:w.heap.size+1≤w4.heap.size:=by have:=hk'.1;have:w3.drew.heap.size=w3.heap.size:=rfl;first|omega|(have:=hsz3;omega)
   clear hWh hb' hk'
   have hWh:=hWh'
   clear hWh'
   clear q3
   clear hA3 hB3 hK3
   have q4:w4.cell? ⟨w.heap.size,4,none⟩=some (.slice chkA chks.length chkC):=cW0 _ w.heap.size 4 _ _ _ hWh
   go_wp2_with fail
   (with_reducible refine (putExp base B (l++(encI nm.size++nm.data.toList)++(encI cols.length++cols.flatMap encCol)++(encI key.length++key.flatMap encI)++(encI fors.length++fors.flatMap encFor)) chkA chkC chks encX _ hbB hA4 (HX.out.keep (Keeps.below hB4)) (fun x hx V m hA hB hK hlm=>wExp_any 24 x base B m V hbB hA (HXS.out x hx).2 (exIs_keep (Keeps.below (hB4.trans hB)) 24 x (HXS.out x hx).1) hlm) (by have:=HLn.out;simp only [List.length_append] at this ⊢;omega)).mono ?_)
   rintro _ w5 ⟨rfl,hA5,hb',hk'⟩
   have hB5:Below base w w5:=hB4.trans hb'
   have hK5:KeepO B w w5:=hK4.trans hk'
   have hWh':=(hk'.2 w.heap.size (by have:w4.drew.heap.size=w4.heap.size:=rfl;have:=hWs;first|omega|(have:=hsz4;omega)) (by omega) (by intro cur;rw [show w4.heap[w.heap.size]? =_ from hWh];simp)).trans (show w4.heap[w.heap.size]? =_ from hWh)
   have hsz5:w.heap.size+1≤w5.heap.size:=by have:=hk'.1;have:w4.drew.heap.size=w4.heap.size:=rfl;first|omega|(have:=hsz4;omega)
   clear hWh hb' hk'
   have hWh:=hWh'
   clear hWh'
   clear q4
   clear hA4 hB4 hK4
 go_wp2_with fail
 go_end0
 first
  |guard_hyp zT8:Tg 1
   refine ⟨rfl,?_,hB3,hK3⟩
   have e:l++((encI S.size++S.data.toList)++((encI cl.length++cl.flatMap encI)++((encI ops.length++ops.flatMap encF))))=l++(encI S.size++S.data.toList)++(encI cl.length++cl.flatMap encI)++(encI ops.length++ops.flatMap encF):=by simp only [List.append_assoc]
  |refine ⟨rfl,?_,hB5,hK5⟩
   have e:l++((encI nm.size++nm.data.toList)++((encI cols.length++cols.flatMap encCol)++((encI key.length++key.flatMap encI)++((encI fors.length++fors.flatMap encFor)++((encI chks.length++chks.flatMap encX))))))=l++(encI nm.size++nm.data.toList)++(encI cols.length++cols.flatMap encCol)++(encI key.length++key.flatMap encI)++(encI fors.length++fors.flatMap encFor)++(encI chks.length++chks.flatMap encX):=by simp only [List.append_assoc]
 rw [e]
 first
  |guard_hyp zT8:Tg 1
   exact hA3
  |exact hA5) : P := h ⟨⟩
def encF (p:RF):List UInt8:=encR p.row++(encI p.vf++encI p.vt)
mutual
def encX:RE→List UInt8
 | .mk op it v nm _ _ args=>encI op++(encI it++(encV v++((encI nm.size++nm.data.toList)++(encI args.length++encXs args))))
def encXs:List RE→List UInt8
 |[]=>[]
 |e::r=>encX e++encXs r
end
theorem encXs_flat (l:List RE):encXs l=l.flatMap encX:=by
 induction l with
 |nil=>simp [encXs]
 |cons x r ih=>rw [encXs,ih,List.flatMap_cons]
def encFor (x:RFor):List UInt8:=(encI x.cols.length++x.cols.flatMap encI)++(encI x.table.size++x.table.data.toList)
def encCol (x:RCol):List UInt8:=(encI x.name.size++x.name.data.toList)++(encI x.kind++flagE x.null)
def encTab (t:RTab):List UInt8:=(encI t.name.size++t.name.data.toList)++((encI t.cols.length++t.cols.flatMap encCol)++((encI t.key.length++t.key.flatMap encI)++((encI t.fors.length++t.fors.flatMap encFor)++(encI t.chks.length++t.chks.flatMap encX))))
def encDel (d:RDl):List UInt8:=(encI d.name.size++d.name.data.toList)++((encI d.cl.length++d.cl.flatMap encI)++(encI d.ops.length++d.ops.flatMap encF))
def encHld (x:Hld):List UInt8:=(encI x.name.size++x.name.data.toList)++((encI x.table.size++x.table.data.toList)++((encI x.vf++encI x.vt)++(encI x.sf++encI x.st)))
def encPol (x:Pol):List UInt8:=(encI x.table.size++x.table.data.toList)++encI x.keep
def encHor (x:Hor):List UInt8:=(encI x.table.size++x.table.data.toList)++encI x.time
def encStr (x:ByteArray):List UInt8:=encI x.size++x.data.toList
structure facW (w:World) (base:Nat) (p:RF):Prop where
 rd:RdV w (·<base) (.slice p.rA p.rn p.rc) p.row
 ok:∀x∈p.row,putV x
 len:(encR p.row).length≤4000
 vf:(-9223372036854775808≤p.vf∧p.vf≤9223372036854775807)
 vt:(-9223372036854775808≤p.vt∧p.vt≤9223372036854775807)
theorem facW.keep {w w':World} {base:Nat} {p:RF} (h:facW w base p) (hb:Below base w w'):facW w' base p:=⟨Rd.keep h.rd (Keeps.below hb),h.ok,h.len,h.vf,h.vt⟩
structure forW (w:World) (base:Nat) (x:RFor):Prop where
 rd:RdE 1 intE w (·<base) (.slice x.cA x.cols.length x.cc) x.cols
 ix:∀n∈x.cols,(-9223372036854775808≤n∧n≤9223372036854775807)
 nm:x.table.size≤300
theorem forW.keep {w w':World} {base:Nat} {x:RFor} (h:forW w base x) (hb:Below base w w'):forW w' base x:=⟨h.rd.keep (Keeps.below hb),h.ix,h.nm⟩
theorem exIs_keep {w w':World} {F:Nat→Prop} (hk:Keeps F w w'):∀(d:Nat) (e:RE),exIs d w F e→exIs d w' F e:=by
 intro d
 induction d with
 |zero=>intro e _;trivial
 |succ d ih=>
  intro e h
  obtain ⟨op,it,val,nm,A,c,args⟩:=e
  obtain ⟨h1,h2,h3,h4⟩:=h
  exact ⟨h1.keep hk,h2,h3,fun a ha=>ih a (h4 a ha)⟩
theorem wFct_any (base B:Nat) (l:List UInt8) (rA:Option Addr) (rn rc:Nat) (a b:Int) (xs:List Val) (w:World) (hbB:base≤B) (h:BufAt w base B l) (hx:RdV w (·<base) (.slice rA rn rc) xs) (hok:∀x∈xs,putV x) (hr:(encR xs).length≤4000) (ha1: -9223372036854775808≤a) (ha2:a≤9223372036854775807) (hb1: -9223372036854775808≤b) (hb2:b≤9223372036854775807) (hl:(l++(encR xs++((encI a++encI b)))).length+4000≤140737488300000):
  Calls Tryz.prog 155 #[.pointer (some ⟨B,0,none⟩),.agg #[.slice rA rn rc,.int .i64 a,.int .i64 b]] w (BufOut base B (l++(encR xs++((encI a++encI b)))) w):=by
 exact zq6 2
theorem wFct_x (base B:Nat) (l:List UInt8) (x:RF) (w:World) (hbB:base≤B) (h:BufAt w base B l) (hx:facW w base x) (hl:(l++encF x).length+4000≤140737488300000):
  Calls Tryz.prog 155 #[.pointer (some ⟨B,0,none⟩),.agg (RF.enc x).toArray] w (BufOut base B (l++encF x) w):=wFct_any base B l x.rA x.rn x.rc x.vf x.vt x.row w hbB h hx.rd hx.ok hx.len hx.vf.1 hx.vf.2 hx.vt.1 hx.vt.2 hl
theorem wCol_x (base B:Nat) (l:List UInt8) (x:RCol) (w:World) (hbB:base≤B) (h:BufAt w base B l) (hx:x.name.size≤300∧(-9223372036854775808≤x.kind∧x.kind≤9223372036854775807)) (hl:(l++encCol x).length+4000≤140737488300000):
  Calls Tryz.prog 150 #[.pointer (some ⟨B,0,none⟩),.agg (RCol.enc x).toArray] w (BufOut base B (l++encCol x) w):=wCol_any base B l x.name x.kind x.null w hbB h hx.1 hx.2.1 hx.2.2 hl
theorem wDel_any (base B:Nat) (l:List UInt8) (S:ByteArray) (cA:Option Addr) (cc:Nat) (cl:List Int) (oA:Option Addr) (oc:Nat) (ops:List RF) (w:World) (hbB:base≤B) (h:BufAt w base B l) (hS:S.size≤300) (hc:RdE 1 intE w (·<base) (.slice cA cl.length cc) cl) (hcl:∀n∈cl,(-9223372036854775808≤n∧n≤9223372036854775807)) (ho:RdE 3 RF.enc w (·<base) (.slice oA ops.length oc) ops) (hop:∀p∈ops,facW w base p) (hl:(l++((encI S.size++S.data.toList)++((encI cl.length++cl.flatMap encI)++((encI ops.length++ops.flatMap encF))))).length+4000≤140737488300000):
  Calls Tryz.prog 50 #[.pointer (some ⟨B,0,none⟩),.agg #[.string S,.slice cA cl.length cc,.slice oA ops.length oc]] w (BufOut base B (l++((encI S.size++S.data.toList)++((encI cl.length++cl.flatMap encI)++((encI ops.length++ops.flatMap encF))))) w):=by
 exact zq8 1
theorem wExp0 (base B:Nat) (l:List UInt8) (op it vk vi:Int) (vs nm:ByteArray) (aA:Option Addr) (ac:Nat) (args:List RE) (w:World) (hbB:base≤B) (h:BufAt w base B l) (hop1: -9223372036854775808≤op) (hop2:op≤9223372036854775807) (hit1: -9223372036854775808≤it) (hit2:it≤9223372036854775807) (hvi1: -9223372036854775808≤vi) (hvi2:vi≤9223372036854775807) (hvs:vs.size≤3000) (hvvs:(encV ⟨vk,vi,vs⟩).length≤4000) (hnm:nm.size≤300) (ha:RdE 7 RE.enc w (·<base) (.slice aA args.length ac) args) (hone:∀x∈args,∀(V:World) (m:List UInt8),BufAt V base B m→Below base w V→(m++encX x).length+4000≤140737488300000→Calls Tryz.prog 210 #[.pointer (some ⟨B,0,none⟩),.agg x.enc.toArray] V (BufOut base B (m++encX x) V)) (hl:(l++(encI op++(encI it++(encV ⟨vk,vi,vs⟩++((encI nm.size++nm.data.toList)++((encI args.length++args.flatMap encX))))))).length+4000≤140737488300000):
  Calls Tryz.prog 210 #[.pointer (some ⟨B,0,none⟩),.agg #[.int .i64 op,.int .i64 it,.int .i64 vk,.int .i64 vi,.string vs,.string nm,.slice aA args.length ac]] w (BufOut base B (l++(encI op++(encI it++(encV ⟨vk,vi,vs⟩++((encI nm.size++nm.data.toList)++((encI args.length++args.flatMap encX))))))) w):=by
 exact zq1 3
theorem wExp_any:∀(d:Nat) (e:RE) (base B:Nat) (l:List UInt8) (w:World),base≤B→BufAt w base B l→okX d e=true→exIs d w (·<base) e→(l++encX e).length+4000≤140737488300000→
  Calls Tryz.prog 210 #[.pointer (some ⟨B,0,none⟩),.agg e.enc.toArray] w (BufOut base B (l++encX e) w):=by
 intro d
 induction d with
 |zero=>intro e base B l w _ _ h;exact absurd h (by simp [okX])
 |succ d ih=>
  intro e base B l w hbB h hok he hl
  obtain ⟨op,it,⟨vk,vi,vs⟩,nm,aA,ac,args⟩:=e
  obtain ⟨h1,h2,h3,h4⟩:=he
  simp only [okX,Bool.and_eq_true,decide_eq_true_eq,List.all_eq_true] at hok
  obtain ⟨k1,k2,k3,k4,k5,k6⟩:=hok
  obtain ⟨v1,v2,v3⟩:=valid_parts k3
  simp only [encX,encXs_flat] at hl ⊢
  exact wExp0 base B l op it vk vi vs nm aA ac args w hbB h (by omega) (by omega) (by omega) (by omega) h2.1 h2.2.1 (by simp only at v2;omega) (by omega) (by omega) h1 (fun x hx V m hA hB hlm=>ih x base B m V hbB hA (k6 x hx) (exIs_keep (Keeps.below hB) d x (h4 x hx)) hlm) hl
theorem wFor_any (base B:Nat) (l:List UInt8) (fA:Option Addr) (fc:Nat) (fl:List Int) (S:ByteArray) (w:World) (hbB:base≤B) (h:BufAt w base B l) (hf:RdE 1 intE w (·<base) (.slice fA fl.length fc) fl) (hfl:∀n∈fl,(-9223372036854775808≤n∧n≤9223372036854775807)) (hS:S.size≤300) (hl:(l++((encI fl.length++fl.flatMap encI)++((encI S.size++S.data.toList)))).length+4000≤140737488300000):
  Calls Tryz.prog 208 #[.pointer (some ⟨B,0,none⟩),.agg #[.slice fA fl.length fc,.string S]] w (BufOut base B (l++((encI fl.length++fl.flatMap encI)++((encI S.size++S.data.toList)))) w):=by
 have hBl:=h.lt
 have hw0:base≤w.heap.size:=by omega
 have HLn:=hI0 hl
 clear hl
 obtain ⟨W,hW⟩:∃W,W=w.alloc (.cells #[.slice fA fl.length fc,.string S] 278):=⟨_,rfl⟩
 have hbW:Below w.heap.size w W:=by rw [hW];exact Below.of_alloc _
 have hWs:W.heap.size=w.heap.size+1:=by rw [hW];simp
 have hWh:W.heap[w.heap.size]? =some (.cells #[.slice fA fl.length fc,.string S] 278 (0,0)):=by rw [hW];exact heap_alloc_new _ _
 have HW:=hI0 hW
 clear hW
 have HF:=hI0 hf
 have HFL:=hI0 hfl
 clear hf hfl
 go_enter Tryz.func208,Tryz.ntmps208
 go_wp2_with fail
 rw [←HW.out]
 have hA0:BufAt W base B l:=h.below hbW
 have hB0:Below base w W:=hbW.mono hw0
 have hK0:KeepO B w W:=KeepO.of_below hbW
 clear h hbW
 have q0:W.cell? ⟨w.heap.size,0,none⟩=some (.slice fA fl.length fc):=cW0 _ w.heap.size 0 _ _ _ hWh
 go_wp2_with fail
 (with_reducible refine (putNum base B (l) fA fc fl encI _ hbB hA0 (HF.out.keep (Keeps.below hB0)) (fun n hn V m hA hB hK hlm=>wNum_any base B m n V hbB hA (HFL.out n hn).1 (HFL.out n hn).2 (by rw [List.length_append] at hlm;omega)) (by have:=HLn.out;simp only [List.length_append] at this ⊢;omega)).mono ?_)
 rintro _ w1 ⟨rfl,hA1,hb',hk'⟩
 have hB1:Below base w w1:=hB0.trans hb'
 have hK1:KeepO B w w1:=hK0.trans hk'
 have hWh':=(hk'.2 w.heap.size (by have:W.drew.heap.size=W.heap.size:=rfl;have:=hWs;first|omega|(have:=hsz0;omega)) (by omega) (by intro cur;rw [show W.heap[w.heap.size]? =_ from hWh];simp)).trans (show W.heap[w.heap.size]? =_ from hWh)
 have hsz1:w.heap.size+1≤w1.heap.size:=by have:=hk'.1;have:W.drew.heap.size=W.heap.size:=rfl;first|omega|(have:=hsz0;omega)
 clear hWh hb' hk'
 have hWh:=hWh'
 clear hWh'
 clear q0
 clear hA0 hB0 hK0
 go_wp2_with fail
 refine wp_region_noPanic ?_
 refine wp_region_held_drew (S:=(fun w'=>∀j u,[.slice fA fl.length fc,.string S][j]? =some u→w'.cell? ⟨w.heap.size,j,none⟩=some u)) (by kernel_rfl) ?_ (fun hHeld=>?_)
 ·exact zq71
 refine hT 0 8 hHeld ?_
 simp only [aP]
 refine hT 1 9 hHeld ?_
 simp only [aP]
 refine hT 2 10 hHeld ?_
 simp only [aP]
 refine hT 3 11 hHeld ?_
 simp only [aP]
 refine hU 4 12 (v:=?_) hHeld ?_ ?_
 rotate_left
 ·intro w' hSw;(try dsimp only at hSw);have q1:=hSw 1 _ rfl;go_simp<;>with_reducible rfl
 simp only [aP]
 refine hC 5 13 ?_
 (with_reducible refine (bufText_any base B (l++(encI fl.length++fl.flatMap encI)) S _ hbB hA1.drew hS (by have:=HLn.out;simp only [List.length_append] at this ⊢;omega)).mono ?_)
 rintro _ w2 ⟨rfl,hA2,hb',hk'⟩
 have hB2:Below base w w2:=hB1.trans (Below.undrew hb')
 have hK2:KeepO B w w2:=hK1.trans hk'
 have hWh':=(hk'.2 w.heap.size (by have:w1.drew.heap.size=w1.heap.size:=rfl;have:=hWs;first|omega|(have:=hsz1;omega)) (by omega) (by intro cur;rw [show w1.drew.heap[w.heap.size]? =_ from hWh];simp)).trans (show w1.drew.heap[w.heap.size]? =_ from hWh)
 have hsz2:w.heap.size+1≤w2.heap.size:=by have:=hk'.1;have:w1.drew.heap.size=w1.heap.size:=rfl;first|omega|(have:=hsz1;omega)
 clear hWh hb' hk'
 have hWh:=hWh'
 clear hWh'
 refine ⟨_,rfl,keepAnd ?_ (fun hNew=>?_)⟩
 ·exact zq71
 clear hHeld
 have hHeld:=hNew
 clear hNew
 simp only [aP]
 refine wpAnyH_done (by kernel_rfl) ?_ _
 refine NoPanic.normal ?_
 clear hHeld
 clear hA1 hB1 hK1
 go_wp2_with fail
 go_end0
 refine ⟨rfl,?_,hB2,hK2⟩
 have e:l++((encI fl.length++fl.flatMap encI)++((encI S.size++S.data.toList)))=l++(encI fl.length++fl.flatMap encI)++(encI S.size++S.data.toList):=by simp only [List.append_assoc]
 rw [e]
 exact hA2
theorem wFor_x (base B:Nat) (l:List UInt8) (x:RFor) (w:World) (hbB:base≤B) (h:BufAt w base B l) (hx:forW w base x) (hl:(l++encFor x).length+4000≤140737488300000):
  Calls Tryz.prog 208 #[.pointer (some ⟨B,0,none⟩),.agg (RFor.enc x).toArray] w (BufOut base B (l++encFor x) w):=wFor_any base B l x.cA x.cc x.cols x.table w hbB h hx.rd hx.ix hx.nm hl
theorem wTab0 (base B:Nat) (l:List UInt8) (nm:ByteArray) (colA:Option Addr) (colC:Nat) (cols:List RCol) (keyA:Option Addr) (keyC:Nat) (key:List Int) (forA:Option Addr) (forC:Nat) (fors:List RFor) (chkA:Option Addr) (chkC:Nat) (chks:List RE) (w:World) (hbB:base≤B) (h:BufAt w base B l) (hnm:nm.size≤300) (hc:RdE 3 RCol.enc w (·<base) (.slice colA cols.length colC) cols) (hcS:∀x∈cols,x.name.size≤300∧(-9223372036854775808≤x.kind∧x.kind≤9223372036854775807)) (hk:RdE 1 intE w (·<base) (.slice keyA key.length keyC) key) (hkS:∀n∈key,(-9223372036854775808≤n∧n≤9223372036854775807)) (hf:RdE 2 RFor.enc w (·<base) (.slice forA fors.length forC) fors) (hfS:∀x∈fors,forW w base x) (hx:RdE 7 RE.enc w (·<base) (.slice chkA chks.length chkC) chks) (hxS:∀e∈chks,exIs 24 w (·<base) e∧okX 24 e=true) (hl:(l++((encI nm.size++nm.data.toList)++((encI cols.length++cols.flatMap encCol)++((encI key.length++key.flatMap encI)++((encI fors.length++fors.flatMap encFor)++((encI chks.length++chks.flatMap encX))))))).length+4000≤140737488300000):
  Calls Tryz.prog 149 #[.pointer (some ⟨B,0,none⟩),.agg #[.string nm,.slice colA cols.length colC,.slice keyA key.length keyC,.slice forA fors.length forC,.slice chkA chks.length chkC]] w (BufOut base B (l++((encI nm.size++nm.data.toList)++((encI cols.length++cols.flatMap encCol)++((encI key.length++key.flatMap encI)++((encI fors.length++fors.flatMap encFor)++((encI chks.length++chks.flatMap encX))))))) w):=by
 exact zq8 0
end Go.Proofs.YtbfdegkickjbpaaGreat
