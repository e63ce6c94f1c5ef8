/-
 RwE
-/
import Derived.Test.YtbfdegkickjbpaaGreatHRvA
import Derived.Test.YtbfdegkickjbpaaGreatHWkA
namespace Go.Proofs.YtbfdegkickjbpaaGreat
set_option maxRecDepth 1000000
set_option maxHeartbeats 32000000
open Go.RowKit Go.Lib Go.IntWalk Go.Sort Go.Shelf
theorem zq42 {P:Prop} (i:Nat) (h:Tg i→P:=by
 intro zT42
 first
  |guard_hyp zT42:Tg 3
   have g:wo.cell? ⟨B+1,0,none⟩=some (.int .i64 c.tx):=cW0 wo _ 0 _ _ _ hNo
   have KI:=bufInt_any B B _ c.tx wo (Nat.le_refl _) HA.out (by have:=HCW.out.tx;omega) (by have:=HCW.out.tx;omega) (by have:=HN.out;omega)
  |guard_hyp zT42:Tg 2
   have g:wo.cell? ⟨B+1,1,none⟩=some (.int .i64 c.time):=cW0 wo _ 1 _ _ _ hNo
   have KI:=bufInt_any B B _ c.time wo (Nat.le_refl _) HA.out (by have:=HCW.out.time;omega) (by have:=HCW.out.time;omega) (by have:=HN.out;omega)
  |guard_hyp zT42:Tg 1
   have g:wo.cell? ⟨B+1,2,none⟩=some (.int .i64 c.wall):=cW0 wo _ 2 _ _ _ hNo
   have KI:=bufInt_any B B _ c.wall wo (Nat.le_refl _) HA.out (by have:=HCW.out.wall;omega) (by have:=HCW.out.wall;omega) (by have:=HN.out;omega)
  |have g:wo.cell? ⟨B+1,3,none⟩=some (.int .i64 c.first):=cW0 wo _ 3 _ _ _ hNo
   have KI:=bufInt_any B B _ c.first wo (Nat.le_refl _) HA.out (by have:=HCW.out.first;omega) (by have:=HCW.out.first;omega) (by have:=HN.out;omega)
 clear hNo
 go_wp2_with fail
 (with_reducible refine KI.mono ?_)
 rintro _ w2 ⟨rfl,hA2,hb2,hk2⟩
 first
  |guard_hyp zT42:Tg 3
   have HA2:Hid (BufAt w2 B B (f 1)):=hI0 (by rw [HF.out.2.1];exact hA2)
  |guard_hyp zT42:Tg 2
   have HA2:Hid (BufAt w2 B B (f 2)):=hI0 (by rw [HF.out.2.2.1];exact hA2)
  |guard_hyp zT42:Tg 1
   have HA2:Hid (BufAt w2 B B (f 3)):=hI0 (by rw [HF.out.2.2.2.1];exact hA2)
  |have HA2:Hid (BufAt w2 B B (f 4)):=hI0 (by rw [HF.out.2.2.2.2];exact hA2)
 have HB2:Hid (Below B W3 w2):=hI0 (HB.out.trans hb2)
 have HK2:Hid (KeepO B W3 w2):=hI0 (HK.out.trans hk2)
 clear hA2 hb2 hk2 KI g
 go_wp2_with fail
 go_roundw
 first
  |guard_hyp zT42:Tg 3
   case rel=>exact ⟨1,by go_num,by omega,HA2,HB2,HK2⟩
  |guard_hyp zT42:Tg 2
   case rel=>exact ⟨2,by go_num,by omega,HA2,HB2,HK2⟩
  |guard_hyp zT42:Tg 1
   case rel=>exact ⟨3,by go_num,by omega,HA2,HB2,HK2⟩
  |case rel=>exact ⟨4,by go_num,by omega,HA2,HB2,HK2⟩
 case measure=>simp [intOf]) : P := h ⟨⟩
theorem wDel_x (base B:Nat) (l:List UInt8) (x:RDl) (w:World) (hbB:base≤B) (h:BufAt w base B l) (hx:delW w base x) (hl:(l++encDel x).length+4000≤140737488300000):
  Calls Tryz.prog 50 #[.pointer (some ⟨B,0,none⟩),.agg (RDl.enc x).toArray] w (BufOut base B (l++encDel x) w):=wDel_any base B l x.name x.cA x.cc x.cl x.oA x.oc x.ops w hbB h hx.nm hx.cl hx.clB hx.ops hx.opB hl
theorem putE_c (B:Nat) (l:List UInt8) (A:Option Addr) (c:Nat) (xs:List REn) (w:World) (h:BufAt w B B l) (hv:RdE 16 REn.enc w (·<B) (.slice A xs.length c) xs) (hx:∀x∈xs,entW w B x) (hl:(l++encE xs).length≤10000000000):
  Calls Tryz.prog 47 #[.pointer (some ⟨B,0,none⟩),.slice A xs.length c,.func (.func 48) #[] #[]] w (BufOut B B (l++encE xs) w):=
 putEnt B B l A c xs encEnt w (Nat.le_refl _) h hv (fun x hm W m hA hb _ hlen=>wEnt_x B B m x W (Nat.le_refl _) hA ((hx x hm).keep hb) hlen) (by unfold encE at hl;omega)
theorem putD_c (B:Nat) (l:List UInt8) (A:Option Addr) (c:Nat) (xs:List RDl) (w:World) (h:BufAt w B B l) (hv:RdE 3 RDl.enc w (·<B) (.slice A xs.length c) xs) (hx:∀x∈xs,delW w B x) (hl:(l++encD xs).length≤10000000000):
  Calls Tryz.prog 49 #[.pointer (some ⟨B,0,none⟩),.slice A xs.length c,.func (.func 50) #[] #[]] w (BufOut B B (l++encD xs) w):=
 putDel B B l A c xs encDel w (Nat.le_refl _) h hv (fun x hm W m hA hb _ hlen=>wDel_x B B m x W (Nat.le_refl _) hA ((hx x hm).keep hb) hlen) (by unfold encD at hl;omega)
theorem putH_c (B:Nat) (l:List UInt8) (A:Option Addr) (c:Nat) (xs:List Hld) (w:World) (h:BufAt w B B l) (hv:RdE 6 Hld.enc w (·<B) (.slice A xs.length c) xs) (hx:∀x∈xs,(x.name.size≤24∧x.table.size≤24)∧((0≤x.vf∧x.vf<x.vt∧x.vt≤1099511627776)∧0≤x.sf∧x.sf<x.st∧x.st≤1099511627776)) (hl:(l++encH xs).length≤10000000000):
  Calls Tryz.prog 51 #[.pointer (some ⟨B,0,none⟩),.slice A xs.length c,.func (.func 52) #[] #[]] w (BufOut B B (l++encH xs) w):=
 putHld B B l A c xs encHld w (Nat.le_refl _) h hv (fun x hm W m hA hb _ hlen=>by
  have q:=hx x hm
  exact wHld_any B B m x.name x.table x.vf x.vt x.sf x.st W (Nat.le_refl _) hA (by omega) (by omega) (by omega) (by omega) (by omega) (by omega) (by omega) (by omega) (by omega) (by omega) hlen) (by unfold encH at hl;omega)
theorem putS_c (B:Nat) (l:List UInt8) (A:Option Addr) (c:Nat) (xs:List ByteArray) (w:World) (h:BufAt w B B l) (hv:RdE 1 strE w (·<B) (.slice A xs.length c) xs) (hx:∀x∈xs,x.size≤24) (hl:(l++encS xs).length≤10000000000):
  Calls Tryz.prog 53 #[.pointer (some ⟨B,0,none⟩),.slice A xs.length c,.func (.func 54) #[] #[]] w (BufOut B B (l++encS xs) w):=
 putStr B B l A c xs encStr w (Nat.le_refl _) h hv (fun x hm W m hA hb _ hlen=>wName_any B B m x W (Nat.le_refl _) hA (by have:=hx x hm;omega) (by rw [List.length_append] at hlen;omega)) (by unfold encS at hl;omega)
theorem putP_c (B:Nat) (l:List UInt8) (A:Option Addr) (c:Nat) (xs:List Pol) (w:World) (h:BufAt w B B l) (hv:RdE 2 Pol.enc w (·<B) (.slice A xs.length c) xs) (hx:∀x∈xs,x.table.size≤24∧(0≤x.keep∧x.keep≤1099511627776)) (hl:(l++encP xs).length≤10000000000):
  Calls Tryz.prog 55 #[.pointer (some ⟨B,0,none⟩),.slice A xs.length c,.func (.func 56) #[] #[]] w (BufOut B B (l++encP xs) w):=
 putPol B B l A c xs encPol w (Nat.le_refl _) h hv (fun x hm W m hA hb _ hlen=>by
  have q:=hx x hm
  exact wPol_any B B m x.table x.keep W (Nat.le_refl _) hA (by omega) (by omega) (by omega) hlen) (by unfold encP at hl;omega)
theorem putZ_c (B:Nat) (l:List UInt8) (A:Option Addr) (c:Nat) (xs:List Hor) (w:World) (h:BufAt w B B l) (hv:RdE 2 Hor.enc w (·<B) (.slice A xs.length c) xs) (hx:∀x∈xs,x.table.size≤24∧(0≤x.time∧x.time≤1099511627775)) (hl:(l++encZ xs).length≤10000000000):
  Calls Tryz.prog 57 #[.pointer (some ⟨B,0,none⟩),.slice A xs.length c,.func (.func 58) #[] #[]] w (BufOut B B (l++encZ xs) w):=
 putHor B B l A c xs encHor w (Nat.le_refl _) h hv (fun x hm W m hA hb _ hlen=>by
  have q:=hx x hm
  exact wHor_any B B m x.table x.time W (Nat.le_refl _) hA (by omega) (by omega) (by omega) hlen) (by unfold encZ at hl;omega)
structure cmR (w:World) (base:Nat) (c:RCm):Prop where
 ents:RdE 16 REn.enc w (·<base) (.slice c.eA c.ents.length c.eC) c.ents
 dels:RdE 3 RDl.enc w (·<base) (.slice c.dA c.dels.length c.dC) c.dels
 pla:RdE 6 Hld.enc w (·<base) (.slice c.pA c.pla.length c.pC) c.pla
 rel:RdE 1 strE w (·<base) (.slice c.rA c.rel.length c.rC) c.rel
 pol:RdE 2 Pol.enc w (·<base) (.slice c.qA c.pol.length c.qC) c.pol
 hor:RdE 2 Hor.enc w (·<base) (.slice c.hA c.hor.length c.hC) c.hor
theorem cmR.keep {w w':World} {base:Nat} {c:RCm} (h:cmR w base c) (hb:Below base w w'):cmR w' base c:=⟨h.ents.keep (Keeps.below hb),h.dels.keep (Keeps.below hb),h.pla.keep (Keeps.below hb),h.rel.keep (Keeps.below hb),h.pol.keep (Keeps.below hb),h.hor.keep (Keeps.below hb)⟩
theorem cmW.keep {w w':World} {base:Nat} {c:RCm} (h:cmW w base c) (hb:Below base w w'):cmW w' base c:=
 ⟨h.tx,h.first,h.time,h.wall,h.eok,fun x hx=>(h.ents x hx).keep hb,fun x hx=>(h.dels x hx).keep hb,h.pla,h.rel,h.pol,h.hor,h.len⟩
def outC (c:RCm):List UInt8:=if encCE c=0 then encC c else []
def EncCO (c:RCm) (w0:World) (e:Ending) (w:World):Prop:=∃u,e=.returned (.tuple #[u,.int .i64 (encCE c)])∧RdB w (fun b=>w0.heap.size≤b∧b<w.heap.size) u (outC c)∧Below w0.heap.size w0 w
theorem encCE_err {c:RCm} (h:¬checkF c=0):encCE c=checkF c∧outC c=[]:=by
 have e:encCE c=checkF c:=by unfold encCE;rw [if_pos h]
 exact ⟨e,by unfold outC;rw [e,if_neg h]⟩
theorem encCE_long {c:RCm} (h:checkF c=0) (h2:1048576<(encC c).length):encCE c=5∧outC c=[]:=by
 have e:encCE c=5:=by unfold encCE;rw [if_neg (by simp [h]),if_pos h2]
 exact ⟨e,by unfold outC;rw [e];rfl⟩
theorem encCE_ok {c:RCm} (h:checkF c=0) (h2:¬ 1048576<(encC c).length):encCE c=0∧outC c=encC c:=by
 have e:encCE c=0:=by unfold encCE;rw [if_neg (by simp [h]),if_neg h2]
 exact ⟨e,by unfold outC;rw [e];rfl⟩
theorem recEncode_any (c:RCm) (w:World) (hc:c.is w (·<w.heap.size)) (hl:c.lim w):Calls Tryz.prog 14 #[.agg c.enc.toArray] w (EncCO c w):=by
 show Calls Tryz.prog 14 #[.agg #[.int .i64 c.tx,.int .i64 c.time,.int .i64 c.wall,.int .i64 c.first,.slice c.eA c.ents.length c.eC,.slice c.dA c.dels.length c.dC,.slice c.pA c.pla.length c.pC,.slice c.rA c.rel.length c.rC,.slice c.qA c.pol.length c.qC,.slice c.hA c.hor.length c.hC]] w (EncCO c w)
 obtain ⟨W,hW⟩:∃W,W=w.alloc (.cells #[.int .i64 c.tx,.int .i64 c.time,.int .i64 c.wall,.int .i64 c.first,.slice c.eA c.ents.length c.eC,.slice c.dA c.dels.length c.dC,.slice c.pA c.pla.length c.pC,.slice c.rA c.rel.length c.rC,.slice c.qA c.pol.length c.qC,.slice c.hA c.hor.length c.hC] 29):=⟨_,rfl⟩
 have hbW:Below w.heap.size w W:=by rw [hW];exact Below.of_alloc _
 have hWs:w.heap.size<W.heap.size:=by rw [hW];simp
 have hT:W.heap[w.heap.size]? =some (.cells #[.int .i64 c.tx,.int .i64 c.time,.int .i64 c.wall,.int .i64 c.first,.slice c.eA c.ents.length c.eC,.slice c.dA c.dels.length c.dC,.slice c.pA c.pla.length c.pC,.slice c.rA c.rel.length c.rC,.slice c.qA c.pol.length c.qC,.slice c.hA c.hor.length c.hC] 29 (0,0)):=by rw [hW];exact heap_alloc_new _ _
 have HBW:=hI0 hbW
 have HWS:=hI0 hWs
 have HT:=hI0 hT
 have KC0:Calls Tryz.prog 11 #[.agg #[.int .i64 c.tx,.int .i64 c.time,.int .i64 c.wall,.int .i64 c.first,.slice c.eA c.ents.length c.eC,.slice c.dA c.dels.length c.dC,.slice c.pA c.pla.length c.pC,.slice c.rA c.rel.length c.rC,.slice c.qA c.pol.length c.qC,.slice c.hA c.hor.length c.hC]] W _:=check_any c W (hc.below hbW)
 obtain ⟨k,hk⟩:∃k,k=checkF c:=⟨_,rfl⟩
 rw [←hk] at KC0
 have HC:=hI0 (hc.below hbW)
 have HL:=hI0 hl
 have HK:=hI0 hk
 obtain ⟨z1,z2⟩:=hc.ents.bd
 obtain ⟨z3,z4⟩:=hc.dels.bd
 obtain ⟨z5,z6⟩:=hc.pla.bd
 obtain ⟨z7,z8⟩:=hc.rel.bd
 obtain ⟨z9,z10⟩:=hc.pol.bd
 obtain ⟨z11,z12⟩:=hc.hor.bd
 have c0:W.cell? ⟨w.heap.size,0,none⟩=some (.int .i64 c.tx):=cW0 W _ 0 _ _ _ hT
 have c1:W.cell? ⟨w.heap.size,1,none⟩=some (.int .i64 c.time):=cW0 W _ 1 _ _ _ hT
 have c2:W.cell? ⟨w.heap.size,2,none⟩=some (.int .i64 c.wall):=cW0 W _ 2 _ _ _ hT
 have c3:W.cell? ⟨w.heap.size,3,none⟩=some (.int .i64 c.first):=cW0 W _ 3 _ _ _ hT
 have c4:W.cell? ⟨w.heap.size,4,none⟩=some (.slice c.eA c.ents.length c.eC):=cW0 W _ 4 _ _ _ hT
 have c5:W.cell? ⟨w.heap.size,5,none⟩=some (.slice c.dA c.dels.length c.dC):=cW0 W _ 5 _ _ _ hT
 have c6:W.cell? ⟨w.heap.size,6,none⟩=some (.slice c.pA c.pla.length c.pC):=cW0 W _ 6 _ _ _ hT
 have c7:W.cell? ⟨w.heap.size,7,none⟩=some (.slice c.rA c.rel.length c.rC):=cW0 W _ 7 _ _ _ hT
 have c8:W.cell? ⟨w.heap.size,8,none⟩=some (.slice c.qA c.pol.length c.qC):=cW0 W _ 8 _ _ _ hT
 have c9:W.cell? ⟨w.heap.size,9,none⟩=some (.slice c.hA c.hor.length c.hC):=cW0 W _ 9 _ _ _ hT
 clear hbW hWs hT hc hl hk
 by_cases h0:k=0
 case neg=>
  go_enter Tryz.func14,Tryz.ntmps14
  go_wp2_with fail
  rw [←hW]
  clear hW
  (with_reducible refine KC0.mono ?_)
  rintro _ w1 ⟨rfl,hb1⟩
  have HB1:=hI0 (HBW.out.trans (hb1.mono HBW.out.size))
  clear hb1 KC0 c0 c1 c2 c3 c4 c5 c6 c7 c8 c9
  go_wp2_with fail
  go_ret2
  have q:=encCE_err (c:=c) (by rw [←HK.out];exact h0)
  refine ⟨.slice none 0 0,by rw [q.1,←HK.out]<;>rfl,?_,HB1.out⟩
  rw [q.2]
  exact Rd.nil _ _ _
 case pos=>
 have KC:Calls Tryz.prog 11 #[.agg #[.int .i64 c.tx,.int .i64 c.time,.int .i64 c.wall,.int .i64 c.first,.slice c.eA c.ents.length c.eC,.slice c.dA c.dels.length c.dC,.slice c.pA c.pla.length c.pC,.slice c.rA c.rel.length c.rC,.slice c.qA c.pol.length c.qC,.slice c.hA c.hor.length c.hC]] W fun e w'=>e=.returned (.int .i64 0)∧Below W.heap.size W w':=by rw [h0] at KC0;exact KC0
 have HK0:Hid (checkF c=0):=hI0 (by rw [←HK.out];exact h0)
 obtain ⟨f,f0,f1,f2,f3,f4⟩:∃f:Nat→List UInt8,f 0=[]∧f 1=f 0++encI c.tx∧f 2=f 1++encI c.time∧f 3=f 2++encI c.wall∧f 4=f 3++encI c.first:=⟨fun k=>([c.tx,c.time,c.wall,c.first].take k).flatMap encI,by simp,by simp,by simp,by simp,by simp⟩
 have HF:=hI0 (And.intro f0 (And.intro f1 (And.intro f2 (And.intro f3 f4))))
 have i1:=encI_length c.tx
 have i2:=encI_length c.time
 have i3:=encI_length c.wall
 have i4:=encI_length c.first
 have n0:(f 0).length=0:=by rw [f0];rfl
 have n1:(f 1).length≤10:=by rw [f1,List.length_append];omega
 have n2:(f 2).length≤20:=by rw [f2,List.length_append];omega
 have n3:(f 3).length≤30:=by rw [f3,List.length_append];omega
 have HN:=hI0 (And.intro n0 (And.intro n1 (And.intro n2 n3)))
 clear KC0 h0 f0 f1 f2 f3 f4 i1 i2 i3 i4 n0 n1 n2 n3
 go_enter Tryz.func14,Tryz.ntmps14
 go_wp2_with fail
 rw [←hW]
 clear hW
 (with_reducible refine KC.mono ?_)
 rintro _ w1 ⟨rfl,hb1⟩
 have HB1:Hid (Below w.heap.size w w1):=hI0 (HBW.out.trans (hb1.mono HBW.out.size))
 have hT1:=(hb1.block w.heap.size HWS.out).trans HT.out
 have hwB:w.heap.size<w1.heap.size:=by have:=hb1.size;have:=HWS.out;omega
 have hi1:=HC.out.below hb1
 have hcw:=cm_W HK0.out hi1 HL.out
 have hcr:cmR w1 w1.heap.size c:=⟨hi1.ents,hi1.dels,hi1.pla,hi1.rel,hi1.pol,hi1.hor⟩
 clear hi1
 clear hb1 KC c0 c1 c2 c3 c4 c5 c6 c7 c8 c9
 obtain ⟨B,hBe⟩:∃B,B=w1.heap.size:=⟨_,rfl⟩
 obtain ⟨W2,hW2⟩:∃W2,W2=w1.alloc (.cells #[.slice none 0 0] 97):=⟨_,rfl⟩
 have hb2:Below w1.heap.size w1 W2:=by rw [hW2];exact Below.of_alloc _
 have hs2:W2.heap.size=B+1:=by rw [hW2,hBe];simp
 have hA2:BufAt W2 B B (f 0):=⟨.slice none 0 0,by rw [hW2,hBe];exact heap_alloc_new _ _,by rw [HF.out.1];exact OwnB.nil _ _⟩
 obtain ⟨W3,hW3⟩:∃W3,W3=W2.alloc (.cells #[.int .i64 c.tx,.int .i64 c.time,.int .i64 c.wall,.int .i64 c.first] 3):=⟨_,rfl⟩
 have hb3:Below W2.heap.size W2 W3:=by rw [hW3];exact Below.of_alloc _
 have hN3:W3.heap[B+1]? =some (.cells #[.int .i64 c.tx,.int .i64 c.time,.int .i64 c.wall,.int .i64 c.first] 3 (0,0)):=by rw [hW3,←hs2];exact heap_alloc_new _ _
 have hs3:W3.heap.size=B+2:=by rw [hW3];simp [hs2]
 have HA3:=hI0 (hA2.below hb3)
 have HN3:=hI0 hN3
 have hb13:Below w1.heap.size w1 W3:=hb2.trans (hb3.mono hb2.size)
 have HB3:Hid (Below w.heap.size w W3):=hI0 (HB1.out.trans (hb13.mono HB1.out.size))
 have HT3:=hI0 ((hb13.block w.heap.size hwB).trans hT1)
 have HWB:Hid (w.heap.size<B):=hI0 (by rw [hBe];exact hwB)
 have HS3:=hI0 hs3
 have HCW:Hid (cmW W3 B c):=hI0 (by rw [hBe];exact hcw.keep hb13)
 have HCR:Hid (cmR W3 B c):=hI0 (by rw [hBe];exact hcr.keep hb13)
 have hT2:=(hb2.block w.heap.size hwB).trans hT1
 have c0:W2.cell? ⟨w.heap.size,0,none⟩=some (.int .i64 c.tx):=cW0 W2 _ 0 _ _ _ hT2
 have c1:W2.cell? ⟨w.heap.size,1,none⟩=some (.int .i64 c.time):=cW0 W2 _ 1 _ _ _ hT2
 have c2:W2.cell? ⟨w.heap.size,2,none⟩=some (.int .i64 c.wall):=cW0 W2 _ 2 _ _ _ hT2
 have c3:W2.cell? ⟨w.heap.size,3,none⟩=some (.int .i64 c.first):=cW0 W2 _ 3 _ _ _ hT2
 have c4:W2.cell? ⟨w.heap.size,4,none⟩=some (.slice c.eA c.ents.length c.eC):=cW0 W2 _ 4 _ _ _ hT2
 have c5:W2.cell? ⟨w.heap.size,5,none⟩=some (.slice c.dA c.dels.length c.dC):=cW0 W2 _ 5 _ _ _ hT2
 have c6:W2.cell? ⟨w.heap.size,6,none⟩=some (.slice c.pA c.pla.length c.pC):=cW0 W2 _ 6 _ _ _ hT2
 have c7:W2.cell? ⟨w.heap.size,7,none⟩=some (.slice c.rA c.rel.length c.rC):=cW0 W2 _ 7 _ _ _ hT2
 have c8:W2.cell? ⟨w.heap.size,8,none⟩=some (.slice c.qA c.pol.length c.qC):=cW0 W2 _ 8 _ _ _ hT2
 have c9:W2.cell? ⟨w.heap.size,9,none⟩=some (.slice c.hA c.hor.length c.hC):=cW0 W2 _ 9 _ _ _ hT2
 clear hb2 hA2 hb3 hN3 hb13 hT1 hT2 hwB hs3 hcw hcr
 go_upto_region 5 with (fail)
 rw [←hW2,←hBe]
 clear hW2 hBe
 go_wp2_with fail
 rw [←hW3]
 clear hW3 hs2 c0 c1 c2 c3 c4 c5 c6 c7 c8 c9
 go_loopw [25] (fun i wr=>∃k:Nat,i=.int .i64 (k:Int)∧k≤4∧Hid (BufAt wr B B (f k))∧Hid (Below B W3 wr)∧Hid (KeepO B W3 wr)) (fun i _=>4-(intOf i).toNat)
 case atStart=>exact ⟨0,rfl,by omega,HA3,hI0 (Below.refl _ _),hI0 (KeepO.refl _ _)⟩
 obtain ⟨k,rfl,hk,HA,HB,HK⟩:=hrel
 obtain ⟨wo,rfl⟩:∃wo:World,wo=wr:=⟨_,rfl⟩
 have hNo:=(HK.out.2 (B+1) (by have:=HS3.out;omega) (by omega) (by intro cur;rw [HN3.out];simp)).trans HN3.out
 obtain rfl|rfl|rfl|rfl|rfl:k=0∨k=1∨k=2∨k=3∨k=4:=by omega
 ·exact zq42 3
 ·exact zq42 2
 ·exact zq42 1
 ·exact zq42 0
 ·clear hNo
  have HA0:Hid (BufAt wo B B (f 4)):=HA
  clear HA
  obtain ⟨L0,hL0⟩:∃L0,L0=f 4:=⟨_,rfl⟩
  rw [←hL0] at HA0
  obtain ⟨L1,hL1⟩:∃L,L=L0++encE c.ents:=⟨_,rfl⟩
  obtain ⟨L2,hL2⟩:∃L,L=L1++encD c.dels:=⟨_,rfl⟩
  obtain ⟨L3,hL3⟩:∃L,L=L2++encH c.pla:=⟨_,rfl⟩
  obtain ⟨L4,hL4⟩:∃L,L=L3++encS c.rel:=⟨_,rfl⟩
  obtain ⟨L5,hL5⟩:∃L,L=L4++encP c.pol:=⟨_,rfl⟩
  obtain ⟨L6,hL6⟩:∃L,L=L5++encZ c.hor:=⟨_,rfl⟩
  have hLe:L6=encC c:=by
   obtain ⟨q0,q1,q2,q3,q4⟩:=HF.out
   rw [hL6,hL5,hL4,hL3,hL2,hL1,hL0,q4,q3,q2,q1,q0]
   unfold encC
   simp only [List.nil_append]
  have m6:L6.length≤10000000000:=by rw [hLe];exact HCW.out.len
  have m5:L5.length≤10000000000:=by rw [hL6,List.length_append] at m6;omega
  have m4:L4.length≤10000000000:=by rw [hL5,List.length_append] at m5;omega
  have m3:L3.length≤10000000000:=by rw [hL4,List.length_append] at m4;omega
  have m2:L2.length≤10000000000:=by rw [hL3,List.length_append] at m3;omega
  have m1:L1.length≤10000000000:=by rw [hL2,List.length_append] at m2;omega
  have m0:L0.length≤10000000000:=by rw [hL1,List.length_append] at m1;omega
  have KP:=putE_c B L0 c.eA c.eC c.ents wo HA0.out (HCR.out.keep (HB.out)).ents (HCW.out.keep (HB.out)).ents (by rw [←hL1];exact m1)
  rw [←hL1] at KP
  have hTc:=(HB.out.block w.heap.size HWB.out).trans HT3.out
  have c4:wo.cell? ⟨w.heap.size,4,none⟩=some (.slice c.eA c.ents.length c.eC):=cW0 wo _ 4 _ _ _ hTc
  clear hTc
  go_wp2_with fail
  (with_reducible refine KP.mono ?_)
  rintro _ y1 ⟨rfl,hA2,hb2,hk2⟩
  have HA1:Hid (BufAt y1 B B L1):=hI0 hA2
  have HBq1:Hid (Below B W3 y1):=hI0 (HB.out.trans hb2)
  clear hA2 hb2 hk2 KP c4
  have KP:=putD_c B L1 c.dA c.dC c.dels y1 HA1.out (HCR.out.keep (HBq1.out)).dels (HCW.out.keep (HBq1.out)).dels (by rw [←hL2];exact m2)
  rw [←hL2] at KP
  have hTc:=(HBq1.out.block w.heap.size HWB.out).trans HT3.out
  have c5:y1.cell? ⟨w.heap.size,5,none⟩=some (.slice c.dA c.dels.length c.dC):=cW0 y1 _ 5 _ _ _ hTc
  clear hTc
  go_wp2_with fail
  (with_reducible refine KP.mono ?_)
  rintro _ y2 ⟨rfl,hA2,hb2,hk2⟩
  have HA2:Hid (BufAt y2 B B L2):=hI0 hA2
  have HBq2:Hid (Below B W3 y2):=hI0 (HBq1.out.trans hb2)
  clear hA2 hb2 hk2 KP c5
  have KP:=putH_c B L2 c.pA c.pC c.pla y2 HA2.out (HCR.out.keep (HBq2.out)).pla (HCW.out.keep (HBq2.out)).pla (by rw [←hL3];exact m3)
  rw [←hL3] at KP
  have hTc:=(HBq2.out.block w.heap.size HWB.out).trans HT3.out
  have c6:y2.cell? ⟨w.heap.size,6,none⟩=some (.slice c.pA c.pla.length c.pC):=cW0 y2 _ 6 _ _ _ hTc
  clear hTc
  go_wp2_with fail
  (with_reducible refine KP.mono ?_)
  rintro _ y3 ⟨rfl,hA2,hb2,hk2⟩
  have HA3:Hid (BufAt y3 B B L3):=hI0 hA2
  have HBq3:Hid (Below B W3 y3):=hI0 (HBq2.out.trans hb2)
  clear hA2 hb2 hk2 KP c6
  have KP:=putS_c B L3 c.rA c.rC c.rel y3 HA3.out (HCR.out.keep (HBq3.out)).rel (HCW.out.keep (HBq3.out)).rel (by rw [←hL4];exact m4)
  rw [←hL4] at KP
  have hTc:=(HBq3.out.block w.heap.size HWB.out).trans HT3.out
  have c7:y3.cell? ⟨w.heap.size,7,none⟩=some (.slice c.rA c.rel.length c.rC):=cW0 y3 _ 7 _ _ _ hTc
  clear hTc
  go_wp2_with fail
  (with_reducible refine KP.mono ?_)
  rintro _ y4 ⟨rfl,hA2,hb2,hk2⟩
  have HA4:Hid (BufAt y4 B B L4):=hI0 hA2
  have HBq4:Hid (Below B W3 y4):=hI0 (HBq3.out.trans hb2)
  clear hA2 hb2 hk2 KP c7
  have KP:=putP_c B L4 c.qA c.qC c.pol y4 HA4.out (HCR.out.keep (HBq4.out)).pol (HCW.out.keep (HBq4.out)).pol (by rw [←hL5];exact m5)
  rw [←hL5] at KP
  have hTc:=(HBq4.out.block w.heap.size HWB.out).trans HT3.out
  have c8:y4.cell? ⟨w.heap.size,8,none⟩=some (.slice c.qA c.pol.length c.qC):=cW0 y4 _ 8 _ _ _ hTc
  clear hTc
  go_wp2_with fail
  (with_reducible refine KP.mono ?_)
  rintro _ y5 ⟨rfl,hA2,hb2,hk2⟩
  have HA5:Hid (BufAt y5 B B L5):=hI0 hA2
  have HBq5:Hid (Below B W3 y5):=hI0 (HBq4.out.trans hb2)
  clear hA2 hb2 hk2 KP c8
  have KP:=putZ_c B L5 c.hA c.hC c.hor y5 HA5.out (HCR.out.keep (HBq5.out)).hor (HCW.out.keep (HBq5.out)).hor (by rw [←hL6];exact m6)
  rw [←hL6] at KP
  have hTc:=(HBq5.out.block w.heap.size HWB.out).trans HT3.out
  have c9:y5.cell? ⟨w.heap.size,9,none⟩=some (.slice c.hA c.hor.length c.hC):=cW0 y5 _ 9 _ _ _ hTc
  clear hTc
  go_wp2_with fail
  (with_reducible refine KP.mono ?_)
  rintro _ y6 ⟨rfl,hA2,hb2,hk2⟩
  have HA6:Hid (BufAt y6 B B L6):=hI0 hA2
  have HBq6:Hid (Below B W3 y6):=hI0 (HBq5.out.trans hb2)
  clear hA2 hb2 hk2 KP c9
  obtain ⟨v,hB,hO⟩:=HA6.out
  obtain ⟨Av,cv,rfl,x1,x2,x3⟩:=Rd.open_ (Rd.of_own hO)
  have q0:y6.cell? ⟨B,0,none⟩=some (.slice Av L6.length cv):=cW0 y6 _ 0 _ _ _ hB
  have HO:=hI0 ((Rd.of_own hO).wide (fun b hb=>(⟨by have:=hb.1;have:=HWB.out;omega,hb.2⟩:w.heap.size≤b∧b<y6.heap.size)))
  have HBF:Hid (Below w.heap.size w y6):=hI0 (HB3.out.trans (HBq6.out.mono (by have:=HWB.out;omega)))
  have HLE:=hI0 hLe
  clear hB hO x1 x2 x3 hLe hL0 hL1 hL2 hL3 hL4 hL5 hL6 m0 m1 m2 m3 m4 m5
  by_cases hbig:1048576<L6.length
  case pos=>
   have i1:(1048576:Int)<(L6.length:Int):=by omega
   go_wp2_with fail
   go_ret2
   have q:=encCE_long HK0.out (by rw [←HLE.out];exact hbig)
   refine ⟨.slice none 0 0,by rw [q.1]<;>rfl,?_,HBF.out⟩
   rw [q.2]
   exact Rd.nil _ _ _
  have i1:¬(1048576:Int)<(L6.length:Int):=by omega
  go_wp2_with fail
  go_ret2
  have q:=encCE_ok HK0.out (by rw [←HLE.out];exact hbig)
  refine ⟨_,by rw [q.1]<;>rfl,?_,HBF.out⟩
  rw [q.2,←HLE.out]
  exact HO.out
end Go.Proofs.YtbfdegkickjbpaaGreat
