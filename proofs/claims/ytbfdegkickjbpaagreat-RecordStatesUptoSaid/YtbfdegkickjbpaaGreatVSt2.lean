/-
 St2
-/
import Derived.Test.YtbfdegkickjbpaaGreatVRp1
import Derived.Test.YtbfdegkickjbpaaGreatVSeg1
import Derived.Test.YtbfdegkickjbpaaGreatVSm2
namespace Go.Proofs.YtbfdegkickjbpaaGreat
open Go.Proofs.Tryz
set_option maxRecDepth 99999
set_option maxHeartbeats 0
open Go.RowKit Go.Lib Go.IntWalk Go.Sort Go.Shelf
theorem putE_c (B:Nat) (l:List UInt8) (A:Option Addr) (c:Nat) (xs:List REn) (w:World) (h:BufAt w B B l) (hv:RdE 16 REn.enc w (·<B) (.slice A xs.length c) xs) (hx:∀x∈xs,entW w B x) (hl:(l++encE xs).length≤10000000000):
  Calls prog 47 #[.pointer (some ⟨B,0,none⟩),.slice A xs.length c,.func (.func 48) #[] #[]] w (BufOut B B (l++encE xs) w):=
 putEnt B B l A c xs encEnt w (Nat.le_refl _) h hv (fun x hm W m hA hb _ hlen=>wEnt_x B B m x W (Nat.le_refl _) hA ((hx x hm).keep hb) hlen) (by unfold encE at hl;omega)
theorem putH_c (B:Nat) (l:List UInt8) (A:Option Addr) (c:Nat) (xs:List Hld) (w:World) (h:BufAt w B B l) (hv:RdE 6 Hld.enc w (·<B) (.slice A xs.length c) xs) (hx:∀x∈xs,(x.name.size≤24∧x.table.size≤24)∧((0≤x.vf∧x.vf<x.vt∧x.vt≤1099511627776)∧0≤x.sf∧x.sf<x.st∧x.st≤1099511627776)) (hl:(l++encH xs).length≤10000000000):
  Calls prog 51 #[.pointer (some ⟨B,0,none⟩),.slice A xs.length c,.func (.func 52) #[] #[]] w (BufOut B B (l++encH xs) w):=
 putHld B B l A c xs encHld w (Nat.le_refl _) h hv (fun x hm W m hA hb _ hlen=>by
  have q:=hx x hm
  exact wHld_any B B m x.name x.table x.vf x.vt x.sf x.st W (Nat.le_refl _) hA (by omega) (by omega) (by omega) (by omega) (by omega) (by omega) (by omega) (by omega) (by omega) (by omega) hlen) (by unfold encH at hl;omega)
theorem putP_c (B:Nat) (l:List UInt8) (A:Option Addr) (c:Nat) (xs:List Pol) (w:World) (h:BufAt w B B l) (hv:RdE 2 Pol.enc w (·<B) (.slice A xs.length c) xs) (hx:∀x∈xs,x.table.size≤24∧(0≤x.keep∧x.keep≤1099511627776)) (hl:(l++encP xs).length≤10000000000):
  Calls prog 55 #[.pointer (some ⟨B,0,none⟩),.slice A xs.length c,.func (.func 56) #[] #[]] w (BufOut B B (l++encP xs) w):=
 putPol B B l A c xs encPol w (Nat.le_refl _) h hv (fun x hm W m hA hb _ hlen=>by
  have q:=hx x hm
  exact wPol_any B B m x.table x.keep W (Nat.le_refl _) hA (by omega) (by omega) (by omega) hlen) (by unfold encP at hl;omega)
theorem putZ_c (B:Nat) (l:List UInt8) (A:Option Addr) (c:Nat) (xs:List Hor) (w:World) (h:BufAt w B B l) (hv:RdE 2 Hor.enc w (·<B) (.slice A xs.length c) xs) (hx:∀x∈xs,x.table.size≤24∧(0≤x.time∧x.time≤1099511627775)) (hl:(l++encZ xs).length≤10000000000):
  Calls prog 57 #[.pointer (some ⟨B,0,none⟩),.slice A xs.length c,.func (.func 58) #[] #[]] w (BufOut B B (l++encZ xs) w):=
 putHor B B l A c xs encHor w (Nat.le_refl _) h hv (fun x hm W m hA hb _ hlen=>by
  have q:=hx x hm
  exact wHor_any B B m x.table x.time W (Nat.le_refl _) hA (by omega) (by omega) (by omega) hlen) (by unfold encZ at hl;omega)
def encStm (x:Stm):List UInt8:=encI x.time++encI x.wall
def encTv (x:RTv):List UInt8:=(encI x.table.size++x.table.data.toList)++encVsB (x.vers.map (·.2))
def encM (l:List Stm):List UInt8:=encI l.length++l.flatMap encStm
def encTT (l:List RTv):List UInt8:=encI l.length++l.flatMap encTv
def encSt (c:RSt):List UInt8:=encI c.tx++encI c.time++encI c.wall++encI c.next++encE c.ents++encM c.stms++encTT c.tabs++encH c.pla++encP c.pol++encZ c.hor
theorem ordF_ok {α:Type} {ok:α→Int} {le:α→α→Bool} {la:α→Int}:∀ {l:List α} {p:Option α},ordF ok le la p l=0→∀x∈l,ok x=0∧la x=0
 |[],_,_,x,hx=>nomatch hx
 |y::r,p,h,x,hx=>by
  rw [ordF_cons] at h
  split at h
  ·omega
  ·rename_i h1
   split at h
   ·omega
   ·split at h
    ·omega
    ·rename_i h3
     rcases List.mem_cons.1 hx with rfl|hx
     ·exact ⟨Decidable.of_not_not h1,Decidable.of_not_not h3⟩
     ·exact ordF_ok h x hx
theorem encVs_len {xs:List Ver} (h:∀x∈xs,(encVer x).length≤2600):(encVsB xs).length≤10+2600*xs.length:=by
 have q:=encVers_le xs h xs.length
 have i:=encI_length xs.length
 rw [List.take_length] at q
 unfold encVsB
 rw [List.length_append]
 omega
theorem tv_le {x:RTv} (h:nmB x.table=true) (hv:∀p∈x.vers,(encVer p.2).length≤2600):(encTv x).length≤3000*x.sz:=by
 have r1:=txt_le (nmB_le h)
 have r2:=encVs_len (xs:=x.vers.map (·.2)) (fun y hy=>by obtain ⟨p,hp,rfl⟩:=List.mem_map.1 hy;exact hv p hp)
 have z0:=szL_len (sz:=vpSz) (fun a=>by unfold vpSz;omega) x.vers
 unfold encTv RTv.sz
 rw [List.length_map] at r2
 simp only [List.length_append] at *
 omega
theorem stm_ok {x:Stm} (h:stmE x=0):(0≤x.time∧x.time≤1099511627775)∧0≤x.wall∧x.wall≤x.time:=by
 unfold stmE at h
 split at h
 ·rename_i h1
  unfold stmOk instB at h1
  simpa using h1
 ·omega
theorem tv_ok {x:RTv} (h:tvE x=0):nmB x.table=true:=by
 unfold tvE at h
 split at h
 ·assumption
 ·omega
theorem en_ok {x:REn} (h:enE x=0):x.ok=true:=by
 unfold enE at h
 split at h
 ·assumption
 ·omega
theorem st_ok {c:RSt} (h:stateF c=0):((0≤c.tx∧c.tx≤1125899906842624)∧(1≤c.next∧c.next≤1125899906842624)∧(0≤c.time∧c.time≤1099511627775)∧(0≤c.wall∧c.wall≤c.time))∧(∀x∈c.ents,x.ok=true)∧(∀x∈c.stms,stmE x=0)∧(∀x∈c.tabs,nmB x.table=true∧chkFrom none (x.vers.map (·.2))=0)∧(∀x∈c.pla,x.ok=true)∧(∀x∈c.pol,x.ok=true)∧∀x∈c.hor,x.ok=true:=by
 unfold stateF holdsF restF entsF stmsF tabsF at h
 split at h
 ·omega
 ·rename_i h1
  split at h
  ·omega
  ·rename_i h2
   split at h
   ·omega
   ·rename_i h3
    split at h
    ·omega
    ·rename_i h4
     split at h
     ·omega
     ·rename_i h5
      split at h
      ·omega
      ·rename_i h6
       unfold instB at h1
       rw [Bool.not_eq_false,Bool.and_eq_true,Bool.and_eq_true,Bool.and_eq_true,decide_eq_true_eq,decide_eq_true_eq,decide_eq_true_eq,decide_eq_true_eq] at h1
       exact ⟨h1,fun x hx=>en_ok (ordF_ok (Decidable.of_not_not h2) x hx).1,fun x hx=>(ordF_ok (Decidable.of_not_not h3) x hx).1,fun x hx=>⟨tv_ok (ordF_ok (Decidable.of_not_not h4) x hx).1,(ordF_ok (Decidable.of_not_not h4) x hx).2⟩,namedF_ok (Decidable.of_not_not h5),namedF_ok (Decidable.of_not_not h6),namedF_ok h⟩
structure tvW (w:World) (base:Nat) (x:RTv):Prop where
 nm:x.table.size≤300
 rd:RdVs w (·<base) (.slice x.A x.vers.length x.C) x.vers
 ok:∀p∈x.vers,validVer p.2=true
 few:x.vers.length≤1048576
theorem tvW.keep {w w':World} {base:Nat} {x:RTv} (h:tvW w base x) (hb:Below base w w'):tvW w' base x:=⟨h.nm,h.rd.keep (Keeps.below hb),h.ok,h.few⟩
structure stW (w:World) (base:Nat) (c:RSt):Prop where
 tx:0≤c.tx∧c.tx≤1125899906842624
 next:1≤c.next∧c.next≤1125899906842624
 time:0≤c.time∧c.time≤1099511627775
 wall:0≤c.wall∧c.wall≤1099511627775
 ents:∀x∈c.ents,entW w base x
 stms:∀x∈c.stms,(0≤x.time∧x.time≤1099511627775)∧0≤x.wall∧x.wall≤x.time
 tabs:∀x∈c.tabs,tvW w base x
 pla:∀x∈c.pla,(x.name.size≤24∧x.table.size≤24)∧((0≤x.vf∧x.vf<x.vt∧x.vt≤1099511627776)∧0≤x.sf∧x.sf<x.st∧x.st≤1099511627776)
 pol:∀x∈c.pol,x.table.size≤24∧(0≤x.keep∧x.keep≤1099511627776)
 hor:∀x∈c.hor,x.table.size≤24∧(0≤x.time∧x.time≤1099511627775)
 len:(encSt c).length≤10000000000
theorem stW.keep {w w':World} {base:Nat} {c:RSt} (h:stW w base c) (hb:Below base w w'):stW w' base c:=
 ⟨h.tx,h.next,h.time,h.wall,fun x hx=>(h.ents x hx).keep hb,h.stms,fun x hx=>(h.tabs x hx).keep hb,h.pla,h.pol,h.hor,h.len⟩
theorem st_W {w w0:World} {base:Nat} {c:RSt} (h:stateF c=0) (hi:c.is w (·<base)) (hl:c.lim w0):stW w base c:=by
 obtain ⟨⟨b1,b2,b3,b4⟩,g1,g2,g3,g4,g5,g6⟩:=st_ok h
 have gv:∀x∈c.tabs,∀p∈x.vers,validVer p.2=true:=fun x hx p hp=>chkFrom_valid (g3 x hx).2 _ (List.mem_map.2 ⟨p,hp,rfl⟩)
 refine ⟨b1,b2,b3,by omega,fun x hx=>ent_W (g1 x hx) (hi.entI x hx).create,fun x hx=>stm_ok (g2 x hx),fun x hx=>⟨by have:=nmB_le (g3 x hx).1;omega,hi.tabI x hx,gv x hx,(hl.rows x hx).1⟩,fun x hx=>⟨(hld_W (g4 x hx)).1,(hld_W (g4 x hx)).2.1⟩,fun x hx=>⟨(pol_W (g5 x hx)).1,(pol_W (g5 x hx)).2.1⟩,fun x hx=>⟨(hor_W (g6 x hx)).1,(hor_W (g6 x hx)).2.1⟩,?_⟩
 have q1:=flat_bd (en:=encEnt) (sz:=REn.sz) (C:=400) (l:=c.ents) fun x hx=>ent_le (g1 x hx)
 have q2:=flat_bd1 (en:=encStm) (C:=20) (l:=c.stms) fun x hx=>by
  have i1:=encI_length x.time
  have i2:=encI_length x.wall
  unfold encStm
  rw [List.length_append]
  omega
 have q3:=flat_bd (en:=encTv) (sz:=RTv.sz) (C:=3000) (l:=c.tabs) fun x hx=>tv_le (g3 x hx).1 fun p hp=>(encVer_le (gv x hx p hp) ((hi.tabI x hx).2 p hp).ok).1
 have q4:=flat_bd1 (en:=encHld) (C:=200) (l:=c.pla) fun x hx=>(hld_W (g4 x hx)).2.2
 have q5:=flat_bd1 (en:=encPol) (C:=200) (l:=c.pol) fun x hx=>(pol_W (g5 x hx)).2.2
 have q6:=flat_bd1 (en:=encHor) (C:=200) (l:=c.hor) fun x hx=>(hor_W (g6 x hx)).2.2
 have z1:=hl.entZ
 have z2:=hl.tabZ
 have z3:=hl.pla
 have z4:=hl.stms
 have z5:=hl.pol
 have z6:=hl.hor
 have i1:=encI_length c.tx
 have i2:=encI_length c.time
 have i3:=encI_length c.wall
 have i4:=encI_length c.next
 have i5:=encI_length c.ents.length
 have i6:=encI_length c.stms.length
 have i7:=encI_length c.pla.length
 have i8:=encI_length c.tabs.length
 have i9:=encI_length c.pol.length
 have ia:=encI_length c.hor.length
 unfold encSt encE encM encTT encH encP encZ
 simp only [List.length_append]
 omega
theorem wStm_any (base B:Nat) (l:List UInt8) (a b:Int) (w:World) (hbB:base≤B) (h:BufAt w base B l) (ha1: -9223372036854775808≤a) (ha2:a≤9223372036854775807) (hb1: -9223372036854775808≤b) (hb2:b≤9223372036854775807) (hl:(l++(encI a++(encI b))).length+4000≤140737488300000):
  Calls prog 106 #[.pointer (some ⟨B,0,none⟩),.agg #[.int .i64 a,.int .i64 b]] w (BufOut base B (l++(encI a++(encI b))) w):=by
 exact zq13 2
theorem wTv_any (base B:Nat) (l:List UInt8) (S:ByteArray) (A:Option Addr) (C:Nat) (ps:List VP) (w:World) (hbB:base≤B) (h:BufAt w base B l) (hS:S.size≤300) (hp:RdVs w (·<base) (.slice A ps.length C) ps) (hval:∀p∈ps,validVer p.2=true) (hn:ps.length≤1048576) (hl:(l++((encI S.size++S.data.toList)++(encVsB (ps.map (·.2))))).length+30000000000≤140737488300000):
  Calls prog 108 #[.pointer (some ⟨B,0,none⟩),.agg #[.string S,.slice A ps.length C]] w (BufOut base B (l++((encI S.size++S.data.toList)++(encVsB (ps.map (·.2))))) w):=by
 have hBl:=h.lt
 have hw0:base≤w.heap.size:=by omega
 have HLn:=hI0 hl
 clear hl
 obtain ⟨W,hW⟩:=eN0 (w.alloc (.cells #[.string S,.slice A ps.length C] 165))
 have hbW:=bN0 hW
 have hWs:=sN0 hW
 have hWh:=hN0 hW
 have HW:=hI0 hW
 clear hW
 have HP:=hI0 hp
 have HVL:=hI0 hval
 have HTX:=hI0 (txt_le hS)
 clear hp hval
 go_in
 go_wp2_with fail
 rw [←HW.out]
 have hA0:BufAt W base B l:=h.below hbW
 have hB0:Below base w W:=hbW.mono hw0
 have hK0:KeepO B w W:=KeepO.of_below hbW
 clear h hbW
 refine rR0 [.string S,.slice A ps.length C] w.heap.size ?_ (fun zh=>?_)
 ·exact zq114
 refine hT 0 4 ?_
 refine hT 1 5 ?_
 refine hT 2 6 ?_
 refine hT 3 7 ?_
 refine hU 4 8 (v:=?_) zh ?_ ?_
 rotate_left
 ·exact zq112
 refine hC 5 9 ?_
 (with_reducible refine (bufText_any base B (l) S _ hbB hA0.drew hS zi0).mono ?_)
 rintro _ w1 ⟨rfl,hA1,hb',hk'⟩
 have hB1:Below base w w1:=hB0.trans (Below.undrew hb')
 have hK1:KeepO B w w1:=hK0.trans hk'
 have hWh':=(hk'.2 w.heap.size (by have:W.drew.heap.size=W.heap.size:=rfl;have:=hWs;first|omega|(have:=hsz0;omega)) (by omega) zi2).trans (show W.drew.heap[w.heap.size]? =_ from hWh)
 have hsz1:w.heap.size+1≤w1.heap.size:=by have:=hk'.1;have:W.drew.heap.size=W.heap.size:=rfl;first|omega|(have:=hsz0;omega)
 clear hWh hb' hk'
 have hWh:=hWh'
 clear hWh'
 refine ⟨_,rfl,keepAnd (fun j u hj=>(cW0 _ w.heap.size j _ _ _ hWh).trans (by simpa using hj)) ?_⟩
 clear zh
 intro zh
 simp only [aP]
 refine rD0 ?_
 clear zh
 clear hA0 hB0 hK0
 have q1:=cW1 1 hWh rfl
 go_wp2_with fail
 (with_reducible refine (put_any' base B (l++(encI S.size++S.data.toList)) _ ps _ hbB hA1 (HP.out.keep (Keeps.below hB1)) HVL.out hn (by have:=HLn.out;have:=HTX.out;simp only [List.length_append] at *;omega)).mono ?_)
 rintro _ w2 ⟨rfl,hA2,hb',hk'⟩
 have hB2:Below base w w2:=hB1.trans hb'
 have hK2:KeepO B w w2:=hK1.trans hk'
 have hWh':=(hk'.2 w.heap.size (by have:w1.drew.heap.size=w1.heap.size:=rfl;have:=hWs;first|omega|(have:=hsz1;omega)) (by omega) zi32).trans (show w1.heap[w.heap.size]? =_ from hWh)
 have hsz2:w.heap.size+1≤w2.heap.size:=by have:=hk'.1;have:w1.drew.heap.size=w1.heap.size:=rfl;first|omega|(have:=hsz1;omega)
 clear hWh hb' hk'
 have hWh:=hWh'
 clear hWh'
 clear q1
 clear hA1 hB1 hK1
 go_wp2_with fail
 go_end0
 refine ⟨rfl,?_,hB2,hK2⟩
 have e:l++((encI S.size++S.data.toList)++(encVsB (ps.map (·.2))))=l++(encI S.size++S.data.toList)++encVsB (ps.map (·.2)):=by simp only [List.append_assoc]
 rw [e]
 exact hA2
theorem putStm (base B:Nat) (l:List UInt8) (A:Option Addr) (c:Nat) (xs:List Stm) (en:Stm→List UInt8) (w:World) (hbB:base≤B) (h:BufAt w base B l) (hv:RdE 2 Stm.enc w (·<base) (.slice A xs.length c) xs)
  (hone:∀x∈xs,∀(W:World) (m:List UInt8),BufAt W base B m→Below base w W→KeepO B w W→(m++en x).length+4000≤140737488300000→Calls prog 106 #[.pointer (some ⟨B,0,none⟩),.agg (Stm.enc x).toArray] W (BufOut base B (m++en x) W))
  (hl:(l++(encI xs.length++xs.flatMap en)).length+4000≤140737488300000):
  Calls prog 105 #[.pointer (some ⟨B,0,none⟩),.slice A xs.length c,.func (.func 106) #[] #[]] w (BufOut base B (l++(encI xs.length++xs.flatMap en)) w):=by
 exact zq22 6
theorem putTv (base B:Nat) (l:List UInt8) (A:Option Addr) (c:Nat) (xs:List RTv) (en:RTv→List UInt8) (w:World) (hbB:base≤B) (h:BufAt w base B l) (hv:RdE 2 RTv.enc w (·<base) (.slice A xs.length c) xs)
  (hone:∀x∈xs,∀(W:World) (m:List UInt8),BufAt W base B m→Below base w W→KeepO B w W→(m++en x).length+30000000000≤140737488300000→Calls prog 108 #[.pointer (some ⟨B,0,none⟩),.agg (RTv.enc x).toArray] W (BufOut base B (m++en x) W))
  (hl:(l++(encI xs.length++xs.flatMap en)).length+30000000000≤140737488300000):
  Calls prog 107 #[.pointer (some ⟨B,0,none⟩),.slice A xs.length c,.func (.func 108) #[] #[]] w (BufOut base B (l++(encI xs.length++xs.flatMap en)) w):=by
 exact zq22 3
theorem putM_c (B:Nat) (l:List UInt8) (A:Option Addr) (c:Nat) (xs:List Stm) (w:World) (h:BufAt w B B l) (hv:RdE 2 Stm.enc w (·<B) (.slice A xs.length c) xs) (hx:∀x∈xs,(0≤x.time∧x.time≤1099511627775)∧0≤x.wall∧x.wall≤x.time) (hl:(l++encM xs).length≤10000000000):
  Calls prog 105 #[.pointer (some ⟨B,0,none⟩),.slice A xs.length c,.func (.func 106) #[] #[]] w (BufOut B B (l++encM xs) w):=
 putStm B B l A c xs encStm w (Nat.le_refl _) h hv (fun x hm W m hA hb _ hlen=>by
  have q:=hx x hm
  exact wStm_any B B m x.time x.wall W (Nat.le_refl _) hA (by omega) (by omega) (by omega) (by omega) hlen) (by unfold encM at hl;omega)
theorem putTT_c (B:Nat) (l:List UInt8) (A:Option Addr) (c:Nat) (xs:List RTv) (w:World) (h:BufAt w B B l) (hv:RdE 2 RTv.enc w (·<B) (.slice A xs.length c) xs) (hx:∀x∈xs,tvW w B x) (hl:(l++encTT xs).length≤10000000000):
  Calls prog 107 #[.pointer (some ⟨B,0,none⟩),.slice A xs.length c,.func (.func 108) #[] #[]] w (BufOut B B (l++encTT xs) w):=
 putTv B B l A c xs encTv w (Nat.le_refl _) h hv (fun x hm W m hA hb _ hlen=>by
  have q:=(hx x hm).keep hb
  exact wTv_any B B m x.table x.A x.C x.vers W (Nat.le_refl _) hA q.nm q.rd q.ok q.few hlen) (by unfold encTT at hl;omega)
structure stR (w:World) (base:Nat) (c:RSt):Prop where
 ents:RdE 16 REn.enc w (·<base) (.slice c.eA c.ents.length c.eC) c.ents
 stms:RdE 2 Stm.enc w (·<base) (.slice c.sA c.stms.length c.sC) c.stms
 tabs:RdE 2 RTv.enc w (·<base) (.slice c.tA c.tabs.length c.tC) c.tabs
 pla:RdE 6 Hld.enc w (·<base) (.slice c.pA c.pla.length c.pC) c.pla
 pol:RdE 2 Pol.enc w (·<base) (.slice c.qA c.pol.length c.qC) c.pol
 hor:RdE 2 Hor.enc w (·<base) (.slice c.hA c.hor.length c.hC) c.hor
theorem stR.keep {w w':World} {base:Nat} {c:RSt} (h:stR w base c) (hb:Below base w w'):stR w' base c:=⟨h.ents.keep (Keeps.below hb),h.stms.keep (Keeps.below hb),h.tabs.keep (Keeps.below hb),h.pla.keep (Keeps.below hb),h.pol.keep (Keeps.below hb),h.hor.keep (Keeps.below hb)⟩
def outS (c:RSt):List UInt8:=if stateF c=0 then encSt c else []
def EncSO (c:RSt) (w0:World) (e:Ending) (w:World):Prop:=∃u,e=.returned (.tuple #[u,.int .i64 (stateF c)])∧RdB w (fun b=>w0.heap.size≤b∧b<w.heap.size) u (outS c)∧Bl w0 w∧(stateF c=0→(encSt c).length≤10000000000)
theorem recEncodeState_any (c:RSt) (w:World) (hc:c.is w (ltw w)) (hl:c.lim w):Calls prog 24 #[.agg c.enc.toArray] w (EncSO c w):=by
 exact zq2 0
end Go.Proofs.YtbfdegkickjbpaaGreat
