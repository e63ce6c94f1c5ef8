/-
 St2
-/
import Derived.Test.YtgfhknnklapldaaGreatDoorBRp1
import Derived.Test.YtgfhknnklapldaaGreatDoorBSeg1
import Derived.Test.YtgfhknnklapldaaGreatDoorBSm2
namespace Go.Proofs.YtgfhknnklapldaaGreatDoor
open Go.Proofs.Tryz
set_option maxRecDepth 99999
set_option maxHeartbeats 0
open Go.RowKit Go.Lib Go.IntWalk Go.Sort Go.Shelf
theorem zq20 {P:Prop} (i:Nat) (h:Tg i→P:=by
 intro zT20
 first
  |guard_hyp zT20:Tg 3;have g:=cW1 0 hNo rfl
   have KI:=bufInt_any B B _ c.tx wo (Nat.le_refl _) HA.out (by have:=HCW.out.tx;omega) (by have:=HCW.out.tx;omega) (by have:=HN.out;omega)
  |guard_hyp zT20:Tg 2;have g:=cW1 1 hNo rfl
   have KI:=bufInt_any B B _ c.time wo (Nat.le_refl _) HA.out (by have:=HCW.out.time;omega) (by have:=HCW.out.time;omega) (by have:=HN.out;omega)
  |guard_hyp zT20:Tg 1;have g:=cW1 3 hNo rfl
   have KI:=bufInt_any B B _ c.next wo (Nat.le_refl _) HA.out (by have:=HCW.out.next;omega) (by have:=HCW.out.next;omega) (by have:=HN.out;omega)
  |have g:=cW1 2 hNo rfl
   have KI:=bufInt_any B B _ c.wall wo (Nat.le_refl _) HA.out (by have:=HCW.out.wall;omega) (by have:=HCW.out.wall;omega) (by have:=HN.out;omega)
 clear hNo
 go_wp2_with fail
 (with_reducible refine KI.mono ?_)
 rintro _ w2 ⟨rfl,hA2,hb2,hk2⟩
 first
  |guard_hyp zT20:Tg 3;have HA2:Hid (BufAt w2 B B (f 1)):=hI0 (by rw [HF.out.2.1];exact hA2)
  |guard_hyp zT20:Tg 2;have HA2:Hid (BufAt w2 B B (f 2)):=hI0 (by rw [HF.out.2.2.1];exact hA2)
  |guard_hyp zT20:Tg 1;have HA2:Hid (BufAt w2 B B (f 4)):=hI0 (by rw [HF.out.2.2.2.2];exact hA2)
  |have HA2:Hid (BufAt w2 B B (f 3)):=hI0 (by rw [HF.out.2.2.2.1];exact hA2)
 have HB2:Hid (Below B W3 w2):=hI0 (HB.out.trans hb2)
 have HK2:Hid (KeepO B W3 w2):=hI0 (HK.out.trans hk2)
 clear hA2 hb2 hk2 KI g
 go_wp2_with fail
 go_roundw
 first
  |guard_hyp zT20:Tg 3
   case rel=>exact ⟨1,by go_num,by omega,HA2,HB2,HK2⟩
  |guard_hyp zT20:Tg 2
   case rel=>exact ⟨2,by go_num,by omega,HA2,HB2,HK2⟩
  |guard_hyp zT20:Tg 1
   case rel=>exact ⟨4,by go_num,by omega,HA2,HB2,HK2⟩
  |case rel=>exact ⟨3,by go_num,by omega,HA2,HB2,HK2⟩
 case measure=>simp [intOf]) : P := h ⟨⟩
theorem putE_c (B:Nat) (l:List UInt8) (A:Option Addr) (c:Nat) (xs:List REn) (w:World) (h:BufAt w B B l) (hv:RdE 16 REn.enc w (·<B) (.slice A xs.length c) xs) (hx:∀x∈xs,entW w B x) (hl:(l++encE xs).length≤10000000000):
  Calls prog 48 #[.pointer (some ⟨B,0,none⟩),.slice A xs.length c,.func (.func 49) #[] #[]] w (BufOut B B (l++encE xs) w):=
 putEnt B B l A c xs encEnt w (Nat.le_refl _) h hv (fun x hm W m hA hb _ hlen=>wEnt_x B B m x W (Nat.le_refl _) hA ((hx x hm).keep hb) hlen) (by unfold encE at hl;omega)
theorem putH_c (B:Nat) (l:List UInt8) (A:Option Addr) (c:Nat) (xs:List Hld) (w:World) (h:BufAt w B B l) (hv:RdE 6 Hld.enc w (·<B) (.slice A xs.length c) xs) (hx:∀x∈xs,(x.name.size≤24∧x.table.size≤24)∧((0≤x.vf∧x.vf<x.vt∧x.vt≤1099511627776)∧0≤x.sf∧x.sf<x.st∧x.st≤1099511627776)) (hl:(l++encH xs).length≤10000000000):
  Calls prog 57 #[.pointer (some ⟨B,0,none⟩),.slice A xs.length c,.func (.func 58) #[] #[]] w (BufOut B B (l++encH xs) w):=
 putHld B B l A c xs encHld w (Nat.le_refl _) h hv (fun x hm W m hA hb _ hlen=>by
  have q:=hx x hm
  exact wHld_any B B m x.name x.table x.vf x.vt x.sf x.st W (Nat.le_refl _) hA (by omega) (by omega) (by omega) (by omega) (by omega) (by omega) (by omega) (by omega) (by omega) (by omega) hlen) (by unfold encH at hl;omega)
theorem putP_c (B:Nat) (l:List UInt8) (A:Option Addr) (c:Nat) (xs:List Pol) (w:World) (h:BufAt w B B l) (hv:RdE 2 Pol.enc w (·<B) (.slice A xs.length c) xs) (hx:∀x∈xs,x.table.size≤24∧(0≤x.keep∧x.keep≤1099511627776)) (hl:(l++encP xs).length≤10000000000):
  Calls prog 59 #[.pointer (some ⟨B,0,none⟩),.slice A xs.length c,.func (.func 60) #[] #[]] w (BufOut B B (l++encP xs) w):=
 putPol B B l A c xs encPol w (Nat.le_refl _) h hv (fun x hm W m hA hb _ hlen=>by
  have q:=hx x hm
  exact wPol_any B B m x.table x.keep W (Nat.le_refl _) hA (by omega) (by omega) (by omega) hlen) (by unfold encP at hl;omega)
theorem putZ_c (B:Nat) (l:List UInt8) (A:Option Addr) (c:Nat) (xs:List Hor) (w:World) (h:BufAt w B B l) (hv:RdE 2 Hor.enc w (·<B) (.slice A xs.length c) xs) (hx:∀x∈xs,x.table.size≤24∧(0≤x.time∧x.time≤1099511627775)) (hl:(l++encZ xs).length≤10000000000):
  Calls prog 61 #[.pointer (some ⟨B,0,none⟩),.slice A xs.length c,.func (.func 62) #[] #[]] w (BufOut B B (l++encZ xs) w):=
 putHor B B l A c xs encHor w (Nat.le_refl _) h hv (fun x hm W m hA hb _ hlen=>by
  have q:=hx x hm
  exact wHor_any B B m x.table x.time W (Nat.le_refl _) hA (by omega) (by omega) (by omega) hlen) (by unfold encZ at hl;omega)
def encStm (x:Stm):List UInt8:=encI x.time++encI x.wall
def encTv (x:RTv):List UInt8:=(encI x.table.size++x.table.data.toList)++encVsB (x.vers.map (·.2))
def encM (l:List Stm):List UInt8:=encI l.length++l.flatMap encStm
def encTT (l:List RTv):List UInt8:=encI l.length++l.flatMap encTv
def encSt (c:RSt):List UInt8:=encI c.tx++encI c.time++encI c.wall++encI c.next++encE c.ents++encM c.stms++encTT c.tabs++encH c.pla++encP c.pol++encZ c.hor
theorem ordF_ok {α:Type} {ok:α→Int} {le:α→α→Bool} {la:α→Int}:∀ {l:List α} {p:Option α},ordF ok le la p l=0→∀x∈l,ok x=0∧la x=0
 |[],_,_,x,hx=>nomatch hx
 |y::r,p,h,x,hx=>by
  rw [ordF_cons] at h
  split at h
  ·omega
  ·rename_i h1
   split at h
   ·omega
   ·split at h
    ·omega
    ·rename_i h3
     rcases List.mem_cons.1 hx with rfl|hx
     ·exact ⟨Decidable.of_not_not h1,Decidable.of_not_not h3⟩
     ·exact ordF_ok h x hx
theorem encVs_len {xs:List Ver} (h:∀x∈xs,(encVer x).length≤2600):(encVsB xs).length≤10+2600*xs.length:=by
 have q:=encVers_le xs h xs.length
 have i:=encI_length xs.length
 rw [List.take_length] at q
 unfold encVsB
 rw [List.length_append]
 omega
theorem tv_le {x:RTv} (h:nmB x.table=true) (hv:∀p∈x.vers,(encVer p.2).length≤2600):(encTv x).length≤3000*x.sz:=by
 have r1:=txt_le (nmB_le h)
 have r2:=encVs_len (xs:=x.vers.map (·.2)) (fun y hy=>by obtain ⟨p,hp,rfl⟩:=List.mem_map.1 hy;exact hv p hp)
 have z0:=szL_len (sz:=vpSz) (fun a=>by unfold vpSz;omega) x.vers
 unfold encTv RTv.sz
 rw [List.length_map] at r2
 simp only [List.length_append] at *
 omega
theorem stm_ok {x:Stm} (h:stmE x=0):(0≤x.time∧x.time≤1099511627775)∧0≤x.wall∧x.wall≤x.time:=by
 unfold stmE at h
 split at h
 ·rename_i h1
  unfold stmOk instB at h1
  simpa using h1
 ·omega
theorem tv_ok {x:RTv} (h:tvE x=0):nmB x.table=true:=by
 unfold tvE at h
 split at h
 ·assumption
 ·omega
theorem en_ok {x:REn} (h:enE x=0):x.ok=true:=by
 unfold enE at h
 split at h
 ·assumption
 ·omega
theorem st_ok {c:RSt} (h:stateF c=0):((0≤c.tx∧c.tx≤1125899906842624)∧(1≤c.next∧c.next≤1125899906842624)∧(0≤c.time∧c.time≤1099511627775)∧(0≤c.wall∧c.wall≤c.time))∧(∀x∈c.ents,x.ok=true)∧(∀x∈c.stms,stmE x=0)∧(∀x∈c.tabs,nmB x.table=true∧chkFrom none (x.vers.map (·.2))=0)∧(∀x∈c.pla,x.ok=true)∧(∀x∈c.pol,x.ok=true)∧∀x∈c.hor,x.ok=true:=by
 unfold stateF holdsF restF entsF stmsF tabsF at h
 split at h
 ·omega
 ·rename_i h1
  split at h
  ·omega
  ·rename_i h2
   split at h
   ·omega
   ·rename_i h3
    split at h
    ·omega
    ·rename_i h4
     split at h
     ·omega
     ·rename_i h5
      split at h
      ·omega
      ·rename_i h6
       unfold instB at h1
       rw [Bool.not_eq_false,Bool.and_eq_true,Bool.and_eq_true,Bool.and_eq_true,decide_eq_true_eq,decide_eq_true_eq,decide_eq_true_eq,decide_eq_true_eq] at h1
       exact ⟨h1,fun x hx=>en_ok (ordF_ok (Decidable.of_not_not h2) x hx).1,fun x hx=>(ordF_ok (Decidable.of_not_not h3) x hx).1,fun x hx=>⟨tv_ok (ordF_ok (Decidable.of_not_not h4) x hx).1,(ordF_ok (Decidable.of_not_not h4) x hx).2⟩,namedF_ok (Decidable.of_not_not h5),namedF_ok (Decidable.of_not_not h6),namedF_ok h⟩
structure tvW (w:World) (base:Nat) (x:RTv):Prop where
 nm:x.table.size≤300
 rd:RdVs w (·<base) (.slice x.A x.vers.length x.C) x.vers
 ok:∀p∈x.vers,validVer p.2=true
 few:x.vers.length≤1048576
theorem tvW.keep {w w':World} {base:Nat} {x:RTv} (h:tvW w base x) (hb:Below base w w'):tvW w' base x:=⟨h.nm,h.rd.keep (Keeps.below hb),h.ok,h.few⟩
structure stW (w:World) (base:Nat) (c:RSt):Prop where
 tx:0≤c.tx∧c.tx≤1125899906842624
 next:1≤c.next∧c.next≤1125899906842624
 time:0≤c.time∧c.time≤1099511627775
 wall:0≤c.wall∧c.wall≤1099511627775
 ents:∀x∈c.ents,entW w base x
 stms:∀x∈c.stms,(0≤x.time∧x.time≤1099511627775)∧0≤x.wall∧x.wall≤x.time
 tabs:∀x∈c.tabs,tvW w base x
 pla:∀x∈c.pla,(x.name.size≤24∧x.table.size≤24)∧((0≤x.vf∧x.vf<x.vt∧x.vt≤1099511627776)∧0≤x.sf∧x.sf<x.st∧x.st≤1099511627776)
 pol:∀x∈c.pol,x.table.size≤24∧(0≤x.keep∧x.keep≤1099511627776)
 hor:∀x∈c.hor,x.table.size≤24∧(0≤x.time∧x.time≤1099511627775)
 len:(encSt c).length≤10000000000
theorem stW.keep {w w':World} {base:Nat} {c:RSt} (h:stW w base c) (hb:Below base w w'):stW w' base c:=
 ⟨h.tx,h.next,h.time,h.wall,fun x hx=>(h.ents x hx).keep hb,h.stms,fun x hx=>(h.tabs x hx).keep hb,h.pla,h.pol,h.hor,h.len⟩
theorem st_W {w w0:World} {base:Nat} {c:RSt} (h:stateF c=0) (hi:c.is w (·<base)) (hl:c.lim w0):stW w base c:=by
 obtain ⟨⟨b1,b2,b3,b4⟩,g1,g2,g3,g4,g5,g6⟩:=st_ok h
 have gv:∀x∈c.tabs,∀p∈x.vers,validVer p.2=true:=fun x hx p hp=>chkFrom_valid (g3 x hx).2 _ (List.mem_map.2 ⟨p,hp,rfl⟩)
 refine ⟨b1,b2,b3,by omega,fun x hx=>ent_W (g1 x hx) (hi.entI x hx).create,fun x hx=>stm_ok (g2 x hx),fun x hx=>⟨by have:=nmB_le (g3 x hx).1;omega,hi.tabI x hx,gv x hx,(hl.rows x hx).1⟩,fun x hx=>⟨(hld_W (g4 x hx)).1,(hld_W (g4 x hx)).2.1⟩,fun x hx=>⟨(pol_W (g5 x hx)).1,(pol_W (g5 x hx)).2.1⟩,fun x hx=>⟨(hor_W (g6 x hx)).1,(hor_W (g6 x hx)).2.1⟩,?_⟩
 have q1:=flat_bd (en:=encEnt) (sz:=REn.sz) (C:=400) (l:=c.ents) fun x hx=>ent_le (g1 x hx)
 have q2:=flat_bd1 (en:=encStm) (C:=20) (l:=c.stms) fun x hx=>by
  have i1:=encI_length x.time
  have i2:=encI_length x.wall
  unfold encStm
  rw [List.length_append]
  omega
 have q3:=flat_bd (en:=encTv) (sz:=RTv.sz) (C:=3000) (l:=c.tabs) fun x hx=>tv_le (g3 x hx).1 fun p hp=>(encVer_le (gv x hx p hp) ((hi.tabI x hx).2 p hp).ok).1
 have q4:=flat_bd1 (en:=encHld) (C:=200) (l:=c.pla) fun x hx=>(hld_W (g4 x hx)).2.2
 have q5:=flat_bd1 (en:=encPol) (C:=200) (l:=c.pol) fun x hx=>(pol_W (g5 x hx)).2.2
 have q6:=flat_bd1 (en:=encHor) (C:=200) (l:=c.hor) fun x hx=>(hor_W (g6 x hx)).2.2
 have z1:=hl.entZ
 have z2:=hl.tabZ
 have z3:=hl.pla
 have z4:=hl.stms
 have z5:=hl.pol
 have z6:=hl.hor
 have i1:=encI_length c.tx
 have i2:=encI_length c.time
 have i3:=encI_length c.wall
 have i4:=encI_length c.next
 have i5:=encI_length c.ents.length
 have i6:=encI_length c.stms.length
 have i7:=encI_length c.pla.length
 have i8:=encI_length c.tabs.length
 have i9:=encI_length c.pol.length
 have ia:=encI_length c.hor.length
 unfold encSt encE encM encTT encH encP encZ
 simp only [List.length_append]
 omega
theorem wStm_any (base B:Nat) (l:List UInt8) (a b:Int) (w:World) (hbB:base≤B) (h:BufAt w base B l) (ha1: -9223372036854775808≤a) (ha2:a≤9223372036854775807) (hb1: -9223372036854775808≤b) (hb2:b≤9223372036854775807) (hl:(l++(encI a++(encI b))).length+4000≤140737488300000):
  Calls prog 51 #[.pointer (some ⟨B,0,none⟩),.agg #[.int .i64 a,.int .i64 b]] w (BufOut base B (l++(encI a++(encI b))) w):=by
 exact zq3 4
theorem wTv_any (base B:Nat) (l:List UInt8) (S:ByteArray) (A:Option Addr) (C:Nat) (ps:List VP) (w:World) (hbB:base≤B) (h:BufAt w base B l) (hS:S.size≤300) (hp:RdVs w (·<base) (.slice A ps.length C) ps) (hval:∀p∈ps,validVer p.2=true) (hn:ps.length≤1048576) (hl:(l++((encI S.size++S.data.toList)++(encVsB (ps.map (·.2))))).length+30000000000≤140737488300000):
  Calls prog 53 #[.pointer (some ⟨B,0,none⟩),.agg #[.string S,.slice A ps.length C]] w (BufOut base B (l++((encI S.size++S.data.toList)++(encVsB (ps.map (·.2))))) w):=by
 exact zq2 1
theorem putStm (base B:Nat) (l:List UInt8) (A:Option Addr) (c:Nat) (xs:List Stm) (en:Stm→List UInt8) (w:World) (hbB:base≤B) (h:BufAt w base B l) (hv:RdE 2 Stm.enc w (·<base) (.slice A xs.length c) xs)
  (hone:∀x∈xs,∀(W:World) (m:List UInt8),BufAt W base B m→Below base w W→KeepO B w W→(m++en x).length+4000≤140737488300000→Calls prog 51 #[.pointer (some ⟨B,0,none⟩),.agg (Stm.enc x).toArray] W (BufOut base B (m++en x) W))
  (hl:(l++(encI xs.length++xs.flatMap en)).length+4000≤140737488300000):
  Calls prog 50 #[.pointer (some ⟨B,0,none⟩),.slice A xs.length c,.func (.func 51) #[] #[]] w (BufOut base B (l++(encI xs.length++xs.flatMap en)) w):=by
 exact zq5 6
theorem putTv (base B:Nat) (l:List UInt8) (A:Option Addr) (c:Nat) (xs:List RTv) (en:RTv→List UInt8) (w:World) (hbB:base≤B) (h:BufAt w base B l) (hv:RdE 2 RTv.enc w (·<base) (.slice A xs.length c) xs)
  (hone:∀x∈xs,∀(W:World) (m:List UInt8),BufAt W base B m→Below base w W→KeepO B w W→(m++en x).length+30000000000≤140737488300000→Calls prog 53 #[.pointer (some ⟨B,0,none⟩),.agg (RTv.enc x).toArray] W (BufOut base B (m++en x) W))
  (hl:(l++(encI xs.length++xs.flatMap en)).length+30000000000≤140737488300000):
  Calls prog 52 #[.pointer (some ⟨B,0,none⟩),.slice A xs.length c,.func (.func 53) #[] #[]] w (BufOut base B (l++(encI xs.length++xs.flatMap en)) w):=by
 exact zq5 3
theorem putM_c (B:Nat) (l:List UInt8) (A:Option Addr) (c:Nat) (xs:List Stm) (w:World) (h:BufAt w B B l) (hv:RdE 2 Stm.enc w (·<B) (.slice A xs.length c) xs) (hx:∀x∈xs,(0≤x.time∧x.time≤1099511627775)∧0≤x.wall∧x.wall≤x.time) (hl:(l++encM xs).length≤10000000000):
  Calls prog 50 #[.pointer (some ⟨B,0,none⟩),.slice A xs.length c,.func (.func 51) #[] #[]] w (BufOut B B (l++encM xs) w):=
 putStm B B l A c xs encStm w (Nat.le_refl _) h hv (fun x hm W m hA hb _ hlen=>by
  have q:=hx x hm
  exact wStm_any B B m x.time x.wall W (Nat.le_refl _) hA (by omega) (by omega) (by omega) (by omega) hlen) (by unfold encM at hl;omega)
theorem putTT_c (B:Nat) (l:List UInt8) (A:Option Addr) (c:Nat) (xs:List RTv) (w:World) (h:BufAt w B B l) (hv:RdE 2 RTv.enc w (·<B) (.slice A xs.length c) xs) (hx:∀x∈xs,tvW w B x) (hl:(l++encTT xs).length≤10000000000):
  Calls prog 52 #[.pointer (some ⟨B,0,none⟩),.slice A xs.length c,.func (.func 53) #[] #[]] w (BufOut B B (l++encTT xs) w):=
 putTv B B l A c xs encTv w (Nat.le_refl _) h hv (fun x hm W m hA hb _ hlen=>by
  have q:=(hx x hm).keep hb
  exact wTv_any B B m x.table x.A x.C x.vers W (Nat.le_refl _) hA q.nm q.rd q.ok q.few hlen) (by unfold encTT at hl;omega)
structure stR (w:World) (base:Nat) (c:RSt):Prop where
 ents:RdE 16 REn.enc w (·<base) (.slice c.eA c.ents.length c.eC) c.ents
 stms:RdE 2 Stm.enc w (·<base) (.slice c.sA c.stms.length c.sC) c.stms
 tabs:RdE 2 RTv.enc w (·<base) (.slice c.tA c.tabs.length c.tC) c.tabs
 pla:RdE 6 Hld.enc w (·<base) (.slice c.pA c.pla.length c.pC) c.pla
 pol:RdE 2 Pol.enc w (·<base) (.slice c.qA c.pol.length c.qC) c.pol
 hor:RdE 2 Hor.enc w (·<base) (.slice c.hA c.hor.length c.hC) c.hor
theorem stR.keep {w w':World} {base:Nat} {c:RSt} (h:stR w base c) (hb:Below base w w'):stR w' base c:=⟨h.ents.keep (Keeps.below hb),h.stms.keep (Keeps.below hb),h.tabs.keep (Keeps.below hb),h.pla.keep (Keeps.below hb),h.pol.keep (Keeps.below hb),h.hor.keep (Keeps.below hb)⟩
def outS (c:RSt):List UInt8:=if stateF c=0 then encSt c else []
def EncSO (c:RSt) (w0:World) (e:Ending) (w:World):Prop:=∃u,e=.returned (.tuple #[u,.int .i64 (stateF c)])∧RdB w (fun b=>w0.heap.size≤b∧b<w.heap.size) u (outS c)∧Bl w0 w∧(stateF c=0→(encSt c).length≤10000000000)
theorem recEncodeState_any (c:RSt) (w:World) (hc:c.is w (ltw w)) (hl:c.lim w):Calls prog 20 #[.agg c.enc.toArray] w (EncSO c w):=by
 show Calls prog 20 #[.agg #[.int .i64 c.tx,.int .i64 c.time,.int .i64 c.wall,.int .i64 c.next,.slice c.eA c.ents.length c.eC,.slice c.sA c.stms.length c.sC,.slice c.tA c.tabs.length c.tC,.slice c.pA c.pla.length c.pC,.slice c.qA c.pol.length c.qC,.slice c.hA c.hor.length c.hC]] w (EncSO c w)
 obtain ⟨W,hW⟩:=eN0 (w.alloc (.cells #[.int .i64 c.tx,.int .i64 c.time,.int .i64 c.wall,.int .i64 c.next,.slice c.eA c.ents.length c.eC,.slice c.sA c.stms.length c.sC,.slice c.tA c.tabs.length c.tC,.slice c.pA c.pla.length c.pC,.slice c.qA c.pol.length c.qC,.slice c.hA c.hor.length c.hC] 29))
 have hbW:=bN0 hW
 have hWs:w.heap.size<W.heap.size:=by rw [hW];simp
 have hT:=hN0 hW
 have HBW:=hI0 hbW
 have HWS:=hI0 hWs
 have HT:=hI0 hT
 have KC0:Calls prog 46 #[.agg #[.int .i64 c.tx,.int .i64 c.time,.int .i64 c.wall,.int .i64 c.next,.slice c.eA c.ents.length c.eC,.slice c.sA c.stms.length c.sC,.slice c.tA c.tabs.length c.tC,.slice c.pA c.pla.length c.pC,.slice c.qA c.pol.length c.qC,.slice c.hA c.hor.length c.hC]] W _:=checkState_any c W (hc.below hbW)
 obtain ⟨k,hk⟩:=eN0 (stateF c)
 rw [←hk] at KC0
 have HC:=hI0 (hc.below hbW)
 have HL:=hI0 hl
 have HK:=hI0 hk
 obtain ⟨z1,z2⟩:=hc.ents.bd
 obtain ⟨z3,z4⟩:=hc.stms.bd
 obtain ⟨z5,z6⟩:=hc.pla.bd
 obtain ⟨z7,z8⟩:=hc.tabs.bd
 obtain ⟨z9,z10⟩:=hc.pol.bd
 obtain ⟨z11,z12⟩:=hc.hor.bd
 obtain ⟨c0,c1,c2,c3,c4,c5,c6,c7,c8,c9⟩:=cX10 hT
 clear hbW hWs hT hc hl hk
 by_cases h0:k=0
 case neg=>
  go_in
  go_wp2_with fail
  rw [←hW]
  clear hW
  (with_reducible refine KC0.mono ?_)
  rintro _ w1 ⟨rfl,hb1⟩
  have HB1:=bT0 HBW hb1
  clear hb1 KC0 c0 c1 c2 c3 c4 c5 c6 c7 c8 c9
  go_wp2_with fail
  go_ret2
  refine ⟨.slice none 0 0,by rw [←HK.out]<;>rfl,?_,HB1.out,fun h=>absurd (HK.out.trans h) h0⟩
  rw [show outS c=[] from if_neg (fun h=>h0 (HK.out.trans h))]
  exact Rd.nil _ _ _
 have KC:Calls prog 46 #[.agg #[.int .i64 c.tx,.int .i64 c.time,.int .i64 c.wall,.int .i64 c.next,.slice c.eA c.ents.length c.eC,.slice c.sA c.stms.length c.sC,.slice c.tA c.tabs.length c.tC,.slice c.pA c.pla.length c.pC,.slice c.qA c.pol.length c.qC,.slice c.hA c.hor.length c.hC]] W fun e w'=>e=.returned (.int .i64 0)∧Bl W w':=by rw [h0] at KC0;exact KC0
 have HK0:Hid (stateF c=0):=hI0 (by rw [←HK.out];exact h0)
 obtain ⟨f,f0,f1,f2,f3,f4⟩:∃f:Nat→List UInt8,f 0=[]∧f 1=f 0++encI c.tx∧f 2=f 1++encI c.time∧f 3=f 2++encI c.wall∧f 4=f 3++encI c.next:=⟨fun k=>([c.tx,c.time,c.wall,c.next].take k).flatMap encI,by simp,by simp,by simp,by simp,by simp⟩
 have HF:=hI0 (And.intro f0 (And.intro f1 (And.intro f2 (And.intro f3 f4))))
 have i1:=encI_length c.tx
 have i2:=encI_length c.time
 have i3:=encI_length c.wall
 have i4:=encI_length c.next
 have n0:(f 0).length=0:=by rw [f0];rfl
 have n1:(f 1).length≤10:=by rw [f1,List.length_append];omega
 have n2:(f 2).length≤20:=by rw [f2,List.length_append];omega
 have n3:(f 3).length≤30:=by rw [f3,List.length_append];omega
 have HN:=hI0 (And.intro n0 (And.intro n1 (And.intro n2 n3)))
 clear KC0 h0 f0 f1 f2 f3 f4 i1 i2 i3 i4 n0 n1 n2 n3
 go_in
 go_wp2_with fail
 rw [←hW]
 clear hW
 (with_reducible refine KC.mono ?_)
 rintro _ w1 ⟨rfl,hb1⟩
 have HB1:=bT0 HBW hb1
 have hT1:=(hb1.block w.heap.size HWS.out).trans HT.out
 have hwB:w.heap.size<w1.heap.size:=by have:=hb1.size;have:=HWS.out;omega
 have hi1:=HC.out.below hb1
 have hcw:=st_W HK0.out hi1 HL.out
 have hcr:stR w1 w1.heap.size c:=⟨hi1.ents,hi1.stms,hi1.tabs,hi1.pla,hi1.pol,hi1.hor⟩
 clear hi1
 clear hb1 KC c0 c1 c2 c3 c4 c5 c6 c7 c8 c9
 obtain ⟨B,hBe⟩:=eN0 w1.heap.size
 obtain ⟨W2,hW2⟩:=eN0 (w1.alloc (.cells #[.slice none 0 0] 123))
 have hb2:=bN0 hW2
 have hs2:W2.heap.size=B+1:=by rw [hW2,hBe];simp
 have hA2:BufAt W2 B B (f 0):=⟨.slice none 0 0,by rw [hW2,hBe];exact heap_alloc_new _ _,by rw [HF.out.1];exact OwnB.nil _ _⟩
 obtain ⟨W3,hW3⟩:=eN0 (W2.alloc (.cells #[.int .i64 c.tx,.int .i64 c.time,.int .i64 c.wall,.int .i64 c.next] 3))
 have hb3:=bN0 hW3
 have hN3:W3.heap[B+1]? =some (.cells #[.int .i64 c.tx,.int .i64 c.time,.int .i64 c.wall,.int .i64 c.next] 3 (0,0)):=by rw [hW3,←hs2];exact heap_alloc_new _ _
 have hs3:W3.heap.size=B+2:=by rw [hW3];simp [hs2]
 have HA3:=hI0 (hA2.below hb3)
 have HN3:=hI0 hN3
 have hb13:Bl w1 W3:=hb2.trans (hb3.mono hb2.size)
 have HB3:=bT0 HB1 hb13
 have HT3:=hI0 ((hb13.block w.heap.size hwB).trans hT1)
 have HWB:Hid (w.heap.size<B):=hI0 (by rw [hBe];exact hwB)
 have HS3:=hI0 hs3
 have HCW:Hid (stW W3 B c):=hI0 (by rw [hBe];exact hcw.keep hb13)
 have HCR:Hid (stR W3 B c):=hI0 (by rw [hBe];exact hcr.keep hb13)
 have hT2:=(hb2.block w.heap.size hwB).trans hT1
 obtain ⟨c0,c1,c2,c3,c4,c5,c6,c7,c8,c9⟩:=cX10 hT2
 clear hb2 hA2 hb3 hN3 hb13 hT1 hT2 hwB hs3 hcw hcr
 go_upto_region 5 with (fail)
 rw [←hW2,←hBe]
 clear hW2 hBe
 go_wp2_with fail
 rw [←hW3]
 clear hW3 hs2 c0 c1 c2 c3 c4 c5 c6 c7 c8 c9
 go_loopw [25] (fun i wr=>∃k:Nat,i=.int .i64 (k:Int)∧k≤4∧Hid (BufAt wr B B (f k))∧Hid (Below B W3 wr)∧Hid (KeepO B W3 wr)) (fun i _=>4-(intOf i).toNat)
 case atStart=>exact ⟨0,rfl,by omega,HA3,hI0 (Below.refl _ _),hI0 (KeepO.refl _ _)⟩
 obtain ⟨k,rfl,hk,HA,HB,HK⟩:=hrel
 obtain ⟨wo,rfl⟩:=eN0 wr
 have hNo:=(HK.out.2 (B+1) (by have:=HS3.out;omega) (by omega) (by intro cur;rw [HN3.out];simp)).trans HN3.out
 obtain rfl|rfl|rfl|rfl|rfl:k=0∨k=1∨k=2∨k=3∨k=4:=by omega
 ·exact zq20 3
 ·exact zq20 2
 ·exact zq20 0
 ·exact zq20 1
 ·clear hNo
  have HA0:Hid (BufAt wo B B (f 4)):=HA
  clear HA
  obtain ⟨L0,hL0⟩:=eN0 (f 4)
  rw [←hL0] at HA0
  obtain ⟨L1,hL1⟩:=eN0 (L0++encE c.ents)
  obtain ⟨L2,hL2⟩:=eN0 (L1++encM c.stms)
  obtain ⟨L3,hL3⟩:=eN0 (L2++encTT c.tabs)
  obtain ⟨L4,hL4⟩:=eN0 (L3++encH c.pla)
  obtain ⟨L5,hL5⟩:=eN0 (L4++encP c.pol)
  obtain ⟨L6,hL6⟩:=eN0 (L5++encZ c.hor)
  have hLe:L6=encSt c:=by
   obtain ⟨q0,q1,q2,q3,q4⟩:=HF.out
   rw [hL6,hL5,hL4,hL3,hL2,hL1,hL0,q4,q3,q2,q1,q0]
   unfold encSt
   simp only [List.nil_append]
  have m6:L6.length≤10000000000:=by rw [hLe];exact HCW.out.len
  have m5:L5.length≤10000000000:=by rw [hL6,List.length_append] at m6;omega
  have m4:L4.length≤10000000000:=by rw [hL5,List.length_append] at m5;omega
  have m3:L3.length≤10000000000:=by rw [hL4,List.length_append] at m4;omega
  have m2:L2.length≤10000000000:=by rw [hL3,List.length_append] at m3;omega
  have m1:L1.length≤10000000000:=by rw [hL2,List.length_append] at m2;omega
  have m0:L0.length≤10000000000:=by rw [hL1,List.length_append] at m1;omega
  have KP:=putE_c B L0 c.eA c.eC c.ents wo HA0.out (HCR.out.keep (HB.out)).ents (HCW.out.keep (HB.out)).ents (by rw [←hL1];exact m1)
  rw [←hL1] at KP
  have hTc:=(HB.out.block w.heap.size HWB.out).trans HT3.out
  have c4:=cW1 4 hTc rfl
  clear hTc
  go_wp2_with fail
  (with_reducible refine KP.mono ?_)
  rintro _ y1 ⟨rfl,hA2,hb2,hk2⟩
  have HA1:Hid (BufAt y1 B B L1):=hI0 hA2
  have HBq1:Hid (Below B W3 y1):=hI0 (HB.out.trans hb2)
  clear hA2 hb2 hk2 KP c4
  have KP:=putM_c B L1 c.sA c.sC c.stms y1 HA1.out (HCR.out.keep (HBq1.out)).stms (HCW.out.keep (HBq1.out)).stms (by rw [←hL2];exact m2)
  rw [←hL2] at KP
  have hTc:=(HBq1.out.block w.heap.size HWB.out).trans HT3.out
  have c5:=cW1 5 hTc rfl
  clear hTc
  go_wp2_with fail
  (with_reducible refine KP.mono ?_)
  rintro _ y2 ⟨rfl,hA2,hb2,hk2⟩
  have HA2:Hid (BufAt y2 B B L2):=hI0 hA2
  have HBq2:Hid (Below B W3 y2):=hI0 (HBq1.out.trans hb2)
  clear hA2 hb2 hk2 KP c5
  have KP:=putTT_c B L2 c.tA c.tC c.tabs y2 HA2.out (HCR.out.keep (HBq2.out)).tabs (HCW.out.keep (HBq2.out)).tabs (by rw [←hL3];exact m3)
  rw [←hL3] at KP
  have hTc:=(HBq2.out.block w.heap.size HWB.out).trans HT3.out
  have c6:=cW1 6 hTc rfl
  clear hTc
  go_wp2_with fail
  (with_reducible refine KP.mono ?_)
  rintro _ y3 ⟨rfl,hA2,hb2,hk2⟩
  have HA3:Hid (BufAt y3 B B L3):=hI0 hA2
  have HBq3:Hid (Below B W3 y3):=hI0 (HBq2.out.trans hb2)
  clear hA2 hb2 hk2 KP c6
  have KP:=putH_c B L3 c.pA c.pC c.pla y3 HA3.out (HCR.out.keep (HBq3.out)).pla (HCW.out.keep (HBq3.out)).pla (by rw [←hL4];exact m4)
  rw [←hL4] at KP
  have hTc:=(HBq3.out.block w.heap.size HWB.out).trans HT3.out
  have c7:=cW1 7 hTc rfl
  clear hTc
  go_wp2_with fail
  (with_reducible refine KP.mono ?_)
  rintro _ y4 ⟨rfl,hA2,hb2,hk2⟩
  have HA4:Hid (BufAt y4 B B L4):=hI0 hA2
  have HBq4:Hid (Below B W3 y4):=hI0 (HBq3.out.trans hb2)
  clear hA2 hb2 hk2 KP c7
  have KP:=putP_c B L4 c.qA c.qC c.pol y4 HA4.out (HCR.out.keep (HBq4.out)).pol (HCW.out.keep (HBq4.out)).pol (by rw [←hL5];exact m5)
  rw [←hL5] at KP
  have hTc:=(HBq4.out.block w.heap.size HWB.out).trans HT3.out
  have c8:=cW1 8 hTc rfl
  clear hTc
  go_wp2_with fail
  (with_reducible refine KP.mono ?_)
  rintro _ y5 ⟨rfl,hA2,hb2,hk2⟩
  have HA5:Hid (BufAt y5 B B L5):=hI0 hA2
  have HBq5:Hid (Below B W3 y5):=hI0 (HBq4.out.trans hb2)
  clear hA2 hb2 hk2 KP c8
  have KP:=putZ_c B L5 c.hA c.hC c.hor y5 HA5.out (HCR.out.keep (HBq5.out)).hor (HCW.out.keep (HBq5.out)).hor (by rw [←hL6];exact m6)
  rw [←hL6] at KP
  have hTc:=(HBq5.out.block w.heap.size HWB.out).trans HT3.out
  have c9:=cW1 9 hTc rfl
  clear hTc
  go_wp2_with fail
  (with_reducible refine KP.mono ?_)
  rintro _ y6 ⟨rfl,hA2,hb2,hk2⟩
  have HA6:Hid (BufAt y6 B B L6):=hI0 hA2
  have HBq6:Hid (Below B W3 y6):=hI0 (HBq5.out.trans hb2)
  clear hA2 hb2 hk2 KP c9
  obtain ⟨v,hB,hO⟩:=HA6.out
  obtain ⟨Av,cv,rfl,x1,x2,x3⟩:=Rd.open_ (Rd.of_own hO)
  have q0:=cW1 0 hB rfl
  have HO:=hI0 ((Rd.of_own hO).wide (fun b hb=>(⟨by have:=hb.1;have:=HWB.out;omega,hb.2⟩:w.heap.size≤b∧b<y6.heap.size)))
  have HBF:Hid (Bl w y6):=hI0 (HB3.out.trans (HBq6.out.mono (by have:=HWB.out;omega)))
  have HLE:=hI0 hLe
  have HM6:=hI0 m6
  clear hB hO x1 x2 x3 hLe hL0 hL1 hL2 hL3 hL4 hL5 hL6 m0 m1 m2 m3 m4 m5
  go_wp2_with fail
  go_ret2
  have HS0:Hid (stateF c=0):=HK0
  refine ⟨_,by rw [HS0.out]<;>rfl,?_,HBF.out,fun _=>by rw [←HLE.out];exact HM6.out⟩
  rw [show outS c=encSt c from if_pos HS0.out,←HLE.out]
  exact HO.out
end Go.Proofs.YtgfhknnklapldaaGreatDoor
