/-
 SsA
-/
import Derived.Test.YtgfhknnklapldaaGreatDoorPRk1
import Derived.Test.YtgfhknnklapldaaGreatDoorPSm2
import Derived.Test.YtgfhknnklapldaaGreatDoorPSeg1
namespace Go.Proofs.YtgfhknnklapldaaGreatDoor
open Go.Proofs.Tryz
set_option maxRecDepth 99999
set_option maxHeartbeats 0
open Go.RowKit Go.Lib Go.IntWalk Go.Sort Go.Shelf
def prevZ {α:Type} (nm:α→Int) (l:List α) (k:Nat):Option Int:=if k=0 then none else l[k-1]?.map nm
theorem prevZ_succ {α:Type} {nm:α→Int} {l:List α} {k:Nat} (h:k<l.length):prevZ nm l (k+1)=some (nm l[k]):=by
 unfold prevZ;rw [if_neg (Nat.succ_ne_zero k),Nat.add_sub_cancel,List.getElem?_eq_getElem h];rfl
def ascZ {α:Type} (nm:α→Int) (ok:α→Bool) (c:Int) (le:Int→Int→Bool):Option Int→List α→Int
 |_,[]=>0
 |p,x::r=>if ok x=false then c else if (match p with|some y=>le (nm x) y|none=>false)=true then 9 else ascZ nm ok c le (some (nm x)) r
theorem ascZ_at {α:Type} {nm:α→Int} {ok:α→Bool} {c:Int} {le:Int→Int→Bool} {p:Option Int} {l:List α} {k:Nat} (h:k<l.length):ascZ nm ok c le p (l.drop k)=if ok l[k]=false then c else if (match p with|some y=>le (nm l[k]) y|none=>false)=true then 9 else ascZ nm ok c le (prevZ nm l (k+1)) (l.drop (k+1)):=by
 rw [List.drop_eq_getElem_cons h,prevZ_succ h];rfl
theorem ascZ_cons {α:Type} {nm:α→Int} {ok:α→Bool} {c:Int} {le:Int→Int→Bool} {p:Option Int} {x:α} {r:List α}:ascZ nm ok c le p (x::r)=if ok x=false then c else if (match p with|some y=>le (nm x) y|none=>false)=true then 9 else ascZ nm ok c le (some (nm x)) r:=by
 cases p<;>rfl
theorem ascZ_end {α:Type} {nm:α→Int} {ok:α→Bool} {c:Int} {le:Int→Int→Bool} {p:Option Int} {l:List α} {k:Nat} (h:l.length≤k):ascZ nm ok c le p (l.drop k)=0:=by
 rw [List.drop_of_length_le h];rfl
theorem ascZ_ord {α:Type} {nm:α→Int} {ok:α→Bool} {c:Int} {le:Int→Int→Bool} {okE:α→Int} {leE:α→α→Bool} (h1:∀x,okE x=if ok x=true then 0 else c) (h2:∀x y,leE x y=le (nm x) (nm y)) (hc:c≠0):∀(l:List α) (p:Option α),ordF okE leE (fun _=>0) p l=ascZ nm ok c le (p.map nm) l
 |[],p=>by cases p<;>rfl
 |x::r,p=>by
  rw [ordF_cons,ascZ_cons,h1]
  have ih:=ascZ_ord h1 h2 hc r (some x)
  cases hx:ok x
  ·simp [hc]
  ·cases p with
   |none=>simpa [plA] using ih
   |some y=>simp only [plA,h2,Option.map_some];simpa using congrArg (fun z=>if le (nm x) (nm y)=true then 9 else z) ih
def tabsN (v:RTv→Int):Option ByteArray→List RTv→Int
 |_,[]=>0
 |p,x::r=>if nmB x.table=false then 8 else if (match p with|some y=>bleS x.table y|none=>false)=true then 9 else if v x≠0 then v x else tabsN v (some x.table) r
theorem tabsN_at {v:RTv→Int} {p:Option ByteArray} {l:List RTv} {k:Nat} (h:k<l.length):tabsN v p (l.drop k)=if nmB l[k].table=false then 8 else if (match p with|some y=>bleS l[k].table y|none=>false)=true then 9 else if v l[k]≠0 then v l[k] else tabsN v (prevN RTv.table l (k+1)) (l.drop (k+1)):=by
 rw [List.drop_eq_getElem_cons h,prevN_succ h];rfl
theorem tabsN_cons {v:RTv→Int} {p:Option ByteArray} {x:RTv} {r:List RTv}:tabsN v p (x::r)=if nmB x.table=false then 8 else if (match p with|some y=>bleS x.table y|none=>false)=true then 9 else if v x≠0 then v x else tabsN v (some x.table) r:=by
 cases p<;>rfl
theorem tabsN_end {v:RTv→Int} {p:Option ByteArray} {l:List RTv} {k:Nat} (h:l.length≤k):tabsN v p (l.drop k)=0:=by
 rw [List.drop_of_length_le h];rfl
theorem tabsN_ord {v:RTv→Int}:∀(l:List RTv) (p:Option RTv),ordF tvE (fun x y=>bleS x.table y.table) v p l=tabsN v (p.map RTv.table) l
 |[],p=>by cases p<;>rfl
 |x::r,p=>by
  rw [ordF_cons,tabsN_cons]
  have ih:=tabsN_ord (v:=v) r (some x)
  rw [show tvE x=if nmB x.table=true then 0 else 8 from rfl]
  cases hx:nmB x.table
  ·simp
  ·cases p with
   |none=>simp only [plA,Option.map_none] at ih ⊢;simp [ih]
   |some y=>simp only [plA,Option.map_some] at ih ⊢;simp [ih]
def tvK (x:RTv):Int:=chkFrom none (x.vers.map (·.2))
theorem stateF_k (c:RSt):stateF c=if (decide (0≤c.tx∧c.tx≤1125899906842624)&&(decide (1≤c.next∧c.next≤1125899906842624)&&(instB c.time&&decide (0≤c.wall∧c.wall≤c.time))))=false then 6
  else if ascZ REn.time REn.ok 8 (fun a b=>decide (a<b)) none c.ents≠0 then ascZ REn.time REn.ok 8 (fun a b=>decide (a<b)) none c.ents
  else if ascZ Stm.time stmOk 6 (fun a b=>decide (a≤b)) none c.stms≠0 then ascZ Stm.time stmOk 6 (fun a b=>decide (a≤b)) none c.stms
  else if tabsN tvK none c.tabs≠0 then tabsN tvK none c.tabs else if holdsF c.pla≠0 then holdsF c.pla else restF c.pol c.hor:=by
 have e1:entsF c.ents=ascZ REn.time REn.ok 8 (fun a b=>decide (a<b)) none c.ents:=ascZ_ord (nm:=REn.time) (ok:=REn.ok) (c:=8) (le:=fun a b=>decide (a<b)) (okE:=enE) (leE:=fun x y=>decide (x.time<y.time)) (fun _=>rfl) (fun _ _=>rfl) (by decide) c.ents none
 have e2:stmsF c.stms=ascZ Stm.time stmOk 6 (fun a b=>decide (a≤b)) none c.stms:=ascZ_ord (nm:=Stm.time) (ok:=stmOk) (c:=6) (le:=fun a b=>decide (a≤b)) (okE:=stmE) (leE:=fun x y=>decide (x.time≤y.time)) (fun _=>rfl) (fun _ _=>rfl) (by decide) c.stms none
 have e3:tabsF c.tabs=tabsN tvK none c.tabs:=tabsN_ord _ none
 rw [←e1,←e2,←e3];rfl
theorem kstate_any (c:RSt) (w:World) (hc:c.is w (ltw w)) (hlm:c.lim w):Calls prog 28 #[.agg c.enc.toArray] w fun e w'=>e=.returned (.int .i64 (stateF c))∧Bl w w':=by
 have HI0:=hI0 hc
 have HL0:=hI0 hlm
 obtain ⟨rs,hrs⟩:=eN0 (stateF c)
 rw [←hrs]
 rw [stateF_k] at hrs
 obtain ⟨stx,stm,swl,snx,seA,seC,sents,ssA,ssC,sstms,stA,stC,stabs,spA,spC,spla,sqA,sqC,spol,shA,shC,shor⟩:=c
 have HI:Hid (RSt.is w (ltw w) ⟨stx,stm,swl,snx,seA,seC,sents,ssA,ssC,sstms,stA,stC,stabs,spA,spC,spla,sqA,sqC,spol,shA,shC,shor⟩):=HI0
 have HLM:Hid (RSt.lim w ⟨stx,stm,swl,snx,seA,seC,sents,ssA,ssC,sstms,stA,stC,stabs,spA,spC,spla,sqA,sqC,spol,shA,shC,shor⟩):=HL0
 obtain ⟨a1,a2⟩:=hc.ents.bd
 obtain ⟨b1,b2⟩:=hc.stms.bd
 obtain ⟨d1,d2⟩:=hc.tabs.bd
 simp only at a1 a2 b1 b2 d1 d2 hrs
 obtain ⟨rest4,hrest4⟩:=eN0 (if holdsF spla≠0 then holdsF spla else restF spol shor)
 obtain ⟨rest3,hrest3⟩:=eN0 (if tabsN tvK none stabs≠0 then tabsN tvK none stabs else rest4)
 obtain ⟨rest2,hrest2⟩:=eN0 (if ascZ Stm.time stmOk 6 (fun a b=>decide (a≤b)) none sstms≠0 then ascZ Stm.time stmOk 6 (fun a b=>decide (a≤b)) none sstms else rest3)
 obtain ⟨ob,hob⟩:=eN0 ((decide (0≤stx∧stx≤1125899906842624)&&(decide (1≤snx∧snx≤1125899906842624)&&(instB stm&&decide (0≤swl∧swl≤stm)))))
 have HR0:Hid (rs=if ob=false then 6 else if ascZ REn.time REn.ok 8 (fun a b=>decide (a<b)) none sents≠0 then ascZ REn.time REn.ok 8 (fun a b=>decide (a<b)) none sents else rest2):=hI0 (by rw [hrs,hob,hrest2,hrest3,hrest4])
 have HR2:=hI0 hrest2
 have HR3:=hI0 hrest3
 have HR4:=hI0 hrest4
 have HRX:Hid (ob=(decide (0≤stx∧stx≤1125899906842624)&&(decide (1≤snx)&&(decide (0≤snx∧snx≤1125899906842624)&&(instB stm&&decide (0≤swl∧swl≤stm)))))):=hI0 (by rw [hob];unfold instB;rw [Bool.eq_iff_iff];simp only [Bool.and_eq_true,decide_eq_true_eq];omega)
 show Calls prog 28 #[.agg #[.int .i64 stx,.int .i64 stm,.int .i64 swl,.int .i64 snx,.slice seA sents.length seC,.slice ssA sstms.length ssC,.slice stA stabs.length stC,.slice spA spla.length spC,.slice sqA spol.length sqC,.slice shA shor.length shC]] w _
 clear hrs hc hlm HI0 HL0 hob hrest2 hrest3 hrest4
 obtain ⟨W,hW⟩:=eN0 (w.alloc (.cells #[.int .i64 stx,.int .i64 stm,.int .i64 swl,.int .i64 snx,.slice seA sents.length seC,.slice ssA sstms.length ssC,.slice stA stabs.length stC,.slice spA spla.length spC,.slice sqA spol.length sqC,.slice shA shor.length shC] 29))
 have HBW:Hid (Bl w W):=hI0 (by rw [hW];exact Below.of_alloc _)
 have HT:Hid (W.heap[w.heap.size]? =some (.cells #[.int .i64 stx,.int .i64 stm,.int .i64 swl,.int .i64 snx,.slice seA sents.length seC,.slice ssA sstms.length ssC,.slice stA stabs.length stC,.slice spA spla.length spC,.slice sqA spol.length sqC,.slice shA shor.length shC] 29 (0,0))):=hI0 (by rw [hW];exact heap_alloc_new _ _)
 have HWS:Hid (w.heap.size<W.heap.size):=hI0 (by rw [hW];simp)
 have HW:=hI0 hW
 clear hW
 obtain ⟨c0,c1,c2,c3,c4,c5,c6,c7,c8,c9⟩:=cX10 HT.out
 obtain ⟨v1,hv1⟩:=eN0 (decide (0≤stx∧stx≤1125899906842624))
 have K1:=fun (V:World) (hV:Bl w V)=>knum_any stx V
 rw [←hv1] at K1 HRX
 clear hv1
 obtain ⟨v2,hv2⟩:=eN0 (decide (0≤snx∧snx≤1125899906842624))
 have K2:=fun (V:World) (hV:Bl w V)=>knum_any snx V
 rw [←hv2] at K2 HRX
 clear hv2
 obtain ⟨v3,hv3⟩:=eN0 (instB stm)
 have K3:=fun (V:World) (hV:Bl w V)=>kinst_any stm V
 rw [←hv3] at K3 HRX
 clear hv3
 have KK1:=K1 W HBW.out
 go_in
 go_wp2_with fail
 try rw [←HW.out]
 (with_reducible refine KK1.mono ?_)
 rintro _ z1 ⟨rfl,hz1⟩
 clear KK1
 rw [hz1]
 clear hz1 z1
 cases v1
 case false=>
  have HF:Hid (ob=false):=hI0 (by rw [HRX.out]<;>simp)
  have HFO:Hid (rs=6):=hI0 (by rw [HR0.out];exact if_pos HF.out)
  go_wp2_with fail
  go_ret
  exact ⟨by rw [HFO.out]<;>first|rfl|(simp;done),HBW.out⟩
 case true=>
  by_cases t2_0:snx<1
  case pos=>
   have g2:decide (1≤snx)=false:=decide_eq_false (by omega)
   have HF:Hid (ob=false):=hI0 (by rw [HRX.out,g2]<;>simp)
   have HFO:Hid (rs=6):=hI0 (by rw [HR0.out];exact if_pos HF.out)
   go_wp2_with fail
   go_ret
   exact ⟨by rw [HFO.out]<;>first|rfl|(simp;done),HBW.out⟩
  case neg=>
   have g2:decide (1≤snx)=true:=decide_eq_true (by omega)
   have G2:=hI0 g2
   clear g2
   have KK3:=K2 W HBW.out
   go_wp2_with fail
   (with_reducible refine KK3.mono ?_)
   rintro _ z3 ⟨rfl,hz3⟩
   clear KK3
   rw [hz3]
   clear hz3 z3
   cases v2
   case false=>
    have HF:Hid (ob=false):=hI0 (by rw [HRX.out]<;>simp)
    have HFO:Hid (rs=6):=hI0 (by rw [HR0.out];exact if_pos HF.out)
    go_wp2_with fail
    go_ret
    exact ⟨by rw [HFO.out]<;>first|rfl|(simp;done),HBW.out⟩
   case true=>
    have KK4:=K3 W HBW.out
    go_wp2_with fail
    (with_reducible refine KK4.mono ?_)
    rintro _ z4 ⟨rfl,hz4⟩
    clear KK4
    rw [hz4]
    clear hz4 z4
    cases v3
    case false=>
     have HF:Hid (ob=false):=hI0 (by rw [HRX.out]<;>simp)
     have HFO:Hid (rs=6):=hI0 (by rw [HR0.out];exact if_pos HF.out)
     go_wp2_with fail
     go_ret
     exact ⟨by rw [HFO.out]<;>first|rfl|(simp;done),HBW.out⟩
    case true=>
     by_cases t5_0:swl<0
     case pos=>
      have g5:decide (0≤swl∧swl≤stm)=false:=decide_eq_false (by omega)
      have HF:Hid (ob=false):=hI0 (by rw [HRX.out,g5]<;>simp)
      have HFO:Hid (rs=6):=hI0 (by rw [HR0.out];exact if_pos HF.out)
      go_wp2_with fail
      go_ret
      exact ⟨by rw [HFO.out]<;>first|rfl|(simp;done),HBW.out⟩
     case neg=>
      by_cases t5_1:stm<swl
      case pos=>
       have g5:decide (0≤swl∧swl≤stm)=false:=decide_eq_false (by omega)
       have HF:Hid (ob=false):=hI0 (by rw [HRX.out,g5]<;>simp)
       have HFO:Hid (rs=6):=hI0 (by rw [HR0.out];exact if_pos HF.out)
       go_wp2_with fail
       go_ret
       exact ⟨by rw [HFO.out]<;>first|rfl|(simp;done),HBW.out⟩
      case neg=>
       have g5:decide (0≤swl∧swl≤stm)=true:=decide_eq_true (by omega)
       have G5:=hI0 g5
       clear g5
       have HOB:Hid (ob=true):=hI0 (by rw [HRX.out,G2.out,G5.out];first|rfl|(simp;done))
       have HR1:Hid (rs=if ascZ REn.time REn.ok 8 (fun a b=>decide (a<b)) none sents≠0 then ascZ REn.time REn.ok 8 (fun a b=>decide (a<b)) none sents else rest2):=hI0 (by rw [HR0.out];exact if_neg (by rw [HOB.out];simp))
       go_wp2_with fail
       clear c0 c1 c2 c3 c4 c5 c6 c7 c8 c9
       go_loopw [47] (fun i wr=>∃k:Nat,i=.int .i64 (k:Int)∧k≤sents.length∧Hid (ascZ REn.time REn.ok 8 (fun a b=>decide (a<b)) (prevZ REn.time sents k) (sents.drop k)=ascZ REn.time REn.ok 8 (fun a b=>decide (a<b)) none sents)∧Hid (Bl w wr)∧Hid (wr.heap[w.heap.size]? =some (.cells #[.int .i64 stx,.int .i64 stm,.int .i64 swl,.int .i64 snx,.slice seA sents.length seC,.slice ssA sstms.length ssC,.slice stA stabs.length stC,.slice spA spla.length spC,.slice sqA spol.length sqC,.slice shA shor.length shC] 29 (0,0)))) (fun i _=>sents.length-(intOf i).toNat)
       case atStart=>exact ⟨0,rfl,Nat.zero_le _,hI0 rfl,HBW,HT⟩
       case round=>
        obtain ⟨k,rfl,hk,HG,HB6,HTB6⟩:=hrel
        obtain ⟨wi6,rfl⟩:=eN0 wr
        by_cases hlt:k<sents.length
        case pos=>
         have hlt2:(k:Int)<(sents.length:Int):=by omega
         obtain ⟨b,off,rfl,hF,hcl⟩:=RdE.at_ (K:=16) (enc:=REn.enc) (fun _=>rfl) (by omega) (HI.out.ents.below HB6.out) hlt
         have HCL:Hid (∀i (hi:i<sents.length) j u,j<16→(REn.enc sents[i])[j]? =some u→wi6.cell? ⟨b,off+i*16+j,none⟩=some u):=hI0 hcl
         obtain ⟨BB,hBB⟩:∃B0,wi6.heap[b]? =some B0:=⟨_,Array.getElem?_eq_getElem hF⟩
         have HBB:=hI0 hBB
         have HBB0:=hI0 hBB
         have HLK:=hI0 hlt
         have hg:=HG.out
         rw [ascZ_at hlt] at hg
         have hmem:=List.getElem_mem hlt
         have hcx0:=HCL.out k hlt
         obtain ⟨x,hx⟩:=eN0 (sents[k]'hlt)
         rw [←hx] at hcx0
         rw [←hx] at hmem
         rw [←hx] at hg
         have hcx:∀j u,j<16→(REn.enc x)[j]? =some u→wi6.cell? ⟨b,off+k*16+j,none⟩=some u:=hcx0
         clear hcl hx hBB hcx0
         obtain ⟨tm2,tb,⟨nm,colA,colC,cols,keyA,keyC,key,forA,forC,fors,chkA,chkC,chks⟩,⟨x1,x2,x3,x4,x5,x6,⟨x7,x8,x9⟩⟩⟩:=x
         obtain ⟨g0,g1,g2,g3,g4,g5,g6,g7,g8,g9,g10,g11,g12,g13,g14,g15⟩:=cK16 hcx (show _=[.int .i64 tm2,.string tb,.string nm,.slice colA cols.length colC,.slice keyA key.length keyC,.slice forA fors.length forC,.slice chkA chks.length chkC,.int .i64 x1,.string x2,.string x3,.string x4,.int .i64 x5,.bool x6,.int .i64 x7,.int .i64 x8,.string x9] from rfl)
         have hxi:=HI.out.entI _ hmem
         have hxs:=HLM.out.entS _ hmem
         obtain ⟨ox,hox⟩:=eN0 (REn.ok ⟨tm2,tb,⟨nm,colA,colC,cols,keyA,keyC,key,forA,forC,fors,chkA,chkC,chks⟩,⟨x1,x2,x3,x4,x5,x6,⟨x7,x8,x9⟩⟩⟩)
         have HG2:Hid (((if ox=false then 8 else if (match (prevZ REn.time sents k) with|some q=>decide (tm2<q)|none=>false)=true then 9 else ascZ REn.time REn.ok 8 (fun a b=>decide (a<b)) (prevZ REn.time sents (k+1)) (sents.drop (k+1)))=ascZ REn.time REn.ok 8 (fun a b=>decide (a<b)) none sents)):=hI0 (by rw [hox];exact hg)
         have HRX:Hid (ox=(REn.ok ⟨tm2,tb,⟨nm,colA,colC,cols,keyA,keyC,key,forA,forC,fors,chkA,chkC,chks⟩,⟨x1,x2,x3,x4,x5,x6,⟨x7,x8,x9⟩⟩⟩)):=hI0 (hox)
         clear hg hox hcx
         obtain ⟨W1,hW1⟩:=eN0 (wi6.alloc (.cells #[.int .i64 tm2,.string tb,.string nm,.slice colA cols.length colC,.slice keyA key.length keyC,.slice forA fors.length forC,.slice chkA chks.length chkC,.int .i64 x1,.string x2,.string x3,.string x4,.int .i64 x5,.bool x6,.int .i64 x7,.int .i64 x8,.string x9] 79))
         have hb1:=bN0 hW1
         have HX1:Hid (W1.heap[wi6.heap.size]? =some (.cells #[.int .i64 tm2,.string tb,.string nm,.slice colA cols.length colC,.slice keyA key.length keyC,.slice forA fors.length forC,.slice chkA chks.length chkC,.int .i64 x1,.string x2,.string x3,.string x4,.int .i64 x5,.bool x6,.int .i64 x7,.int .i64 x8,.string x9] 79 (0,0))):=hI0 (by rw [hW1];exact heap_alloc_new _ _)
         have HLX:Hid (wi6.heap.size<W1.heap.size):=hI0 (by rw [hW1];simp)
         have HBX:=bT0 HB6 hb1
         have HBBX:Hid (W1.heap[b]? =some BB):=hI0 ((hb1.block b hF).trans HBB.out)
         have HTB0:=hI0 ((hb1.block w.heap.size (gL0 HTB6.out)).trans HTB6.out)
         have HW1:=hI0 hW1
         clear hb1 hW1
         obtain ⟨v,hv⟩:=eN0 (REn.ok ⟨tm2,tb,⟨nm,colA,colC,cols,keyA,keyC,key,forA,forC,fors,chkA,chkC,chks⟩,⟨x1,x2,x3,x4,x5,x6,⟨x7,x8,x9⟩⟩⟩)
         have K1x:=fun (V:World) (hV:Bl w V)=>(show Calls prog 80 #[.agg #[.int .i64 tm2,.string tb,.string nm,.slice colA cols.length colC,.slice keyA key.length keyC,.slice forA fors.length forC,.slice chkA chks.length chkC,.int .i64 x1,.string x2,.string x3,.string x4,.int .i64 x5,.bool x6,.int .i64 x7,.int .i64 x8,.string x9]] V fun e w'=>e=.returned (.bool (REn.ok ⟨tm2,tb,⟨nm,colA,colC,cols,keyA,keyC,key,forA,forC,fors,chkA,chkC,chks⟩,⟨x1,x2,x3,x4,x5,x6,⟨x7,x8,x9⟩⟩⟩))∧Bl V w' from kentry_any ⟨tm2,tb,⟨nm,colA,colC,cols,keyA,keyC,key,forA,forC,fors,chkA,chkC,chks⟩,⟨x1,x2,x3,x4,x5,x6,⟨x7,x8,x9⟩⟩⟩ V (hxi.below hV).create hxi.few hxi.text hxs)
         rw [←hv] at K1x HRX
         clear hv
         clear hmem hF
         obtain ⟨q0,q1,q2,q3,q4,q5,q6,q7,q8,q9,q10,q11,q12,q13,q14,q15⟩:=cX16 HX1.out
         have KK7:=K1x W1 HBX.out
         go_wp2_with fail
         try rw [←HW1.out]
         clear g0 g1 g2 g3 g4 g5 g6 g7 g8 g9 g10 g11 g12 g13 g14 g15
         (with_reducible refine KK7.mono ?_)
         rintro _ z7 ⟨rfl,hz7⟩
         clear KK7
         have HB8:=bT0 HBX hz7
         have HT8:=hI0 ((hz7.block wi6.heap.size HLX.out).trans HX1.out)
         have HL8:Hid (wi6.heap.size<z7.heap.size):=hI0 (gL0 HT8.out)
         have HBBX_8:=hI0 ((hz7.block b (gL0 HBBX.out)).trans HBBX.out)
         have HTB0_8:=hI0 ((hz7.block w.heap.size (gL0 HTB0.out)).trans HTB0.out)
         clear hz7
         clear q0 q1 q2 q3 q4 q5 q6 q7 q8 q9 q10 q11 q12 q13 q14 q15
         obtain ⟨q0,q1,q2,q3,q4,q5,q6,q7,q8,q9,q10,q11,q12,q13,q14,q15⟩:=cX16 HT8.out
         cases v
         case false=>
          have HF:Hid (ox=false):=hI0 (by rw [HRX.out]<;>simp)
          have HFO:Hid (rs=8):=hI0 (by
           have h:=HG2.out
           rw [if_pos HF.out] at h
           rw [HR1.out,←h]<;>rfl)
          go_wp2_with fail
          go_ret
          exact ⟨by rw [HFO.out]<;>first|rfl|(simp;done),HB8.out⟩
         have HOX:Hid (ox=true):=hI0 (by rw [HRX.out]<;>first|rfl|(simp;done))
         have HG3:Hid ((if (match (prevZ REn.time sents k) with|some q=>decide (tm2<q)|none=>false)=true then 9 else ascZ REn.time REn.ok 8 (fun a b=>decide (a<b)) (prevZ REn.time sents (k+1)) (sents.drop (k+1)))=ascZ REn.time REn.ok 8 (fun a b=>decide (a<b)) none sents):=hI0 (by
          have h:=HG2.out
          rw [if_neg (by rw [HOX.out];simp)] at h
          exact h)
         go_upto_region 8 with (fail)
         clear q0 q1 q2 q3 q4 q5 q6 q7 q8 q9 q10 q11 q12 q13 q14 q15
         by_cases hk0:k=0
         case pos=>
          have HG4:Hid (ascZ REn.time REn.ok 8 (fun a b=>decide (a<b)) (prevZ REn.time sents (k+1)) (sents.drop (k+1))=ascZ REn.time REn.ok 8 (fun a b=>decide (a<b)) none sents):=hI0 (by rw [←HG3.out];exact (if_neg (by simp [prevZ,hk0])).symm)
          subst hk0
          have h00:¬(0:Int)<((0:Nat):Int):=by omega
          refine rB0 z7 (fun zh=>?_)
          refine hT 0 55 ?_
          refine hT 1 56 ?_
          refine hT 2 57 ?_
          refine hK 3 58 ?_
          refine hK 4 59 ?_
          refine hK 5 60 ?_
          refine hK 6 61 ?_
          refine hK 7 62 ?_
          refine hK 8 63 ?_
          refine hK 9 64 ?_
          refine hK 10 65 ?_
          refine hK 11 66 ?_
          refine hK 12 67 ?_
          refine hT 13 68 ?_
          refine rD0 ?_
          clear zh h00
          go_wp2_with fail
          go_roundw
          case rel=>exact ⟨0+1,by go_num,by have:=HLK.out;omega,HG4,(hI0 HB8.out.drew),HTB0_8⟩
          case measure=>have:=HLK.out;simp [intOf];omega
         obtain ⟨m,rfl⟩:∃m,k=m+1:=⟨k-1,by omega⟩
         have hml:m<sents.length:=by omega
         have hcy0:=HCL.out m hml
         have hpv0:prevZ REn.time sents (m+1)=some (REn.time sents[m]):=prevZ_succ hml
         obtain ⟨y,hy⟩:=eN0 (sents[m])
         rw [←hy] at hcy0 hpv0
         have hcy:∀j u,j<16→(REn.enc y)[j]? =some u→wi6.cell? ⟨b,off+m*16+j,none⟩=some u:=hcy0
         have hpv:prevZ REn.time sents (m+1)=some (REn.time y):=hpv0
         have hg3:=HG3.out
         rw [hpv] at hg3
         clear hy hpv hpv0 hcy0
         obtain ⟨ym,y2,y3,y4⟩:=y
         have HG5:Hid ((if decide (tm2<ym)=true then 9 else ascZ REn.time REn.ok 8 (fun a b=>decide (a<b)) (prevZ REn.time sents ((m+1)+1)) (sents.drop ((m+1)+1)))=ascZ REn.time REn.ok 8 (fun a b=>decide (a<b)) none sents):=hI0 hg3
         have p0:z7.cell? ⟨b,off+m*16,none⟩=some (.int .i64 ym):=(World.cell?_of_block (HBBX_8.out.trans HBB0.out.symm)).trans (hcy 0 _ (by decide) rfl)
         have HSB:Hid (w.heap.size<z7.heap.size):=hI0 (gL0 HTB0_8.out)
         have HBL:Hid (b<z7.heap.size):=hI0 (gL0 HBBX_8.out)
         have hm63:m≤9223372036854775807:=by omega
         have hm64:(m:Int)≤9223372036854775807:=by omega
         have hm65: -9223372036854775808≤(m:Int):=by omega
         clear hcy hg3
         by_cases hle:tm2<ym
         all_goals
          skip
          refine rB0 z7 (fun zh=>?_)
          refine hT 0 55 ?_
          refine hU 1 56 (v:=?_) zh ?_ ?_
          rotate_left
          ·intro w' hSw;(try dsimp only at hSw);have hkp2:(0:Int)<(m:Int)+1:=(by omega);have hkn:0<m+1:=(by omega);go_simp<;>with_reducible rfl
          refine hT 2 57 ?_
          refine hT 3 58 ?_
          refine hU 4 59 (v:=?_) zh ?_ ?_
          rotate_left
          ·intro w' hSw;(try dsimp only at hSw);have q:=(World.cell?_of_block (hSw.block _ HL8.out)).trans (cW0 z7 wi6.heap.size 0 _ _ _ HT8.out);go_simp<;>with_reducible rfl
          refine hT 5 60 ?_
          refine hU 6 61 (v:=?_) zh ?_ ?_
          rotate_left
          ·intro w' hSw;(try dsimp only at hSw);have q:=(World.cell?_of_block (hSw.block _ HSB.out)).trans (cW0 z7 w.heap.size 4 _ _ _ HTB0_8.out);go_simp<;>with_reducible rfl
          refine hT 7 62 ?_
          refine hU 8 63 (v:=?_) zh ?_ ?_
          rotate_left
          ·intro w' hSw;(try dsimp only at hSw);have e1:((m+1:Nat):Int)-1=(m:Int):=(by omega);have e2:IntKind.i64.wrap (m:Int)=(m:Int):=(by rw [Go.IntWalk.i64_left,Go.IntWalk.wrap64_in _ ⟨hm65,hm64⟩]);go_simp<;>(try rw [e2])<;>with_reducible rfl
          refine hT 9 64 ?_
          refine hT 10 65 ?_
          refine hU 11 66 (v:=?_) zh ?_ ?_
          rotate_left
          ·intro w' hSw;(try dsimp only at hSw);have q:=(World.cell?_of_block (hSw.block _ HBL.out)).trans p0;go_simp<;>with_reducible rfl
          refine hT 12 67 ?_
          refine hT 13 68 ?_
          refine rD0 ?_
          clear zh p0
         case neg=>
          have HG4:Hid (ascZ REn.time REn.ok 8 (fun a b=>decide (a<b)) (prevZ REn.time sents ((m+1)+1)) (sents.drop ((m+1)+1))=ascZ REn.time REn.ok 8 (fun a b=>decide (a<b)) none sents):=hI0 (by
           have h:=HG5.out
           have hb:decide (tm2<ym)=false:=decide_eq_false hle
           simp only [hb,Bool.false_eq_true,if_false] at h
           exact h)
          go_wp2_with fail
          go_roundw
          case rel=>exact ⟨m+1+1,by go_num,by have:=HLK.out;omega,HG4,(hI0 HB8.out.drew),HTB0_8⟩
          case measure=>have:=HLK.out;simp [intOf];omega
         all_goals
          have HF:Hid (rs=9):=hI0 (by
           have h:=HG5.out
           have hb:decide (tm2<ym)=true:=decide_eq_true hle
           simp only [hb,if_true] at h
           rw [HR1.out,←h]<;>rfl)
          go_wp2_with fail
          go_ret
          exact ⟨by rw [HF.out]<;>first|rfl|(simp;done),HB8.out.drew⟩
        case neg=>
         have hlt2:¬(k:Int)<(sents.length:Int):=by omega
         have HRN6:Hid (rs=(rest2)):=hI0 (by
          have h:=HG.out
          rw [ascZ_end (by omega)] at h
          rw [HR1.out,←h]<;>rfl)
         have HL6:Hid (w.heap.size<wi6.heap.size):=hI0 (gL0 HTB6.out)
         obtain ⟨c0,c1,c2,c3,c4,c5,c6,c7,c8,c9⟩:=cX10 HTB6.out
         have HRQ_rest2:Hid (rs=if ascZ Stm.time stmOk 6 (fun a b=>decide (a≤b)) none sstms≠0 then ascZ Stm.time stmOk 6 (fun a b=>decide (a≤b)) none sstms else rest3):=hI0 (by rw [HRN6.out];exact HR2.out)
         go_wp2_with fail
         clear c0 c1 c2 c3 c4 c5 c6 c7 c8 c9
         go_loopw [73] (fun i wr=>∃k:Nat,i=.int .i64 (k:Int)∧k≤sstms.length∧Hid (ascZ Stm.time stmOk 6 (fun a b=>decide (a≤b)) (prevZ Stm.time sstms k) (sstms.drop k)=ascZ Stm.time stmOk 6 (fun a b=>decide (a≤b)) none sstms)∧Hid (Bl w wr)∧Hid (wr.heap[w.heap.size]? =some (.cells #[.int .i64 stx,.int .i64 stm,.int .i64 swl,.int .i64 snx,.slice seA sents.length seC,.slice ssA sstms.length ssC,.slice stA stabs.length stC,.slice spA spla.length spC,.slice sqA spol.length sqC,.slice shA shor.length shC] 29 (0,0)))) (fun i _=>sstms.length-(intOf i).toNat)
         case atStart=>exact ⟨0,rfl,Nat.zero_le _,hI0 rfl,HB6,HTB6⟩
         case round=>
          obtain ⟨k,rfl,hk,HG,HB9,HTB9⟩:=hrel
          obtain ⟨wi9,rfl⟩:=eN0 wr
          by_cases hlt:k<sstms.length
          case pos=>
           have hlt2:(k:Int)<(sstms.length:Int):=by omega
           obtain ⟨b,off,rfl,hF,hcl⟩:=RdE.at_ (K:=2) (enc:=Stm.enc) (fun _=>rfl) (by omega) (HI.out.stms.below HB9.out) hlt
           have HCL:Hid (∀i (hi:i<sstms.length) j u,j<2→(Stm.enc sstms[i])[j]? =some u→wi9.cell? ⟨b,off+i*2+j,none⟩=some u):=hI0 hcl
           obtain ⟨BB,hBB⟩:∃B0,wi9.heap[b]? =some B0:=⟨_,Array.getElem?_eq_getElem hF⟩
           have HBB:=hI0 hBB
           have HBB0:=hI0 hBB
           have HLK:=hI0 hlt
           have hg:=HG.out
           rw [ascZ_at hlt] at hg
           have hmem:=List.getElem_mem hlt
           have hcx0:=HCL.out k hlt
           obtain ⟨x,hx⟩:=eN0 (sstms[k]'hlt)
           rw [←hx] at hcx0
           rw [←hx] at hmem
           rw [←hx] at hg
           have hcx:∀j u,j<2→(Stm.enc x)[j]? =some u→wi9.cell? ⟨b,off+k*2+j,none⟩=some u:=hcx0
           clear hcl hx hBB hcx0
           obtain ⟨a,b1⟩:=x
           obtain ⟨g0,g1⟩:=cK2 hcx (show _=[.int .i64 a,.int .i64 b1] from rfl)
           obtain ⟨ox,hox⟩:=eN0 (stmOk ⟨a,b1⟩)
           have HG2:Hid (((if ox=false then 6 else if (match (prevZ Stm.time sstms k) with|some q=>decide (a≤q)|none=>false)=true then 9 else ascZ Stm.time stmOk 6 (fun a b=>decide (a≤b)) (prevZ Stm.time sstms (k+1)) (sstms.drop (k+1)))=ascZ Stm.time stmOk 6 (fun a b=>decide (a≤b)) none sstms)):=hI0 (by rw [hox];exact hg)
           have HRX:Hid (ox=(instB a&&decide (0≤b1∧b1≤a))):=hI0 (hox)
           clear hg hox hcx
           obtain ⟨W1,hW1⟩:=eN0 (wi9.alloc (.cells #[.int .i64 a,.int .i64 b1] 82))
           have hb1:=bN0 hW1
           have HX1:Hid (W1.heap[wi9.heap.size]? =some (.cells #[.int .i64 a,.int .i64 b1] 82 (0,0))):=hI0 (by rw [hW1];exact heap_alloc_new _ _)
           have HLX:Hid (wi9.heap.size<W1.heap.size):=hI0 (by rw [hW1];simp)
           have HBX:=bT0 HB9 hb1
           have HBBX:Hid (W1.heap[b]? =some BB):=hI0 ((hb1.block b hF).trans HBB.out)
           have HTB0:=hI0 ((hb1.block w.heap.size (gL0 HTB9.out)).trans HTB9.out)
           have HW1:=hI0 hW1
           clear hb1 hW1
           obtain ⟨u1,hu1⟩:=eN0 (instB a)
           have K1y:=fun (V:World) (hV:Bl w V)=>kinst_any a V
           rw [←hu1] at K1y HRX
           clear hu1
           clear hmem hF
           obtain ⟨q0,q1⟩:=cX2 HX1.out
           have KK10:=K1y W1 HBX.out
           go_wp2_with fail
           try rw [←HW1.out]
           clear g0 g1
           (with_reducible refine KK10.mono ?_)
           rintro _ z10 ⟨rfl,hz10⟩
           clear KK10
           rw [hz10]
           clear hz10 z10
           cases u1
           case false=>
            have HF:Hid (ox=false):=hI0 (by rw [HRX.out]<;>simp)
            have HFO:Hid (rs=6):=hI0 (by
             have h:=HG2.out
             rw [if_pos HF.out] at h
             rw [HRQ_rest2.out,←h]<;>rfl)
            go_wp2_with fail
            go_ret
            exact ⟨by rw [HFO.out]<;>first|rfl|(simp;done),HBX.out⟩
           by_cases t11_0:b1<0
           case pos=>
            have g11:decide (0≤b1∧b1≤a)=false:=decide_eq_false (by omega)
            have HF:Hid (ox=false):=hI0 (by rw [HRX.out,g11]<;>simp)
            have HFO:Hid (rs=6):=hI0 (by
             have h:=HG2.out
             rw [if_pos HF.out] at h
             rw [HRQ_rest2.out,←h]<;>rfl)
            go_wp2_with fail
            go_ret
            exact ⟨by rw [HFO.out]<;>first|rfl|(simp;done),HBX.out⟩
           by_cases t11_1:a<b1
           case pos=>
            have g11:decide (0≤b1∧b1≤a)=false:=decide_eq_false (by omega)
            have HF:Hid (ox=false):=hI0 (by rw [HRX.out,g11]<;>simp)
            have HFO:Hid (rs=6):=hI0 (by
             have h:=HG2.out
             rw [if_pos HF.out] at h
             rw [HRQ_rest2.out,←h]<;>rfl)
            go_wp2_with fail
            go_ret
            exact ⟨by rw [HFO.out]<;>first|rfl|(simp;done),HBX.out⟩
           have g11:decide (0≤b1∧b1≤a)=true:=decide_eq_true (by omega)
           have G11:=hI0 g11
           clear g11
           have HOX:Hid (ox=true):=hI0 (by rw [HRX.out,G11.out]<;>first|rfl|(simp;done))
           have HG3:Hid ((if (match (prevZ Stm.time sstms k) with|some q=>decide (a≤q)|none=>false)=true then 9 else ascZ Stm.time stmOk 6 (fun a b=>decide (a≤b)) (prevZ Stm.time sstms (k+1)) (sstms.drop (k+1)))=ascZ Stm.time stmOk 6 (fun a b=>decide (a≤b)) none sstms):=hI0 (by
            have h:=HG2.out
            rw [if_neg (by rw [HOX.out];simp)] at h
            exact h)
           go_upto_region 16 with (fail)
           clear q0 q1
           by_cases hk0:k=0
           case pos=>
            have HG4:Hid (ascZ Stm.time stmOk 6 (fun a b=>decide (a≤b)) (prevZ Stm.time sstms (k+1)) (sstms.drop (k+1))=ascZ Stm.time stmOk 6 (fun a b=>decide (a≤b)) none sstms):=hI0 (by rw [←HG3.out];exact (if_neg (by simp [prevZ,hk0])).symm)
            subst hk0
            have h00:¬(0:Int)<((0:Nat):Int):=by omega
            refine rB0 W1 (fun zh=>?_)
            refine hT 0 94 ?_
            refine hT 1 95 ?_
            refine hT 2 96 ?_
            refine hK 3 97 ?_
            refine hK 4 98 ?_
            refine hK 5 99 ?_
            refine hK 6 100 ?_
            refine hK 7 101 ?_
            refine hK 8 102 ?_
            refine hK 9 103 ?_
            refine hK 10 104 ?_
            refine hK 11 105 ?_
            refine hK 12 106 ?_
            refine hT 13 107 ?_
            refine rD0 ?_
            clear zh h00
            go_wp2_with fail
            go_roundw
            case rel=>exact ⟨0+1,by go_num,by have:=HLK.out;omega,HG4,(hI0 HBX.out.drew),HTB0⟩
            case measure=>have:=HLK.out;simp [intOf];omega
           obtain ⟨m,rfl⟩:∃m,k=m+1:=⟨k-1,by omega⟩
           have hml:m<sstms.length:=by omega
           have hcy0:=HCL.out m hml
           have hpv0:prevZ Stm.time sstms (m+1)=some (Stm.time sstms[m]):=prevZ_succ hml
           obtain ⟨y,hy⟩:=eN0 (sstms[m])
           rw [←hy] at hcy0 hpv0
           have hcy:∀j u,j<2→(Stm.enc y)[j]? =some u→wi9.cell? ⟨b,off+m*2+j,none⟩=some u:=hcy0
           have hpv:prevZ Stm.time sstms (m+1)=some (Stm.time y):=hpv0
           have hg3:=HG3.out
           rw [hpv] at hg3
           clear hy hpv hpv0 hcy0
           obtain ⟨ym,y2⟩:=y
           have HG5:Hid ((if decide (a≤ym)=true then 9 else ascZ Stm.time stmOk 6 (fun a b=>decide (a≤b)) (prevZ Stm.time sstms ((m+1)+1)) (sstms.drop ((m+1)+1)))=ascZ Stm.time stmOk 6 (fun a b=>decide (a≤b)) none sstms):=hI0 hg3
           have p0:W1.cell? ⟨b,off+m*2,none⟩=some (.int .i64 ym):=(World.cell?_of_block (HBBX.out.trans HBB0.out.symm)).trans (hcy 0 _ (by decide) rfl)
           have HSB:Hid (w.heap.size<W1.heap.size):=hI0 (gL0 HTB0.out)
           have HBL:Hid (b<W1.heap.size):=hI0 (gL0 HBBX.out)
           have hm63:m≤9223372036854775807:=by omega
           have hm64:(m:Int)≤9223372036854775807:=by omega
           have hm65: -9223372036854775808≤(m:Int):=by omega
           clear hcy hg3
           by_cases hle:a≤ym
           all_goals
            skip
            refine rB0 W1 (fun zh=>?_)
            refine hT 0 94 ?_
            refine hU 1 95 (v:=?_) zh ?_ ?_
            rotate_left
            ·intro w' hSw;(try dsimp only at hSw);have hkp2:(0:Int)<(m:Int)+1:=(by omega);have hkn:0<m+1:=(by omega);go_simp<;>with_reducible rfl
            refine hT 2 96 ?_
            refine hT 3 97 ?_
            refine hU 4 98 (v:=?_) zh ?_ ?_
            rotate_left
            ·intro w' hSw;(try dsimp only at hSw);have q:=(World.cell?_of_block (hSw.block _ HLX.out)).trans (cW0 W1 wi9.heap.size 0 _ _ _ HX1.out);go_simp<;>with_reducible rfl
            refine hT 5 99 ?_
            refine hU 6 100 (v:=?_) zh ?_ ?_
            rotate_left
            ·intro w' hSw;(try dsimp only at hSw);have q:=(World.cell?_of_block (hSw.block _ HSB.out)).trans (cW0 W1 w.heap.size 5 _ _ _ HTB0.out);go_simp<;>with_reducible rfl
            refine hT 7 101 ?_
            refine hU 8 102 (v:=?_) zh ?_ ?_
            rotate_left
            ·intro w' hSw;(try dsimp only at hSw);have e1:((m+1:Nat):Int)-1=(m:Int):=(by omega);have e2:IntKind.i64.wrap (m:Int)=(m:Int):=(by rw [Go.IntWalk.i64_left,Go.IntWalk.wrap64_in _ ⟨hm65,hm64⟩]);go_simp<;>(try rw [e2])<;>with_reducible rfl
            refine hT 9 103 ?_
            refine hT 10 104 ?_
            refine hU 11 105 (v:=?_) zh ?_ ?_
            rotate_left
            ·intro w' hSw;(try dsimp only at hSw);have q:=(World.cell?_of_block (hSw.block _ HBL.out)).trans p0;go_simp<;>with_reducible rfl
            refine hT 12 106 ?_
            refine hT 13 107 ?_
            refine rD0 ?_
            clear zh p0
           case neg=>
            have HG4:Hid (ascZ Stm.time stmOk 6 (fun a b=>decide (a≤b)) (prevZ Stm.time sstms ((m+1)+1)) (sstms.drop ((m+1)+1))=ascZ Stm.time stmOk 6 (fun a b=>decide (a≤b)) none sstms):=hI0 (by
             have h:=HG5.out
             have hb:decide (a≤ym)=false:=decide_eq_false hle
             simp only [hb,Bool.false_eq_true,if_false] at h
             exact h)
            go_wp2_with fail
            go_roundw
            case rel=>exact ⟨m+1+1,by go_num,by have:=HLK.out;omega,HG4,(hI0 HBX.out.drew),HTB0⟩
            case measure=>have:=HLK.out;simp [intOf];omega
           all_goals
            have HF:Hid (rs=9):=hI0 (by
             have h:=HG5.out
             have hb:decide (a≤ym)=true:=decide_eq_true hle
             simp only [hb,if_true] at h
             rw [HRQ_rest2.out,←h]<;>rfl)
            go_wp2_with fail
            go_ret
            exact ⟨by rw [HF.out]<;>first|rfl|(simp;done),HBX.out.drew⟩
          case neg=>
           have hlt2:¬(k:Int)<(sstms.length:Int):=by omega
           have HRN9:Hid (rs=(rest3)):=hI0 (by
            have h:=HG.out
            rw [ascZ_end (by omega)] at h
            rw [HRQ_rest2.out,←h]<;>rfl)
           have HL9:Hid (w.heap.size<wi9.heap.size):=hI0 (gL0 HTB9.out)
           obtain ⟨c0,c1,c2,c3,c4,c5,c6,c7,c8,c9⟩:=cX10 HTB9.out
           have HRQ_rest3:Hid (rs=if tabsN tvK none stabs≠0 then tabsN tvK none stabs else rest4):=hI0 (by rw [HRN9.out];exact HR3.out)
           go_wp2_with fail
           clear c0 c1 c2 c3 c4 c5 c6 c7 c8 c9
           go_loopw [112] (fun i wr=>∃k:Nat,i=.int .i64 (k:Int)∧k≤stabs.length∧Hid (tabsN tvK (prevN RTv.table stabs k) (stabs.drop k)=tabsN tvK none stabs)∧Hid (Bl w wr)∧Hid (wr.heap[w.heap.size]? =some (.cells #[.int .i64 stx,.int .i64 stm,.int .i64 swl,.int .i64 snx,.slice seA sents.length seC,.slice ssA sstms.length ssC,.slice stA stabs.length stC,.slice spA spla.length spC,.slice sqA spol.length sqC,.slice shA shor.length shC] 29 (0,0)))) (fun i _=>stabs.length-(intOf i).toNat)
           case atStart=>exact ⟨0,rfl,Nat.zero_le _,hI0 rfl,HB9,HTB9⟩
           case round=>
            obtain ⟨k,rfl,hk,HG,HB12,HTB12⟩:=hrel
            obtain ⟨wi12,rfl⟩:=eN0 wr
            by_cases hlt:k<stabs.length
            case pos=>
             have hlt2:(k:Int)<(stabs.length:Int):=by omega
             obtain ⟨b,off,rfl,hF,hcl⟩:=RdE.at_ (K:=2) (enc:=RTv.enc) (fun _=>rfl) (by omega) (HI.out.tabs.below HB12.out) hlt
             have HCL:Hid (∀i (hi:i<stabs.length) j u,j<2→(RTv.enc stabs[i])[j]? =some u→wi12.cell? ⟨b,off+i*2+j,none⟩=some u):=hI0 hcl
             obtain ⟨BB,hBB⟩:∃B0,wi12.heap[b]? =some B0:=⟨_,Array.getElem?_eq_getElem hF⟩
             have HBB:=hI0 hBB
             have HBB0:=hI0 hBB
             have HLK:=hI0 hlt
             have hg:=HG.out
             rw [tabsN_at hlt] at hg
             have hmem:=List.getElem_mem hlt
             have hcx0:=HCL.out k hlt
             obtain ⟨x,hx⟩:=eN0 (stabs[k]'hlt)
             rw [←hx] at hcx0
             rw [←hx] at hmem
             rw [←hx] at hg
             have hcx:∀j u,j<2→(RTv.enc x)[j]? =some u→wi12.cell? ⟨b,off+k*2+j,none⟩=some u:=hcx0
             clear hcl hx hBB hcx0
             obtain ⟨xt,xvA,xvC,xvs⟩:=x
             simp only at hg
             obtain ⟨g0,g1⟩:=cK2 hcx (show _=[.string xt,.slice xvA xvs.length xvC] from rfl)
             have hsx:xt.size≤maxLen:=HLM.out.tabS _ hmem
             have hxi:RTv.is w (ltw w) ⟨xt,xvA,xvC,xvs⟩:=HI.out.tabI _ hmem
             have HXI:=hI0 hxi
             obtain ⟨de,hde⟩:=eN0 (tvK ⟨xt,xvA,xvC,xvs⟩)
             rw [←hde] at hg
             have HDE:=hI0 hde
             clear hde hxi
             obtain ⟨ox,hox⟩:=eN0 (nmB xt)
             have HG2:Hid (((if ox=false then 8 else if (match (prevN RTv.table stabs k) with|some q=>bleS xt q|none=>false)=true then 9 else (if de≠0 then de else tabsN tvK (prevN RTv.table stabs (k+1)) (stabs.drop (k+1))))=tabsN tvK none stabs)):=hI0 (by rw [hox];exact hg)
             have HRX:Hid (ox=(nmB xt)):=hI0 (hox)
             clear hg hox hcx
             obtain ⟨W1,hW1⟩:=eN0 (wi12.alloc (.cells #[.string xt,.slice xvA xvs.length xvC] 37))
             have hb1:=bN0 hW1
             have HX1:Hid (W1.heap[wi12.heap.size]? =some (.cells #[.string xt,.slice xvA xvs.length xvC] 37 (0,0))):=hI0 (by rw [hW1];exact heap_alloc_new _ _)
             have HLX:Hid (wi12.heap.size<W1.heap.size):=hI0 (by rw [hW1];simp)
             have HBX:=bT0 HB12 hb1
             have HBBX:Hid (W1.heap[b]? =some BB):=hI0 ((hb1.block b hF).trans HBB.out)
             have HTB0:=hI0 ((hb1.block w.heap.size (gL0 HTB12.out)).trans HTB12.out)
             have HW1:=hI0 hW1
             clear hb1 hW1
             obtain ⟨u1,hu1⟩:=eN0 (nmB xt)
             have K1z:=fun (V:World) (hV:Bl w V)=>kname_any xt V hsx
             rw [←hu1] at K1z HRX
             clear hu1
             clear hmem hF
             obtain ⟨q0,q1⟩:=cX2 HX1.out
             have KK13:=K1z W1 HBX.out
             go_wp2_with fail
             try rw [←HW1.out]
             clear g0 g1
             (with_reducible refine KK13.mono ?_)
             rintro _ z13 ⟨rfl,hz13⟩
             clear KK13
             rw [←hz13]
             clear hz13 z13
             cases u1
             case false=>
              have HF:Hid (ox=false):=hI0 (by rw [HRX.out]<;>simp)
              have HFO:Hid (rs=8):=hI0 (by
               have h:=HG2.out
               rw [if_pos HF.out] at h
               rw [HRQ_rest3.out,←h]<;>rfl)
              go_wp2_with fail
              go_ret
              exact ⟨by rw [HFO.out]<;>first|rfl|(simp;done),HBX.out⟩
             case true=>
              have HOX:Hid (ox=true):=hI0 (by rw [HRX.out]<;>first|rfl|(simp;done))
              have HG3:Hid ((if (match (prevN RTv.table stabs k) with|some q=>bleS xt q|none=>false)=true then 9 else (if de≠0 then de else tabsN tvK (prevN RTv.table stabs (k+1)) (stabs.drop (k+1))))=tabsN tvK none stabs):=hI0 (by
               have h:=HG2.out
               rw [if_neg (by rw [HOX.out];simp)] at h
               exact h)
              go_upto_region 24 with (fail)
              clear q0 q1
              by_cases hk0:k=0
              case pos=>
               have HG4:Hid ((if de≠0 then de else tabsN tvK (prevN RTv.table stabs (k+1)) (stabs.drop (k+1)))=tabsN tvK none stabs):=hI0 (by rw [←HG3.out];exact (if_neg (by simp [prevN,hk0])).symm)
               subst hk0
               have h00:¬(0:Int)<((0:Nat):Int):=by omega
               refine rB0 W1 (fun zh=>?_)
               refine hT 0 121 ?_
               refine hT 1 122 ?_
               refine hT 2 123 ?_
               refine hK 3 124 ?_
               refine hK 4 125 ?_
               refine hK 5 126 ?_
               refine hK 6 127 ?_
               refine hK 7 128 ?_
               refine hK 8 129 ?_
               refine hK 9 130 ?_
               refine hK 10 131 ?_
               refine hK 11 132 ?_
               refine hK 12 133 ?_
               refine hT 13 134 ?_
               refine rD0 ?_
               clear zh h00
               have HBD:Hid (Bl w W1.drew):=hI0 HBX.out.drew
               have HTD:Hid (W1.drew.heap[wi12.heap.size]? =some (.cells #[.string xt,.slice xvA xvs.length xvC] 37 (0,0))):=HX1
               have t1:=cW1 1 HTD.out rfl
               have KV:=refVersions_any (.slice xvA xvs.length xvC) xvs W1.drew (HXI.out.below HBD.out)
               rw [show chkFrom none (xvs.map (·.2))=de from HDE.out.symm] at KV
               go_wp2_with fail
               (with_reducible refine KV.mono ?_)
               rintro _ y9 ⟨rfl,hz⟩
               have HB9:=bT0 HBD hz
               have HS9:=hI0 ((hz.block w.heap.size (gL0 HTB0.out)).trans HTB0.out)
               clear hz KV t1
               by_cases he:de=0
               case neg=>
                have HF:Hid (rs=de):=hI0 (by have h:=HG4.out;rw [if_pos he] at h;rw [HRQ_rest3.out,←h,if_pos he])
                go_wp2_with fail
                go_ret
                exact ⟨by rw [HF.out]<;>first|rfl|(simp;done),HB9.out⟩
               have HN:Hid (tabsN tvK (prevN RTv.table stabs (0+1)) (stabs.drop (0+1))=tabsN tvK none stabs):=hI0 (by rw [←HG4.out,he];exact (if_neg (by simp)).symm)
               have HPL:Hid (0<stabs.length):=hI0 (by have:=HLK.out;omega)
               subst he
               have hpl:=HPL.out
               have hpl2:((0:Nat):Int)<(stabs.length:Int):=by omega
               go_wp2_with fail
               go_roundw
               case rel=>exact ⟨0+1,by go_num,by have:=HPL.out;omega,HN,HB9,HS9⟩
               case measure=>have:=HPL.out;simp [intOf];omega
              case neg=>
               obtain ⟨m,rfl⟩:∃m,k=m+1:=⟨k-1,by omega⟩
               have hml:m<stabs.length:=by omega
               have hcy0:=HCL.out m hml
               have hpv0:prevN RTv.table stabs (m+1)=some (RTv.table stabs[m]):=prevN_succ hml
               obtain ⟨y,hy⟩:=eN0 (stabs[m])
               rw [←hy] at hcy0 hpv0
               have hcy:∀j u,j<2→(RTv.enc y)[j]? =some u→wi12.cell? ⟨b,off+m*2+j,none⟩=some u:=hcy0
               have hpv:prevN RTv.table stabs (m+1)=some (RTv.table y):=hpv0
               have hg3:=HG3.out
               rw [hpv] at hg3
               clear hy hpv hpv0 hcy0
               obtain ⟨yn,y2,y3,y4⟩:=y
               have HG5:Hid ((if bleS xt yn=true then 9 else (if de≠0 then de else tabsN tvK (prevN RTv.table stabs ((m+1)+1)) (stabs.drop ((m+1)+1))))=tabsN tvK none stabs):=hI0 hg3
               have p0:W1.cell? ⟨b,off+m*2,none⟩=some (.string yn):=(World.cell?_of_block (HBBX.out.trans HBB0.out.symm)).trans (hcy 0 _ (by decide) rfl)
               have HSB:Hid (w.heap.size<W1.heap.size):=hI0 (gL0 HTB0.out)
               have HBL:Hid (b<W1.heap.size):=hI0 (gL0 HBBX.out)
               have hm63:m≤9223372036854775807:=by omega
               have hm64:(m:Int)≤9223372036854775807:=by omega
               have hm65: -9223372036854775808≤(m:Int):=by omega
               clear hcy hg3
               rcases hlt1:Go.Op.bytesLess xt.toList yn.toList with _|_<;>rcases heq1:(xt.toList==yn.toList) with _|_
               all_goals
                have HLE:Hid (bleS xt yn=(Go.Op.bytesLess xt.toList yn.toList||(xt.toList==yn.toList))):=hI0 rfl
                rw [hlt1,heq1] at HLE
                refine rB0 W1 (fun zh=>?_)
                refine hT 0 121 ?_
                refine hU 1 122 (v:=?_) zh ?_ ?_
                rotate_left
                ·intro w' hSw;(try dsimp only at hSw);have hkp2:(0:Int)<(m:Int)+1:=(by omega);have hkn:0<m+1:=(by omega);go_simp<;>with_reducible rfl
                refine hT 2 123 ?_
                refine hT 3 124 ?_
                refine hU 4 125 (v:=?_) zh ?_ ?_
                rotate_left
                ·intro w' hSw;(try dsimp only at hSw);have q:=(World.cell?_of_block (hSw.block _ HLX.out)).trans (cW0 W1 wi12.heap.size 0 _ _ _ HX1.out);go_simp<;>with_reducible rfl
                refine hT 5 126 ?_
                refine hU 6 127 (v:=?_) zh ?_ ?_
                rotate_left
                ·intro w' hSw;(try dsimp only at hSw);have q:=(World.cell?_of_block (hSw.block _ HSB.out)).trans (cW0 W1 w.heap.size 6 _ _ _ HTB0.out);go_simp<;>with_reducible rfl
                refine hT 7 128 ?_
                refine hU 8 129 (v:=?_) zh ?_ ?_
                rotate_left
                ·intro w' hSw;(try dsimp only at hSw);have e1:((m+1:Nat):Int)-1=(m:Int):=(by omega);have e2:IntKind.i64.wrap (m:Int)=(m:Int):=(by rw [Go.IntWalk.i64_left,Go.IntWalk.wrap64_in _ ⟨hm65,hm64⟩]);go_simp<;>(try rw [e2])<;>with_reducible rfl
                refine hT 9 130 ?_
                refine hT 10 131 ?_
                refine hU 11 132 (v:=?_) zh ?_ ?_
                rotate_left
                ·intro w' hSw;(try dsimp only at hSw);have q:=(World.cell?_of_block (hSw.block _ HBL.out)).trans p0;go_simp<;>with_reducible rfl
                refine hT 12 133 ?_
                refine hT 13 134 ?_
                refine rD0 ?_
                clear zh p0
               case false.false=>
                have HG4:Hid ((if de≠0 then de else tabsN tvK (prevN RTv.table stabs ((m+1)+1)) (stabs.drop ((m+1)+1)))=tabsN tvK none stabs):=hI0 (by
                 have h:=HG5.out
                 have hb:bleS xt yn=false:=HLE.out
                 simp only [hb,Bool.false_eq_true,if_false] at h
                 exact h)
                have HBD:Hid (Bl w W1.drew):=hI0 HBX.out.drew
                have HTD:Hid (W1.drew.heap[wi12.heap.size]? =some (.cells #[.string xt,.slice xvA xvs.length xvC] 37 (0,0))):=HX1
                have t1:=cW1 1 HTD.out rfl
                have KV:=refVersions_any (.slice xvA xvs.length xvC) xvs W1.drew (HXI.out.below HBD.out)
                rw [show chkFrom none (xvs.map (·.2))=de from HDE.out.symm] at KV
                go_wp2_with fail
                (with_reducible refine KV.mono ?_)
                rintro _ y9 ⟨rfl,hz⟩
                have HB9:=bT0 HBD hz
                have HS9:=hI0 ((hz.block w.heap.size (gL0 HTB0.out)).trans HTB0.out)
                clear hz KV t1
                by_cases he:de=0
                case neg=>
                 have HF:Hid (rs=de):=hI0 (by have h:=HG4.out;rw [if_pos he] at h;rw [HRQ_rest3.out,←h,if_pos he])
                 go_wp2_with fail
                 go_ret
                 exact ⟨by rw [HF.out]<;>first|rfl|(simp;done),HB9.out⟩
                have HN:Hid (tabsN tvK (prevN RTv.table stabs (m+1+1)) (stabs.drop (m+1+1))=tabsN tvK none stabs):=hI0 (by rw [←HG4.out,he];exact (if_neg (by simp)).symm)
                have HPL:Hid (m+1<stabs.length):=hI0 (by have:=HLK.out;omega)
                subst he
                have hpl:=HPL.out
                have hpl2:((m+1:Nat):Int)<(stabs.length:Int):=by omega
                go_wp2_with fail
                go_roundw
                case rel=>exact ⟨m+1+1,by go_num,by have:=HPL.out;omega,HN,HB9,HS9⟩
                case measure=>have:=HPL.out;simp [intOf];omega
               all_goals
                have HF:Hid (rs=9):=hI0 (by
                 have h:=HG5.out
                 have hb:bleS xt yn=true:=HLE.out
                 simp only [hb,if_true] at h
                 rw [HRQ_rest3.out,←h]<;>rfl)
                go_wp2_with fail
                go_ret
                exact ⟨by rw [HF.out]<;>first|rfl|(simp;done),HBX.out.drew⟩
            have hlt2:¬(k:Int)<(stabs.length:Int):=by omega
            have HRN12:Hid (rs=(rest4)):=hI0 (by
             have h:=HG.out
             rw [tabsN_end (by omega)] at h
             rw [HRQ_rest3.out,←h]<;>rfl)
            have HL12:Hid (w.heap.size<wi12.heap.size):=hI0 (gL0 HTB12.out)
            obtain ⟨c0,c1,c2,c3,c4,c5,c6,c7,c8,c9⟩:=cX10 HTB12.out
            have HRQ_rest4:Hid (rs=if holdsF spla≠0 then holdsF spla else restF spol shor):=hI0 (by rw [HRN12.out];exact HR4.out)
            have KH:=kholds_any (.slice spA spla.length spC) spla wi12 (HI.out.pla.below HB12.out) HLM.out.plaS
            obtain ⟨h1,hh1⟩:=eN0 (holdsF spla)
            have HRC2:Hid (rs=if h1≠0 then h1 else restF spol shor):=hI0 (by rw [hh1];exact HRQ_rest4.out)
            rw [←hh1] at KH
            clear hh1
            have c7:=cW1 7 HTB12.out rfl
            go_wp2_with fail
            (with_reducible refine KH.mono ?_)
            rintro _ y2 ⟨rfl,hz⟩
            have HBb:=bT0 HB12 hz
            have HTb:=hI0 ((hz.block w.heap.size HL12.out).trans HTB12.out)
            clear hz KH c7
            by_cases e1:h1=0
            case neg=>
             have HF:Hid (rs=h1):=hI0 (by rw [HRC2.out,if_pos e1])
             go_wp2_with fail
             go_ret
             exact ⟨by rw [HF.out];rfl,HBb.out⟩
            have HRD:Hid (rs=restF spol shor):=hI0 (by rw [HRC2.out,if_neg (by simpa using e1)])
            subst e1
            have c8:=cW1 8 HTb.out rfl
            have c9:=cW1 9 HTb.out rfl
            have KR:=krules_any (.slice sqA spol.length sqC) (.slice shA shor.length shC) spol shor y2 (HI.out.pol.below HBb.out) (HI.out.hor.below HBb.out) HLM.out.polS HLM.out.horS
            go_wp2_with fail
            (with_reducible refine KR.mono ?_)
            rintro _ y3 ⟨rfl,hz⟩
            have HBc:=bT0 HBb hz
            clear hz KR c8 c9
            go_wp2_with fail
            go_ret
            exact ⟨by rw [HRD.out]<;>rfl,HBc.out⟩
end Go.Proofs.YtgfhknnklapldaaGreatDoor
