/-
 Rc1
-/
import Derived.Test.YtbfdegkickjbpaaGreatHRcA
namespace Go.Proofs.YtbfdegkickjbpaaGreat
set_option maxRecDepth 1000000
set_option maxHeartbeats 32000000
theorem zq34 {P:Prop} (i:Nat) (h:Tg i→P:=by
 intro zT34
 first
  |guard_hyp zT34:Tg 2
   have g:wi.cell? ⟨w.heap.size+1,1,none⟩=some (.string x3):=cW0 wi _ 1 _ _ _ hNi
  |guard_hyp zT34:Tg 1
   have g:wi.cell? ⟨w.heap.size+1,2,none⟩=some (.string x4):=cW0 wi _ 2 _ _ _ hNi
  |have g:wi.cell? ⟨w.heap.size+1,0,none⟩=some (.string x2):=cW0 wi _ 0 _ _ _ hNi
 clear hNi
 first
  |guard_hyp zT34:Tg 2
   cases hem:x3.toList.isEmpty
   skip
  |guard_hyp zT34:Tg 1
   cases hem:x4.toList.isEmpty
   skip
  |cases hem:x2.toList.isEmpty
 case true=>
  first
   |guard_hyp zT34:Tg 2
    have HE:Hid ((1≤2→emW x2=true)∧(2≤2→emW x3=true)∧(3≤2→emW x4=true)):=hI0 ⟨fun _=>HG.out.1 (by omega),fun _=>em_eq hem,fun h=>absurd h (by decide)⟩
   |guard_hyp zT34:Tg 1
    have HE:Hid ((1≤3→emW x2=true)∧(2≤3→emW x3=true)∧(3≤3→emW x4=true)):=hI0 ⟨fun _=>HG.out.1 (by omega),fun _=>HG.out.2.1 (by omega),fun _=>em_eq hem⟩
   |have HE:Hid ((1≤1→emW x2=true)∧(2≤1→emW x3=true)∧(3≤1→emW x4=true)):=hI0 ⟨fun _=>em_eq hem,fun h=>absurd h (by decide),fun h=>absurd h (by decide)⟩
  go_wp2_with fail
  go_roundw
  first
   |guard_hyp zT34:Tg 2
    case rel=>exact ⟨2,by go_num,by omega,HE,HB⟩
   |guard_hyp zT34:Tg 1
    case rel=>exact ⟨3,by go_num,by omega,HE,HB⟩
   |case rel=>exact ⟨1,by go_num,by omega,HE,HB⟩
  case measure=>simp [intOf]
 have hme:=em_ne hem
 first
  |guard_hyp zT34:Tg 2
   have K:=word_any x3 wi
   obtain ⟨v,hv⟩:∃bo,bo=nmB x3:=⟨_,rfl⟩
  |guard_hyp zT34:Tg 1
   have K:=word_any x4 wi
   obtain ⟨v,hv⟩:∃bo,bo=nmB x4:=⟨_,rfl⟩
  |have K:=word_any x2 wi
   obtain ⟨v,hv⟩:∃bo,bo=nmB x2:=⟨_,rfl⟩
 rw [←hv] at hme K
 have HME:=hI0 hme
 clear hme hv
 go_wp2_with fail
 (with_reducible refine K.mono ?_)
 rintro _ z1 ⟨rfl,hz⟩
 have HB1:Hid (Below W.heap.size W z1):=hI0 (HB.out.trans (hz.mono HB.out.size))
 clear hz K g
 cases v
 case false=>
  have HF:Hid (rs=false):=hI0 (by rw [HR.out,HME.out];simp)
  go_wp2_with fail
  go_ret
  exact ⟨by rw [HF.out];rfl,HBW.out.trans (HB1.out.mono HBW.out.size)⟩
 first
  |guard_hyp zT34:Tg 2
   have HE:Hid ((1≤2→emW x2=true)∧(2≤2→emW x3=true)∧(3≤2→emW x4=true)):=hI0 ⟨fun _=>HG.out.1 (by omega),fun _=>HME.out,fun h=>absurd h (by decide)⟩
  |guard_hyp zT34:Tg 1
   have HE:Hid ((1≤3→emW x2=true)∧(2≤3→emW x3=true)∧(3≤3→emW x4=true)):=hI0 ⟨fun _=>HG.out.1 (by omega),fun _=>HG.out.2.1 (by omega),fun _=>HME.out⟩
  |have HE:Hid ((1≤1→emW x2=true)∧(2≤1→emW x3=true)∧(3≤1→emW x4=true)):=hI0 ⟨fun _=>HME.out,fun h=>absurd h (by decide),fun h=>absurd h (by decide)⟩
 go_wp2_with fail
 go_roundw
 first
  |guard_hyp zT34:Tg 2
   case rel=>exact ⟨2,by go_num,by omega,HE,HB1⟩
  |guard_hyp zT34:Tg 1
   case rel=>exact ⟨3,by go_num,by omega,HE,HB1⟩
  |case rel=>exact ⟨1,by go_num,by omega,HE,HB1⟩
 case measure=>simp [intOf]) : P := h ⟨⟩
section
open Go.RowKit Go.Lib Go.IntWalk Go.Sort Go.Shelf
structure Fct where
 row:List Val
 vf:Int
 vt:Int
structure RF where
 rA:Option Addr
 rn:Nat
 rc:Nat
 row:List Val
 vf:Int
 vt:Int
def RF.fct (p:RF):Fct:=⟨p.row,p.vf,p.vt⟩
def RF.enc (p:RF):List Value:=[.slice p.rA p.rn p.rc,.int .i64 p.vf,.int .i64 p.vt]
def RF.is (w:World) (F:Nat→Prop) (p:RF):Prop:=RdV w F (.slice p.rA p.rn p.rc) p.row∧∀v∈p.row,goV v
def RdFs (w:World) (F:Nat→Prop) (v:Value) (ps:List RF):Prop:=RdE 3 RF.enc w F v ps∧∀p∈ps,p.is w F
theorem RdFs.below {w w':World} {v:Value} {ps:List RF} (h:RdFs w (·<w.heap.size) v ps) (hb:Below w.heap.size w w'):RdFs w' (·<w'.heap.size) v ps:=
 ⟨h.1.below hb,fun p hp=>⟨(Rd.keep (h.2 p hp).1 (Keeps.below hb)).wide (fun b (hb':b<w.heap.size)=>by show b<w'.heap.size;have:=hb.size;omega),(h.2 p hp).2⟩⟩
def intE (n:Int):List Value:=[.int .i64 n]
def Fct.ok (x:Fct):Bool:=validRowF x.row&&validP x.vf x.vt
def closeF (first:Int):Option Int→List Int→Int
 |_,[]=>0
 |p,n::r=>if ¬(1≤n∧n≤first-1) then 6 else if (match p with|some q=>decide (n≤q)|none=>false)=true then 9 else closeF first (some n) r
def opensF (l:List Fct):Int:=if l.all Fct.ok=true then 0 else 8
def deltaF (first:Int) (cl:List Int) (l:List Fct):Int:=if closeF first none cl≠0 then closeF first none cl else opensF l
theorem closeF_cons {first n:Int} {p:Option Int} {r:List Int}:closeF first p (n::r)=if ¬(1≤n∧n≤first-1) then 6 else if (match p with|some q=>decide (n≤q)|none=>false)=true then 9 else closeF first (some n) r:=by
 cases p<;>rfl
def prevI (l:List Int) (k:Nat):Option Int:=if k=0 then none else l[k-1]?
theorem prevI_succ {l:List Int} {k:Nat} (h:k<l.length):prevI l (k+1)=some l[k]:=by
 unfold prevI;rw [if_neg (Nat.succ_ne_zero k),Nat.add_sub_cancel,List.getElem?_eq_getElem h]
theorem closeF_at {first:Int} {p:Option Int} {l:List Int} {k:Nat} (h:k<l.length):closeF first p (l.drop k)=if ¬(1≤l[k]∧l[k]≤first-1) then 6 else if (match p with|some q=>decide (l[k]≤q)|none=>false)=true then 9 else closeF first (prevI l (k+1)) (l.drop (k+1)):=by
 rw [List.drop_eq_getElem_cons h,closeF_cons,prevI_succ h]
theorem closeF_end {first:Int} {p:Option Int} {l:List Int} {k:Nat} (h:l.length≤k):closeF first p (l.drop k)=0:=by
 rw [List.drop_of_length_le h];cases p<;>rfl
theorem okF_take {l:List Fct} {k:Nat} (hk:k<l.length) (h:(l.take k).all Fct.ok=true) (h2:l[k].ok=true):(l.take (k+1)).all Fct.ok=true:=by
 rw [List.take_succ_eq_append_getElem hk,List.all_append,h]
 simp [h2]
theorem okF_bad {l:List Fct} {k:Nat} (hk:k<l.length) (h2:l[k].ok=false):opensF l=8:=by
 unfold opensF
 rw [if_neg]
 intro h
 have:=List.all_eq_true.1 h _ (List.getElem_mem hk)
 rw [h2] at this
 cases this
theorem checkDelta_any (S:ByteArray) (cv ov:Value) (cl:List Int) (ops:List RF) (first:Int) (w:World) (hc:RdE 1 intE w (·<w.heap.size) cv cl) (ho:RdFs w (·<w.heap.size) ov ops) (hf:1≤first) (hf2:first≤1125899906842624):
  Calls Tryz.prog 34 #[.agg #[.string S,cv,ov],.int .i64 first] w fun e w'=>e=.returned (.int .i64 (deltaF first cl (ops.map RF.fct)))∧Below w.heap.size w w':=by
 obtain ⟨cA,cc,rfl,a1,a2,a3⟩:=Rd.open_ (show Rd w _ 1 cv cl.length (cl.flatMap intE) from hc)
 obtain ⟨oA,oc,rfl,b1,b2,b3⟩:=Rd.open_ (show Rd w _ 3 ov ops.length (ops.flatMap RF.enc) from ho.1)
 unfold maxLen at a2 b2
 obtain ⟨W,hW⟩:∃W,W=w.alloc (.cells #[.string S,.slice cA cl.length cc,.slice oA ops.length oc] 63):=⟨_,rfl⟩
 have hbW:Below w.heap.size w W:=by rw [hW];exact Below.of_alloc _
 have hWs:w.heap.size<W.heap.size:=by rw [hW];simp
 have hT:W.heap[w.heap.size]? =some (.cells #[.string S,.slice cA cl.length cc,.slice oA ops.length oc] 63 (0,0)):=by rw [hW];exact heap_alloc_new _ _
 have HC:=hI0 (hc.below hbW)
 have HO:=hI0 ho
 have HBW:=hI0 hbW
 have HT:=hI0 hT
 have HWS:=hI0 hWs
 obtain ⟨res,hres⟩:∃r,r=deltaF first cl (ops.map RF.fct):=⟨_,rfl⟩
 rw [←hres]
 have HRES:=hI0 hres
 have t0:W.cell? ⟨w.heap.size,0,none⟩=some (.string S):=cW0 W _ 0 _ _ _ hT
 have t1:W.cell? ⟨w.heap.size,1,none⟩=some (.slice cA cl.length cc):=cW0 W _ 1 _ _ _ hT
 have t2:W.cell? ⟨w.heap.size,2,none⟩=some (.slice oA ops.length oc):=cW0 W _ 2 _ _ _ hT
 clear hc ho hbW hT hWs hres a3 b3
 go_enter Tryz.func34,Tryz.ntmps34
 go_wp2_with fail
 rw [←hW]
 clear hW
 go_loopw [12] (fun i wr=>∃k:Nat,i=.int .i64 (k:Int)∧k≤cl.length∧Hid (closeF first (prevI cl k) (cl.drop k)=closeF first none cl)∧wr=W) (fun i _=>cl.length-(intOf i).toNat)
 case atStart=>exact ⟨0,rfl,Nat.zero_le _,hI0 rfl,rfl⟩
 obtain ⟨k,rfl,hk,HG,hw⟩:=hrel
 rw [hw]
 clear hw
 by_cases hlt:k<cl.length
 case pos=>
  obtain ⟨b,off,rfl,hF,hcl⟩:=RdE.at_ (K:=1) (enc:=intE) (fun _=>rfl) (by omega) HC.out hlt
  have hg:=HG.out
  rw [closeF_at hlt] at hg
  have hcx:=hcl k hlt 0 _ (by decide) rfl
  rw [Nat.mul_one,Nat.add_zero] at hcx
  have HCL:=hI0 hcl
  obtain ⟨x,hx⟩:∃x,x=cl[k]:=⟨_,rfl⟩
  rw [←hx] at hg hcx
  have hnx:=prevI_succ hlt
  rw [←hx] at hnx
  have HNX:=hI0 hnx
  have HG2:=hI0 hg
  clear hcl hF hg hx hnx
  have hfs1:first-1≤9223372036854775807:=by omega
  have hfs2: -9223372036854775808≤first-1:=by omega
  have KW:=within_any x 1 (first-1) W
  by_cases hin:1≤x∧x≤first-1
  case neg=>
   rw [decide_eq_false hin] at KW
   have HE:Hid (res=6):=hI0 (by
    have h:=HG2.out
    rw [if_pos hin] at h
    rw [HRES.out,deltaF,←h]
    exact if_pos (by decide))
   clear hin
   go_wp2_with fail
   (with_reducible refine KW.mono ?_)
   rintro _ z1 ⟨rfl,hz⟩
   rw [hz]
   clear hz z1 KW
   go_wp2_with fail
   go_ret
   exact ⟨by rw [HE.out];rfl,HBW.out⟩
  rw [decide_eq_true hin] at KW
  have hg3:=HG2.out
  rw [if_neg (by simpa using hin)] at hg3
  have HG3:=hI0 hg3
  clear hin hg3
  go_wp2_with fail
  (with_reducible refine KW.mono ?_)
  rintro _ z1 ⟨rfl,hz⟩
  rw [hz]
  clear hz z1 KW
  by_cases hk0:k=0
  case pos=>
   have HN:Hid (closeF first (prevI cl (k+1)) (cl.drop (k+1))=closeF first none cl):=hI0 (by rw [←HG3.out];exact (if_neg (by simp [prevI,hk0])).symm)
   subst hk0
   go_wp2_with fail
   go_roundw
   case rel=>exact ⟨1,by go_num,hlt,HN,by first|trivial|rfl⟩
   case measure=>simp [intOf];omega
  obtain ⟨m,rfl⟩:∃m,k=m+1:=⟨k-1,by omega⟩
  have hml:m<cl.length:=by omega
  have hcy:=HCL.out m hml 0 _ (by decide) rfl
  rw [Nat.mul_one,Nat.add_zero] at hcy
  have hpv:=prevI_succ hml
  have hg4:=HG3.out
  rw [hpv] at hg4
  obtain ⟨y,hy⟩:∃y,y=cl[m]:=⟨_,rfl⟩
  rw [←hy] at hcy hg4
  simp only at hg4
  have HG4:=hI0 hg4
  have ew:IntKind.i64.wrap (((m+1:Nat):Int)-1)=((m:Nat):Int):=by rw [IntKind.wrap_i64];omega
  have hil:(m:Int)<(cl.length:Int):=by omega
  obtain ⟨z,hz⟩:∃z,z=m+1:=⟨_,rfl⟩
  have HML:Hid (z<cl.length):=hI0 (by omega)
  have hip:(0:Int)<(z:Int):=by omega
  have hzl:z+1≤9223372036854775807:=by omega
  have hz0:0<z:=by omega
  have HN2:Hid (closeF first (prevI cl (z+1)) (cl.drop (z+1))=closeF first (prevI cl (m+1+1)) (cl.drop (m+1+1))):=hI0 (by rw [hz])
  have HZM:=hI0 hz
  rw [←hz] at ew ⊢
  clear hpv hg4 hy HNX HCL HG HG2 HG3 hlt hk hk0 hz hcx
  by_cases hle:x≤y
  case pos=>
   have HE:Hid (res=9):=hI0 (by
    have h:=HG4.out
    rw [if_pos (by simpa using hle)] at h
    rw [HRES.out,deltaF,←h]
    exact if_pos (by decide))
   go_wp2_with fail
   go_ret
   exact ⟨by rw [HE.out];rfl,HBW.out⟩
  have HN:Hid (closeF first (prevI cl (z+1)) (cl.drop (z+1))=closeF first none cl):=hI0 (by rw [HN2.out,←HG4.out];exact (if_neg (by simpa using hle)).symm)
  go_wp2_with fail
  go_roundw
  case rel=>exact ⟨z+1,by go_num,by have:=HML.out;omega,HN,by first|trivial|rfl⟩
  case measure=>have:=HML.out;have:=HZM.out;simp [intOf];omega
 have hlt2:¬(k:Int)<(cl.length:Int):=by omega
 have HR2:Hid (res=opensF (ops.map RF.fct)):=hI0 (by
  have h:=HG.out
  rw [closeF_end (by omega)] at h
  rw [HRES.out,deltaF,←h]
  exact if_neg (by simp))
 clear HG
 go_wp2_with fail
 clear hlt2 hlt
 go_loopw [38] (fun i wr=>∃j:Nat,i=.int .i64 (j:Int)∧j≤ops.length∧Hid (((ops.map RF.fct).take j).all Fct.ok=true)∧Hid (Below w.heap.size w wr)) (fun i _=>ops.length-(intOf i).toNat)
 case atStart=>exact ⟨0,rfl,Nat.zero_le _,hI0 rfl,HBW⟩
 obtain ⟨j,rfl,hj,HG,HB⟩:=hrel
 obtain ⟨wi,rfl⟩:∃wi:World,wi=wr:=⟨_,rfl⟩
 by_cases hltj:j<ops.length
 case neg=>
  have hlt3:¬(j:Int)<(ops.length:Int):=by omega
  have HE:Hid (res=0):=hI0 (by
   have h:=HG.out
   rw [List.take_of_length_le (by rw [List.length_map];omega)] at h
   rw [HR2.out,opensF,if_pos h])
  go_wp2_with fail
  go_ret
  exact ⟨by rw [HE.out];rfl,HB.out⟩
 have hlt3:(j:Int)<(ops.length:Int):=by omega
 have hbi:Below w.heap.size w wi:=HB.out
 obtain ⟨b,off,rfl,hF,hcl⟩:=RdE.at_ (K:=3) (enc:=RF.enc) (fun _=>rfl) (by omega) (HO.out.1.below hbi) hltj
 have hcx:=hcl j hltj
 have hxi:=(HO.out.below hbi).2 _ (List.getElem_mem hltj)
 obtain ⟨x,hx⟩:∃x,x=ops[j]:=⟨_,rfl⟩
 have hjm:j<(ops.map RF.fct).length:=by rw [List.length_map];exact hltj
 have htk:((ops.map RF.fct).take j).all Fct.ok=true→x.fct.ok=true→((ops.map RF.fct).take (j+1)).all Fct.ok=true:=fun h h2=>okF_take hjm h (by rw [List.getElem_map,←hx];exact h2)
 have hbd:x.fct.ok=false→opensF (ops.map RF.fct)=8:=fun h=>okF_bad hjm (by rw [List.getElem_map,←hx];exact h)
 clear hjm
 rw [←hx] at hcx hxi
 obtain ⟨xA,xn,xc,xr,x1,x2⟩:=x
 simp only [RF.is,RF.fct,Fct.ok] at hxi htk hbd
 have g0:wi.cell? ⟨b,off+j*3,none⟩=some (.slice xA xn xc):=hcx 0 _ (by decide) rfl
 have g1:wi.cell? ⟨b,off+j*3+1,none⟩=some (.int .i64 x1):=hcx 1 _ (by decide) rfl
 have g2:wi.cell? ⟨b,off+j*3+2,none⟩=some (.int .i64 x2):=hcx 2 _ (by decide) rfl
 have HTK:=hI0 htk
 have HBD:=hI0 hbd
 obtain ⟨W1,hW1⟩:∃W1,W1=wi.alloc (.cells #[.slice xA xn xc,.int .i64 x1,.int .i64 x2] 68):=⟨_,rfl⟩
 have hb1:Below wi.heap.size wi W1:=by rw [hW1];exact Below.of_alloc _
 have hF1:W1.heap[wi.heap.size]? =some (.cells #[.slice xA xn xc,.int .i64 x1,.int .i64 x2] 68 (0,0)):=by rw [hW1];exact heap_alloc_new _ _
 have hl1:wi.heap.size<W1.heap.size:=by rw [hW1];simp
 have KR:=validRow_any (.slice xA xn xc) xr W1 ((Rd.keep hxi.1 (Keeps.below hb1)).wide (fun b (hb:b<wi.heap.size)=>by show b<W1.heap.size;omega)) hxi.2
 have KP:=fun V=>pvR_any x1 x2 V
 obtain ⟨v0,hv0⟩:∃bo,bo=validRowF xr:=⟨_,rfl⟩
 obtain ⟨v1,hv1⟩:∃bo,bo=validP x1 x2:=⟨_,rfl⟩
 rw [←hv0] at KR HTK HBD
 rw [←hv1] at KP HTK HBD
 have HF1:=hI0 hF1
 have HL1:=hI0 hl1
 have HB1:Hid (Below w.heap.size w W1):=hI0 (HB.out.trans (hb1.mono HB.out.size))
 clear hcl hcx hxi htk hbd hx hb1 hF1 hl1 hF hv0 hv1 hbi
 go_wp2_with fail
 rw [←hW1]
 clear hW1 g0 g1 g2
 (with_reducible refine KR.mono ?_)
 rintro _ y1 ⟨rfl,hy1⟩
 have hT2:=(hy1.block _ HL1.out).trans HF1.out
 have q1:y1.cell? ⟨wi.heap.size,1,none⟩=some (.int .i64 x1):=cW0 y1 _ 1 _ _ _ hT2
 have q2:y1.cell? ⟨wi.heap.size,2,none⟩=some (.int .i64 x2):=cW0 y1 _ 2 _ _ _ hT2
 have HY1:Hid (Below w.heap.size w y1):=hI0 (HB1.out.trans (hy1.mono HB1.out.size))
 clear hy1 hT2 KR
 cases v0
 case false=>
  have HE:Hid (res=8):=hI0 (by rw [HR2.out];exact HBD.out rfl)
  go_wp2_with fail
  go_ret
  exact ⟨by rw [HE.out];rfl,HY1.out⟩
 have KP:=KP y1
 go_wp2_with fail
 (with_reducible refine KP.mono ?_)
 rintro _ y2 ⟨rfl,hy2⟩
 have HY2:Hid (Below w.heap.size w y2):=hI0 (HY1.out.trans (hy2.mono HY1.out.size))
 clear hy2 KP q1 q2
 cases v1
 case false=>
  have HE:Hid (res=8):=hI0 (by rw [HR2.out];exact HBD.out rfl)
  go_wp2_with fail
  go_ret
  exact ⟨by rw [HE.out];rfl,HY2.out⟩
 have HN:Hid (((ops.map RF.fct).take (j+1)).all Fct.ok=true):=hI0 (HTK.out HG.out rfl)
 go_wp2_with fail
 go_roundw
 case rel=>exact ⟨j+1,by go_num,hltj,HN,HY2⟩
 case measure=>simp [intOf];omega
end
section
open Go.RowKit Go.Lib Go.IntWalk Go.Sort Go.Shelf
def ix11 (n:Int):Bool:=decide (0≤n∧n≤11)
def ixF (l:List Int):Bool:=l.all ix11&&decide (l.length≤12)
theorem allP_snoc' {α:Type} {p:α→Bool} {xs:List α} {k:Nat} (hk:k<xs.length) (h:(xs.take k).all p=true) (h2:p xs[k]=true):(xs.take (k+1)).all p=true:=by
 rw [List.take_succ_eq_append_getElem hk,List.all_append,h];simp [h2]
theorem allP_no {α:Type} {p:α→Bool} {xs:List α} {k:Nat} (hk:k<xs.length) (h:p xs[k]=false):xs.all p=false:=by
 rw [←Bool.not_eq_true,List.all_eq_true]
 intro hh
 have:=hh xs[k] (List.getElem_mem hk)
 rw [h] at this
 cases this
theorem ix1_any (n:Int) (w:World):Calls Tryz.prog 240 #[.int .i64 n] w fun e w'=>e=.returned (.bool (!ix11 n))∧w'=w:=by
 have K:=within_any n 0 11 w
 rw [show decide (0≤n∧n≤11)=ix11 n from rfl] at K
 go_enter Tryz.func240,Tryz.ntmps240
 go_wp2_with fail
 (with_reducible refine K.mono ?_)
 rintro _ w1 ⟨rfl,hw⟩
 rw [hw]
 clear hw w1 K
 go_wp2_with fail
 go_ret
 exact ⟨rfl,rfl⟩
theorem ixIndex_any (v:Value) (xs:List Int) (w:World) (hv:RdE 1 intE w (·<w.heap.size) v xs):
  Calls Tryz.prog 247 #[v,.func (.func 240) #[] #[]] w fun e w'=>∃m:Int,e=.returned (.int .i64 m)∧(decide (0≤m))=(!xs.all ix11)∧w'=w:=by
 obtain ⟨A,c,rfl,hc1,hc2,hc3⟩:=Rd.open_ (show Rd w _ 1 v xs.length (xs.flatMap intE) from hv)
 unfold maxLen at hc2
 have HV:=hI0 hv
 clear hv hc3
 go_enter Tryz.func247,Tryz.ntmps247
 go_wp2_with fail
 go_loopw [8] (fun i wr=>∃k:Nat,i=.int .i64 (k:Int)∧k≤xs.length∧Hid ((xs.take k).all ix11=true)∧wr=w) (fun i _=>xs.length-(intOf i).toNat)
 case atStart=>exact ⟨0,rfl,Nat.zero_le _,hI0 rfl,rfl⟩
 obtain ⟨k,rfl,hk,HA,hw⟩:=hrel
 rw [hw]
 clear hw
 by_cases hlt:k<xs.length
 case neg=>
  have hlt2:¬(k:Int)<(xs.length:Int):=by omega
  have HE:Hid (xs.all ix11=true):=hI0 (by have h:=HA.out;rw [List.take_of_length_le (by omega)] at h;exact h)
  go_wp2_with fail
  go_ret
  exact ⟨-1,rfl,by rw [HE.out];rfl,rfl⟩
 have hlt2:(k:Int)<(xs.length:Int):=by omega
 obtain ⟨b,off,rfl,hF,hcl⟩:=RdE.at_ (K:=1) (enc:=intE) (fun _=>rfl) (by omega) HV.out hlt
 have hcx:=hcl k hlt 0 _ (by decide) rfl
 rw [Nat.mul_one,Nat.add_zero] at hcx
 have hs:=fun h=>allP_snoc' (p:=ix11) hlt h
 have hn:=allP_no (p:=ix11) hlt
 obtain ⟨x,hx⟩:∃x,x=xs[k]:=⟨_,rfl⟩
 rw [←hx] at hcx hn
 have hs2:ix11 x=true→(xs.take (k+1)).all ix11=true:=fun h=>hs HA.out (by rw [←hx];exact h)
 have HS:=hI0 hs2
 have HN:=hI0 hn
 have K:=ix1_any x w
 obtain ⟨v,hv⟩:∃bo,bo=ix11 x:=⟨_,rfl⟩
 rw [←hv] at K HS HN
 clear hcl hF hs hn hs2 hx hv
 go_wp2_with fail
 (with_reducible refine K.mono ?_)
 rintro _ w1 ⟨rfl,hw⟩
 rw [hw]
 clear hw w1 K
 cases v
 case false=>
  go_wp2_with fail
  go_ret
  exact ⟨k,rfl,by rw [HN.out (by first|rfl|trivial)];simp,rfl⟩
 have HA2:Hid ((xs.take (k+1)).all ix11=true):=hI0 (HS.out (by first|rfl|trivial))
 go_wp2_with fail
 go_roundw
 case rel=>exact ⟨k+1,by go_num,hlt,HA2,by first|trivial|rfl⟩
 case measure=>simp [intOf];omega
theorem ixContains_any (v:Value) (xs:List Int) (w:World) (hv:RdE 1 intE w (·<w.heap.size) v xs):
  Calls Tryz.prog 239 #[v,.func (.func 240) #[] #[]] w fun e w'=>e=.returned (.bool (!xs.all ix11))∧w'=w:=by
 have K:=ixIndex_any v xs w hv
 go_enter Tryz.func239,Tryz.ntmps239
 go_wp2_with fail
 (with_reducible refine K.mono ?_)
 rintro _ w2 ⟨m,rfl,hm,hw⟩
 rw [hw]
 have HM:=hI0 hm
 clear hm hw w2 K
 go_wp2_with fail
 all_goals
  go_ret
  exact ⟨ret_bool (by rw [←HM.out]),rfl⟩
theorem indexes_any (v:Value) (xs:List Int) (w:World) (hv:RdE 1 intE w (·<w.heap.size) v xs):
  Calls Tryz.prog 194 #[v] w fun e w'=>e=.returned (.bool (ixF xs))∧w'=w:=by
 have K:=ixContains_any v xs w hv
 obtain ⟨A,c,rfl,hc1,hc2,hc3⟩:=Rd.open_ (show Rd w _ 1 v xs.length (xs.flatMap intE) from hv)
 have HE:Hid (ixF xs=(xs.all ix11&&decide (xs.length≤12))):=hI0 rfl
 generalize ixF xs=r at *
 generalize xs.all ix11=b at *
 clear hv hc3 hc2 hc1
 by_cases h:xs.length≤12
 ·have hz:(xs.length:Int)≤12:=by omega
  have HR:Hid (r=b):=hI0 (by rw [HE.out];simp [h])
  clear HE
  go_enter Tryz.func194,Tryz.ntmps194
  go_wp2_with fail
  (with_reducible refine K.mono ?_)
  rintro _ w2 ⟨rfl,hw⟩
  rw [hw]
  clear hw w2 K
  cases b
  ·go_wp2_with fail
   go_ret
   exact ⟨ret_bool HR.out.symm,rfl⟩
  ·go_wp2_with fail
   go_ret
   exact ⟨ret_bool HR.out.symm,rfl⟩
 ·have hz:¬(xs.length:Int)≤12:=by omega
  have HR:Hid (r=false):=hI0 (by rw [HE.out];simp [h])
  clear HE K
  go_enter Tryz.func194,Tryz.ntmps194
  go_wp2_with fail
  go_ret
  exact ⟨ret_bool HR.out.symm,rfl⟩
structure Chn where
 kind:Int
 name:ByteArray
 to:ByteArray
 cname:ByteArray
 ckind:Int
 cnull:Bool
 def_:Val
def Chn.enc (x:Chn):List Value:=[.int .i64 x.kind,.string x.name,.string x.to,.string x.cname,.int .i64 x.ckind,.bool x.cnull,.int .i64 x.def_.kind,.int .i64 x.def_.int,.string x.def_.text]
def emW (s:ByteArray):Bool:=s.toList.isEmpty||nmB s
def Chn.ok (x:Chn):Bool:=emW x.name&&(emW x.to&&(emW x.cname&&(decide (1≤x.kind∧x.kind≤4)&&(decide (0≤x.ckind∧x.ckind≤3)&&validV x.def_))))
theorem em_eq {S:ByteArray} (h:S.toList.isEmpty=true):emW S=true:=by unfold emW;rw [h];rfl
theorem em_ne {S:ByteArray} (h:S.toList.isEmpty=false):emW S=nmB S:=by unfold emW;rw [h];rfl
theorem storedChange_any (x1:Int) (x2 x3 x4:ByteArray) (x5:Int) (x6:Bool) (x7 x8:Int) (x9:ByteArray) (w:World) (hs:x9.size≤maxLen):
  Calls Tryz.prog 131 #[.agg #[.int .i64 x1,.string x2,.string x3,.string x4,.int .i64 x5,.bool x6,.int .i64 x7,.int .i64 x8,.string x9]] w fun e w'=>e=.returned (.bool (Chn.ok ⟨x1,x2,x3,x4,x5,x6,⟨x7,x8,x9⟩⟩))∧Below w.heap.size w w':=by
 obtain ⟨W0,hW0⟩:∃W,W=w.alloc (.cells #[.int .i64 x1,.string x2,.string x3,.string x4,.int .i64 x5,.bool x6,.int .i64 x7,.int .i64 x8,.string x9] 81):=⟨_,rfl⟩
 obtain ⟨W,hW⟩:∃W,W=W0.alloc (.cells #[.string x2,.string x3,.string x4] 9):=⟨_,rfl⟩
 have hb0:Below w.heap.size w W0:=by rw [hW0];exact Below.of_alloc _
 have hb1:Below W0.heap.size W0 W:=by rw [hW];exact Below.of_alloc _
 have hT0:W0.heap[w.heap.size]? =some (.cells #[.int .i64 x1,.string x2,.string x3,.string x4,.int .i64 x5,.bool x6,.int .i64 x7,.int .i64 x8,.string x9] 81 (0,0)):=by rw [hW0];exact heap_alloc_new _ _
 have hz0:W0.heap.size=w.heap.size+1:=by rw [hW0];simp
 have hN:W.heap[w.heap.size+1]? =some (.cells #[.string x2,.string x3,.string x4] 9 (0,0)):=by rw [hW,←hz0];exact heap_alloc_new _ _
 have hz1:W.heap.size=w.heap.size+2:=by rw [hW];simp [hz0]
 have HT:=hI0 ((hb1.block w.heap.size (by omega)).trans hT0)
 have HN:=hI0 hN
 have HZ:=hI0 hz1
 have HBW:Hid (Below w.heap.size w W):=hI0 (hb0.trans (hb1.mono hb0.size))
 obtain ⟨rs,hrs⟩:∃r,r=Chn.ok ⟨x1,x2,x3,x4,x5,x6,⟨x7,x8,x9⟩⟩:=⟨_,rfl⟩
 rw [←hrs]
 have HR:Hid (rs=(emW x2&&(emW x3&&(emW x4&&(decide (1≤x1∧x1≤4)&&(decide (0≤x5∧x5≤3)&&validV ⟨x7,x8,x9⟩)))))):=hI0 hrs
 clear hrs hb0 hb1 hT0 hN
 go_enter Tryz.func131,Tryz.ntmps131
 go_wp2_with fail
 rw [←hW0,←hW]
 clear hW0 hW hz0 hz1
 go_loopw [14] (fun i wr=>∃k:Nat,i=.int .i64 (k:Int)∧k≤3∧Hid ((1≤k→emW x2=true)∧(2≤k→emW x3=true)∧(3≤k→emW x4=true))∧Hid (Below W.heap.size W wr)) (fun i _=>3-(intOf i).toNat)
 case atStart=>exact ⟨0,rfl,by omega,hI0 ⟨fun h=>absurd h (by decide),fun h=>absurd h (by decide),fun h=>absurd h (by decide)⟩,hI0 (Below.refl _ _)⟩
 obtain ⟨k,rfl,hk,HG,HB⟩:=hrel
 obtain ⟨wi,rfl⟩:∃wi:World,wi=wr:=⟨_,rfl⟩
 have hNi:=(HB.out.block (w.heap.size+1) (by have:=HZ.out;omega)).trans HN.out
 obtain rfl|rfl|rfl|rfl:k=0∨k=1∨k=2∨k=3:=by omega
 ·exact zq34 0
 ·exact zq34 2
 ·exact zq34 1
 ·have hTi:=(HB.out.block w.heap.size (by have:=HZ.out;omega)).trans HT.out
  have c0:wi.cell? ⟨w.heap.size,0,none⟩=some (.int .i64 x1):=cW0 wi _ 0 _ _ _ hTi
  have c1:wi.cell? ⟨w.heap.size,1,none⟩=some (.string x2):=cW0 wi _ 1 _ _ _ hTi
  have c2:wi.cell? ⟨w.heap.size,2,none⟩=some (.string x3):=cW0 wi _ 2 _ _ _ hTi
  have c3:wi.cell? ⟨w.heap.size,3,none⟩=some (.string x4):=cW0 wi _ 3 _ _ _ hTi
  have c4:wi.cell? ⟨w.heap.size,4,none⟩=some (.int .i64 x5):=cW0 wi _ 4 _ _ _ hTi
  have c5:wi.cell? ⟨w.heap.size,5,none⟩=some (.bool x6):=cW0 wi _ 5 _ _ _ hTi
  have c6:wi.cell? ⟨w.heap.size,6,none⟩=some (.int .i64 x7):=cW0 wi _ 6 _ _ _ hTi
  have c7:wi.cell? ⟨w.heap.size,7,none⟩=some (.int .i64 x8):=cW0 wi _ 7 _ _ _ hTi
  have c8:wi.cell? ⟨w.heap.size,8,none⟩=some (.string x9):=cW0 wi _ 8 _ _ _ hTi
  have HR2:Hid (rs=(decide (1≤x1∧x1≤4)&&(decide (0≤x5∧x5≤3)&&validV ⟨x7,x8,x9⟩))):=hI0 (by rw [HR.out,HG.out.1 (by omega),HG.out.2.1 (by omega),HG.out.2.2 (by omega)];rfl)
  have K1:=within_any x1 1 4 wi
  have K2:=within_any x5 0 3 wi
  have K3:=validValue_any x7 x8 x9 wi hs
  obtain ⟨v1,hv1⟩:∃bo,bo=decide (1≤x1∧x1≤4):=⟨_,rfl⟩
  obtain ⟨v2,hv2⟩:∃bo,bo=decide (0≤x5∧x5≤3):=⟨_,rfl⟩
  obtain ⟨v3,hv3⟩:∃bo,bo=validV ⟨x7,x8,x9⟩:=⟨_,rfl⟩
  rw [←hv1] at K1 HR2
  rw [←hv2] at K2 HR2
  rw [←hv3] at K3 HR2
  have HBF:Hid (Below w.heap.size w wi):=hI0 (HBW.out.trans (HB.out.mono HBW.out.size))
  clear hTi hNi hv1 hv2 hv3
  go_wp2_with fail
  (with_reducible refine K1.mono ?_)
  rintro _ z1 ⟨rfl,hz⟩
  rw [hz]
  clear hz z1 K1
  cases v1
  case false=>
   go_wp2_with fail
   go_ret
   exact ⟨by rw [HR2.out];rfl,HBF.out⟩
  go_wp2_with fail
  (with_reducible refine K2.mono ?_)
  rintro _ z1 ⟨rfl,hz⟩
  rw [hz]
  clear hz z1 K2
  cases v2
  case false=>
   go_wp2_with fail
   go_ret
   exact ⟨by rw [HR2.out];rfl,HBF.out⟩
  go_wp2_with fail
  (with_reducible refine K3.mono ?_)
  rintro _ z1 ⟨rfl,hz⟩
  have HBG:Hid (Below w.heap.size w z1):=hI0 (by rw [←hz];exact HBF.out.alloc HBF.out.size _)
  clear hz K3
  go_wp2_with fail
  go_ret
  exact ⟨by rw [HR2.out];rfl,HBG.out⟩
end
section
open Go.RowKit Go.Lib Go.IntWalk Go.Sort Go.Shelf
inductive RE where
 |mk (op int:Int) (val:Val) (name:ByteArray) (A:Option Addr) (c:Nat) (args:List RE)
def RE.enc:RE→List Value
 | .mk op int val name A c args=>[.int .i64 op,.int .i64 int,.int .i64 val.kind,.int .i64 val.int,.string val.text,.string name,.slice A args.length c]
theorem RE.enc_length (e:RE):e.enc.length=7:=by cases e;rfl
def exIs:Nat→World→(Nat→Prop)→RE→Prop
 |0,_,_,_=>True
 |d+1,w,F,.mk _ _ val name A c args=>RdE 7 RE.enc w F (.slice A args.length c) args∧goV val∧name.size≤maxLen∧∀a∈args,exIs d w F a
theorem exIs_below {w w':World} (hb:Below w.heap.size w w'):∀(d:Nat) (e:RE),exIs d w (·<w.heap.size) e→exIs d w' (·<w'.heap.size) e:=by
 intro d
 induction d with
 |zero=>intro e _;trivial
 |succ d ih=>
  intro e h
  obtain ⟨op,it,val,nm,A,c,args⟩:=e
  obtain ⟨h1,h2,h3,h4⟩:=h
  exact ⟨h1.below hb,h2,h3,fun a ha=>ih a (h4 a ha)⟩
def chP (c:UInt8):Bool:=decide (32≤(c.toNat:Int)∧(c.toNat:Int)≤126)
def okX:Nat→RE→Bool
 |0,_=>false
 |d+1,.mk op int val name _ _ args=>decide (1≤op∧op≤26)&&(decide (-1125899906842624≤int∧int≤1125899906842624)&&(validV val&&(decide (name.size≤49)&&(name.data.toList.all chP&&args.all (okX d)))))
theorem storedExpr_any:∀(d:Nat) (e:RE) (lv:Int) (w:World),lv+d=25→1≤lv→exIs d w (·<w.heap.size) e→
  Calls Tryz.prog 195 #[.agg e.enc.toArray,.int .i64 lv] w fun x w'=>x=.returned (.bool (okX d e))∧Below w.heap.size w w':=by
 intro d
 induction d with
 |zero=>
  intro e lv w hlv _ _
  obtain ⟨op,it,⟨vk,vi,vs⟩,nm,A,c,args⟩:=e
  show Calls Tryz.prog 195 #[.agg #[.int .i64 op,.int .i64 it,.int .i64 vk,.int .i64 vi,.string vs,.string nm,.slice A args.length c],.int .i64 lv] w _
  have hl:(24:Int)<lv:=by omega
  clear hlv
  go_enter Tryz.func195,Tryz.ntmps195
  go_wp2_with fail
  go_ret
  exact ⟨rfl,Below.of_alloc _⟩
 |succ d ih=>
  intro e lv w hlv hl1 he
  obtain ⟨op,it,⟨vk,vi,vs⟩,nm,A,c,args⟩:=e
  obtain ⟨h1,h2,h3,h4⟩:=he
  have IH:=hI0 ih
  obtain ⟨rs,hrs⟩:∃r,r=okX (d+1) (.mk op it ⟨vk,vi,vs⟩ nm A c args):=⟨_,rfl⟩
  rw [←hrs]
  have HR:Hid (rs=(decide (1≤op∧op≤26)&&(decide (-1125899906842624≤it∧it≤1125899906842624)&&(validV ⟨vk,vi,vs⟩&&(decide (nm.size≤49)&&(nm.data.toList.all chP&&args.all (okX d))))))):=hI0 hrs
  show Calls Tryz.prog 195 #[.agg #[.int .i64 op,.int .i64 it,.int .i64 vk,.int .i64 vi,.string vs,.string nm,.slice A args.length c],.int .i64 lv] w _
  obtain ⟨W,hW⟩:∃W,W=w.alloc (.cells #[.int .i64 op,.int .i64 it,.int .i64 vk,.int .i64 vi,.string vs,.string nm,.slice A args.length c] 212):=⟨_,rfl⟩
  have hbW:Below w.heap.size w W:=by rw [hW];exact Below.of_alloc _
  have hT:W.heap[w.heap.size]? =some (.cells #[.int .i64 op,.int .i64 it,.int .i64 vk,.int .i64 vi,.string vs,.string nm,.slice A args.length c] 212 (0,0)):=by rw [hW];exact heap_alloc_new _ _
  have hWs:w.heap.size<W.heap.size:=by rw [hW];simp
  have HBW:=hI0 hbW
  have HT:=hI0 hT
  have HWS:=hI0 hWs
  have HA:=hI0 h1
  have HA4:=hI0 h4
  have hl:¬(24:Int)<lv:=by omega
  have HLV:=hI0 (And.intro hlv hl1)
  have K1:=within_any op 1 26 W
  have K2:=within_any it (-1125899906842624) 1125899906842624 W
  have K3:=validValue_any vk vi vs W h2.2.2
  obtain ⟨v1,hv1⟩:∃bo,bo=decide (1≤op∧op≤26):=⟨_,rfl⟩
  obtain ⟨v2,hv2⟩:∃bo,bo=decide (-1125899906842624≤it∧it≤1125899906842624):=⟨_,rfl⟩
  obtain ⟨v3,hv3⟩:∃bo,bo=validV ⟨vk,vi,vs⟩:=⟨_,rfl⟩
  rw [←hv1] at K1 HR
  rw [←hv2] at K2 HR
  rw [←hv3] at K3 HR
  have c0:W.cell? ⟨w.heap.size,0,none⟩=some (.int .i64 op):=cW0 W _ 0 _ _ _ hT
  have c1:W.cell? ⟨w.heap.size,1,none⟩=some (.int .i64 it):=cW0 W _ 1 _ _ _ hT
  have c2:W.cell? ⟨w.heap.size,2,none⟩=some (.int .i64 vk):=cW0 W _ 2 _ _ _ hT
  have c3:W.cell? ⟨w.heap.size,3,none⟩=some (.int .i64 vi):=cW0 W _ 3 _ _ _ hT
  have c4:W.cell? ⟨w.heap.size,4,none⟩=some (.string vs):=cW0 W _ 4 _ _ _ hT
  have c5:W.cell? ⟨w.heap.size,5,none⟩=some (.string nm):=cW0 W _ 5 _ _ _ hT
  have c6:W.cell? ⟨w.heap.size,6,none⟩=some (.slice A args.length c):=cW0 W _ 6 _ _ _ hT
  clear hbW hT hWs hv1 hv2 hv3 h1 h2 h4 hrs hlv hl1 ih
  go_enter Tryz.func195,Tryz.ntmps195
  go_wp2_with fail
  rw [←hW]
  clear hW
  (with_reducible refine K1.mono ?_)
  rintro _ z1 ⟨rfl,hz⟩
  rw [hz]
  clear hz z1 K1
  cases v1
  case false=>
   go_wp2_with fail
   go_ret
   exact ⟨by rw [HR.out];rfl,HBW.out⟩
  go_wp2_with fail
  (with_reducible refine K2.mono ?_)
  rintro _ z1 ⟨rfl,hz⟩
  rw [hz]
  clear hz z1 K2
  cases v2
  case false=>
   go_wp2_with fail
   go_ret
   exact ⟨by rw [HR.out];rfl,HBW.out⟩
  go_wp2_with fail
  (with_reducible refine K3.mono ?_)
  rintro _ W3 ⟨rfl,hz⟩
  have hb3:Below W.heap.size W W3:=by rw [←hz];exact Below.of_alloc _
  have HB3:Hid (Below w.heap.size w W3):=hI0 (HBW.out.trans (hb3.mono HBW.out.size))
  have HT3:=hI0 ((hb3.block _ HWS.out).trans HT.out)
  have HL3:Hid (w.heap.size<W3.heap.size):=hI0 (by have:=HWS.out;have:=hb3.size;omega)
  clear hz hb3 K3 c0 c1 c2 c3 c4 c5 c6
  cases v3
  case false=>
   go_wp2_with fail
   go_ret
   exact ⟨by rw [HR.out];rfl,HB3.out⟩
  have c0:W3.cell? ⟨w.heap.size,0,none⟩=some (.int .i64 op):=cW0 W3 _ 0 _ _ _ HT3.out
  have c1:W3.cell? ⟨w.heap.size,1,none⟩=some (.int .i64 it):=cW0 W3 _ 1 _ _ _ HT3.out
  have c2:W3.cell? ⟨w.heap.size,2,none⟩=some (.int .i64 vk):=cW0 W3 _ 2 _ _ _ HT3.out
  have c3:W3.cell? ⟨w.heap.size,3,none⟩=some (.int .i64 vi):=cW0 W3 _ 3 _ _ _ HT3.out
  have c4:W3.cell? ⟨w.heap.size,4,none⟩=some (.string vs):=cW0 W3 _ 4 _ _ _ HT3.out
  have c5:W3.cell? ⟨w.heap.size,5,none⟩=some (.string nm):=cW0 W3 _ 5 _ _ _ HT3.out
  have c6:W3.cell? ⟨w.heap.size,6,none⟩=some (.slice A args.length c):=cW0 W3 _ 6 _ _ _ HT3.out
  by_cases hn:nm.size≤49
  case neg=>
   have hni:(49:Int)<(nm.size:Int):=by omega
   have HF:Hid (rs=false):=hI0 (by rw [HR.out];simp [hn])
   go_wp2_with fail
   go_ret
   exact ⟨by rw [HF.out];rfl,HB3.out⟩
  have hni:¬(49:Int)<(nm.size:Int):=by omega
  have HR2:Hid (rs=(nm.data.toList.all chP&&args.all (okX d))):=hI0 (by rw [HR.out];simp [hn])
  obtain ⟨xb,Wc,hcv,hrd,hbc⟩:=conv_sb W3 nm (by omega)
  obtain ⟨nl,hnl⟩:∃l,l=nm.data.toList:=⟨_,rfl⟩
  rw [←hnl] at hrd HR2
  obtain ⟨Ab,cb,rfl,m1,m2,m3⟩:=Rd.open_ hrd
  unfold maxLen at m2
  have HRD:=hI0 hrd
  have HBC:Hid (Below w.heap.size w Wc):=hI0 (HB3.out.trans (hbc.mono HB3.out.size))
  have HTC:=hI0 ((hbc.block _ HL3.out).trans HT3.out)
  clear hrd hbc m3 hnl hn
  go_wp2_with fail
  clear hcv c0 c1 c2 c3 c4 c5 c6
  go_loopw [39] (fun i wr=>∃k:Nat,i=.int .i64 (k:Int)∧k≤nl.length∧Hid ((nl.take k).all chP=true)∧wr=Wc) (fun i _=>nl.length-(intOf i).toNat)
  case atStart=>exact ⟨0,rfl,Nat.zero_le _,hI0 rfl,rfl⟩
  obtain ⟨k,rfl,hk,HG,hw⟩:=hrel
  rw [hw]
  clear hw
  by_cases hlt:k<nl.length
  case pos=>
   have hlt2:(k:Int)<(nl.length:Int):=by omega
   obtain ⟨b,off,rfl,hF,g0⟩:=RdB.byte HRD.out hlt
   have hs:=fun h=>allP_snoc' (p:=chP) hlt HG.out h
   have hno:=allP_no (p:=chP) hlt
   obtain ⟨ch,hch⟩:∃c,c=nl[k]:=⟨_,rfl⟩
   rw [←hch] at g0 hno
   have hs2:chP ch=true→(nl.take (k+1)).all chP=true:=fun h=>hs (by rw [←hch];exact h)
   have KW:=within_any (ch.toNat:Int) 32 126 Wc
   rw [show decide (32≤(ch.toNat:Int)∧(ch.toNat:Int)≤126)=chP ch from rfl] at KW
   obtain ⟨v,hv⟩:∃bo,bo=chP ch:=⟨_,rfl⟩
   rw [←hv] at KW hno hs2
   have HS:=hI0 hs2
   have HNO:=hI0 hno
   have hc256:=ch.toNat_lt
   clear hs hs2 hno hch hv hF
   go_wp2_with fail
   (with_reducible refine KW.mono ?_)
   rintro _ z1 ⟨rfl,hz⟩
   rw [hz]
   clear hz z1 KW
   cases v
   case false=>
    have HF:Hid (rs=false):=hI0 (by rw [HR2.out,HNO.out (by first|rfl|trivial)];rfl)
    go_wp2_with fail
    go_ret
    exact ⟨by rw [HF.out];rfl,HBC.out⟩
   have HN:Hid ((nl.take (k+1)).all chP=true):=hI0 (HS.out (by first|rfl|trivial))
   go_wp2_with fail
   go_roundw
   case rel=>exact ⟨k+1,by go_num,hlt,HN,by first|trivial|rfl⟩
   case measure=>simp [intOf];omega
  have hlt2:¬(k:Int)<(nl.length:Int):=by omega
  have HR3:Hid (rs=args.all (okX d)):=hI0 (by
   have h:=HG.out
   rw [List.take_of_length_le (by omega)] at h
   rw [HR2.out,h];rfl)
  have c6:Wc.cell? ⟨w.heap.size,6,none⟩=some (.slice A args.length c):=cW0 Wc _ 6 _ _ _ HTC.out
  obtain ⟨A0,c0,hAc,n1,n2,n3⟩:=Rd.open_ (show Rd w _ 7 (.slice A args.length c) args.length (args.flatMap RE.enc) from HA.out)
  simp only [Value.slice.injEq] at hAc
  obtain ⟨rfl,-,rfl⟩:=hAc
  unfold maxLen at n2
  clear HG n3 hlt
  go_wp2_with fail
  clear c6 hlt2
  go_loopw [51] (fun i wr=>∃j:Nat,i=.int .i64 (j:Int)∧j≤args.length∧Hid ((args.take j).all (okX d)=true)∧Hid (Below w.heap.size w wr)) (fun i _=>args.length-(intOf i).toNat)
  case atStart=>exact ⟨0,rfl,Nat.zero_le _,hI0 rfl,HBC⟩
  obtain ⟨j,rfl,hj,HG,HB⟩:=hrel
  obtain ⟨wi,rfl⟩:∃wi:World,wi=wr:=⟨_,rfl⟩
  by_cases hltj:j<args.length
  case neg=>
   have hlt3:¬(j:Int)<(args.length:Int):=by omega
   have HE:Hid (rs=true):=hI0 (by
    have h:=HG.out
    rw [List.take_of_length_le (by omega)] at h
    rw [HR3.out,h])
   go_wp2_with fail
   go_ret
   exact ⟨by rw [HE.out];rfl,HB.out⟩
  have hlt3:(j:Int)<(args.length:Int):=by omega
  obtain ⟨b,off,rfl,hF,hcl⟩:=RdE.at_ (K:=7) (enc:=RE.enc) RE.enc_length (by omega) (HA.out.below HB.out) hltj
  have hcx:=hcl j hltj
  have hxi:=HA4.out _ (List.getElem_mem hltj)
  have hs:=fun h=>allP_snoc' (p:=okX d) hltj HG.out h
  have hno:=allP_no (p:=okX d) hltj
  obtain ⟨x,hx⟩:∃x,x=args[j]:=⟨_,rfl⟩
  rw [←hx] at hcx hxi hno
  have hs2:okX d x=true→(args.take (j+1)).all (okX d)=true:=fun h=>hs (by rw [←hx];exact h)
  have KX:∀V,Below w.heap.size w V→_:=fun V hV=>IH.out x (lv+1) V (by have:=HLV.out;omega) (by have:=HLV.out;omega) (exIs_below hV d x hxi)
  obtain ⟨v,hv⟩:∃bo,bo=okX d x:=⟨_,rfl⟩
  rw [←hv] at KX hno hs2
  have HS:=hI0 hs2
  have HNO:=hI0 hno
  clear hs hs2 hno hx hv hF hcl
  obtain ⟨op2,it2,⟨vk2,vi2,vs2⟩,nm2,A2,c2,args2⟩:=x
  have KX2:∀V,Below w.heap.size w V→Calls Tryz.prog 195 #[.agg #[.int .i64 op2,.int .i64 it2,.int .i64 vk2,.int .i64 vi2,.string vs2,.string nm2,.slice A2 args2.length c2],.int .i64 (lv+1)] V fun x w'=>x=.returned (.bool v)∧Below V.heap.size V w':=KX
  have g0:wi.cell? ⟨b,off+j*7,none⟩=some (.int .i64 op2):=hcx 0 _ (by decide) rfl
  have g1:wi.cell? ⟨b,off+j*7+1,none⟩=some (.int .i64 it2):=hcx 1 _ (by decide) rfl
  have g2:wi.cell? ⟨b,off+j*7+2,none⟩=some (.int .i64 vk2):=hcx 2 _ (by decide) rfl
  have g3:wi.cell? ⟨b,off+j*7+3,none⟩=some (.int .i64 vi2):=hcx 3 _ (by decide) rfl
  have g4:wi.cell? ⟨b,off+j*7+4,none⟩=some (.string vs2):=hcx 4 _ (by decide) rfl
  have g5:wi.cell? ⟨b,off+j*7+5,none⟩=some (.string nm2):=hcx 5 _ (by decide) rfl
  have g6:wi.cell? ⟨b,off+j*7+6,none⟩=some (.slice A2 args2.length c2):=hcx 6 _ (by decide) rfl
  obtain ⟨W1,hW1⟩:∃W1,W1=wi.alloc (.cells #[.int .i64 op2,.int .i64 it2,.int .i64 vk2,.int .i64 vi2,.string vs2,.string nm2,.slice A2 args2.length c2] 212):=⟨_,rfl⟩
  have hb1:Below wi.heap.size wi W1:=by rw [hW1];exact Below.of_alloc _
  have HB1:Hid (Below w.heap.size w W1):=hI0 (HB.out.trans (hb1.mono HB.out.size))
  have KV:=KX2 W1 HB1.out
  have hlv1:lv+1≤9223372036854775807:=by have:=HLV.out;omega
  have hlv2: -9223372036854775808≤lv+1:=by have:=HLV.out;omega
  clear hcx hxi KX KX2 hb1
  go_wp2_with fail
  rw [←hW1]
  clear hW1 g0 g1 g2 g3 g4 g5 g6
  (with_reducible refine KV.mono ?_)
  rintro _ w2 ⟨rfl,hb2⟩
  have HB2:Hid (Below w.heap.size w w2):=hI0 (HB1.out.trans (hb2.mono HB1.out.size))
  clear hb2 KV
  cases v
  case false=>
   have HF:Hid (rs=false):=hI0 (by rw [HR3.out,HNO.out (by first|rfl|trivial)])
   go_wp2_with fail
   go_ret
   exact ⟨by rw [HF.out];rfl,HB2.out⟩
  have HN:Hid ((args.take (j+1)).all (okX d)=true):=hI0 (HS.out (by first|rfl|trivial))
  go_wp2_with fail
  go_roundw
  case rel=>exact ⟨j+1,by go_num,hltj,HN,HB2⟩
  case measure=>simp [intOf];omega
end
end Go.Proofs.YtbfdegkickjbpaaGreat
