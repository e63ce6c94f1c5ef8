/-
 StG
-/
import Derived.Test.YtbfdegkickjbpaaGreatHRlA
import Derived.Test.YtbfdegkickjbpaaGreatHSmK
import Derived.Test.YtbfdegkickjbpaaGreatHRwE
import Derived.Test.YtbfdegkickjbpaaGreatHDcJ
import Derived.Test.YtbfdegkickjbpaaGreatHTn1
import Derived.Test.YtbfdegkickjbpaaGreatHStB
import Derived.Test.YtbfdegkickjbpaaGreatHStC
import Derived.Test.YtbfdegkickjbpaaGreatHStD
import Derived.Test.YtbfdegkickjbpaaGreatHStE
import Derived.Test.YtbfdegkickjbpaaGreatHStF
import Derived.Test.YtbfdegkickjbpaaGreatHSmP
import Derived.Test.YtbfdegkickjbpaaGreatHRrK
import Derived.Test.YtbfdegkickjbpaaGreatHWk2
import Derived.Test.YtbfdegkickjbpaaGreatHDvA
namespace Go.Proofs.YtbfdegkickjbpaaGreat
set_option maxRecDepth 1000000
set_option maxHeartbeats 32000000
open Go.RowKit Go.Lib Go.IntWalk Go.Sort Go.Shelf
def Late (F:FuncId) (a:Array Value) (V:World):Prop:=∀W,Below V.heap.size V W→Calls Tryz.prog F a W (TrB W)
theorem exA_keep {V W:World} {G:Nat→Prop} {l:List REn} (h:∀x∈l,∀e∈x.create.chks,exAll V G e) (hk:Keeps G V W) (hw:∀b,G b→b<W.heap.size):∀x∈l,∀e∈x.create.chks,exAll W (·<W.heap.size) e:=
 fun x hx e he=>isK_X.wide (isK_X.keep (h x hx e he) hk) hw
theorem decCm_enc {c:RCm} (h:checkF c=0) (hl:(encC c).length≤1048576):decCm (encC c)=(c.er,0):=by
 have k:=rdCm_enc h hl
 have hk:checkF c.er=0:=by rw [checkF_er];exact h
 exact decCm_ok (by omega) k (by unfold endE;rw [if_neg (by simp)]) hk
def backCO (c:RCm) (w0:World) (e:Ending) (w:World):Prop:=∃d:RCm,e=.returned (.tuple #[.agg d.enc.toArray,.int .i64 0])∧Late 19 #[.agg c.enc.toArray,.agg d.enc.toArray] w∧Below w0.heap.size w0 w
theorem backC (c:RCm) (u:Value) (V:World) (hc:c.is V (·<V.heap.size)) (hx:∀x∈c.ents,∀e∈x.create.chks,exAll V (·<V.heap.size) e) (hu:RdB V (·<V.heap.size) u (encC c)) (h:checkF c=0) (hl:(encC c).length≤1048576):Calls Tryz.prog 17 #[u] V (backCO c V):=by
 have hd:decCm (encC c)=(c.er,0):=decCm_enc h hl
 refine (decode_any u _ V hu).mono ?_
 rintro _ w' ⟨d,rfl,h1,h2,h3,hb⟩
 rw [hd] at h1 ⊢
 refine ⟨d,rfl,fun W hW=>?_,hb⟩
 have hbW:Below V.heap.size V W:=hb.trans (hW.mono hb.size)
 exact like_any c d h1.symm W (hc.below hbW) (RCm.is_kw h2 (fun b hb=>hW.block b hb.2) (fun b hb=>Nat.lt_of_lt_of_le hb.2 hW.size)) (exA_keep hx (fun b hb=>hbW.block b hb) (fun b hb=>Nat.lt_of_lt_of_le hb hbW.size)) (exA_keep h3 (fun b hb=>hW.block b hb.2) (fun b hb=>Nat.lt_of_lt_of_le hb.2 hW.size))
def backSO (c:RSt) (w0:World) (e:Ending) (w:World):Prop:=∃d:RSt,e=.returned (.tuple #[.agg d.enc.toArray,.int .i64 0])∧Late 23 #[.agg c.enc.toArray,.agg d.enc.toArray] w∧Below w0.heap.size w0 w
theorem backS (c:RSt) (u:Value) (V:World) (hc:c.is V (·<V.heap.size)) (hx:∀x∈c.ents,∀e∈x.create.chks,exAll V (·<V.heap.size) e) (hu:RdB V (·<V.heap.size) u (encSt c)) (h:stateF c=0) (hl:(encSt c).length≤10000000000):Calls Tryz.prog 26 #[u] V (backSO c V):=by
 have hd:decSt (encSt c)=(c.er,0):=decSt_enc h hl
 refine (decodeState_any u _ V hu hl).mono ?_
 rintro _ w' ⟨d,rfl,h1,h2,h3,hb⟩
 rw [hd] at h1 ⊢
 refine ⟨d,rfl,fun W hW=>?_,hb⟩
 have hbW:Below V.heap.size V W:=hb.trans (hW.mono hb.size)
 exact likeState_any c d h1.symm W (hc.below hbW) (RSt.is_kw h2 (fun b hb=>hW.block b hb.2) (fun b hb=>Nat.lt_of_lt_of_le hb.2 hW.size)) (exA_keep hx (fun b hb=>hbW.block b hb) (fun b hb=>Nat.lt_of_lt_of_le hb hbW.size)) (exA_keep h3 (fun b hb=>hW.block b hb.2) (fun b hb=>Nat.lt_of_lt_of_le hb.2 hW.size))
theorem againC (v:Value) (l:List UInt8) (V:World) (hv:RdB V (·<V.heap.size) v l) (hl:l.length≤2000):Calls Tryz.prog 17 #[v] V fun e w=>
  ∃(d:RCm) (k:Int),e=.returned (.tuple #[.agg d.enc.toArray,.int .i64 k])∧(k=0→∀W,Below w.heap.size w W→Calls Tryz.prog 14 #[.agg d.enc.toArray] W (fun e w'=>∃x,e=.returned (.tuple #[x,.int .i64 0])∧RdB w' (·<w'.heap.size) x l∧Below W.heap.size W w'))∧Below V.heap.size V w:=by
 refine (decode_any v l V hv).mono ?_
 rintro _ w ⟨d,rfl,h1,h2,h3,hb⟩
 refine ⟨d,_,rfl,fun hk W hW=>?_,hb⟩
 obtain ⟨g1,g2,g3,g4,g5⟩:=decCm_got hk
 have hi:=RCm.is_kw h2 (fun b hb=>hW.block b hb.2) (G:=(·<W.heap.size)) (fun b hb=>Nat.lt_of_lt_of_le hb.2 hW.size)
 have hx:=exA_keep h3 (fun b hb=>hW.block b hb.2) (fun b hb=>Nat.lt_of_lt_of_le hb.2 hW.size)
 have hlm:=lim_of hl W d (h1.trans g4) g5 hx
 have e1:encC d=l:=by rw [g1,←h1,encC_er]
 have e2:checkF d=0:=by rw [←checkF_er,h1];exact g2
 have e3:encCE d=0:=by unfold encCE;rw [if_neg (by simpa using e2),e1,if_neg (by omega)]
 have e4:outC d=l:=by unfold outC;rw [if_pos e3,e1]
 refine (recEncode_any d W hi hlm).mono ?_
 rintro _ w' ⟨x,rfl,hx2,hb2⟩
 rw [e4] at hx2
 rw [e3]
 exact ⟨x,rfl,hx2.wide (fun b hb=>hb.2),hb2⟩
theorem againV (v:Value) (l:List UInt8) (V:World) (hv:RdB V (·<V.heap.size) v l):Calls Tryz.prog 28 #[v] V fun e w=>
  ∃(d:Value) (k:Int),e=.returned (.tuple #[d,.int .i64 k])∧(k=0→∀W,Below w.heap.size w W→Calls Tryz.prog 29 #[d] W (fun e w'=>∃x,e=.returned (.tuple #[x,.int .i64 0])∧RdB w' (·<w'.heap.size) x l∧Below W.heap.size W w'))∧Below V.heap.size V w:=by
 refine (decodeV2_any v l V hv).mono ?_
 rintro _ w ⟨d,Q,rfl,h1,h2,hb⟩
 refine ⟨d,_,rfl,fun hk W hW=>?_,hb⟩
 obtain ⟨g1,g2⟩:=decV2_got hk
 have hi:RdVs W (·<W.heap.size) d Q:=(h1.keep (fun b hb=>hW.block b hb.2)).wide (fun b hb=>Nat.lt_of_lt_of_le hb.2 hW.size)
 refine (encodeVersions_any d Q W hi).mono ?_
 rintro _ w' ⟨x,rfl,hb2,hx2,_⟩
 rw [h2,g2,←g1] at hx2
 rw [h2,g2]
 exact ⟨x,rfl,(Rd.of_own (hx2 rfl)).wide (fun b hb=>hb.2),hb2⟩
theorem wpList_loadRowG {P:Program} {ops:Array Oper} {Q:Exit→Act→World→Prop} {a:Act} {w:World} {rest:List Oper} {o:Oper} {t:TypeId} {T:Nat} {cs:Array Value} {e:TypeId} {fr:Nat×Nat} (p:Operand) (hgd:Region.wanted o (yielded ops a.tmps)=true) (hop:o.op=.load t p) (hp:a.eval p=.pointer (some ⟨T,0,none⟩)) (hz:∀w,(Go.sizeOf t).run P w=.ok cs.size w) (ha:∀w,(isAgg t).run P w=.ok true w) (h:w.heap[T]? =some (.cells cs e fr))
  (hK:wpList P ops Q rest (a.put o.dst (.agg cs)) w):wpList P ops Q (o::rest) a w:=
 wpList_step fun K' hK'=>by
  rw [if_pos hgd]
  unfold Oper.wp execOp
  simp only [hop,hp,Sem.run_bind,run_loadRow hz ha h,Result.andThen_ok,Sem.run_pure]
  exact hK' _ _ hK
theorem lawRBack_any (c:RCm) (d:RSt) (v:Value) (l:List UInt8) (w:World) (hc:c.is w (·<w.heap.size)) (hlm:c.lim w) (hd:d.is w (·<w.heap.size)) (hdm:d.lim w) (hv:RdB w (·<w.heap.size) v l):Calls Tryz.prog 9 #[.agg c.enc.toArray,.agg d.enc.toArray,v] w fun e w'=>e=.returned (.bool true)∧Below w.heap.size w w':=by
 obtain ⟨Av,cv,rfl,y1,y2,y3⟩:=Rd.open_ hv
 unfold maxLen at y2
 obtain ⟨C,hC⟩:∃C,C=c:=⟨_,rfl⟩
 obtain ⟨D,hD⟩:∃D,D=d:=⟨_,rfl⟩
 have K1:=hI0 (fun (V:World) (hV:Below w.heap.size w V)=>small_any c V (hc.below hV) (hlm.below hV))
 have K2:=hI0 (fun (V:World) (hV:Below w.heap.size w V)=>recEncode_any c V (hc.below hV) (hlm.below hV))
 have K3:=hI0 (fun (V:World) (hV:Below w.heap.size w V)=>state_any d V (hd.below hV) (hdm.below hV))
 have K4:=hI0 (fun (V:World) (hV:Below w.heap.size w V)=>recEncodeState_any d V (hd.below hV) (hdm.below hV))
 have K5:=hI0 (fun (V:World) (hV:Below w.heap.size w V) (u:Value) (hu:RdB V (·<V.heap.size) u (encC C)) (h:checkF C=0) (hl:(encC C).length≤1048576)=>backC c u V (hc.below hV) (exA_keep (fun x hx e he=>(hlm.exps x hx e he).1) (fun b hb=>hV.block b hb) (fun b hb=>Nat.lt_of_lt_of_le hb hV.size)) (by rw [←hC];exact hu) (by rw [←hC];exact h) (by rw [←hC];exact hl))
 have K6:=hI0 (fun (V:World) (hV:Below w.heap.size w V) (u:Value) (hu:RdB V (·<V.heap.size) u (encSt D)) (h:stateF D=0) (hl:(encSt D).length≤10000000000)=>backS d u V (hd.below hV) (exA_keep (fun x hx e he=>(hdm.exps x hx e he).1) (fun b hb=>hV.block b hb) (fun b hb=>Nat.lt_of_lt_of_le hb hV.size)) (by rw [←hD];exact hu) (by rw [←hD];exact h) (by rw [←hD];exact hl))
 have HV:=hI0 hv
 have K2:Hid (∀V,Below w.heap.size w V→Calls Tryz.prog 14 #[.agg c.enc.toArray] V (EncCO C V)):=by rw [hC];exact K2
 have K4:Hid (∀V,Below w.heap.size w V→Calls Tryz.prog 24 #[.agg d.enc.toArray] V (EncSO D V)):=by rw [hD];exact K4
 clear hc hlm hd hdm hC hD hv y3
 obtain ⟨tx,tm,wa,fi,eA,eC,ents,dA,dC,dels,pA,pC,pla,rA,rC,rel,qA,qC,pol,hA,hC,hor⟩:=c
 obtain ⟨stx,stm,swl,snx,seA,seC,sents,ssA,ssC,sstms,stA,stC,stabs,spA,spC,spla,sqA,sqC,spol,shA,shC,shor⟩:=d
 simp only [RCm.enc,RSt.enc] at K1 K2 K3 K4 K5 K6
 show Calls Tryz.prog 9 #[.agg #[.int .i64 tx,.int .i64 tm,.int .i64 wa,.int .i64 fi,.slice eA ents.length eC,.slice dA dels.length dC,.slice pA pla.length pC,.slice rA rel.length rC,.slice qA pol.length qC,.slice hA hor.length hC],.agg #[.int .i64 stx,.int .i64 stm,.int .i64 swl,.int .i64 snx,.slice seA sents.length seC,.slice ssA sstms.length ssC,.slice stA stabs.length stC,.slice spA spla.length spC,.slice sqA spol.length sqC,.slice shA shor.length shC],.slice Av l.length cv] w _
 obtain ⟨W0,hW0⟩:∃W,W=(w.alloc (.cells #[.int .i64 tx,.int .i64 tm,.int .i64 wa,.int .i64 fi,.slice eA ents.length eC,.slice dA dels.length dC,.slice pA pla.length pC,.slice rA rel.length rC,.slice qA pol.length qC,.slice hA hor.length hC] 29)).alloc (.cells #[.int .i64 stx,.int .i64 stm,.int .i64 swl,.int .i64 snx,.slice seA sents.length seC,.slice ssA sstms.length ssC,.slice stA stabs.length stC,.slice spA spla.length spC,.slice sqA spol.length sqC,.slice shA shor.length shC] 47):=⟨_,rfl⟩
 have hbW:Below w.heap.size w W0:=by rw [hW0];exact (Below.of_alloc _).trans ((Below.of_alloc _).mono (by simp))
 have hT:W0.heap[w.heap.size]? =some (.cells #[.int .i64 tx,.int .i64 tm,.int .i64 wa,.int .i64 fi,.slice eA ents.length eC,.slice dA dels.length dC,.slice pA pla.length pC,.slice rA rel.length rC,.slice qA pol.length qC,.slice hA hor.length hC] 29 (0,0)):=by rw [hW0,heap_alloc_old _ _ (by simp)];exact heap_alloc_new _ _
 have hS:W0.heap[w.heap.size+1]? =some (.cells #[.int .i64 stx,.int .i64 stm,.int .i64 swl,.int .i64 snx,.slice seA sents.length seC,.slice ssA sstms.length ssC,.slice stA stabs.length stC,.slice spA spla.length spC,.slice sqA spol.length sqC,.slice shA shor.length shC] 47 (0,0)):=by rw [hW0];have h:=heap_alloc_new (w.alloc (.cells #[.int .i64 tx,.int .i64 tm,.int .i64 wa,.int .i64 fi,.slice eA ents.length eC,.slice dA dels.length dC,.slice pA pla.length pC,.slice rA rel.length rC,.slice qA pol.length qC,.slice hA hor.length hC] 29)) (.cells #[.int .i64 stx,.int .i64 stm,.int .i64 swl,.int .i64 snx,.slice seA sents.length seC,.slice ssA sstms.length ssC,.slice stA stabs.length stC,.slice spA spla.length spC,.slice sqA spol.length sqC,.slice shA shor.length shC] 47);simpa using h
 have HBL:Hid (w.heap.size+1<W0.heap.size):=hI0 (by rw [hW0];simp)
 have HB0:=hI0 hbW
 have HT0:=hI0 hT
 have HS0:=hI0 hS
 clear hbW hT hS
 go_enter Tryz.func9,Tryz.ntmps9
 go_upto_region 1 with (fail)
 rw [←hW0]
 clear hW0
 have HL0:=HBL
 clear HBL
 obtain ⟨y0,rfl⟩:∃z:World,z=W0:=⟨_,rfl⟩
 go_wp2_with (refine wpList_loadRow (cs:=#[.int .i64 tx,.int .i64 tm,.int .i64 wa,.int .i64 fi,.slice eA ents.length eC,.slice dA dels.length dC,.slice pA pla.length pC,.slice rA rel.length rC,.slice qA pol.length qC,.slice hA hor.length hC]) (.tmp 3) rfl rfl rfl sz_com ag_com HT0.out ?_)
 (with_reducible refine (K1.out _ HB0.out).mono ?_)
 rintro _ y1 ⟨r,rfl,hb⟩
 have hbk:=hb
 have HT1:=hI0 ((hbk.block _ (by have:=HL0.out;omega)).trans HT0.out)
 have HS1:=hI0 ((hbk.block _ HL0.out).trans HS0.out)
 have HL1:Hid (w.heap.size+1<y1.heap.size):=hI0 (Nat.lt_of_lt_of_le HL0.out hbk.size)
 have HB1:=hI0 (HB0.out.trans (hbk.mono HB0.out.size))
 clear hbk
 clear hb K1
 cases r
 case false=>
  go_wp2_with fail
  (with_reducible refine (works35g _).mono ?_)
  rintro _ z9 ⟨rfl,hb9⟩
  have HZ9:=hI0 (HB1.out.trans (hb9.mono HB1.out.size))
  clear hb9
  go_wp2_with fail
  go_ret
  exact ⟨by first|rfl|simp,HZ9.out⟩
 go_wp2_with (refine wpList_loadRowG (cs:=#[.int .i64 stx,.int .i64 stm,.int .i64 swl,.int .i64 snx,.slice seA sents.length seC,.slice ssA sstms.length ssC,.slice stA stabs.length stC,.slice spA spla.length spC,.slice sqA spol.length sqC,.slice shA shor.length shC]) (.tmp 4) (by kernel_rfl) rfl rfl sz_sta ag_sta HS1.out ?_)
 (with_reducible refine (K3.out _ HB1.out).mono ?_)
 rintro _ y2 ⟨r,rfl,hb⟩
 have hbk:=hb
 have HT2:=hI0 ((hbk.block _ (by have:=HL1.out;omega)).trans HT1.out)
 have HS2:=hI0 ((hbk.block _ HL1.out).trans HS1.out)
 have HL2:Hid (w.heap.size+1<y2.heap.size):=hI0 (Nat.lt_of_lt_of_le HL1.out hbk.size)
 have HB2:=hI0 (HB1.out.trans (hbk.mono HB1.out.size))
 clear hbk
 clear hb K3 HT1 HS1
 cases r
 case false=>
  go_wp2_with fail
  (with_reducible refine (works35g _).mono ?_)
  rintro _ z9 ⟨rfl,hb9⟩
  have HZ9:=hI0 (HB2.out.trans (hb9.mono HB2.out.size))
  clear hb9
  go_wp2_with fail
  go_ret
  exact ⟨by first|rfl|simp,HZ9.out⟩
 by_cases hln:2000<l.length
 case pos=>
  have hli:(2000:Int)<(l.length:Int):=by omega
  go_wp2_with fail
  (with_reducible refine (works35g _).mono ?_)
  rintro _ z9 ⟨rfl,hb9⟩
  have HZ9:=hI0 (HB2.out.trans (hb9.mono HB2.out.size))
  clear hb9
  go_wp2_with fail
  go_ret
  exact ⟨by first|rfl|simp,HZ9.out⟩
 have hli:¬(2000:Int)<(l.length:Int):=by omega
 go_upto_region 3 with (fail)
 have HLN:=hI0 hln
 clear hln hli
 go_wp2_with (refine wpList_loadRow (cs:=#[.int .i64 tx,.int .i64 tm,.int .i64 wa,.int .i64 fi,.slice eA ents.length eC,.slice dA dels.length dC,.slice pA pla.length pC,.slice rA rel.length rC,.slice qA pol.length qC,.slice hA hor.length hC]) (.tmp 3) rfl rfl rfl sz_com ag_com HT2.out ?_)
 (with_reducible refine (K2.out _ HB2.out).mono ?_)
 rintro _ y3 ⟨u,rfl,hu,hb⟩
 have hbk:=hb
 have HT3:=hI0 ((hbk.block _ (by have:=HL2.out;omega)).trans HT2.out)
 have HS3:=hI0 ((hbk.block _ HL2.out).trans HS2.out)
 have HL3:Hid (w.heap.size+1<y3.heap.size):=hI0 (Nat.lt_of_lt_of_le HL2.out hbk.size)
 have HB3:=hI0 (HB2.out.trans (hbk.mono HB2.out.size))
 clear hbk
 have HU:Hid (RdB y3 (·<y3.heap.size) u (outC C)):=hI0 (hu.wide (fun b hb=>hb.2))
 clear hb hu K2 HT2 HS2 HB2 HL2
 obtain ⟨k,hk⟩:∃k,k=encCE C:=⟨_,rfl⟩
 rw [←hk]
 have HK:=hI0 hk
 clear hk
 by_cases he:k=0
 case' neg=>
  have hbe:(k==0)=false:=by simpa using he
  go_upto_region 8 with (fail)
  clear HU HK he hbe K5
  obtain ⟨z3,rfl⟩:∃z:World,z=y3:=⟨_,rfl⟩
  have HT9:=HT3
  have HS9:=HS3
  have HL9:=HL3
  have HB9:=HB3
  clear HT3 HS3 HL3 HB3
 case' pos=>
  subst he
  obtain ⟨hck,hle⟩:checkF C=0∧(encC C).length≤1048576:=by
   have h:=HK.out
   unfold encCE at h
   by_cases h1:checkF C=0
   ·rw [if_neg (fun g=>g h1)] at h
    refine ⟨h1,?_⟩
    by_cases h2:1048576<(encC C).length
    ·rw [if_pos h2] at h;exact absurd h (by decide)
    ·omega
   ·rw [if_pos h1] at h;exact absurd h.symm h1
  have KD:=K5.out _ HB3.out u (by have h:=HU.out;unfold outC at h;rw [←HK.out,if_pos rfl] at h;exact h) hck hle
  clear hck hle HU HK K5
  go_wp2_with fail
  (with_reducible refine KD.mono ?_)
  rintro _ y4 ⟨d,rfl,hs,hb⟩
  obtain ⟨utx,utm,uwa,ufi,ueA,ueC,uents,udA,udC,udels,upA,upC,upla,urA,urC,urel,uqA,uqC,upol,uhA,uhC,uhor⟩:=d
  simp only [RCm.enc] at hs ⊢
  obtain ⟨y5,hW⟩:∃V,V=y4.alloc (.cells #[.int .i64 utx,.int .i64 utm,.int .i64 uwa,.int .i64 ufi,.slice ueA uents.length ueC,.slice udA udels.length udC,.slice upA upla.length upC,.slice urA urel.length urC,.slice uqA upol.length uqC,.slice uhA uhor.length uhC] 29):=⟨_,rfl⟩
  have hbW:Below y4.heap.size y4 y5:=by rw [hW];exact Below.of_alloc _
  have HUB:=hI0 (show y5.heap[y4.heap.size]? =some (.cells #[.int .i64 utx,.int .i64 utm,.int .i64 uwa,.int .i64 ufi,.slice ueA uents.length ueC,.slice udA udels.length udC,.slice upA upla.length upC,.slice urA urel.length urC,.slice uqA upol.length uqC,.slice uhA uhor.length uhC] 29 (0,0)) by rw [hW];exact heap_alloc_new _ _)
  have KS:=hs y5 hbW
  have hbk:=hb.trans (hbW.mono hb.size)
  have HT5:=hI0 ((hbk.block _ (by have:=HL3.out;omega)).trans HT3.out)
  have HS5:=hI0 ((hbk.block _ HL3.out).trans HS3.out)
  have HL5:Hid (w.heap.size+1<y5.heap.size):=hI0 (Nat.lt_of_lt_of_le HL3.out hbk.size)
  have HB5:=hI0 (HB3.out.trans (hbk.mono HB3.out.size))
  clear hbk
  have HW:=hI0 hW
  clear hW hbW hb hs
  go_upto_region 6 with (fail)
  rw [←HW.out]
  clear HW
  go_wp2_with (first|(refine wpList_loadRowG (cs:=#[.int .i64 tx,.int .i64 tm,.int .i64 wa,.int .i64 fi,.slice eA ents.length eC,.slice dA dels.length dC,.slice pA pla.length pC,.slice rA rel.length rC,.slice qA pol.length qC,.slice hA hor.length hC]) (.tmp 3) (by kernel_rfl) rfl rfl sz_com ag_com HT5.out ?_)|(refine wpList_loadRowG (cs:=#[.int .i64 utx,.int .i64 utm,.int .i64 uwa,.int .i64 ufi,.slice ueA uents.length ueC,.slice udA udels.length udC,.slice upA upla.length upC,.slice urA urel.length urC,.slice uqA upol.length uqC,.slice uhA uhor.length uhC]) (.tmp 9) (by kernel_rfl) rfl rfl sz_com ag_com HUB.out ?_))
  (with_reducible refine KS.mono ?_)
  rintro _ y6 ⟨rfl,hb⟩
  have hbk:=hb
  have HT6:=hI0 ((hbk.block _ (by have:=HL5.out;omega)).trans HT5.out)
  have HS6:=hI0 ((hbk.block _ HL5.out).trans HS5.out)
  have HL6:Hid (w.heap.size+1<y6.heap.size):=hI0 (Nat.lt_of_lt_of_le HL5.out hbk.size)
  have HB6:=hI0 (HB5.out.trans (hbk.mono HB5.out.size))
  clear hbk
  clear hb KS HUB HT5 HS5 HL5 HB5
  go_upto_region 8 with (fail)
  clear KD
  obtain ⟨z3,rfl⟩:∃z:World,z=y6:=⟨_,rfl⟩
  have HT9:=HT6
  have HS9:=HS6
  have HL9:=HL6
  have HB9:=HB6
  clear HT6 HS6 HL6 HB6
 all_goals
  go_wp2_with (refine wpList_loadRow (cs:=#[.int .i64 stx,.int .i64 stm,.int .i64 swl,.int .i64 snx,.slice seA sents.length seC,.slice ssA sstms.length ssC,.slice stA stabs.length stC,.slice spA spla.length spC,.slice sqA spol.length sqC,.slice shA shor.length shC]) (.tmp 4) rfl rfl rfl sz_sta ag_sta HS9.out ?_)
  (with_reducible refine (K4.out _ HB9.out).mono ?_)
  rintro _ y3 ⟨u,rfl,hu,hb,hle⟩
  have hbk:=hb
  have HT3:=hI0 ((hbk.block _ (by have:=HL9.out;omega)).trans HT9.out)
  have HS3:=hI0 ((hbk.block _ HL9.out).trans HS9.out)
  have HL3:Hid (w.heap.size+1<y3.heap.size):=hI0 (Nat.lt_of_lt_of_le HL9.out hbk.size)
  have HB3:=hI0 (HB9.out.trans (hbk.mono HB9.out.size))
  clear hbk
  have HU:Hid (RdB y3 (·<y3.heap.size) u (outS D)):=hI0 (hu.wide (fun b hb=>hb.2))
  have HLE:=hI0 hle
  clear hb hu hle K4 HT9 HS9 HB9 HL9
  obtain ⟨k,hk⟩:∃k,k=stateF D:=⟨_,rfl⟩
  rw [←hk]
  have HK:=hI0 hk
  clear hk
  by_cases he:k=0
  case' neg=>
   have hbe:(k==0)=false:=by simpa using he
   go_upto_region 13 with (fail)
   clear HU HK HLE he hbe K6 HT3 HS3 HL3
   obtain ⟨z4,rfl⟩:∃z:World,z=y3:=⟨_,rfl⟩
   have HB9:=HB3
   clear HB3
  case' pos=>
   subst he
   have KD:=K6.out _ HB3.out u (by have h:=HU.out;unfold outS at h;rw [←HK.out,if_pos rfl] at h;exact h) HK.out.symm (HLE.out HK.out.symm)
   clear HU HK HLE K6
   go_wp2_with fail
   (with_reducible refine KD.mono ?_)
   rintro _ y4 ⟨d,rfl,hs,hb⟩
   obtain ⟨ustx,ustm,uswl,usnx,useA,useC,usents,ussA,ussC,usstms,ustA,ustC,ustabs,uspA,uspC,uspla,usqA,usqC,uspol,ushA,ushC,ushor⟩:=d
   simp only [RSt.enc] at hs ⊢
   obtain ⟨y5,hW⟩:∃V,V=y4.alloc (.cells #[.int .i64 ustx,.int .i64 ustm,.int .i64 uswl,.int .i64 usnx,.slice useA usents.length useC,.slice ussA usstms.length ussC,.slice ustA ustabs.length ustC,.slice uspA uspla.length uspC,.slice usqA uspol.length usqC,.slice ushA ushor.length ushC] 47):=⟨_,rfl⟩
   have hbW:Below y4.heap.size y4 y5:=by rw [hW];exact Below.of_alloc _
   have HUB:=hI0 (show y5.heap[y4.heap.size]? =some (.cells #[.int .i64 ustx,.int .i64 ustm,.int .i64 uswl,.int .i64 usnx,.slice useA usents.length useC,.slice ussA usstms.length ussC,.slice ustA ustabs.length ustC,.slice uspA uspla.length uspC,.slice usqA uspol.length usqC,.slice ushA ushor.length ushC] 47 (0,0)) by rw [hW];exact heap_alloc_new _ _)
   have KS:=hs y5 hbW
   have hbk:=hb.trans (hbW.mono hb.size)
   have HT5:=hI0 ((hbk.block _ (by have:=HL3.out;omega)).trans HT3.out)
   have HS5:=hI0 ((hbk.block _ HL3.out).trans HS3.out)
   have HL5:Hid (w.heap.size+1<y5.heap.size):=hI0 (Nat.lt_of_lt_of_le HL3.out hbk.size)
   have HB5:=hI0 (HB3.out.trans (hbk.mono HB3.out.size))
   clear hbk
   have HW:=hI0 hW
   clear hW hbW hb hs
   go_upto_region 11 with (fail)
   rw [←HW.out]
   clear HW
   go_wp2_with (first|(refine wpList_loadRowG (cs:=#[.int .i64 stx,.int .i64 stm,.int .i64 swl,.int .i64 snx,.slice seA sents.length seC,.slice ssA sstms.length ssC,.slice stA stabs.length stC,.slice spA spla.length spC,.slice sqA spol.length sqC,.slice shA shor.length shC]) (.tmp 4) (by kernel_rfl) rfl rfl sz_sta ag_sta HS5.out ?_)|(refine wpList_loadRowG (cs:=#[.int .i64 ustx,.int .i64 ustm,.int .i64 uswl,.int .i64 usnx,.slice useA usents.length useC,.slice ussA usstms.length ussC,.slice ustA ustabs.length ustC,.slice uspA uspla.length uspC,.slice usqA uspol.length usqC,.slice ushA ushor.length ushC]) (.tmp 13) (by kernel_rfl) rfl rfl sz_sta ag_sta HUB.out ?_))
   (with_reducible refine KS.mono ?_)
   rintro _ y6 ⟨rfl,hb⟩
   have hbk:=hb
   have HT6:=hI0 ((hbk.block _ (by have:=HL5.out;omega)).trans HT5.out)
   have HS6:=hI0 ((hbk.block _ HL5.out).trans HS5.out)
   have HL6:Hid (w.heap.size+1<y6.heap.size):=hI0 (Nat.lt_of_lt_of_le HL5.out hbk.size)
   have HB6:=hI0 (HB5.out.trans (hbk.mono HB5.out.size))
   clear hbk
   clear hb KS HUB HT5 HS5 HL5 HB5
   go_upto_region 13 with (fail)
   clear KD HT6 HS6 HL6
   obtain ⟨z4,rfl⟩:∃z:World,z=y6:=⟨_,rfl⟩
   have HB9:=HB6
   clear HB6
  all_goals
   have K7:=againC _ l z4 (HV.out.below HB9.out) (by have:=HLN.out;omega)
   go_wp2_with fail
   (with_reducible refine K7.mono ?_)
   rintro _ y3 ⟨d,k,rfl,ha,hb⟩
   obtain ⟨utx,utm,uwa,ufi,ueA,ueC,uents,udA,udC,udels,upA,upC,upla,urA,urC,urel,uqA,uqC,upol,uhA,uhC,uhor⟩:=d
   simp only [RCm.enc] at ha ⊢
   obtain ⟨y4,hW⟩:∃V,V=y3.alloc (.cells #[.int .i64 utx,.int .i64 utm,.int .i64 uwa,.int .i64 ufi,.slice ueA uents.length ueC,.slice udA udels.length udC,.slice upA upla.length upC,.slice urA urel.length urC,.slice uqA upol.length uqC,.slice uhA uhor.length uhC] 29):=⟨_,rfl⟩
   have hbW:Below y3.heap.size y3 y4:=by rw [hW];exact Below.of_alloc _
   have HUB:=hI0 (show y4.heap[y3.heap.size]? =some (.cells #[.int .i64 utx,.int .i64 utm,.int .i64 uwa,.int .i64 ufi,.slice ueA uents.length ueC,.slice udA udels.length udC,.slice upA upla.length upC,.slice urA urel.length urC,.slice uqA upol.length uqC,.slice uhA uhor.length uhC] 29 (0,0)) by rw [hW];exact heap_alloc_new _ _)
   have HB4:=hI0 (HB9.out.trans ((hb.trans (hbW.mono hb.size)).mono HB9.out.size))
   have HA:=hI0 (fun h=>ha h y4 hbW)
   have HW:=hI0 hW
   clear hW hbW hb ha K7 HB9
   go_upto_region 14 with (fail)
   rw [←HW.out]
   clear HW
   by_cases he:k=0
   case' neg=>
    have hbe:(k==0)=false:=by simpa using he
    go_upto_region 18 with (fail)
    clear HA HUB he hbe
    obtain ⟨z5,rfl⟩:∃z:World,z=y4:=⟨_,rfl⟩
    have HB9:=HB4
    clear HB4
   case' pos=>
    subst he
    have KE:=HA.out rfl
    clear HA
    go_wp2_with (refine wpList_loadRow (cs:=#[.int .i64 utx,.int .i64 utm,.int .i64 uwa,.int .i64 ufi,.slice ueA uents.length ueC,.slice udA udels.length udC,.slice upA upla.length upC,.slice urA urel.length urC,.slice uqA upol.length uqC,.slice uhA uhor.length uhC]) (.tmp 15) rfl rfl rfl sz_com ag_com HUB.out ?_)
    (with_reducible refine KE.mono ?_)
    rintro _ y5 ⟨x,rfl,hx,hb⟩
    have HB5:=hI0 (HB4.out.trans (hb.mono HB4.out.size))
    have hq1:=run_bytes_str hx
    have hq2:=run_bytes_str (HV.out.below HB5.out)
    clear hb hx KE HUB HB4
    go_upto_region 18 with (fail)
    clear hq1 hq2
    obtain ⟨z5,rfl⟩:∃z:World,z=y5:=⟨_,rfl⟩
    have HB9:=HB5
    clear HB5
   all_goals
    have K7:=againV _ l z5 (HV.out.below HB9.out)
    go_wp2_with fail
    (with_reducible refine K7.mono ?_)
    rintro _ y3 ⟨d,k,rfl,ha,hb⟩
    have HB3:=hI0 (HB9.out.trans (hb.mono HB9.out.size))
    have HA:=hI0 (fun h=>ha h y3 (Below.refl _ _))
    clear hb ha K7 HB9
    by_cases he:k=0
    case' neg=>
     have hbe:(k==0)=false:=by simpa using he
     go_upto_region 23 with (fail)
     clear HA he hbe
     obtain ⟨z6,rfl⟩:∃z:World,z=y3:=⟨_,rfl⟩
     have HB9:=HB3
     clear HB3
    case' pos=>
     subst he
     have KE:=HA.out rfl
     clear HA
     go_wp2_with fail
     (with_reducible refine KE.mono ?_)
     rintro _ y5 ⟨x,rfl,hx,hb⟩
     have HB5:=hI0 (HB3.out.trans (hb.mono HB3.out.size))
     have hq1:=run_bytes_str hx
     have hq2:=run_bytes_str (HV.out.below HB5.out)
     clear hb hx KE HB3
     go_upto_region 23 with (fail)
     clear hq1 hq2
     obtain ⟨z6,rfl⟩:∃z:World,z=y5:=⟨_,rfl⟩
     have HB9:=HB5
     clear HB5
    all_goals
     go_wp2_with fail
     (with_reducible refine (works35g _).mono ?_)
     rintro _ z9 ⟨rfl,hb9⟩
     have HZ9:=hI0 (HB9.out.trans (hb9.mono HB9.out.size))
     clear hb9
     go_wp2_with fail
     go_ret
     exact ⟨by first|rfl|simp,HZ9.out⟩
end Go.Proofs.YtbfdegkickjbpaaGreat
