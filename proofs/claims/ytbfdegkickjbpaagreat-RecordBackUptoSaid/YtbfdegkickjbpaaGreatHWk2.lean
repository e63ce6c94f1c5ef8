/-
 Wk2
-/
import Derived.Test.YtbfdegkickjbpaaGreatHDcJ
import Derived.Test.YtbfdegkickjbpaaGreatHRwE
namespace Go.Proofs.YtbfdegkickjbpaaGreat
set_option maxRecDepth 1000000
set_option maxHeartbeats 32000000
section
open Go.RowKit Go.Lib Go.IntWalk Go.Sort Go.Shelf
def xs7z:List Val:=[⟨1,7,⟨#[]⟩⟩]
theorem rdBlk {α:Type} {K:Nat} {enc:α→List Value} {w:World} {b:Nat} {x:α} {e:TypeId} (h:w.heap[b]? =some (.cells (enc x).toArray e (0,0))) (hl:(enc x).length=K):RdE K enc w (·<w.heap.size) (.slice (some ⟨b,0,none⟩) 1 1) [x]:=by
 unfold RdE
 rw [List.flatMap_singleton]
 refine ⟨by rw [hl];simp,_,1,rfl,Nat.le_refl _,by unfold maxLen;decide,fun h=>(Option.some_ne_none _ h).elim,fun _=>⟨_,rfl,(Array.getElem?_eq_some_iff.1 h).1,fun j u hu=>?_⟩⟩
 have hadd:(⟨b,0,none⟩:Addr).add j=⟨b,j,none⟩:=by unfold Addr.add;split<;>simp_all
 rw [hadd,cW0 w b j (enc x).toArray e (0,0) h]
 simpa using hu
def EncZO (l:List UInt8) (w0:World) (e:Ending) (w:World):Prop:=∃u,e=.returned (.tuple #[u,.int .i64 0])∧RdB w (fun b=>w0.heap.size≤b∧b<w.heap.size) u l∧Below w0.heap.size w0 w
def DecZO (w0:World) (e:Ending) (w:World):Prop:=∃(a1 a2 a3 a4 a5 a6:Option Addr) (c1 c2 c3 c4 c5 c6:Nat),e=.returned (.tuple #[.agg #[.int .i64 1,.int .i64 5,.int .i64 5,.int .i64 1,.slice a1 0 c1,.slice a2 0 c2,.slice a3 0 c3,.slice a4 0 c4,.slice a5 0 c5,.slice a6 0 c6],.int .i64 0])∧Below w0.heap.size w0 w
theorem decZ_eq:decCm [2,10,10,2,0,0,0,0,0,0]=(⟨1,5,5,1,none,0,[],none,0,[],none,0,[],none,0,[],none,0,[],none,0,[]⟩,0):=by kernel_rfl
theorem decZ (v:Value) (w:World) (hv:RdB w (·<w.heap.size) v [2,10,10,2,0,0,0,0,0,0]):Calls Tryz.prog 17 #[v] w (DecZO w):=by
 refine (decode_any v _ w hv).mono ?_
 rintro _ w' ⟨c,rfl,h1,_,_,hb⟩
 rw [decZ_eq] at h1 ⊢
 obtain ⟨dtx,dtm,dwa,dfi,a1,c1,dents,a2,c2,ddels,a3,c3,dpla,a4,c4,drel,a5,c5,dpol,a6,c6,dhor⟩:=c
 simp only [RCm.er,RCm.mk.injEq,true_and,List.map_eq_nil_iff] at h1
 obtain ⟨rfl,rfl,rfl,rfl,rfl,rfl,rfl,rfl,rfl,rfl⟩:=h1
 exact ⟨a1,a2,a3,a4,a5,a6,c1,c2,c3,c4,c5,c6,rfl,hb⟩
theorem chkZ (D C:Nat) (w:World) (hD:w.heap[D]? =some (.cells #[.string ⟨#[116]⟩,.slice (some ⟨C,0,none⟩) 1 1,.slice none 0 0] 63 (0,0))) (hC:w.heap[C]? =some (.cells #[.int .i64 4] 3 (0,0))):Calls Tryz.prog 11 #[.agg #[.int .i64 1,.int .i64 5,.int .i64 5,.int .i64 4,.slice none 0 0,.slice (some ⟨D,0,none⟩) 1 1,.slice none 0 0,.slice none 0 0,.slice none 0 0,.slice none 0 0]] w fun e w'=>e=.returned (.int .i64 6)∧Below w.heap.size w w':=
 check_any ⟨1,5,5,4,none,0,[],some ⟨D,0,none⟩,1,[⟨⟨#[116]⟩,some ⟨C,0,none⟩,1,[4],none,0,[]⟩],none,0,[],none,0,[],none,0,[],none,0,[]⟩ w
  ⟨Rd.nil _ _ _,(fun x hx=>by cases hx),rdBlk hD rfl,
   (fun x hx=>by rw [List.mem_singleton] at hx;subst hx;exact ⟨rdBlk hC rfl,⟨Rd.nil _ _ _,(fun p hp=>by cases hp)⟩,⟨by simp,by simp⟩⟩),Rd.nil _ _ _,Rd.nil _ _ _,Rd.nil _ _ _,Rd.nil _ _ _⟩
theorem works35z (hN:∀V:World,Calls Tryz.prog 14 #[.agg #[.int .i64 1,.int .i64 5,.int .i64 5,.int .i64 1,.slice none 0 0,.slice none 0 0,.slice none 0 0,.slice none 0 0,.slice none 0 0,.slice none 0 0]] V (EncZO [2,10,10,2,0,0,0,0,0,0] V))
  (hO:∀(D O R:Nat) (V:World),V.heap[D]? =some (.cells #[.string ⟨#[116]⟩,.slice none 0 0,.slice (some ⟨O,0,none⟩) 1 1] 63 (0,0))→V.heap[O]? =some (.cells #[.slice (some ⟨R,0,none⟩) 1 1,.int .i64 0,.int .i64 3] 68 (0,0))→RdV V (·<V.heap.size) (.slice (some ⟨R,0,none⟩) 1 1) xs7z→
   Calls Tryz.prog 14 #[.agg #[.int .i64 1,.int .i64 5,.int .i64 5,.int .i64 1,.slice none 0 0,.slice (some ⟨D,0,none⟩) 1 1,.slice none 0 0,.slice none 0 0,.slice none 0 0,.slice none 0 0]] V (EncZO [2,10,10,2,0,2,2,116,0,2,2,1,14,0,6,0,0,0,0] V)) (w:World):Calls Tryz.prog 13 #[] w fun e w'=>e=.returned (.bool true)∧Below w.heap.size w w':=by
 obtain ⟨W,hW⟩:∃W,W=w.alloc (.cells #[.int .i64 1,.int .i64 5,.int .i64 5,.int .i64 1,.slice none 0 0,.slice none 0 0,.slice none 0 0,.slice none 0 0,.slice none 0 0,.slice none 0 0] 29):=⟨_,rfl⟩
 have hbW:Below w.heap.size w W:=by rw [hW];exact Below.of_alloc _
 have hT:W.heap[w.heap.size]? =some (.cells #[.int .i64 1,.int .i64 5,.int .i64 5,.int .i64 1,.slice none 0 0,.slice none 0 0,.slice none 0 0,.slice none 0 0,.slice none 0 0,.slice none 0 0] 29 (0,0)):=by rw [hW];exact heap_alloc_new _ _
 have hWs:w.heap.size<W.heap.size:=by rw [hW];simp
 have HBW:=hI0 hbW
 have HT:=hI0 hT
 have HWS:=hI0 hWs
 have K1:=hN W
 have HO:=hI0 hO
 clear hN hO
 have c0:W.cell? ⟨w.heap.size,0,none⟩=some (.int .i64 1):=cW0 W _ 0 _ _ _ hT
 have c1:W.cell? ⟨w.heap.size,1,none⟩=some (.int .i64 5):=cW0 W _ 1 _ _ _ hT
 have c2:W.cell? ⟨w.heap.size,2,none⟩=some (.int .i64 5):=cW0 W _ 2 _ _ _ hT
 have c3:W.cell? ⟨w.heap.size,3,none⟩=some (.int .i64 1):=cW0 W _ 3 _ _ _ hT
 have c4:W.cell? ⟨w.heap.size,4,none⟩=some (.slice none 0 0):=cW0 W _ 4 _ _ _ hT
 have c5:W.cell? ⟨w.heap.size,5,none⟩=some (.slice none 0 0):=cW0 W _ 5 _ _ _ hT
 have c6:W.cell? ⟨w.heap.size,6,none⟩=some (.slice none 0 0):=cW0 W _ 6 _ _ _ hT
 have c7:W.cell? ⟨w.heap.size,7,none⟩=some (.slice none 0 0):=cW0 W _ 7 _ _ _ hT
 have c8:W.cell? ⟨w.heap.size,8,none⟩=some (.slice none 0 0):=cW0 W _ 8 _ _ _ hT
 have c9:W.cell? ⟨w.heap.size,9,none⟩=some (.slice none 0 0):=cW0 W _ 9 _ _ _ hT
 clear hbW hT hWs
 go_enter Tryz.func13,Tryz.ntmps13
 go_upto_region 2 with (fail)
 rw [←hW]
 clear hW
 go_wp2_with fail
 (with_reducible refine K1.mono ?_)
 rintro _ y1 ⟨u1,rfl,hu1,hb1⟩
 have HU1:=hI0 hu1
 have HT1:=hI0 ((hb1.block w.heap.size HWS.out).trans HT.out)
 have HB1:Hid (Below w.heap.size w y1):=hI0 (HBW.out.trans (hb1.mono HBW.out.size))
 have K2:=decZ u1 y1 (hu1.wide fun b hb=>hb.2)
 clear hu1 hb1 K1 c0 c1 c2 c3 c4 c5 c6 c7 c8 c9
 go_wp2_with fail
 (with_reducible refine K2.mono ?_)
 rintro _ y2 ⟨a1,a2,a3,a4,a5,a6,c1,c2,c3,c4,c5,c6,rfl,hb2⟩
 obtain ⟨T4,hT4⟩:∃T,T=y2.heap.size:=⟨_,rfl⟩
 obtain ⟨y3,hy3⟩:∃y,y=y2.alloc (.cells #[.int .i64 1,.int .i64 5,.int .i64 5,.int .i64 1,.slice a1 0 c1,.slice a2 0 c2,.slice a3 0 c3,.slice a4 0 c4,.slice a5 0 c5,.slice a6 0 c6] 29):=⟨_,rfl⟩
 have hb3:Below y2.heap.size y2 y3:=by rw [hy3];exact Below.of_alloc _
 have hTd:y3.heap[T4]? =some (.cells #[.int .i64 1,.int .i64 5,.int .i64 5,.int .i64 1,.slice a1 0 c1,.slice a2 0 c2,.slice a3 0 c3,.slice a4 0 c4,.slice a5 0 c5,.slice a6 0 c6] 29 (0,0)):=by rw [hy3,hT4];exact heap_alloc_new _ _
 have hb13:Below y1.heap.size y1 y3:=hb2.trans (hb3.mono hb2.size)
 have HU3:Hid (RdB y3 (fun b=>W.heap.size≤b∧b<y3.heap.size) u1 [2,10,10,2,0,0,0,0,0,0]):=hI0 ((Rd.keep HU1.out (fun b hb=>hb13.block b hb.2)).wide (fun b hb=>⟨hb.1,by have:=hb.2;have:=hb13.size;omega⟩))
 have HTD:=hI0 hTd
 have HT4:Hid (w.heap.size<T4):=hI0 (by rw [hT4];have:=(Array.getElem?_eq_some_iff.1 HT1.out).1;have:=hb2.size;omega)
 have HT3:=hI0 ((hb13.block w.heap.size (Array.getElem?_eq_some_iff.1 HT1.out).1).trans HT1.out)
 have HB3:Hid (Below w.heap.size w y3):=hI0 (HB1.out.trans (hb13.mono HB1.out.size))
 clear hb2 hb3 hTd hb13 K2
 go_upto_region 4 with (fail)
 rw [←hy3,←hT4]
 clear hy3 hT4
 obtain ⟨g1,hg1⟩:∃y,y=y3.alloc (.cells #[.int .i64 1,.int .i64 7,.string ⟨#[]⟩] 79):=⟨_,rfl⟩
 obtain ⟨g2,hg2⟩:∃y,y=g1.alloc (.cells #[.slice (some ⟨y3.heap.size,0,none⟩) 1 1,.int .i64 0,.int .i64 3] 68):=⟨_,rfl⟩
 obtain ⟨y4,hy4⟩:∃y,y=g2.alloc (.cells #[.string ⟨#[116]⟩,.slice none 0 0,.slice (some ⟨y3.heap.size+1,0,none⟩) 1 1] 63):=⟨_,rfl⟩
 have z1:g1.heap.size=y3.heap.size+1:=by rw [hg1];simp
 have z2:g2.heap.size=y3.heap.size+2:=by rw [hg2];simp [z1]
 have q1:g1.heap[y3.heap.size]? =some (.cells #[.int .i64 1,.int .i64 7,.string ⟨#[]⟩] 79 (0,0)):=by rw [hg1];exact heap_alloc_new _ _
 have q2:g2.heap[y3.heap.size+1]? =some (.cells #[.slice (some ⟨y3.heap.size,0,none⟩) 1 1,.int .i64 0,.int .i64 3] 68 (0,0)):=by rw [hg2,←z1];exact heap_alloc_new _ _
 have q3:y4.heap[y3.heap.size+2]? =some (.cells #[.string ⟨#[116]⟩,.slice none 0 0,.slice (some ⟨y3.heap.size+1,0,none⟩) 1 1] 63 (0,0)):=by rw [hy4,←z2];exact heap_alloc_new _ _
 have b1:Below y3.heap.size y3 g1:=by rw [hg1];exact Below.of_alloc _
 have b2:Below g1.heap.size g1 g2:=by rw [hg2];exact Below.of_alloc _
 have b3:Below g2.heap.size g2 y4:=by rw [hy4];exact Below.of_alloc _
 have z3:y4.heap.size=y3.heap.size+3:=by rw [hy4];simp [z2]
 have b13:Below y3.heap.size y3 y4:=(b1.trans (b2.mono b1.size)).trans (b3.mono (by omega))
 have r1:=(b3.block _ (by omega)).trans ((b2.block y3.heap.size (by omega)).trans q1)
 have r2:=(b3.block (y3.heap.size+1) (by omega)).trans q2
 have hTl:=(Array.getElem?_eq_some_iff.1 HT3.out).1
 have t4:=(b13.block w.heap.size hTl).trans HT3.out
 have k5:y4.cell? ⟨w.heap.size,5,none⟩=some (.slice none 0 0):=cW0 y4 _ 5 _ _ _ t4
 have f5:y4.frozen? ⟨w.heap.size,5,none⟩=false:=fW0 y4 _ 5 _ _ t4
 obtain ⟨y5,hy5⟩:∃y,y=y4.setCell ⟨w.heap.size,5,none⟩ (.slice (some ⟨y3.heap.size+2,0,none⟩) 1 1):=⟨_,rfl⟩
 have c5:Chg (·=w.heap.size) y4 y5:=by rw [hy5];exact Chg.setCell (S:=(·=w.heap.size)) (p:=⟨w.heap.size,5,none⟩) (Chg.refl _ y4) (.inl rfl) _
 have t5:y5.heap[w.heap.size]? =some (.cells #[.int .i64 1,.int .i64 5,.int .i64 5,.int .i64 1,.slice none 0 0,.slice (some ⟨y3.heap.size+2,0,none⟩) 1 1,.slice none 0 0,.slice none 0 0,.slice none 0 0,.slice none 0 0] 29 (0,0)):=by
  rw [hy5]
  simpa using heap_setCell_same y4 w.heap.size 5 _ _ (.slice (some ⟨y3.heap.size+2,0,none⟩) 1 1) t4
 have s1:=(c5.block _ (by omega) (by omega)).trans r1
 have s2:=(c5.block _ (by omega) (by omega)).trans r2
 have s3:=(c5.block (y3.heap.size+2) (by omega) (by omega)).trans q3
 have z5:=c5.size
 have hx:RdV y5 (·<y5.heap.size) (.slice (some ⟨y3.heap.size,0,none⟩) 1 1) xs7z:=by
  have h:Rd g1 (·=y3.heap.size) 3 (.slice (some ⟨y3.heap.size,0,none⟩) 1 1) 1 [.int .i64 1,.int .i64 7,.string ⟨#[]⟩]:=by rw [hg1];exact Rd.new' y3 y3.heap.size rfl [.int .i64 1,.int .i64 7,.string ⟨#[]⟩] 79 3 1 rfl (by decide)
  refine (Rd.keep (w':=y5) h (fun b hb=>?_)).wide (fun b hb=>?_)
  ·subst hb;rw [s1,q1]
  ·show b<y5.heap.size;omega
 have HU5:Hid (RdB y5 (·<y5.heap.size) u1 [2,10,10,2,0,0,0,0,0,0]):=hI0 ((Rd.keep HU3.out (fun b hb=>(c5.block b (by have:=hb.2;omega) (by show b≠w.heap.size;have:=hb.1;have:=HWS.out;omega)).trans (b13.block b hb.2))).wide (fun b hb=>by show b<y5.heap.size;have:=hb.2;omega))
 have HTD5:=hI0 ((c5.block T4 (by have:=(Array.getElem?_eq_some_iff.1 HTD.out).1;omega) (by show T4≠w.heap.size;have:=HT4.out;omega)).trans ((b13.block T4 (Array.getElem?_eq_some_iff.1 HTD.out).1).trans HTD.out))
 have HB5:Hid (Below w.heap.size w y5):=hI0 ((HB3.out.trans (b13.mono (by omega))).trans (c5.below (by omega) (fun i (hi:i=w.heap.size)=>by omega)))
 have K5:=HO.out (y3.heap.size+2) (y3.heap.size+1) y3.heap.size y5 s3 s2 hx
 have hy5':=hy5
 rw [hy4,hg2,hg1] at k5 f5 hy5'
 have K5:=hI0 K5
 have HX:=hI0 (And.intro t5 (And.intro HB5.out z5))
 clear r1 r2 t4 s1 s2 s3 hx c5 b1 b2 b3 b13 q1 q2 q3 t5 z1 z2 hTl
 go_upto_region 5 with (fail)
 rw [←hy5']
 clear hy5' hy5 hy4 hg2 hg1 k5 f5
 have c0:y5.cell? ⟨w.heap.size,0,none⟩=some (.int .i64 1):=cW0 y5 _ 0 _ _ _ HX.out.1
 have c1:y5.cell? ⟨w.heap.size,1,none⟩=some (.int .i64 5):=cW0 y5 _ 1 _ _ _ HX.out.1
 have c2:y5.cell? ⟨w.heap.size,2,none⟩=some (.int .i64 5):=cW0 y5 _ 2 _ _ _ HX.out.1
 have c3:y5.cell? ⟨w.heap.size,3,none⟩=some (.int .i64 1):=cW0 y5 _ 3 _ _ _ HX.out.1
 have c4:y5.cell? ⟨w.heap.size,4,none⟩=some (.slice none 0 0):=cW0 y5 _ 4 _ _ _ HX.out.1
 have c5:y5.cell? ⟨w.heap.size,5,none⟩=some (.slice (some ⟨y3.heap.size+2,0,none⟩) 1 1):=cW0 y5 _ 5 _ _ _ HX.out.1
 have c6:y5.cell? ⟨w.heap.size,6,none⟩=some (.slice none 0 0):=cW0 y5 _ 6 _ _ _ HX.out.1
 have c7:y5.cell? ⟨w.heap.size,7,none⟩=some (.slice none 0 0):=cW0 y5 _ 7 _ _ _ HX.out.1
 have c8:y5.cell? ⟨w.heap.size,8,none⟩=some (.slice none 0 0):=cW0 y5 _ 8 _ _ _ HX.out.1
 have c9:y5.cell? ⟨w.heap.size,9,none⟩=some (.slice none 0 0):=cW0 y5 _ 9 _ _ _ HX.out.1
 have K5:=K5.out
 go_wp2_with fail
 (with_reducible refine K5.mono ?_)
 rintro _ y6 ⟨u2,rfl,hu2,hb6⟩
 have HB6:Hid (Below w.heap.size w y6):=hI0 (HB5.out.trans (hb6.mono HB5.out.size))
 have HU6:=hI0 (RdB.below HU5.out hb6)
 have HV6:Hid (RdB y6 (·<y6.heap.size) u2 [2,10,10,2,0,2,2,116,0,2,2,1,14,0,6,0,0,0,0]):=hI0 (hu2.wide fun b hb=>hb.2)
 have HTD6:=hI0 ((hb6.block T4 (Array.getElem?_eq_some_iff.1 HTD5.out).1).trans HTD5.out)
 clear hu2 hb6 K5 c0 c1 c2 c3 c4 c5 c6 c7 c8 c9
 obtain ⟨d1,hd1⟩:∃y,y=y6.alloc (.cells #[.int .i64 4] 3):=⟨_,rfl⟩
 obtain ⟨d2,hd2⟩:∃y,y=d1.alloc (.cells #[.string ⟨#[116]⟩,.slice (some ⟨y6.heap.size,0,none⟩) 1 1,.slice none 0 0] 63):=⟨_,rfl⟩
 have b1:Below y6.heap.size y6 d1:=by rw [hd1];exact Below.of_alloc _
 have z1:d1.heap.size=y6.heap.size+1:=by rw [hd1];simp
 have b2:Below d1.heap.size d1 d2:=by rw [hd2];exact Below.of_alloc _
 have q1:d1.heap[y6.heap.size]? =some (.cells #[.int .i64 4] 3 (0,0)):=by rw [hd1];exact heap_alloc_new _ _
 have q2:d2.heap[y6.heap.size+1]? =some (.cells #[.string ⟨#[116]⟩,.slice (some ⟨y6.heap.size,0,none⟩) 1 1,.slice none 0 0] 63 (0,0)):=by rw [hd2,←z1];exact heap_alloc_new _ _
 have q3:=(b2.block y6.heap.size (by omega)).trans q1
 have b12:Below y6.heap.size y6 d2:=b1.trans (b2.mono b1.size)
 have K7:=chkZ (y6.heap.size+1) y6.heap.size d2 q2 q3
 have HB7:Hid (Below w.heap.size w d2):=hI0 (HB6.out.trans (b12.mono HB6.out.size))
 have HU7:=hI0 (RdB.below HU6.out b12)
 have HV7:=hI0 (RdB.below HV6.out b12)
 have HTD7:=hI0 ((b12.block T4 (Array.getElem?_eq_some_iff.1 HTD6.out).1).trans HTD6.out)
 clear b1 b2 q1 q2 q3 z1 b12 HU6 HV6 HTD6 HU5 HTD5
 go_wp2_with fail
 rw [←hd1,←hd2]
 clear hd1 hd2
 (with_reducible refine K7.mono ?_)
 rintro _ y8 ⟨rfl,hb8⟩
 have HB8:Hid (Below w.heap.size w y8):=hI0 (HB7.out.trans (hb8.mono HB7.out.size))
 have hc1:=run_bytes_str (RdB.below HU7.out hb8)
 have hc2:=run_bytes_str (RdB.below HV7.out hb8)
 rw [show strB [2,10,10,2,0,0,0,0,0,0]=⟨#[2,10,10,2,0,0,0,0,0,0]⟩ from rfl] at hc1
 rw [show strB [2,10,10,2,0,2,2,116,0,2,2,1,14,0,6,0,0,0,0]=⟨#[2,10,10,2,0,2,2,116,0,2,2,1,14,0,6,0,0,0,0]⟩ from rfl] at hc2
 have hTd:=(hb8.block T4 (Array.getElem?_eq_some_iff.1 HTD7.out).1).trans HTD7.out
 have e0:y8.cell? ⟨T4,0,none⟩=some (.int .i64 1):=cW0 y8 _ 0 _ _ _ hTd
 have e1:y8.cell? ⟨T4,1,none⟩=some (.int .i64 5):=cW0 y8 _ 1 _ _ _ hTd
 clear hb8 hTd K7
 go_wp2_with fail
 go_ret
 exact ⟨rfl,HB8.out⟩
end
section
open Go.RowKit Go.Lib Go.IntWalk Go.Sort Go.Shelf
theorem works35g (w:World):Calls Tryz.prog 13 #[] w fun e w'=>e=.returned (.bool true)∧Below w.heap.size w w':=by
 refine works35z (fun V=>?_) (fun D O R V hD hO hx=>?_) w
 ·obtain ⟨C,hC⟩:∃C:RCm,C=⟨1,5,5,1,none,0,[],none,0,[],none,0,[],none,0,[],none,0,[],none,0,[]⟩:=⟨_,rfl⟩
  have e1:encCE C=0:=by rw [hC];kernel_rfl
  have e2:outC C=[2,10,10,2,0,0,0,0,0,0]:=by rw [hC];kernel_rfl
  have hi:C.is V (·<V.heap.size):=by rw [hC];exact ⟨Rd.nil _ _ _,(fun x hx=>by cases hx),Rd.nil _ _ _,(fun x hx=>by cases hx),Rd.nil _ _ _,Rd.nil _ _ _,Rd.nil _ _ _,Rd.nil _ _ _⟩
  have hl:C.lim V:=by rw [hC];exact ⟨by decide,by decide,by decide,by decide,by decide,by decide,(fun x hx=>by cases hx),(fun x hx=>by cases hx),(fun x hx=>by cases hx),(fun x hx=>by cases hx),(fun x hx=>by cases hx),(fun x hx=>by cases hx),(fun x hx=>by cases hx),(fun x hx=>by cases hx),by decide,by decide⟩
  have h:=recEncode_any C V hi hl
  have he:#[Value.agg C.enc.toArray]=#[.agg #[.int .i64 1,.int .i64 5,.int .i64 5,.int .i64 1,.slice none 0 0,.slice none 0 0,.slice none 0 0,.slice none 0 0,.slice none 0 0,.slice none 0 0]]:=by rw [hC];rfl
  rw [he] at h
  exact h.mono (fun e w' ⟨u,h1,h2,h3⟩=>⟨u,by rw [h1,e1],by rw [e2] at h2;exact h2,h3⟩)
 ·obtain ⟨C,hC⟩:∃C:RCm,C=⟨1,5,5,1,none,0,[],some ⟨D,0,none⟩,1,[⟨⟨#[116]⟩,none,0,[],some ⟨O,0,none⟩,1,[⟨some ⟨R,0,none⟩,1,1,xs7z,0,3⟩]⟩],none,0,[],none,0,[],none,0,[],none,0,[]⟩:=⟨_,rfl⟩
  have e1:encCE C=0:=by rw [hC];kernel_rfl
  have e2:outC C=[2,10,10,2,0,2,2,116,0,2,2,1,14,0,6,0,0,0,0]:=by rw [hC];kernel_rfl
  have hi:C.is V (·<V.heap.size):=by
   rw [hC]
   refine ⟨Rd.nil _ _ _,(fun x hx=>by cases hx),rdBlk hD rfl,(fun x hx=>?_),Rd.nil _ _ _,Rd.nil _ _ _,Rd.nil _ _ _,Rd.nil _ _ _⟩
   rw [List.mem_singleton] at hx
   subst hx
   refine ⟨Rd.nil _ _ _,⟨rdBlk hO rfl,fun p hp=>?_⟩,⟨by simp,by simp⟩⟩
   rw [List.mem_singleton] at hp
   subst hp
   refine ⟨hx,fun x hx=>?_⟩
   have hx:x∈xs7z:=hx
   rw [xs7z,List.mem_singleton] at hx
   subst hx
   unfold goV maxLen
   decide
  have hl:C.lim V:=by
   rw [hC]
   refine ⟨by simp,by simp,by simp,by simp,by simp,by simp,(fun x hx f hf=>?_),(fun x hx=>by cases hx),(fun x hx=>by cases hx),(fun x hx=>?_),(fun x hx=>by cases hx),(fun x hx=>by cases hx),(fun x hx=>by cases hx),(fun x hx=>by cases hx),by simp [szL],by simp [szL,RDl.sz,RF.sz,xs7z]⟩
   ·rw [List.mem_singleton] at hx;subst hx;rw [List.mem_singleton] at hf;subst hf;simp [xs7z]
   ·rw [List.mem_singleton] at hx;subst hx;show (1:Nat)≤maxLen;unfold maxLen;decide
  have h:=recEncode_any C V hi hl
  have he:#[Value.agg C.enc.toArray]=#[.agg #[.int .i64 1,.int .i64 5,.int .i64 5,.int .i64 1,.slice none 0 0,.slice (some ⟨D,0,none⟩) 1 1,.slice none 0 0,.slice none 0 0,.slice none 0 0,.slice none 0 0]]:=by rw [hC];rfl
  rw [he] at h
  exact h.mono (fun e w' ⟨u,h1,h2,h3⟩=>⟨u,by rw [h1,e1],by rw [e2] at h2;exact h2,h3⟩)
end
end Go.Proofs.YtbfdegkickjbpaaGreat
