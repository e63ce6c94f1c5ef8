/-
 SrcR
-/
import Derived.Test.YtbfdegkickjbpaaGreatHSegC
namespace Go.Proofs.YtbfdegkickjbpaaGreat
set_option maxRecDepth 1000000
set_option maxHeartbeats 32000000
open Go.RowKit Go.Lib Go.IntWalk Go.Sort Go.Shelf
theorem zq46 {P:Prop} (i:Nat) (h:Tg i→P:=by
 intro zT46
 first
  |guard_hyp zT46:Tg 1
   obtain rfl:d=e:=by rw [hd,if_neg he]
  |subst he
   obtain rfl:d=c:=by rw [hd,if_pos rfl]
 clear hd
 go_enter Tryz.func170,Tryz.ntmps170
 go_wp2_with fail
 exact bodyPost_ret (v:=.agg #[.slice bA bn bc,.int .i64 a,.int .i64 d,.int .i64 0,.string ⟨#[]⟩,.int .i64 0,.int .i64 0,.string ⟨#[]⟩,.slice none 0 0,.int .i64 0,.int .i64 0,.slice none 0 0]) (by simp [results,Tryz.results170,go_sem]) rfl ⟨rfl,rfl⟩) : P := h ⟨⟩
structure InR where
 s:ByteArray
 vk:Int
 vi:Int
 vs:ByteArray
 rA:Option Addr
 rn:Nat
 rc:Nat
 p1:Int
 p2:Int
 lA:Option Addr
 ln:Nat
 lc:Nat
def InR.zero:InR:=⟨⟨#[]⟩,0,0,⟨#[]⟩,none,0,0,0,0,none,0,0⟩
def inV (bA:Option Addr) (bn bc:Nat) (s:Int×Int) (n:Int) (g:InR):Value:=.agg #[.slice bA bn bc,.int .i64 s.1,.int .i64 s.2,.int .i64 n,.string g.s,.int .i64 g.vk,.int .i64 g.vi,.string g.vs,.slice g.rA g.rn g.rc,.int .i64 g.p1,.int .i64 g.p2,.slice g.lA g.ln g.lc]
def inBox (bA:Option Addr) (bn bc:Nat) (s:Int×Int) (n:Int) (g:InR):Obj:=.cells #[.slice bA bn bc,.int .i64 s.1,.int .i64 s.2,.int .i64 n,.string g.s,.int .i64 g.vk,.int .i64 g.vi,.string g.vs,.slice g.rA g.rn g.rc,.int .i64 g.p1,.int .i64 g.p2,.slice g.lA g.ln g.lc] 152
theorem fail_any (bA:Option Addr) (bn bc:Nat) (a e n:Int) (g:InR) (c d:Int) (w:World) (hd:d=if e=0 then c else e):Calls Tryz.prog 170 #[inV bA bn bc (a,e) n g,.int .i64 c] w fun x w'=>x=.returned (inV bA bn bc (a,d) 0 InR.zero)∧w'=(w.alloc (inBox bA bn bc (a,d) n g)).alloc (inBox bA bn bc (a,d) 0 InR.zero):=by
 obtain ⟨s,vk,vi,vs,rA,rn,rc,p1,p2,lA,ln,lc⟩:=g
 simp only [inV,inBox,InR.zero]
 by_cases he:e=0
 ·exact zq46 0
 ·exact zq46 1
theorem num_any (bA:Option Addr) (bn bc:Nat) (a e n:Int) (g:InR) (l:List UInt8) (w:World) (hv:RdB w (·<w.heap.size) (.slice bA bn bc) l):Calls Tryz.prog 74 #[inV bA bn bc (a,e) n g] w fun x w'=>∃g',x=.returned (inV bA bn bc (rdI l (a,e)).2 (rdI l (a,e)).1 g')∧Below w.heap.size w w':=by
 obtain ⟨_,_,he,y1,y2,y3⟩:=Rd.open_ hv
 have hz:∀c d V,d=(if e=0 then c else e)→Calls Tryz.prog 170 #[inV bA bn bc (a,e) n g,.int .i64 c] V _:=fun c d V h=>fail_any bA bn bc a e n g c d V h
 have KI:=fun V (h:RdB V (·<V.heap.size) (.slice bA bn bc) l)=>refInt_any _ (.slice bA bn bc) l a V h
 obtain ⟨s,vk,vi,vs,rA,rn,rc,p1,p2,lA,ln,lc⟩:=g
 clear he y1 y2 y3
 by_cases he:e=0
 case neg=>
  rw [show rdI l (a,e)=(0,a,e) from rdS_no he]
  have hz:=fun V=>hz e e V (by rw [if_neg he])
  simp only [inV,inBox,InR.zero] at hz ⊢
  go_enter Tryz.func74,Tryz.ntmps74
  go_wp2_with fail
  (with_reducible refine (hz _).mono ?_)
  rintro _ w2 ⟨rfl,hw2⟩
  rw [hw2]
  clear hw2 hz w2
  go_wp2_with fail
  exact bodyPost_ret (v:=.agg #[.slice bA bn bc,.int .i64 a,.int .i64 e,.int .i64 0,.string ⟨#[]⟩,.int .i64 0,.int .i64 0,.string ⟨#[]⟩,.slice none 0 0,.int .i64 0,.int .i64 0,.slice none 0 0]) (by simp [results,Tryz.results74,go_sem]) rfl ⟨InR.zero,rfl,((((((Below.of_alloc _).alloc (by first|(simp;done)|(simp;omega)) _)).alloc (by first|(simp;done)|(simp;omega)) _)).alloc (by first|(simp;done)|(simp;omega)) _)⟩
 subst he
 rcases hd:decI l a with ⟨m,k,e'⟩
 rw [hd] at KI
 rw [show rdI l (a,0)=(m,if e'=0 then (k,0) else (a,e')) from rdS_go hd]
 by_cases he':e'=0
 case pos=>
  subst he'
  rw [if_pos rfl]
  simp only [inV]
  clear hz hd
  go_enter Tryz.func74,Tryz.ntmps74
  go_wp2_with fail
  (with_reducible refine (KI _ (RdB.below hv ((Below.of_alloc _).alloc (by first|(simp;done)|(simp;omega)) _))).mono ?_)
  rintro _ w2 ⟨rfl,hw2⟩
  rw [←hw2]
  clear hw2 w2 KI
  go_wp2_with fail
  exact bodyPost_ret (v:=.agg #[.slice bA bn bc,.int .i64 k,.int .i64 0,.int .i64 m,.string s,.int .i64 vk,.int .i64 vi,.string vs,.slice rA rn rc,.int .i64 p1,.int .i64 p2,.slice lA ln lc]) (by simp [results,Tryz.results74,go_sem]) rfl ⟨⟨s,vk,vi,vs,rA,rn,rc,p1,p2,lA,ln,lc⟩,rfl,((Below.of_alloc _).alloc (by first|(simp;done)|(simp;omega)) _)⟩
 have hm:m=0:=by
  have:=decI_err (l:=l) (k:=a) (by rw [hd];exact he')
  rw [hd] at this
  exact this
 rw [if_neg he',hm]
 have hq:=fun V=>hz e' e' V (by rw [if_pos rfl])
 simp only [inV,inBox,InR.zero] at hq ⊢
 clear hd hm hz
 go_enter Tryz.func74,Tryz.ntmps74
 go_wp2_with fail
 (with_reducible refine (KI _ (RdB.below hv ((Below.of_alloc _).alloc (by first|(simp;done)|(simp;omega)) _))).mono ?_)
 rintro _ w2 ⟨rfl,hw2⟩
 rw [←hw2]
 clear hw2 w2 KI
 go_wp2_with fail
 (with_reducible refine (hq _).mono ?_)
 rintro _ w2 ⟨rfl,hw2⟩
 rw [hw2]
 clear hw2 hq w2
 go_wp2_with fail
 exact bodyPost_ret (v:=.agg #[.slice bA bn bc,.int .i64 a,.int .i64 e',.int .i64 0,.string ⟨#[]⟩,.int .i64 0,.int .i64 0,.string ⟨#[]⟩,.slice none 0 0,.int .i64 0,.int .i64 0,.slice none 0 0]) (by simp [results,Tryz.results74,go_sem]) rfl ⟨InR.zero,rfl,((((((Below.of_alloc _).alloc (by first|(simp;done)|(simp;omega)) _)).alloc (by first|(simp;done)|(simp;omega)) _)).alloc (by first|(simp;done)|(simp;omega)) _)⟩
end Go.Proofs.YtbfdegkickjbpaaGreat
