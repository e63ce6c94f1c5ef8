/-
 SmC
-/
import Derived.Test.YtbfdegkickjbpaaGreatHSmA
namespace Go.Proofs.YtbfdegkickjbpaaGreat
set_option maxRecDepth 1000000
set_option maxHeartbeats 32000000
open Go.RowKit Go.Lib Go.IntWalk Go.Sort Go.Shelf
theorem zq3 {P:Prop} (i:Nat) (h:Tg i→P:=by
 intro zT3
 first
  |guard_hyp zT3:Tg 1
   obtain ⟨A,c,rfl,a1,a2,a3⟩:=Rd.open_ (show Rd w _ 1 v l.length (l.flatMap intE) from hv)
   obtain ⟨A',c',rfl,b1,b2,b3⟩:=Rd.open_ (show Rd w _ 1 u m.length (m.flatMap intE) from hu)
  |obtain ⟨A,c,rfl,a1,a2,a3⟩:=Rd.open_ (show Rd w _ 3 v l.length (l.flatMap Val.cells) from hv)
   obtain ⟨A',c',rfl,b1,b2,b3⟩:=Rd.open_ (show Rd w _ 3 u m.length (m.flatMap Val.cells) from hu)
 unfold maxLen at a2 b2
 have HV:=hI0 hv
 have HU:=hI0 hu
 first
  |guard_hyp zT3:Tg 1
   obtain ⟨res,hres⟩:∃r,r=sameL sInt l m:=⟨_,rfl⟩
  |obtain ⟨res,hres⟩:∃r,r=sameL sVal l m:=⟨_,rfl⟩
 rw [←hres]
 have HRES:=hI0 hres
 clear hv hu hres a3 b3
 first
  |guard_hyp zT3:Tg 1
   go_enter Tryz.func178,Tryz.ntmps178
  |go_enter Tryz.func179,Tryz.ntmps179
 by_cases hlen:l.length=m.length
 case neg=>
  have HE:Hid (res=false):=hI0 (by rw [HRES.out];exact sameL_len hlen)
  have hlen2:¬(l.length:Int)=(m.length:Int):=by omega
  have hlen3:((l.length:Int) != (m.length:Int))=true:=by simpa using hlen2
  go_wp2_with fail
  go_ret
  exact ⟨by rw [HE.out]<;>rfl,Below.refl _ _⟩
 case pos=>
 have hlen2:(l.length:Int)=(m.length:Int):=by omega
 have hlen3:((l.length:Int) != (m.length:Int))=false:=by simpa using hlen2
 go_wp2_with fail
 clear hlen3
 first
  |guard_hyp zT3:Tg 1
   go_loopw [13] (fun i wr=>∃k:Nat,i=.int .i64 (k:Int)∧k≤l.length∧Hid (sameL sInt (l.drop k) (m.drop k)=res)∧Hid (Below w.heap.size w wr)) (fun i _=>l.length-(intOf i).toNat)
  |go_loopw [13] (fun i wr=>∃k:Nat,i=.int .i64 (k:Int)∧k≤l.length∧Hid (sameL sVal (l.drop k) (m.drop k)=res)∧Hid (Below w.heap.size w wr)) (fun i _=>l.length-(intOf i).toNat)
 case atStart=>exact ⟨0,rfl,Nat.zero_le _,hI0 HRES.out.symm,hI0 (Below.refl _ _)⟩
 obtain ⟨k,rfl,hk,HG,HB⟩:=hrel
 obtain ⟨wi,rfl⟩:∃wi:World,wi=wr:=⟨_,rfl⟩
 by_cases hlt:k<l.length
 case neg=>
  have hlt3:¬(k:Int)<(l.length:Int):=by omega
  have HE:Hid (res=true):=hI0 (by rw [←HG.out];exact sameL_end (by omega) (by omega))
  go_wp2_with fail
  go_ret
  exact ⟨by rw [HE.out]<;>rfl,HB.out⟩
 have hlt':k<m.length:=by omega
 have hlt3:(k:Int)<(l.length:Int):=by omega
 have hlt4:(k:Int)<(m.length:Int):=by omega
 first
  |guard_hyp zT3:Tg 1
   obtain ⟨b,off,rfl,hF,hcl⟩:=RdE.at_ (K:=1) (enc:=intE) (fun _=>rfl) (by omega) (HV.out.below HB.out) hlt
   obtain ⟨b',off',rfl,hF',hcl'⟩:=RdE.at_ (K:=1) (enc:=intE) (fun _=>rfl) (by omega) (HU.out.below HB.out) hlt'
  |obtain ⟨b,off,rfl,hF,hcl⟩:=RdE.at_ (K:=3) (enc:=Val.cells) (fun _=>rfl) (by omega) (HV.out.below HB.out) hlt
   obtain ⟨b',off',rfl,hF',hcl'⟩:=RdE.at_ (K:=3) (enc:=Val.cells) (fun _=>rfl) (by omega) (HU.out.below HB.out) hlt'
 have HBL:=hI0 hF
 have HBM:=hI0 hF'
 have hcx:=hcl k hlt
 have hcy:=hcl' k hlt'
 have hg:=HG.out
 rw [sameL_at hlt hlt'] at hg
 obtain ⟨x,hx⟩:∃x,x=l[k]:=⟨_,rfl⟩
 obtain ⟨y,hy⟩:∃y,y=m[k]:=⟨_,rfl⟩
 rw [←hx] at hcx hg
 rw [←hy] at hcy hg
 first
  |guard_hyp zT3:Tg 1
   obtain ⟨bo,hbo⟩:∃bo,bo=sInt x y:=⟨_,rfl⟩
  |obtain ⟨bo,hbo⟩:∃bo,bo=sVal x y:=⟨_,rfl⟩
 rw [←hbo] at hg
 have HG2:=hI0 hg
 clear hx hy hcl hcl' hF hF' hg HG
 first
  |guard_hyp zT3:Tg 1
   obtain ⟨x1,hx1⟩:∃z,z=x:=⟨_,rfl⟩
   obtain ⟨y1,hy1⟩:∃z,z=y:=⟨_,rfl⟩
   subst hx1;subst hy1
   have g0:wi.cell? ⟨b,off+k,none⟩=some (.int .i64 x1):=by have h:=hcx 0 (.int .i64 x1) (by decide) rfl;rw [Nat.mul_one,Nat.add_zero] at h;exact h
   have h0:wi.cell? ⟨b',off'+k,none⟩=some (.int .i64 y1):=by have h:=hcy 0 (.int .i64 y1) (by decide) rfl;rw [Nat.mul_one,Nat.add_zero] at h;exact h
   have HRX:Hid (bo=(decide (x1=y1))):=hI0 hbo
  |obtain ⟨x1,x2,x3⟩:=x
   obtain ⟨y1,y2,y3⟩:=y
   have g0:wi.cell? ⟨b,off+k*3,none⟩=some (.int .i64 x1):=hcx 0 _ (by decide) rfl
   have g1:wi.cell? ⟨b,off+k*3+1,none⟩=some (.int .i64 x2):=hcx 1 _ (by decide) rfl
   have g2:wi.cell? ⟨b,off+k*3+2,none⟩=some (.string x3):=hcx 2 _ (by decide) rfl
   have h0:wi.cell? ⟨b',off'+k*3,none⟩=some (.int .i64 y1):=hcy 0 _ (by decide) rfl
   have h1:wi.cell? ⟨b',off'+k*3+1,none⟩=some (.int .i64 y2):=hcy 1 _ (by decide) rfl
   have h2:wi.cell? ⟨b',off'+k*3+2,none⟩=some (.string y3):=hcy 2 _ (by decide) rfl
   have HRX:Hid (bo=(decide (x1=y1)&&(decide (x2=y2)&&(eqS x3 y3)))):=hI0 hbo
 clear hcx hcy hbo
 go_wp2_with fail
 first
  |guard_hyp zT3:Tg 1
   by_cases tt18:x1=y1
  |by_cases tt19:x1=y1
 case neg=>
  exact zq30 0
 first
  |guard_hyp zT3:Tg 1
   have GG18:Hid (decide (x1=y1)=true):=hI0 (decide_eq_true tt18)
   have ee18:(x1==y1)=true:=by simpa using tt18
   have ff18:(x1 != y1)=false:=by simpa using tt18
   clear tt18
   have HF:Hid (bo=true):=hI0 (by rw [HRX.out,GG18.out]<;>first|rfl|(simp;done))
   have HN:Hid (sameL sInt (l.drop (k+1)) (m.drop (k+1))=res):=hI0 (by rw [←HG2.out,HF.out];simp)
  |have GG19:Hid (decide (x1=y1)=true):=hI0 (decide_eq_true tt19)
   have ee19:(x1==y1)=true:=by simpa using tt19
   have ff19:(x1 != y1)=false:=by simpa using tt19
   clear tt19
   by_cases tt20:x2=y2
   case neg=>
    exact zq30 1
   have GG20:Hid (decide (x2=y2)=true):=hI0 (decide_eq_true tt20)
   have ee20:(x2==y2)=true:=by simpa using tt20
   have ff20:(x2 != y2)=false:=by simpa using tt20
   clear tt20
   cases ee21:(x3.toList==y3.toList)
   case false=>
    exact zq30 2
   have GG21:Hid (eqS x3 y3=true):=hI0 ee21
   have ff21:(x3.toList != y3.toList)=false:=by rw [bne,ee21];rfl
   have HF:Hid (bo=true):=hI0 (by rw [HRX.out,GG19.out,GG20.out,GG21.out]<;>first|rfl|(simp;done))
   have HN:Hid (sameL sVal (l.drop (k+1)) (m.drop (k+1))=res):=hI0 (by rw [←HG2.out,HF.out];simp)
 refine wp_region_noPanic ?_
 refine wp_region_held_drew (S:=(fun w'=>Below wi.heap.size wi w')) (by kernel_rfl) ?_ (fun hHeld=>?_)
 ·exact (Below.refl _ _).drew
 refine hT 0 16 hHeld ?_
 simp only [aP]
 refine hT 1 17 hHeld ?_
 simp only [aP]
 refine hT 2 18 hHeld ?_
 simp only [aP]
 refine hU 3 19 (v:=?_) hHeld ?_ ?_
 rotate_left
 ·first
   |guard_hyp zT3:Tg 1
    intro w' hSw;(try dsimp only at hSw);have q0:w'.cell? ⟨b,off+k,none⟩=some (.int .i64 x1):=(World.cell?_of_block (hSw.block _ HBL.out)).trans g0;go_simp<;>with_reducible rfl
   |intro w' hSw;(try dsimp only at hSw);have q0:w'.cell? ⟨b,off+k*3,none⟩=some (.int .i64 x1):=(World.cell?_of_block (hSw.block _ HBL.out)).trans g0;have q1:w'.cell? ⟨b,off+k*3+1,none⟩=some (.int .i64 x2):=(World.cell?_of_block (hSw.block _ HBL.out)).trans g1;have q2:w'.cell? ⟨b,off+k*3+2,none⟩=some (.string x3):=(World.cell?_of_block (hSw.block _ HBL.out)).trans g2;go_simp<;>with_reducible rfl
 simp only [aP]
 refine hT 4 20 hHeld ?_
 simp only [aP]
 refine hT 5 21 hHeld ?_
 simp only [aP]
 refine hT 6 22 hHeld ?_
 simp only [aP]
 refine hU 7 23 (v:=?_) hHeld ?_ ?_
 rotate_left
 ·first
   |guard_hyp zT3:Tg 1
    intro w' hSw;(try dsimp only at hSw);have q0:w'.cell? ⟨b',off'+k,none⟩=some (.int .i64 y1):=(World.cell?_of_block (hSw.block _ HBM.out)).trans h0;go_simp<;>with_reducible rfl
   |intro w' hSw;(try dsimp only at hSw);have q0:w'.cell? ⟨b',off'+k*3,none⟩=some (.int .i64 y1):=(World.cell?_of_block (hSw.block _ HBM.out)).trans h0;have q1:w'.cell? ⟨b',off'+k*3+1,none⟩=some (.int .i64 y2):=(World.cell?_of_block (hSw.block _ HBM.out)).trans h1;have q2:w'.cell? ⟨b',off'+k*3+2,none⟩=some (.string y3):=(World.cell?_of_block (hSw.block _ HBM.out)).trans h2;go_simp<;>with_reducible rfl
 simp only [aP]
 refine hT 8 24 hHeld ?_
 simp only [aP]
 refine wpAnyH_done (by kernel_rfl) ?_ _
 refine NoPanic.normal ?_
 go_wp2_with fail
 go_roundw
 case rel=>exact ⟨k+1,by go_num,hlt,HN,hI0 HB.out.drew⟩
 case measure=>simp [intOf];omega) : P := h ⟨⟩
theorem zq30 {P:Prop} (i:Nat) (h:Tg i→P:=by
 intro zT30
 first
  |guard_hyp zT30:Tg 2
   have gg21:Hid (eqS x3 y3=false):=hI0 ee21
   have ff21:(x3.toList != y3.toList)=true:=by rw [bne,ee21];rfl
   have HF:Hid (bo=false):=hI0 (by rw [HRX.out,GG19.out,GG20.out,gg21.out]<;>simp)
  |guard_hyp zT30:Tg 1
   have gg20:Hid (decide (x2=y2)=false):=hI0 (decide_eq_false tt20)
   have ee20:(x2==y2)=false:=by simpa using tt20
   have ff20:(x2 != y2)=true:=by simpa using tt20
   have HF:Hid (bo=false):=hI0 (by rw [HRX.out,GG19.out,gg20.out]<;>simp)
  |guard_hyp zT3:Tg 1
   have gg18:Hid (decide (x1=y1)=false):=hI0 (decide_eq_false tt18)
   have ee18:(x1==y1)=false:=by simpa using tt18
   have ff18:(x1 != y1)=true:=by simpa using tt18
   have HF:Hid (bo=false):=hI0 (by rw [HRX.out,gg18.out]<;>simp)
  |have gg19:Hid (decide (x1=y1)=false):=hI0 (decide_eq_false tt19)
   have ee19:(x1==y1)=false:=by simpa using tt19
   have ff19:(x1 != y1)=true:=by simpa using tt19
   have HF:Hid (bo=false):=hI0 (by rw [HRX.out,gg19.out]<;>simp)
 have HE:Hid (res=false):=hI0 (by rw [←HG2.out,HF.out];rfl)
 refine wp_region_noPanic ?_
 refine wp_region_held_drew (S:=(fun w'=>Below wi.heap.size wi w')) (by kernel_rfl) ?_ (fun hHeld=>?_)
 ·exact (Below.refl _ _).drew
 refine hT 0 16 hHeld ?_
 simp only [aP]
 refine hT 1 17 hHeld ?_
 simp only [aP]
 refine hT 2 18 hHeld ?_
 simp only [aP]
 refine hU 3 19 (v:=?_) hHeld ?_ ?_
 rotate_left
 ·first
   |guard_hyp zT30:Tg 2
    intro w' hSw;(try dsimp only at hSw);have q0:w'.cell? ⟨b,off+k*3,none⟩=some (.int .i64 x1):=(World.cell?_of_block (hSw.block _ HBL.out)).trans g0;have q1:w'.cell? ⟨b,off+k*3+1,none⟩=some (.int .i64 x2):=(World.cell?_of_block (hSw.block _ HBL.out)).trans g1;have q2:w'.cell? ⟨b,off+k*3+2,none⟩=some (.string x3):=(World.cell?_of_block (hSw.block _ HBL.out)).trans g2;go_simp<;>with_reducible rfl
   |guard_hyp zT30:Tg 1
    intro w' hSw;(try dsimp only at hSw);have q0:w'.cell? ⟨b,off+k*3,none⟩=some (.int .i64 x1):=(World.cell?_of_block (hSw.block _ HBL.out)).trans g0;have q1:w'.cell? ⟨b,off+k*3+1,none⟩=some (.int .i64 x2):=(World.cell?_of_block (hSw.block _ HBL.out)).trans g1;have q2:w'.cell? ⟨b,off+k*3+2,none⟩=some (.string x3):=(World.cell?_of_block (hSw.block _ HBL.out)).trans g2;go_simp<;>with_reducible rfl
   |guard_hyp zT3:Tg 1
    intro w' hSw;(try dsimp only at hSw);have q0:w'.cell? ⟨b,off+k,none⟩=some (.int .i64 x1):=(World.cell?_of_block (hSw.block _ HBL.out)).trans g0;go_simp<;>with_reducible rfl
   |intro w' hSw;(try dsimp only at hSw);have q0:w'.cell? ⟨b,off+k*3,none⟩=some (.int .i64 x1):=(World.cell?_of_block (hSw.block _ HBL.out)).trans g0;have q1:w'.cell? ⟨b,off+k*3+1,none⟩=some (.int .i64 x2):=(World.cell?_of_block (hSw.block _ HBL.out)).trans g1;have q2:w'.cell? ⟨b,off+k*3+2,none⟩=some (.string x3):=(World.cell?_of_block (hSw.block _ HBL.out)).trans g2;go_simp<;>with_reducible rfl
 simp only [aP]
 refine hT 4 20 hHeld ?_
 simp only [aP]
 refine hT 5 21 hHeld ?_
 simp only [aP]
 refine hT 6 22 hHeld ?_
 simp only [aP]
 refine hU 7 23 (v:=?_) hHeld ?_ ?_
 rotate_left
 ·first
   |guard_hyp zT30:Tg 2
    intro w' hSw;(try dsimp only at hSw);have q0:w'.cell? ⟨b',off'+k*3,none⟩=some (.int .i64 y1):=(World.cell?_of_block (hSw.block _ HBM.out)).trans h0;have q1:w'.cell? ⟨b',off'+k*3+1,none⟩=some (.int .i64 y2):=(World.cell?_of_block (hSw.block _ HBM.out)).trans h1;have q2:w'.cell? ⟨b',off'+k*3+2,none⟩=some (.string y3):=(World.cell?_of_block (hSw.block _ HBM.out)).trans h2;go_simp<;>with_reducible rfl
   |guard_hyp zT30:Tg 1
    intro w' hSw;(try dsimp only at hSw);have q0:w'.cell? ⟨b',off'+k*3,none⟩=some (.int .i64 y1):=(World.cell?_of_block (hSw.block _ HBM.out)).trans h0;have q1:w'.cell? ⟨b',off'+k*3+1,none⟩=some (.int .i64 y2):=(World.cell?_of_block (hSw.block _ HBM.out)).trans h1;have q2:w'.cell? ⟨b',off'+k*3+2,none⟩=some (.string y3):=(World.cell?_of_block (hSw.block _ HBM.out)).trans h2;go_simp<;>with_reducible rfl
   |guard_hyp zT3:Tg 1
    intro w' hSw;(try dsimp only at hSw);have q0:w'.cell? ⟨b',off'+k,none⟩=some (.int .i64 y1):=(World.cell?_of_block (hSw.block _ HBM.out)).trans h0;go_simp<;>with_reducible rfl
   |intro w' hSw;(try dsimp only at hSw);have q0:w'.cell? ⟨b',off'+k*3,none⟩=some (.int .i64 y1):=(World.cell?_of_block (hSw.block _ HBM.out)).trans h0;have q1:w'.cell? ⟨b',off'+k*3+1,none⟩=some (.int .i64 y2):=(World.cell?_of_block (hSw.block _ HBM.out)).trans h1;have q2:w'.cell? ⟨b',off'+k*3+2,none⟩=some (.string y3):=(World.cell?_of_block (hSw.block _ HBM.out)).trans h2;go_simp<;>with_reducible rfl
 simp only [aP]
 refine hT 8 24 hHeld ?_
 simp only [aP]
 refine wpAnyH_done (by kernel_rfl) ?_ _
 refine NoPanic.normal ?_
 go_wp2_with fail
 go_ret
 exact ⟨by rw [HE.out]<;>rfl,HB.out.drew⟩) : P := h ⟨⟩
theorem likeInts_any (v u:Value) (l m:List Int) (w:World) (hv:RdE 1 intE w (·<w.heap.size) v l) (hu:RdE 1 intE w (·<w.heap.size) u m):
  Calls Tryz.prog 178 #[v,u] w fun e w'=>e=.returned (.bool (sameL sInt l m))∧Below w.heap.size w w':=by
 exact zq3 1
theorem likeRow_any (v u:Value) (l m:List Val) (w:World) (hv:RdE 3 Val.cells w (·<w.heap.size) v l) (hu:RdE 3 Val.cells w (·<w.heap.size) u m):
  Calls Tryz.prog 179 #[v,u] w fun e w'=>e=.returned (.bool (sameL sVal l m))∧Below w.heap.size w w':=by
 exact zq3 0
end Go.Proofs.YtbfdegkickjbpaaGreat
