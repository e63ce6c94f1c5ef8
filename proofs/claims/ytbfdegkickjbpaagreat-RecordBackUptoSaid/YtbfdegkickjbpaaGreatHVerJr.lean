/-
 VerJr
-/
import Derived.Test.YtbfdegkickjbpaaGreatHSrc1
namespace Go.Proofs.YtbfdegkickjbpaaGreat
set_option maxRecDepth 1000000
set_option maxHeartbeats 32000000
open Go.RowKit Go.Lib Go.IntWalk Go.Sort Go.Shelf
theorem sameRow_any (v u:Value) (xs:List Val) (w:World) (hv:RdV w (·<w.heap.size) v xs) (hu:RdV w (·<w.heap.size) u xs):
  Calls Tryz.prog 179 #[v,u] w fun e w'=>e=.returned (.bool true)∧Below w.heap.size w w':=by
 obtain ⟨A,c,rfl,hc1,hc2,hc3⟩:=hv.open_
 obtain ⟨A',c',rfl,hc1',hc2',hc3'⟩:=hu.open_
 unfold maxLen at hc2 hc2'
 go_enter Tryz.func179,Tryz.ntmps179
 go_wp2_with fail
 go_loopw [13] (fun i wr=>SameRel w xs.length i wr) (fun i _=>xs.length-(intOf i).toNat)
 case atStart=>exact ⟨0,Nat.zero_le _,rfl,Below.refl _ _⟩
 obtain ⟨k,hk,rfl,hB⟩:=hrel
 obtain ⟨wo,rfl⟩:∃wo:World,wo=wr:=⟨_,rfl⟩
 by_cases hlt:k<xs.length
 ·obtain ⟨b1,o1,rfl,hF1,g0,g1,g2⟩:=RdV.at_ (Rd.below hv hB) hlt
  obtain ⟨b2,o2,rfl,hF2,f0,f1,f2⟩:=RdV.at_ (Rd.below hu hB) hlt
  generalize xs[k]=x at *
  obtain ⟨kd,n,s⟩:=x
  simp only at g0 g1 g2 f0 f1 f2
  have i1:(0:Int)≤(k:Int):=by omega
  have i2:(k:Int)<(xs.length:Int):=by omega
  go_wp2_with fail
  refine wp_region_noPanic ?_
  refine wp_region_held_drew (S:=(fun w'=>w'.cell? ⟨b1,o1+k*3,none⟩=some (.int .i64 kd)∧w'.cell? ⟨b1,o1+k*3+1,none⟩=some (.int .i64 n)∧w'.cell? ⟨b1,o1+k*3+2,none⟩=some (.string s)∧w'.cell? ⟨b2,o2+k*3,none⟩=some (.int .i64 kd)∧w'.cell? ⟨b2,o2+k*3+1,none⟩=some (.int .i64 n)∧w'.cell? ⟨b2,o2+k*3+2,none⟩=some (.string s))) (by kernel_rfl) ?_ (fun hHeld=>?_)
  ·exact ⟨g0,g1,g2,f0,f1,f2⟩
  refine hT 0 16 hHeld ?_
  simp only [aP]
  refine hT 1 17 hHeld ?_
  simp only [aP]
  refine hT 2 18 hHeld ?_
  simp only [aP]
  refine hT 3 19 hHeld ?_
  simp only [aP]
  refine hT 4 20 hHeld ?_
  simp only [aP]
  refine hT 5 21 hHeld ?_
  simp only [aP]
  refine hT 6 22 hHeld ?_
  simp only [aP]
  refine hT 7 23 hHeld ?_
  simp only [aP]
  refine hT 8 24 hHeld ?_
  simp only [aP]
  refine wpAnyH_done (by kernel_rfl) ?_ _
  refine NoPanic.normal ?_
  go_wp2_with fail
  go_roundw
  case rel=>exact ⟨k+1,by omega,by go_num,hB.drew⟩
  case measure=>simp [intOf];omega
 ·go_wp2_with fail
  go_ret
  exact ⟨rfl,hB⟩
theorem sameVersions_any (v u:Value) (ps qs:List VP) (w:World) (hv:RdVs w (·<w.heap.size) v ps) (hu:RdVs w (·<w.heap.size) u qs) (he:ps.map (·.2)=qs.map (·.2)):
  Calls Tryz.prog 103 #[v,u] w fun e w'=>e=.returned (.bool true)∧Below w.heap.size w w':=by
 obtain ⟨A,c,rfl,hc1,hc2,hc3⟩:=hv.1.open_
 obtain ⟨A',c',rfl,hc1',hc2',hc3'⟩:=hu.1.open_
 unfold maxLen at hc2 hc2'
 have hlen:ps.length=qs.length:=by have:=congrArg List.length he;simpa using this
 have HVS:=hI0 hv
 have HUS:=hI0 hu
 have HE:=hI0 he
 clear hv hu he
 have HLEN:=hI0 hlen
 rw [←hlen]
 rw [←hlen] at hc1'
 go_enter Tryz.func103,Tryz.ntmps103
 go_wp2_with fail
 go_loopw [15] (fun i wr=>SameRel w ps.length i wr) (fun i _=>ps.length-(intOf i).toNat)
 case atStart=>exact ⟨0,Nat.zero_le _,rfl,Below.refl _ _⟩
 obtain ⟨k,hk,rfl,hB⟩:=hrel
 obtain ⟨wo,rfl⟩:∃wo:World,wo=wr:=⟨_,rfl⟩
 have hsz:=hB.size
 by_cases hlt:k<ps.length
 case neg=>
  go_wp2_with fail
  go_ret
  exact ⟨rfl,hB⟩
 have hlt':k<qs.length:=by have:=HLEN.out;omega
 obtain ⟨b,off,rfl,hF,hcl,hx⟩:=RdVs.at_ (HVS.out.below hB) hlt
 obtain ⟨b2,off2,hA2,hF2,hcl2,hx2⟩:=RdVs.at_ (HUS.out.below hB) hlt'
 have hex:ps[k].2=qs[k].2:=by
  have h1:(ps.map (·.2))[k]? =(qs.map (·.2))[k]? :=by rw [HE.out]
  rw [List.getElem?_map,List.getElem?_map,List.getElem?_eq_getElem hlt,List.getElem?_eq_getElem hlt'] at h1
  simpa using h1
 rw [←hex] at hx2
 subst hA2
 clear hex
 generalize ps[k]=p at *
 generalize qs[k]=q at *
 obtain ⟨⟨x1,x2,xA,xn,xc,x3,x4,x5,x6,x7,x8⟩,x⟩:=p
 obtain ⟨⟨y1,y2,yA,yn,yc,y3,y4,y5,y6,y7,y8⟩,y⟩:=q
 simp only at hcl hx hcl2 hx2
 have g0:wo.cell? ⟨b,off+k*9,none⟩=some (.int .i64 x1):=hcl 0 _ (by decide) rfl
 have g1:wo.cell? ⟨b,off+k*9+1,none⟩=some (.int .i64 x2):=hcl 1 _ (by decide) rfl
 have g2:wo.cell? ⟨b,off+k*9+2,none⟩=some (.slice xA xn xc):=hcl 2 _ (by decide) rfl
 have g3:wo.cell? ⟨b,off+k*9+3,none⟩=some (.int .i64 x3):=hcl 3 _ (by decide) rfl
 have g4:wo.cell? ⟨b,off+k*9+4,none⟩=some (.int .i64 x4):=hcl 4 _ (by decide) rfl
 have g5:wo.cell? ⟨b,off+k*9+5,none⟩=some (.int .i64 x5):=hcl 5 _ (by decide) rfl
 have g6:wo.cell? ⟨b,off+k*9+6,none⟩=some (.int .i64 x6):=hcl 6 _ (by decide) rfl
 have g7:wo.cell? ⟨b,off+k*9+7,none⟩=some (.int .i64 x7):=hcl 7 _ (by decide) rfl
 have g8:wo.cell? ⟨b,off+k*9+8,none⟩=some (.int .i64 x8):=hcl 8 _ (by decide) rfl
 have h0:wo.cell? ⟨b2,off2+k*9,none⟩=some (.int .i64 y1):=hcl2 0 _ (by decide) rfl
 have h1:wo.cell? ⟨b2,off2+k*9+1,none⟩=some (.int .i64 y2):=hcl2 1 _ (by decide) rfl
 have h2:wo.cell? ⟨b2,off2+k*9+2,none⟩=some (.slice yA yn yc):=hcl2 2 _ (by decide) rfl
 have h3:wo.cell? ⟨b2,off2+k*9+3,none⟩=some (.int .i64 y3):=hcl2 3 _ (by decide) rfl
 have h4:wo.cell? ⟨b2,off2+k*9+4,none⟩=some (.int .i64 y4):=hcl2 4 _ (by decide) rfl
 have h5:wo.cell? ⟨b2,off2+k*9+5,none⟩=some (.int .i64 y5):=hcl2 5 _ (by decide) rfl
 have h6:wo.cell? ⟨b2,off2+k*9+6,none⟩=some (.int .i64 y6):=hcl2 6 _ (by decide) rfl
 have h7:wo.cell? ⟨b2,off2+k*9+7,none⟩=some (.int .i64 y7):=hcl2 7 _ (by decide) rfl
 have h8:wo.cell? ⟨b2,off2+k*9+8,none⟩=some (.int .i64 y8):=hcl2 8 _ (by decide) rfl
 clear hcl hcl2
 obtain ⟨p1,p2,p3,p4,p5,p6,p7,p8,pv,po⟩:=hx
 obtain ⟨q1,q2,q3,q4,q5,q6,q7,q8,qv,qo⟩:=hx2
 simp only at p1 p2 p3 p4 p5 p6 p7 p8 pv q1 q2 q3 q4 q5 q6 q7 q8 qv
 rw [←p1] at q1;rw [←p2] at q2;rw [←p3] at q3;rw [←p4] at q4;rw [←p5] at q5;rw [←p6] at q6;rw [←p7] at q7;rw [←p8] at q8
 subst q1;subst q2;subst q3;subst q4;subst q5;subst q6;subst q7;subst q8
 have KS:=fun W (h:Below wo.heap.size wo W)=>sameRow_any _ _ x.row W (RdV.below pv h) (RdV.below qv h)
 clear p1 p2 p3 p4 p5 p6 p7 p8 pv qv po qo
 have hbx:Below wo.heap.size wo ((wo.alloc (.cells #[.int .i64 y1,.int .i64 y2,.slice xA xn xc,.int .i64 y3,.int .i64 y4,.int .i64 y5,.int .i64 y6,.int .i64 y7,.int .i64 y8] 167)).alloc (.cells #[.int .i64 y1,.int .i64 y2,.slice yA yn yc,.int .i64 y3,.int .i64 y4,.int .i64 y5,.int .i64 y6,.int .i64 y7,.int .i64 y8] 167)):=(Below.of_alloc _).alloc (by simp) _
 go_wp2_with fail
 (with_reducible refine (KS _ hbx).mono ?_)
 rintro _ w2 ⟨rfl,hb2⟩
 have hB2:Below w.heap.size w w2:=hB.trans ((hbx.trans (hb2.mono hbx.size)).mono hsz)
 go_wp2_with fail
 go_roundw
 case rel=>exact ⟨k+1,by omega,by go_num,hB2⟩
 case measure=>simp [intOf];omega
end Go.Proofs.YtbfdegkickjbpaaGreat
