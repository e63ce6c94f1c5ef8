/-
 PbG
-/
import Derived.Test.YtgfhknnklapldaaGreatDoorBPbF
import Derived.Test.YtgfhknnklapldaaGreatDoorBPbE
import Derived.Test.YtgfhknnklapldaaGreatDoorBPbD
import Derived.Test.YtgfhknnklapldaaGreatDoorBPbB
import Derived.Test.YtgfhknnklapldaaGreatDoorBPbA
import Derived.Test.YtgfhknnklapldaaGreatDoorBBase
import Derived.Test.YtgfhknnklapldaaGreatDoorBDuJ
import Derived.Deep.Cut
namespace Go.Proofs.YtgfhknnklapldaaGreatDoor
open Go.Proofs.Tryz
set_option maxRecDepth 99999
set_option maxHeartbeats 0
open Go.RowKit Go.Lib Go.IntWalk Go.Sort Go.Shelf
theorem pexp_any:∀(n:Nat) (b:Nat) (l:List UInt8) (lv:Int) (i:Nat) (d:Bool) (r:List Value) (w:World),lv+n=25→1≤lv→EnvP b w→CurAt w b (strB l) i d r→0<i→i≤l.length→l.length≤4294967281→
  Calls prog 145 #[.pointer (some ⟨b,0,none⟩),.int .i64 lv] w (OneQ (fun x:RE=>.agg x.enc.toArray) exAll RE.er b l r (pExp l n (i,d)) w):=by
 intro n
 induction n with
 |zero=>
  intro b l lv i d r w h1 h2 he h h0 hi hl
  obtain rfl:lv=25:=by omega
  exact pexp0_any b l i d r w h
 |succ n ih=>
  intro b l lv i d r w hlv hlv1 he h h0 hi hl
  rcases h1:cnumI l (i,d) with ⟨n1,kk1,qq1⟩
  have u1:i≤kk1∧kk1≤l.length:=by have u:=adv_num (l:=l) (st:=(i,d)) hi;rw [h1] at u;exact u
  rcases h2:cnumI l (kk1,qq1) with ⟨n2,kk2,qq2⟩
  have u2:kk1≤kk2∧kk2≤l.length:=by have u:=adv_num (l:=l) (st:=(kk1,qq1)) u1.2;rw [h2] at u;exact u
  rcases h3:pVal l (kk2,qq2) with ⟨⟨k3,i3,t3⟩,kk3,qq3⟩
  have u3:kk2≤kk3∧kk3≤l.length:=by have u:=adv_val (l:=l) (st:=(kk2,qq2)) u2.2;rw [h3] at u;exact u
  rcases h4:pText l (kk3,qq3) with ⟨n4,kk4,qq4⟩
  have u4:kk3≤kk4∧kk4≤l.length:=by have u:=adv_text (l:=l) (st:=(kk3,qq3)) u3.2;rw [h4] at u;exact u
  rcases h5:pMany l (pExp l n) (kk4,qq4) with ⟨xs5,kk5,qq5⟩
  have u5:kk4≤kk5∧kk5≤l.length:=by have u:=adv_many (advX l n).le (l:=l) (st:=(kk4,qq4)) u4.2;rw [h5] at u;exact u
  have hd:pExp l (n+1) (i,d)=(.mk n1 n2 ⟨k3,i3,t3⟩ n4 none 0 xs5,kk5,qq5):=by unfold pExp;simp only [h1,h2,h3,h4,h5]
  have hgv:goV ⟨k3,i3,t3⟩:=by have:=pVal_go l (kk2,qq2) hl;rw [h3] at this;exact this
  have hgn:n4.size≤maxLen:=by have:=pText_go l (kk3,qq3) hl;rw [h4] at this;exact this
  rw [hd]
  have hR:=h.lt
  obtain ⟨W,hW,hA,hB,hC,hbW,hz⟩:=exp_boxes b lv w hR
  have hS0:CurAt W.drew b (strB l) i d r:=h.below hbW.drew
  have hC0:Chg (·=b) W W.drew:=(Chg.refl _ _).drew
  have hEV:∀V,Chg (·=b) W V→EnvP b V:=fun V hV=>he.chg ((Chg.of_below hbW _).trans hV (fun _ _ h=>h)) (Nat.le_of_lt hR)
  have HA:Hid (∀V,Chg (·=b) W V→V.heap[w.heap.size]? =some (.cells #[.pointer (some ⟨b,0,none⟩)] 175 (0,0))):=hI0 fun V hV=>(hV.block _ (by omega) (by omega)).trans hA
  have HBX:Hid (∀V,Chg (·=b) W V→V.heap[w.heap.size+1]? =some (.cells #[.int .i64 lv] 3 (0,0))):=hI0 fun V hV=>(hV.block _ (by omega) (by omega)).trans hB
  have HCX:Hid (∀V,Chg (·=b) W V→V.heap[(w.heap.size+1+1)]? =some (.cells #[.int .i64 0,.int .i64 0,.int .i64 0,.int .i64 0,.string ⟨#[]⟩,.string ⟨#[]⟩,.slice none 0 0] 117 (0,0))):=hI0 fun V hV=>(hV.block _ (by omega) (by omega)).trans hC
  have K1:∀V,CurAt V b (strB l) i d r→Chg (·=b) W V→Calls prog 93 #[.pointer (some ⟨b,0,none⟩)] V fun x w'=>x=.returned (.int .i64 n1)∧CurAt w' b (strB l) kk1 qq1 r∧Chg (·=b) V w':=fun V hs hV=>by
   have k:=cnum_any b l i d r V (hEV V hV) hs hi hl
   rw [h1] at k
   exact k
  have K2:∀V,CurAt V b (strB l) kk1 qq1 r→Chg (·=b) W V→Calls prog 93 #[.pointer (some ⟨b,0,none⟩)] V fun x w'=>x=.returned (.int .i64 n2)∧CurAt w' b (strB l) kk2 qq2 r∧Chg (·=b) V w':=fun V hs hV=>by
   have k:=cnum_any b l kk1 qq1 r V (hEV V hV) hs u1.2 hl
   rw [h2] at k
   exact k
  have K3:∀V,CurAt V b (strB l) kk2 qq2 r→Chg (·=b) W V→Calls prog 146 #[.pointer (some ⟨b,0,none⟩)] V fun x w'=>x=.returned (.agg #[.int .i64 k3,.int .i64 i3,.string t3])∧CurAt w' b (strB l) kk3 qq3 r∧Chg (·=b) V w':=fun V hs hV=>by
   have k:=pvalue_any b l kk2 qq2 r V (hEV V hV) hs u2.2 hl
   rw [h3] at k
   exact k
  have K4:∀V,CurAt V b (strB l) kk3 qq3 r→Chg (·=b) W V→Calls prog 96 #[.pointer (some ⟨b,0,none⟩)] V fun x w'=>x=.returned (.string n4)∧CurAt w' b (strB l) kk4 qq4 r∧Chg (·=b) V w':=fun V hs hV=>by
   have k:=text_any b l kk3 qq3 r V hs u3.2 hl
   rw [h4] at k
   exact k
  have K5:Hid (∀V,CurAt V b (strB l) kk4 qq4 r→Chg (·=b) w V→V.heap[w.heap.size]? =some (.cells #[.pointer (some ⟨b,0,none⟩)] 175 (0,0))→V.heap[w.heap.size+1]? =some (.cells #[.int .i64 lv] 3 (0,0))→Calls prog 143 #[.pointer (some ⟨b,0,none⟩),.func (.func 203) #[] #[.pointer (some ⟨w.heap.size,0,none⟩),.pointer (some ⟨w.heap.size+1,0,none⟩)]] V (ManyQ 7 RE.enc exAll RE.er b l r (xs5,kk5,qq5) V)):=hI0 fun V hs hV hVA hVB=>by
   have k:=manyExp2_any b w.heap.size (w.heap.size+1) l (pExp l n) 203 (entQ func203) kk4 qq4 r V (he.chg hV (Nat.le_of_lt hR)) hs (by omega) (by omega) hl (advX l n) (fun k q U hsU hU hk0 hk1=>pexp1_any b w.heap.size (w.heap.size+1) l n lv (by omega) k q r U hsU ((hU.block _ (Array.getElem?_eq_some_iff.1 hVA).1 (by omega)).trans hVA) ((hU.block _ (Array.getElem?_eq_some_iff.1 hVB).1 (by omega)).trans hVB) (fun X hX hbX=>ih b l (lv+1) k q r X (by omega) (by omega) (he.chg ((hV.trans hU (fun _ _ h=>h)).then_below hbX) (Nat.le_of_lt hR)) hX hk0 hk1 hl))
   rw [h5] at k
   exact k
  have a0:=cW1 0 hB rfl
  have hl24:¬ 24<lv:=by omega
  have eW:((w.alloc (.cells #[.pointer (some ⟨b,0,none⟩)] 175)).alloc (.cells #[.int .i64 lv] 3)).alloc (.cells #[.int .i64 0,.int .i64 0,.int .i64 0,.int .i64 0,.string ⟨#[]⟩,.string ⟨#[]⟩,.slice none 0 0] 117)=W:=hW.symm
  have HbW:=hI0 hbW
  have HGV:=hI0 hgv
  have HGN:=hI0 hgn
  clear h hd hEV hA hB hC hbW hW he ih hi h0 hlv hlv1 h1 h2 h3 h4 h5 u1 u2 u3 u4 u5 hgv hgn
  go_in
  go_wp2_with fail
  clear eW a0 hl24
  refine (fun (tl:∀(T:Nat) (V:World),W.heap.size≤T→T<V.heap.size→V.heap[T]? =some (.cells #[.int .i64 0,.int .i64 0,.int .i64 0,.int .i64 0,.string ⟨#[]⟩,.string ⟨#[]⟩,.slice none 0 0] 117 (0,0))→CurAt V b (strB l) kk4 qq4 r→Chg (·=b) W V→(?Rest:Nat→World→Prop) T V)=>?leaves) ?tail
  case leaves=>
   refine wp_region_noPanic ?_
   refine beginT (S:=(fun Y:World=>Y.heap[w.heap.size]? =some (.cells #[.pointer (some ⟨b,0,none⟩)] 175 (0,0)))) 18 (by kernel_rfl) ?_ (fun zh=>?_)
   ·exact HA.out _ hC0
   refine tU 0 13 (v:=?_) zh ?_ ?_
   rotate_left
   ·intro w' hSw;(try dsimp only at hSw);have c0:=cW1 (v:=.pointer (some ⟨b,0,none⟩)) 0 hSw rfl;go_simp<;>with_reducible rfl
   refine tT 1 14 ?_
   refine tT 2 15 ?_
   refine tU 4 17 (v:=?_) zh ?_ ?_
   rotate_left
   ·intro w' hSw;(try dsimp only at hSw);have c0:=cW1 (v:=.pointer (some ⟨b,0,none⟩)) 0 hSw rfl;go_simp<;>with_reducible rfl
   refine tT 5 18 ?_
   refine tT 6 19 ?_
   refine tU 8 21 (v:=?_) zh ?_ ?_
   rotate_left
   ·intro w' hSw;(try dsimp only at hSw);have c0:=cW1 (v:=.pointer (some ⟨b,0,none⟩)) 0 hSw rfl;go_simp<;>with_reducible rfl
   refine tT 9 22 ?_
   refine tT 10 23 ?_
   refine tU 12 25 (v:=?_) zh ?_ ?_
   rotate_left
   ·intro w' hSw;(try dsimp only at hSw);have c0:=cW1 (v:=.pointer (some ⟨b,0,none⟩)) 0 hSw rfl;go_simp<;>with_reducible rfl
   refine tT 13 26 ?_
   refine tT 14 27 ?_
   refine fork2 3 17 (by kernel_rfl) ?_ ?_
   ·refine fC 3 16 ?_
    (with_reducible refine (K1 _ hS0 hC0).mono ?_)
    rintro _ v1 ⟨rfl,hS1,hD1⟩
    have hC1:Chg (·=b) W v1:=hC0.trans hD1 (fun _ _ h=>h)
    refine ⟨_,rfl,rA0 (HA.out _ hC1) ?_⟩
    clear zh
    intro zh
    simp only [aP]
    refine fork2 7 17 (by kernel_rfl) ?_ ?_
    ·refine fC 7 20 ?_
     (with_reducible refine (K2 _ hS1 hC1).mono ?_)
     rintro _ v2 ⟨rfl,hS2,hD2⟩
     have hC2:Chg (·=b) W v2:=hC1.trans hD2 (fun _ _ h=>h)
     refine ⟨_,rfl,rA0 (HA.out _ hC2) ?_⟩
     clear zh
     intro zh
     simp only [aP]
     refine fork2 11 17 (by kernel_rfl) ?_ ?_
     ·refine fC 11 24 ?_
      (with_reducible refine (K3 _ hS2 hC2).mono ?_)
      rintro _ v3 ⟨rfl,hS3,hD3⟩
      have hC3:Chg (·=b) W v3:=hC2.trans hD3 (fun _ _ h=>h)
      refine ⟨_,rfl,rA0 (HA.out _ hC3) ?_⟩
      clear zh
      intro zh
      simp only [aP]
      refine fork2 15 17 (by kernel_rfl) ?_ ?_
      ·refine fC 15 28 ?_
       (with_reducible refine (K4 _ hS3 hC3).mono ?_)
       rintro _ v4 ⟨rfl,hS4,hD4⟩
       have hC4:Chg (·=b) W v4:=hC3.trans hD4 (fun _ _ h=>h)
       refine ⟨_,rfl,rA0 (HA.out _ hC4) ?_⟩
       clear zh
       intro zh
       simp only [aP]
       refine tT 16 29 ?_
       refine fork1 17 (by kernel_rfl) ?_
       refine runF 17 (some 5) (v:=.pointer (some ⟨v4.heap.size,0,none⟩)) (w':=v4.alloc (.cells #[.int .i64 0,.int .i64 0,.int .i64 0,.int .i64 0,.string ⟨#[]⟩,.string ⟨#[]⟩,.slice none 0 0] 117)) rfl rfl (by rfl) ?_ ?_
       ·go_simp<;>with_reducible rfl
       obtain ⟨T,hTe⟩:=eN0 v4.heap.size
       rw [←hTe]
       obtain ⟨X,hX⟩:=eN0 (v4.alloc (.cells #[.int .i64 0,.int .i64 0,.int .i64 0,.int .i64 0,.string ⟨#[]⟩,.string ⟨#[]⟩,.slice none 0 0] 117))
       rw [←hX]
       have hbX:=bN0 hX
       have hSX:CurAt X b (strB l) kk4 qq4 r:=hS4.below hbX
       have hCX:Chg (·=b) W X:=hC4.trans (Chg.of_below hbX _) (fun _ _ h=>h)
       have hTX:X.heap[T]? =some (.cells #[.int .i64 0,.int .i64 0,.int .i64 0,.int .i64 0,.string ⟨#[]⟩,.string ⟨#[]⟩,.slice none 0 0] 117 (0,0)):=by rw [hX,hTe];exact heap_alloc_new _ _
       have hTlX:T<X.heap.size:=by rw [hX,hTe];simp
       have hTW:W.heap.size≤T:=by rw [hTe];exact hC4.size
       clear hX hTe hbX
       refine rA0 (HA.out _ hCX) ?_
       clear zh
       intro zh
       simp only [aP]
       exact tl T X hTW hTlX hTX hSX hCX
      ·refine runF 17 (some 5) (v:=.pointer (some ⟨v3.heap.size,0,none⟩)) (w':=v3.alloc (.cells #[.int .i64 0,.int .i64 0,.int .i64 0,.int .i64 0,.string ⟨#[]⟩,.string ⟨#[]⟩,.slice none 0 0] 117)) rfl rfl (by rfl) ?_ ?_
       ·go_simp<;>with_reducible rfl
       obtain ⟨T,hTe⟩:=eN0 v3.heap.size
       rw [←hTe]
       obtain ⟨X,hX⟩:=eN0 (v3.alloc (.cells #[.int .i64 0,.int .i64 0,.int .i64 0,.int .i64 0,.string ⟨#[]⟩,.string ⟨#[]⟩,.slice none 0 0] 117))
       rw [←hX]
       have hbX:=bN0 hX
       have hSX:CurAt X b (strB l) kk3 qq3 r:=hS3.below hbX
       have hCX:Chg (·=b) W X:=hC3.trans (Chg.of_below hbX _) (fun _ _ h=>h)
       have hTX:X.heap[T]? =some (.cells #[.int .i64 0,.int .i64 0,.int .i64 0,.int .i64 0,.string ⟨#[]⟩,.string ⟨#[]⟩,.slice none 0 0] 117 (0,0)):=by rw [hX,hTe];exact heap_alloc_new _ _
       have hTlX:T<X.heap.size:=by rw [hX,hTe];simp
       have hTW:W.heap.size≤T:=by rw [hTe];exact hC3.size
       clear hX hTe hbX
       refine rA0 (HA.out _ hCX) ?_
       clear zh
       intro zh
       simp only [aP]
       refine fork1 15 (by kernel_rfl) ?_
       refine fC 15 28 ?_
       (with_reducible refine (K4 _ hSX hCX).mono ?_)
       rintro _ v4 ⟨rfl,hS4,hD4⟩
       have hC4:Chg (·=b) W v4:=hCX.trans hD4 (fun _ _ h=>h)
       have hT4:v4.heap[T]? =some (.cells #[.int .i64 0,.int .i64 0,.int .i64 0,.int .i64 0,.string ⟨#[]⟩,.string ⟨#[]⟩,.slice none 0 0] 117 (0,0)):=(hD4.block T hTlX (by show T≠b;omega)).trans hTX
       have hTl4:T<v4.heap.size:=by have:=hD4.size;omega
       refine ⟨_,rfl,rA0 (HA.out _ hC4) ?_⟩
       clear zh
       intro zh
       simp only [aP]
       refine tT 16 29 ?_
       exact tl T v4 hTW hTl4 hT4 hS4 hC4
     ·refine runF 17 (some 5) (v:=.pointer (some ⟨v2.heap.size,0,none⟩)) (w':=v2.alloc (.cells #[.int .i64 0,.int .i64 0,.int .i64 0,.int .i64 0,.string ⟨#[]⟩,.string ⟨#[]⟩,.slice none 0 0] 117)) rfl rfl (by rfl) ?_ ?_
      ·go_simp<;>with_reducible rfl
      obtain ⟨T,hTe⟩:=eN0 v2.heap.size
      rw [←hTe]
      obtain ⟨X,hX⟩:=eN0 (v2.alloc (.cells #[.int .i64 0,.int .i64 0,.int .i64 0,.int .i64 0,.string ⟨#[]⟩,.string ⟨#[]⟩,.slice none 0 0] 117))
      rw [←hX]
      have hbX:=bN0 hX
      have hSX:CurAt X b (strB l) kk2 qq2 r:=hS2.below hbX
      have hCX:Chg (·=b) W X:=hC2.trans (Chg.of_below hbX _) (fun _ _ h=>h)
      have hTX:X.heap[T]? =some (.cells #[.int .i64 0,.int .i64 0,.int .i64 0,.int .i64 0,.string ⟨#[]⟩,.string ⟨#[]⟩,.slice none 0 0] 117 (0,0)):=by rw [hX,hTe];exact heap_alloc_new _ _
      have hTlX:T<X.heap.size:=by rw [hX,hTe];simp
      have hTW:W.heap.size≤T:=by rw [hTe];exact hC2.size
      clear hX hTe hbX
      refine rA0 (HA.out _ hCX) ?_
      clear zh
      intro zh
      simp only [aP]
      refine fork1 11 (by kernel_rfl) ?_
      refine fC 11 24 ?_
      (with_reducible refine (K3 _ hSX hCX).mono ?_)
      rintro _ v3 ⟨rfl,hS3,hD3⟩
      have hC3:Chg (·=b) W v3:=hCX.trans hD3 (fun _ _ h=>h)
      have hT3:v3.heap[T]? =some (.cells #[.int .i64 0,.int .i64 0,.int .i64 0,.int .i64 0,.string ⟨#[]⟩,.string ⟨#[]⟩,.slice none 0 0] 117 (0,0)):=(hD3.block T hTlX (by show T≠b;omega)).trans hTX
      have hTl3:T<v3.heap.size:=by have:=hD3.size;omega
      refine ⟨_,rfl,rA0 (HA.out _ hC3) ?_⟩
      clear zh
      intro zh
      simp only [aP]
      refine fork1 15 (by kernel_rfl) ?_
      refine fC 15 28 ?_
      (with_reducible refine (K4 _ hS3 hC3).mono ?_)
      rintro _ v4 ⟨rfl,hS4,hD4⟩
      have hC4:Chg (·=b) W v4:=hC3.trans hD4 (fun _ _ h=>h)
      have hT4:v4.heap[T]? =some (.cells #[.int .i64 0,.int .i64 0,.int .i64 0,.int .i64 0,.string ⟨#[]⟩,.string ⟨#[]⟩,.slice none 0 0] 117 (0,0)):=(hD4.block T hTl3 (by show T≠b;omega)).trans hT3
      have hTl4:T<v4.heap.size:=by have:=hD4.size;omega
      refine ⟨_,rfl,rA0 (HA.out _ hC4) ?_⟩
      clear zh
      intro zh
      simp only [aP]
      refine tT 16 29 ?_
      exact tl T v4 hTW hTl4 hT4 hS4 hC4
    ·refine runF 17 (some 5) (v:=.pointer (some ⟨v1.heap.size,0,none⟩)) (w':=v1.alloc (.cells #[.int .i64 0,.int .i64 0,.int .i64 0,.int .i64 0,.string ⟨#[]⟩,.string ⟨#[]⟩,.slice none 0 0] 117)) rfl rfl (by rfl) ?_ ?_
     ·go_simp<;>with_reducible rfl
     obtain ⟨T,hTe⟩:=eN0 v1.heap.size
     rw [←hTe]
     obtain ⟨X,hX⟩:=eN0 (v1.alloc (.cells #[.int .i64 0,.int .i64 0,.int .i64 0,.int .i64 0,.string ⟨#[]⟩,.string ⟨#[]⟩,.slice none 0 0] 117))
     rw [←hX]
     have hbX:=bN0 hX
     have hSX:CurAt X b (strB l) kk1 qq1 r:=hS1.below hbX
     have hCX:Chg (·=b) W X:=hC1.trans (Chg.of_below hbX _) (fun _ _ h=>h)
     have hTX:X.heap[T]? =some (.cells #[.int .i64 0,.int .i64 0,.int .i64 0,.int .i64 0,.string ⟨#[]⟩,.string ⟨#[]⟩,.slice none 0 0] 117 (0,0)):=by rw [hX,hTe];exact heap_alloc_new _ _
     have hTlX:T<X.heap.size:=by rw [hX,hTe];simp
     have hTW:W.heap.size≤T:=by rw [hTe];exact hC1.size
     clear hX hTe hbX
     refine rA0 (HA.out _ hCX) ?_
     clear zh
     intro zh
     simp only [aP]
     refine fork1 7 (by kernel_rfl) ?_
     refine fC 7 20 ?_
     (with_reducible refine (K2 _ hSX hCX).mono ?_)
     rintro _ v2 ⟨rfl,hS2,hD2⟩
     have hC2:Chg (·=b) W v2:=hCX.trans hD2 (fun _ _ h=>h)
     have hT2:v2.heap[T]? =some (.cells #[.int .i64 0,.int .i64 0,.int .i64 0,.int .i64 0,.string ⟨#[]⟩,.string ⟨#[]⟩,.slice none 0 0] 117 (0,0)):=(hD2.block T hTlX (by show T≠b;omega)).trans hTX
     have hTl2:T<v2.heap.size:=by have:=hD2.size;omega
     refine ⟨_,rfl,rA0 (HA.out _ hC2) ?_⟩
     clear zh
     intro zh
     simp only [aP]
     refine fork1 11 (by kernel_rfl) ?_
     refine fC 11 24 ?_
     (with_reducible refine (K3 _ hS2 hC2).mono ?_)
     rintro _ v3 ⟨rfl,hS3,hD3⟩
     have hC3:Chg (·=b) W v3:=hC2.trans hD3 (fun _ _ h=>h)
     have hT3:v3.heap[T]? =some (.cells #[.int .i64 0,.int .i64 0,.int .i64 0,.int .i64 0,.string ⟨#[]⟩,.string ⟨#[]⟩,.slice none 0 0] 117 (0,0)):=(hD3.block T hTl2 (by show T≠b;omega)).trans hT2
     have hTl3:T<v3.heap.size:=by have:=hD3.size;omega
     refine ⟨_,rfl,rA0 (HA.out _ hC3) ?_⟩
     clear zh
     intro zh
     simp only [aP]
     refine fork1 15 (by kernel_rfl) ?_
     refine fC 15 28 ?_
     (with_reducible refine (K4 _ hS3 hC3).mono ?_)
     rintro _ v4 ⟨rfl,hS4,hD4⟩
     have hC4:Chg (·=b) W v4:=hC3.trans hD4 (fun _ _ h=>h)
     have hT4:v4.heap[T]? =some (.cells #[.int .i64 0,.int .i64 0,.int .i64 0,.int .i64 0,.string ⟨#[]⟩,.string ⟨#[]⟩,.slice none 0 0] 117 (0,0)):=(hD4.block T hTl3 (by show T≠b;omega)).trans hT3
     have hTl4:T<v4.heap.size:=by have:=hD4.size;omega
     refine ⟨_,rfl,rA0 (HA.out _ hC4) ?_⟩
     clear zh
     intro zh
     simp only [aP]
     refine tT 16 29 ?_
     exact tl T v4 hTW hTl4 hT4 hS4 hC4
   ·refine runF 17 (some 5) (v:=.pointer (some ⟨W.drew.heap.size,0,none⟩)) (w':=W.drew.alloc (.cells #[.int .i64 0,.int .i64 0,.int .i64 0,.int .i64 0,.string ⟨#[]⟩,.string ⟨#[]⟩,.slice none 0 0] 117)) rfl rfl (by rfl) ?_ ?_
    ·go_simp<;>with_reducible rfl
    obtain ⟨T,hTe⟩:=eN0 W.drew.heap.size
    rw [←hTe]
    obtain ⟨X,hX⟩:=eN0 (W.drew.alloc (.cells #[.int .i64 0,.int .i64 0,.int .i64 0,.int .i64 0,.string ⟨#[]⟩,.string ⟨#[]⟩,.slice none 0 0] 117))
    rw [←hX]
    have hbX:=bN0 hX
    have hSX:CurAt X b (strB l) i d r:=hS0.below hbX
    have hCX:Chg (·=b) W X:=hC0.trans (Chg.of_below hbX _) (fun _ _ h=>h)
    have hTX:X.heap[T]? =some (.cells #[.int .i64 0,.int .i64 0,.int .i64 0,.int .i64 0,.string ⟨#[]⟩,.string ⟨#[]⟩,.slice none 0 0] 117 (0,0)):=by rw [hX,hTe];exact heap_alloc_new _ _
    have hTlX:T<X.heap.size:=by rw [hX,hTe];simp
    have hTW:W.heap.size≤T:=by rw [hTe];exact hC0.size
    clear hX hTe hbX
    refine rA0 (HA.out _ hCX) ?_
    clear zh
    intro zh
    simp only [aP]
    refine fork1 3 (by kernel_rfl) ?_
    refine fC 3 16 ?_
    (with_reducible refine (K1 _ hSX hCX).mono ?_)
    rintro _ v1 ⟨rfl,hS1,hD1⟩
    have hC1:Chg (·=b) W v1:=hCX.trans hD1 (fun _ _ h=>h)
    have hT1:v1.heap[T]? =some (.cells #[.int .i64 0,.int .i64 0,.int .i64 0,.int .i64 0,.string ⟨#[]⟩,.string ⟨#[]⟩,.slice none 0 0] 117 (0,0)):=(hD1.block T hTlX (by show T≠b;omega)).trans hTX
    have hTl1:T<v1.heap.size:=by have:=hD1.size;omega
    refine ⟨_,rfl,rA0 (HA.out _ hC1) ?_⟩
    clear zh
    intro zh
    simp only [aP]
    refine fork1 7 (by kernel_rfl) ?_
    refine fC 7 20 ?_
    (with_reducible refine (K2 _ hS1 hC1).mono ?_)
    rintro _ v2 ⟨rfl,hS2,hD2⟩
    have hC2:Chg (·=b) W v2:=hC1.trans hD2 (fun _ _ h=>h)
    have hT2:v2.heap[T]? =some (.cells #[.int .i64 0,.int .i64 0,.int .i64 0,.int .i64 0,.string ⟨#[]⟩,.string ⟨#[]⟩,.slice none 0 0] 117 (0,0)):=(hD2.block T hTl1 (by show T≠b;omega)).trans hT1
    have hTl2:T<v2.heap.size:=by have:=hD2.size;omega
    refine ⟨_,rfl,rA0 (HA.out _ hC2) ?_⟩
    clear zh
    intro zh
    simp only [aP]
    refine fork1 11 (by kernel_rfl) ?_
    refine fC 11 24 ?_
    (with_reducible refine (K3 _ hS2 hC2).mono ?_)
    rintro _ v3 ⟨rfl,hS3,hD3⟩
    have hC3:Chg (·=b) W v3:=hC2.trans hD3 (fun _ _ h=>h)
    have hT3:v3.heap[T]? =some (.cells #[.int .i64 0,.int .i64 0,.int .i64 0,.int .i64 0,.string ⟨#[]⟩,.string ⟨#[]⟩,.slice none 0 0] 117 (0,0)):=(hD3.block T hTl2 (by show T≠b;omega)).trans hT2
    have hTl3:T<v3.heap.size:=by have:=hD3.size;omega
    refine ⟨_,rfl,rA0 (HA.out _ hC3) ?_⟩
    clear zh
    intro zh
    simp only [aP]
    refine fork1 15 (by kernel_rfl) ?_
    refine fC 15 28 ?_
    (with_reducible refine (K4 _ hS3 hC3).mono ?_)
    rintro _ v4 ⟨rfl,hS4,hD4⟩
    have hC4:Chg (·=b) W v4:=hC3.trans hD4 (fun _ _ h=>h)
    have hT4:v4.heap[T]? =some (.cells #[.int .i64 0,.int .i64 0,.int .i64 0,.int .i64 0,.string ⟨#[]⟩,.string ⟨#[]⟩,.slice none 0 0] 117 (0,0)):=(hD4.block T hTl3 (by show T≠b;omega)).trans hT3
    have hTl4:T<v4.heap.size:=by have:=hD4.size;omega
    refine ⟨_,rfl,rA0 (HA.out _ hC4) ?_⟩
    clear zh
    intro zh
    simp only [aP]
    refine tT 16 29 ?_
    exact tl T v4 hTW hTl4 hT4 hS4 hC4
  case tail=>
   intro T V hTW hTlV hTV hSV hCV
   refine fork1 18 (by kernel_rfl) ?_
   refine skipRunF 18 none (w':=(((((((V.setCell ⟨T,0,none⟩ (.int .i64 n1)).setCell ⟨T,1,none⟩ (.int .i64 n2)).setCell ⟨T,2,none⟩ (.int .i64 k3)).setCell ⟨T,3,none⟩ (.int .i64 i3)).setCell ⟨T,4,none⟩ (.string t3)).setCell ⟨T,5,none⟩ (.string n4)).setCell ⟨T,6,none⟩ (.slice none 0 0))) rfl rfl (by rfl) ?_ ?_
   ·have p6:V.cell? ⟨T,6,none⟩=some (.slice none 0 0):=cW0 V _ 6 _ _ _ hTV;have p5:V.cell? ⟨T,5,none⟩=some (.string ⟨#[]⟩):=cW0 V _ 5 _ _ _ hTV;have p4:V.cell? ⟨T,4,none⟩=some (.string ⟨#[]⟩):=cW0 V _ 4 _ _ _ hTV;have p3:V.cell? ⟨T,3,none⟩=some (.int .i64 0):=cW0 V _ 3 _ _ _ hTV;have p2:V.cell? ⟨T,2,none⟩=some (.int .i64 0):=cW0 V _ 2 _ _ _ hTV;have p1:V.cell? ⟨T,1,none⟩=some (.int .i64 0):=cW0 V _ 1 _ _ _ hTV;have p0:V.cell? ⟨T,0,none⟩=some (.int .i64 0):=cW0 V _ 0 _ _ _ hTV;have g0:V.frozen? ⟨T,0,none⟩=false:=fW0 V _ 0 _ _ hTV;have g1:V.frozen? ⟨T,1,none⟩=false:=fW0 V _ 1 _ _ hTV;have g2:V.frozen? ⟨T,2,none⟩=false:=fW0 V _ 2 _ _ hTV;have g3:V.frozen? ⟨T,3,none⟩=false:=fW0 V _ 3 _ _ hTV;have g4:V.frozen? ⟨T,4,none⟩=false:=fW0 V _ 4 _ _ hTV;have g5:V.frozen? ⟨T,5,none⟩=false:=fW0 V _ 5 _ _ hTV;have g6:V.frozen? ⟨T,6,none⟩=false:=fW0 V _ 6 _ _ hTV;go_simp<;>with_reducible rfl
   have hZ:=zset7 hTV (.int .i64 n1) (.int .i64 n2) (.int .i64 k3) (.int .i64 i3) (.string t3) (.string n4) (.slice none 0 0)
   generalize (((((((V.setCell ⟨T,0,none⟩ (.int .i64 n1)).setCell ⟨T,1,none⟩ (.int .i64 n2)).setCell ⟨T,2,none⟩ (.int .i64 k3)).setCell ⟨T,3,none⟩ (.int .i64 i3)).setCell ⟨T,4,none⟩ (.string t3)).setCell ⟨T,5,none⟩ (.string n4)).setCell ⟨T,6,none⟩ (.slice none 0 0))=Y at *
   have hzY:=hZ.2.size
   have hCY:Chg (·=b) W Y:=hCV.trans hZ.2 (fun i hi (h:i=T)=>by omega)
   have hTY:=hZ.1
   have hSY:CurAt Y b (strB l) kk4 qq4 r:=(hZ.2.block b hSV.lt (by show b≠T;omega)).trans hSV
   have hTl:T<Y.heap.size:=by omega
   clear hZ hTV hSV hCV hTlV
   refine ⟨fun h=>absurd rfl h,?_⟩
   simp only [Act.put]
   refine doneT (by kernel_rfl) ?_ _
   refine NoPanic.normal ?_
   clear K1 K2 K3 K4
   have hz0:=HbW.out.size
   have hQY:Y.heap[w.heap.size+1+1]? =some (.cells #[.int .i64 0,.int .i64 0,.int .i64 0,.int .i64 0,.string ⟨#[]⟩,.string ⟨#[]⟩,.slice none 0 0] 117 (0,0)):=HCX.out _ hCY
   have hCw:Chg (·=b) w Y:=(Chg.of_below HbW.out _).trans hCY (fun _ _ h=>h)
   have K5Y:=K5.out Y hSY hCw (HA.out _ hCY) (HBX.out _ hCY)
   unfold ManyQ at K5Y
   have q0:=cW1 0 (HA.out _ hCY) rfl
   have hmf:∀(fn:Fn) (first cap:Array Value) (w:World),(Instr.makeFunc fn first cap).run prog w=.ok (.func fn first cap) w:=fun _ _ _ _=>rfl
   have HTY:=hI0 hTY
   have HSY:=hI0 hSY
   have HCY:=hI0 hCY
   have HQY:=hI0 hQY
   have HCw:=hI0 hCw
   have K5Z:=hI0 K5Y
   have HNB:=hI0 hR
   have HTL:=hI0 hTl
   have HTW:=hI0 hTW
   have HWS:=hI0 hz
   clear hTY hSY hCY hQY hCw K5 K5Y hS0 hC0 hzY hR hTl hTW hz hz0
   go_wp2_with fail
   clear q0 hmf
   (with_reducible refine K5Z.out.mono ?_)
   rintro _ v5 ⟨u5,Q5,rfl,hU5,hI5,hE5,hS5,hD5⟩
   obtain ⟨A5,c5,rfl⟩:=rdQ_slice hU5
   have hR:=HNB.out
   have hTl:=HTL.out
   have hTW:=HTW.out
   have hz:=HWS.out
   have hz5:=hD5.size
   have hT5:v5.heap[T]? =some (.cells #[.int .i64 n1,.int .i64 n2,.int .i64 k3,.int .i64 i3,.string t3,.string n4,.slice none 0 0] 117 (0,0)):=(hD5.block T hTl (by show T≠b;omega)).trans HTY.out
   have hzY:=HCY.out.size
   have hQ5:v5.heap[w.heap.size+1+1]? =some (.cells #[.int .i64 0,.int .i64 0,.int .i64 0,.int .i64 0,.string ⟨#[]⟩,.string ⟨#[]⟩,.slice none 0 0] 117 (0,0)):=(hD5.block _ (by omega) (by show w.heap.size+1+1≠b;omega)).trans HQY.out
   have p6:=cW1 6 hT5 rfl
   have p5:=cW1 5 hT5 rfl
   have p4:=cW1 4 hT5 rfl
   have p3:=cW1 3 hT5 rfl
   have p2:=cW1 2 hT5 rfl
   have p1:=cW1 1 hT5 rfl
   have p0:=cW1 0 hT5 rfl
   have g6:v5.frozen? ⟨T,6,none⟩=false:=fW0 v5 _ 6 _ _ hT5
   have q6:=cW1 6 hQ5 rfl
   have q5:=cW1 5 hQ5 rfl
   have q4:=cW1 4 hQ5 rfl
   have q3:=cW1 3 hQ5 rfl
   have q2:=cW1 2 hQ5 rfl
   have q1:=cW1 1 hQ5 rfl
   have q0:=cW1 0 hQ5 rfl
   have z0:v5.frozen? ⟨(w.heap.size+1+1),0,none⟩=false:=fW0 v5 _ 0 _ _ hQ5
   have z1:v5.frozen? ⟨(w.heap.size+1+1),1,none⟩=false:=fW0 v5 _ 1 _ _ hQ5
   have z2:v5.frozen? ⟨(w.heap.size+1+1),2,none⟩=false:=fW0 v5 _ 2 _ _ hQ5
   have z3:v5.frozen? ⟨(w.heap.size+1+1),3,none⟩=false:=fW0 v5 _ 3 _ _ hQ5
   have z4:v5.frozen? ⟨(w.heap.size+1+1),4,none⟩=false:=fW0 v5 _ 4 _ _ hQ5
   have z5:v5.frozen? ⟨(w.heap.size+1+1),5,none⟩=false:=fW0 v5 _ 5 _ _ hQ5
   have z6:v5.frozen? ⟨(w.heap.size+1+1),6,none⟩=false:=fW0 v5 _ 6 _ _ hQ5
   have HU5:=hI0 hU5
   have HI5:=hI0 hI5
   have HE5:=hI0 hE5
   have HS5:=hI0 hS5
   have HD5:=hI0 hD5
   have HQ5:=hI0 hQ5
   have HT5:=hI0 hT5
   clear hU5 hI5 hE5 hS5 hD5 hQ5 hT5 K5Z
   go_upto_region 6 with (fail)
   have hTZ:=heap_setCell_same v5 T 6 _ _ (.slice A5 Q5.length c5) HT5.out
   have hTZ:(v5.setCell ⟨T,6,none⟩ (.slice A5 Q5.length c5)).heap[T]? =some (.cells #[.int .i64 n1,.int .i64 n2,.int .i64 k3,.int .i64 i3,.string t3,.string n4,.slice A5 Q5.length c5] 117 (0,0)):=by simpa using hTZ
   have hZc:Chg (·=T) v5 (v5.setCell ⟨T,6,none⟩ (.slice A5 Q5.length c5)):=Chg.setCell (S:=(·=T)) (p:=⟨T,6,none⟩) (Chg.refl _ _) (.inl rfl) _
   have hQZ:=(hZc.block _ (gL0 HQ5.out) (by show w.heap.size+1+1≠T;omega)).trans HQ5.out
   have hSZ:CurAt (v5.setCell ⟨T,6,none⟩ (.slice A5 Q5.length c5)) b (strB l) kk5 qq5 r:=(hZc.block b HS5.out.lt (by show b≠T;omega)).trans HS5.out
   clear p0 q0 z0 p1 q1 z1 p2 q2 z2 p3 q3 z3 p4 q4 z4 p5 q5 z5 p6 q6 z6 g6
   generalize v5.setCell ⟨T,6,none⟩ (.slice A5 Q5.length c5)=Z at *
   have hzZ:=hZc.size
   have p6:=cW1 6 hTZ rfl
   have p5:=cW1 5 hTZ rfl
   have p4:=cW1 4 hTZ rfl
   have p3:=cW1 3 hTZ rfl
   have p2:=cW1 2 hTZ rfl
   have p1:=cW1 1 hTZ rfl
   have p0:=cW1 0 hTZ rfl
   have q6:=cW1 6 hQZ rfl
   have q5:=cW1 5 hQZ rfl
   have q4:=cW1 4 hQZ rfl
   have q3:=cW1 3 hQZ rfl
   have q2:=cW1 2 hQZ rfl
   have q1:=cW1 1 hQZ rfl
   have q0:=cW1 0 hQZ rfl
   have z0:Z.frozen? ⟨(w.heap.size+1+1),0,none⟩=false:=fW0 Z _ 0 _ _ hQZ
   have z1:Z.frozen? ⟨(w.heap.size+1+1),1,none⟩=false:=fW0 Z _ 1 _ _ hQZ
   have z2:Z.frozen? ⟨(w.heap.size+1+1),2,none⟩=false:=fW0 Z _ 2 _ _ hQZ
   have z3:Z.frozen? ⟨(w.heap.size+1+1),3,none⟩=false:=fW0 Z _ 3 _ _ hQZ
   have z4:Z.frozen? ⟨(w.heap.size+1+1),4,none⟩=false:=fW0 Z _ 4 _ _ hQZ
   have z5:Z.frozen? ⟨(w.heap.size+1+1),5,none⟩=false:=fW0 Z _ 5 _ _ hQZ
   have z6:Z.frozen? ⟨(w.heap.size+1+1),6,none⟩=false:=fW0 Z _ 6 _ _ hQZ
   have hE:=zset7 hQZ (.int .i64 n1) (.int .i64 n2) (.int .i64 k3) (.int .i64 i3) (.string t3) (.string n4) (.slice A5 Q5.length c5)
   have HE:=hI0 hE
   have HSZ:=hI0 hSZ
   have HZc:=hI0 hZc
   clear hTZ hQZ hE hSZ hZc
   go_wp2_with fail
   clear p0 q0 z0 p1 q1 z1 p2 q2 z2 p3 q3 z3 p4 q4 z4 p5 q5 z5 p6 q6 z6
   generalize (((((((Z.setCell ⟨w.heap.size+1+1,0,none⟩ (.int .i64 n1)).setCell ⟨w.heap.size+1+1,1,none⟩ (.int .i64 n2)).setCell ⟨w.heap.size+1+1,2,none⟩ (.int .i64 k3)).setCell ⟨w.heap.size+1+1,3,none⟩ (.int .i64 i3)).setCell ⟨w.heap.size+1+1,4,none⟩ (.string t3)).setCell ⟨w.heap.size+1+1,5,none⟩ (.string n4)).setCell ⟨w.heap.size+1+1,6,none⟩ (.slice A5 Q5.length c5))=E at *
   have p6:E.cell? ⟨(w.heap.size+1+1),6,none⟩=some (.slice A5 Q5.length c5):=cW0 E _ 6 _ _ _ HE.out.1
   have p5:E.cell? ⟨(w.heap.size+1+1),5,none⟩=some (.string n4):=cW0 E _ 5 _ _ _ HE.out.1
   have p4:E.cell? ⟨(w.heap.size+1+1),4,none⟩=some (.string t3):=cW0 E _ 4 _ _ _ HE.out.1
   have p3:E.cell? ⟨(w.heap.size+1+1),3,none⟩=some (.int .i64 i3):=cW0 E _ 3 _ _ _ HE.out.1
   have p2:E.cell? ⟨(w.heap.size+1+1),2,none⟩=some (.int .i64 k3):=cW0 E _ 2 _ _ _ HE.out.1
   have p1:E.cell? ⟨(w.heap.size+1+1),1,none⟩=some (.int .i64 n2):=cW0 E _ 1 _ _ _ HE.out.1
   have p0:E.cell? ⟨(w.heap.size+1+1),0,none⟩=some (.int .i64 n1):=cW0 E _ 0 _ _ _ HE.out.1
   have hzE:=HE.out.2.size
   have hk:∀g,Y.heap.size≤g∧g<v5.heap.size→E.heap[g]? =v5.heap[g]? :=fun g hg=>(HE.out.2.block g (by omega) (by show g≠w.heap.size+1+1;omega)).trans (HZc.out.block g hg.2 (by show g≠T;omega))
   have hw:∀g,Y.heap.size≤g∧g<v5.heap.size→w.heap.size≤g∧g<E.heap.size:=fun g hg=>⟨by omega,by omega⟩
   have hU:=Rd.wide (Rd.keep HU5.out hk) hw
   have hI:∀p∈Q5,exAll E (fun g=>w.heap.size≤g∧g<E.heap.size) p:=fun p hp=>isQ_X.wide (isQ_X.keep (HI5.out p hp) hk) hw
   have hSE:CurAt E b (strB l) kk5 qq5 r:=(HE.out.2.block b HSZ.out.lt (by show b≠w.heap.size+1+1;omega)).trans HSZ.out
   have hCE:Chg (·=b) w E:=((HCw.out.trans HD5.out (fun _ _ h=>h)).trans HZc.out (fun i hi (h:i=T)=>by omega)).trans HE.out.2 (fun i hi (h:i=w.heap.size+1+1)=>by omega)
   exact bodyPost_ret (v:=.agg #[.int .i64 n1,.int .i64 n2,.int .i64 k3,.int .i64 i3,.string t3,.string n4,.slice A5 Q5.length c5]) (by simp [results,results145,go_sem,p0,p1,p2,p3,p4,p5,p6]) rfl ⟨.mk n1 n2 ⟨k3,i3,t3⟩ n4 A5 c5 Q5,rfl,(fun d=>by cases d with|zero=>trivial|succ d=>exact ⟨hU,HGV.out,HGN.out,fun a ha=>hI a ha d⟩),by rw [reErQ,HE5.out],hSE,hCE⟩
end Go.Proofs.YtgfhknnklapldaaGreatDoor
