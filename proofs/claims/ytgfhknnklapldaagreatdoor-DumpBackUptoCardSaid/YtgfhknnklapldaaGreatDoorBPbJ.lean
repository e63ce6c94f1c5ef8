/-
 PbJ
-/
import Derived.Test.YtgfhknnklapldaaGreatDoorBPbI
import Derived.Test.YtgfhknnklapldaaGreatDoorBPbH
import Derived.Test.YtgfhknnklapldaaGreatDoorBPbG
import Derived.Test.YtgfhknnklapldaaGreatDoorBPbF
import Derived.Test.YtgfhknnklapldaaGreatDoorBPbE
import Derived.Test.YtgfhknnklapldaaGreatDoorBPbD
import Derived.Test.YtgfhknnklapldaaGreatDoorBPbC
import Derived.Test.YtgfhknnklapldaaGreatDoorBPbB
import Derived.Test.YtgfhknnklapldaaGreatDoorBPbA
import Derived.Test.YtgfhknnklapldaaGreatDoorBBase
import Derived.Test.YtgfhknnklapldaaGreatDoorBDuJ
import Derived.Deep.Cut
namespace Go.Proofs.YtgfhknnklapldaaGreatDoor
open Go.Proofs.Tryz
set_option maxRecDepth 99999
set_option maxHeartbeats 0
open Go.RowKit Go.Lib Go.IntWalk Go.Sort Go.Shelf
theorem yq4 {P:Prop} (i:Nat) (h:Th i→P:=by
 intro yT4
 first
  |guard_hyp yT4:Th 1;refine fC 3 7 ?_
   (with_reducible refine (K1 _ hS0 hC0).mono ?_)
   rintro _ v1 ⟨rfl,hS1,hD1⟩
   have hC1:Chg (·=b) w v1:=hC0.trans hD1 (fun _ _ h=>h)
   refine ⟨_,rfl,rA0 trivial ?_⟩
   clear zh
   intro zh
   simp only [aP]
   refine fork2 7 27 (by kernel_rfl) ?_ ?_
  |refine wp_region_noPanic ?_
   refine beginT (S:=(fun _:World=>True)) 28 (by kernel_rfl) ?_ (fun zh=>?_)
   ·trivial
   refine tT 0 4 ?_
   refine tT 1 5 ?_
   refine tT 2 6 ?_
   refine tT 4 8 ?_
   refine tT 5 9 ?_
   refine tT 6 10 ?_
   refine tT 8 12 ?_
   refine tT 9 13 ?_
   refine tT 10 14 ?_
   refine tT 11 15 ?_
   refine tT 12 16 ?_
   refine tT 14 18 ?_
   refine tT 16 20 ?_
   refine tT 18 22 ?_
   refine tT 19 23 ?_
   refine tT 20 24 ?_
   refine tT 22 26 ?_
   refine tT 23 27 ?_
   refine tT 24 28 ?_
   refine fork2 3 27 (by kernel_rfl) ?_ ?_
 ·first
   |guard_hyp yT4:Th 1;refine fC 7 11 ?_
    (with_reducible refine (K2 _ hS1 hC1).mono ?_)
    rintro _ v2 ⟨rfl,hS2,hD2⟩
    have hC2:Chg (·=b) w v2:=hC1.trans hD2 (fun _ _ h=>h)
   |refine fC 3 7 ?_
    (with_reducible refine (K1 _ hS0 hC0).mono ?_)
    rintro _ v1 ⟨rfl,hS1,hD1⟩
    have hC1:Chg (·=b) w v1:=hC0.trans hD1 (fun _ _ h=>h)
  refine ⟨_,rfl,rA0 trivial ?_⟩
  clear zh
  intro zh
  simp only [aP]
  first
   |guard_hyp yT4:Th 1;refine fork2 13 27 (by kernel_rfl) ?_ ?_
   |refine fork2 7 27 (by kernel_rfl) ?_ ?_
  ·first
    |guard_hyp yT4:Th 1;refine fC 13 17 ?_
     (with_reducible refine (K3 _ hS2 hC2).mono ?_)
     rintro _ v3 ⟨u3,Q3,rfl,hU3,hI3,hE3,hS3,hD3⟩
     rw [List.map_id] at hE3
     obtain ⟨A3,c3,rfl⟩:=rdQ_slice hU3
     have hG3:Chg (·=b) v3 v3:=Chg.refl _ _
     have hL3:v2.heap.size≤v3.heap.size∧w.heap.size≤v2.heap.size:=⟨hD3.size,hC2.size⟩
     have hC3:Chg (·=b) w v3:=hC2.trans hD3 (fun _ _ h=>h)
    |refine fC 7 11 ?_
     (with_reducible refine (K2 _ hS1 hC1).mono ?_)
     rintro _ v2 ⟨rfl,hS2,hD2⟩
     have hC2:Chg (·=b) w v2:=hC1.trans hD2 (fun _ _ h=>h)
   refine ⟨_,rfl,rA0 trivial ?_⟩
   clear zh
   intro zh
   simp only [aP]
   first
    |guard_hyp yT4:Th 1;refine fork2 15 27 (by kernel_rfl) ?_ ?_
    |refine fork2 13 27 (by kernel_rfl) ?_ ?_
   ·first
     |guard_hyp yT4:Th 1;refine fC 15 19 ?_
      (with_reducible refine (K4 _ hS3 hC3).mono ?_)
      rintro _ v4 ⟨rfl,hS4,hD4⟩
      have hC4:Chg (·=b) w v4:=hC3.trans hD4 (fun _ _ h=>h)
      have hG4:Chg (·=b) v3 v4:=hG3.trans hD4 (fun _ _ h=>h)
     |refine fC 13 17 ?_
      (with_reducible refine (K3 _ hS2 hC2).mono ?_)
      rintro _ v3 ⟨u3,Q3,rfl,hU3,hI3,hE3,hS3,hD3⟩
      rw [List.map_id] at hE3
      obtain ⟨A3,c3,rfl⟩:=rdQ_slice hU3
      have hG3:Chg (·=b) v3 v3:=Chg.refl _ _
      have hL3:v2.heap.size≤v3.heap.size∧w.heap.size≤v2.heap.size:=⟨hD3.size,hC2.size⟩
      have hC3:Chg (·=b) w v3:=hC2.trans hD3 (fun _ _ h=>h)
    refine ⟨_,rfl,rA0 trivial ?_⟩
    clear zh
    intro zh
    simp only [aP]
    first
     |guard_hyp yT4:Th 1;refine fork2 17 27 (by kernel_rfl) ?_ ?_
     |refine fork2 15 27 (by kernel_rfl) ?_ ?_
    ·first
      |guard_hyp yT4:Th 1;refine fC 17 21 ?_
       (with_reducible refine (K5 _ hS4 hC4).mono ?_)
       rintro _ v5 ⟨rfl,hS5,hD5⟩
       have hC5:Chg (·=b) w v5:=hC4.trans hD5 (fun _ _ h=>h)
       have hG5:Chg (·=b) v3 v5:=hG4.trans hD5 (fun _ _ h=>h)
      |refine fC 15 19 ?_
       (with_reducible refine (K4 _ hS3 hC3).mono ?_)
       rintro _ v4 ⟨rfl,hS4,hD4⟩
       have hC4:Chg (·=b) w v4:=hC3.trans hD4 (fun _ _ h=>h)
       have hG4:Chg (·=b) v3 v4:=hG3.trans hD4 (fun _ _ h=>h)
     refine ⟨_,rfl,rA0 trivial ?_⟩
     clear zh
     intro zh
     simp only [aP]
     first
      |guard_hyp yT4:Th 1;refine fork2 21 27 (by kernel_rfl) ?_ ?_
      |refine fork2 17 27 (by kernel_rfl) ?_ ?_
     ·first
       |guard_hyp yT4:Th 1;refine fC 21 25 ?_
        (with_reducible refine (K6 _ hS5 hC5).mono ?_)
        rintro _ v6 ⟨rfl,hS6,hD6⟩
        have hC6:Chg (·=b) w v6:=hC5.trans hD6 (fun _ _ h=>h)
        have hG6:Chg (·=b) v3 v6:=hG5.trans hD6 (fun _ _ h=>h)
       |refine fC 17 21 ?_
        (with_reducible refine (K5 _ hS4 hC4).mono ?_)
        rintro _ v5 ⟨rfl,hS5,hD5⟩
        have hC5:Chg (·=b) w v5:=hC4.trans hD5 (fun _ _ h=>h)
        have hG5:Chg (·=b) v3 v5:=hG4.trans hD5 (fun _ _ h=>h)
      refine ⟨_,rfl,rA0 trivial ?_⟩
      clear zh
      intro zh
      simp only [aP]
      first
       |guard_hyp yT4:Th 1;refine fork2 25 27 (by kernel_rfl) ?_ ?_
       |refine fork2 21 27 (by kernel_rfl) ?_ ?_
      ·first
        |guard_hyp yT4:Th 1;refine fC 25 29 ?_
         (with_reducible refine (K7 _ hS6 hC6).mono ?_)
         rintro _ v7 ⟨rfl,hS7,hD7⟩
         have hC7:Chg (·=b) w v7:=hC6.trans hD7 (fun _ _ h=>h)
         have hG7:Chg (·=b) v3 v7:=hG6.trans hD7 (fun _ _ h=>h)
        |refine fC 21 25 ?_
         (with_reducible refine (K6 _ hS5 hC5).mono ?_)
         rintro _ v6 ⟨rfl,hS6,hD6⟩
         have hC6:Chg (·=b) w v6:=hC5.trans hD6 (fun _ _ h=>h)
         have hG6:Chg (·=b) v3 v6:=hG5.trans hD6 (fun _ _ h=>h)
       refine ⟨_,rfl,rA0 trivial ?_⟩
       clear zh
       intro zh
       simp only [aP]
       first
        |guard_hyp yT4:Th 1;refine tT 26 30 ?_
         refine fork1 27 (by kernel_rfl) ?_
         refine runF 27 (some 2) (v:=.pointer (some ⟨v7.heap.size,0,none⟩)) (w':=v7.alloc (.cells #[.int .i64 0,.int .i64 0,.slice none 0 0,.int .i64 0,.int .i64 0,.int .i64 0,.int .i64 0,.int .i64 0,.int .i64 0] 56)) rfl rfl (by rfl) ?_ ?_
        |refine fork2 25 27 (by kernel_rfl) ?_ ?_
       ·first
         |guard_hyp yT4:Th 1;go_simp<;>with_reducible rfl
         |refine fC 25 29 ?_
          (with_reducible refine (K7 _ hS6 hC6).mono ?_)
          rintro _ v7 ⟨rfl,hS7,hD7⟩
          have hC7:Chg (·=b) w v7:=hC6.trans hD7 (fun _ _ h=>h)
          have hG7:Chg (·=b) v3 v7:=hG6.trans hD7 (fun _ _ h=>h)
          refine ⟨_,rfl,rA0 trivial ?_⟩
          clear zh
          intro zh
          simp only [aP]
          refine tT 26 30 ?_
          refine fork1 27 (by kernel_rfl) ?_
          refine runF 27 (some 2) (v:=.pointer (some ⟨v7.heap.size,0,none⟩)) (w':=v7.alloc (.cells #[.int .i64 0,.int .i64 0,.slice none 0 0,.int .i64 0,.int .i64 0,.int .i64 0,.int .i64 0,.int .i64 0,.int .i64 0] 56)) rfl rfl (by rfl) ?_ ?_
          ·go_simp<;>with_reducible rfl
          obtain ⟨T,hTe⟩:=eN0 v7.heap.size
          rw [←hTe]
          obtain ⟨X,hX⟩:=eN0 (v7.alloc (.cells #[.int .i64 0,.int .i64 0,.slice none 0 0,.int .i64 0,.int .i64 0,.int .i64 0,.int .i64 0,.int .i64 0,.int .i64 0] 56))
          rw [←hX]
          have hbX:=bN0 hX
          have hSX:CurAt X b (strB l) kk7 qq7 r:=hS7.below hbX
          have hCX:Chg (·=b) w X:=hC7.trans (Chg.of_below hbX _) (fun _ _ h=>h)
          have hTX:X.heap[T]? =some (.cells #[.int .i64 0,.int .i64 0,.slice none 0 0,.int .i64 0,.int .i64 0,.int .i64 0,.int .i64 0,.int .i64 0,.int .i64 0] 56 (0,0)):=by rw [hX,hTe];exact heap_alloc_new _ _
          have hTlX:T<X.heap.size:=by rw [hX,hTe];simp
          have hTW:w.heap.size≤T:=by rw [hTe];exact hC7.size
          have hT3:v3.heap.size≤T:=by rw [hTe];exact hG7.size
          have hGX:Chg (·=b) v3 X:=hG7.trans (Chg.of_below hbX _) (fun _ _ h=>h)
          clear hX hTe hbX
          refine rA0 trivial ?_
          clear zh
          intro zh
          simp only [aP]
          have hg:=hGX
          have hgz:=hg.size
          have hU:RdE 3 Val.cells X (fun g=>w.heap.size≤g∧g<X.heap.size∧g≠T) (.slice A3 Q3.length c3) Q3:=Rd.wide (Rd.keep hU3 (fun g hb=>hg.block g hb.2 (by have:=hb.1;omega))) (fun g hb=>⟨by have:=hb.1;omega,by have:=hb.2;omega,by have h1:=hb.1;have h2:=hb.2;have:=hT3;omega⟩)
          exact tl T X A3 c3 Q3 hTW hTlX hTX hSX hCX hU hI3 hE3
       first
        |guard_hyp yT4:Th 1;obtain ⟨T,hTe⟩:=eN0 v7.heap.size
         rw [←hTe]
         obtain ⟨X,hX⟩:=eN0 (v7.alloc (.cells #[.int .i64 0,.int .i64 0,.slice none 0 0,.int .i64 0,.int .i64 0,.int .i64 0,.int .i64 0,.int .i64 0,.int .i64 0] 56))
         rw [←hX]
         have hbX:=bN0 hX
         have hSX:CurAt X b (strB l) kk7 qq7 r:=hS7.below hbX
         have hCX:Chg (·=b) w X:=hC7.trans (Chg.of_below hbX _) (fun _ _ h=>h)
         have hTX:X.heap[T]? =some (.cells #[.int .i64 0,.int .i64 0,.slice none 0 0,.int .i64 0,.int .i64 0,.int .i64 0,.int .i64 0,.int .i64 0,.int .i64 0] 56 (0,0)):=by rw [hX,hTe];exact heap_alloc_new _ _
         have hTlX:T<X.heap.size:=by rw [hX,hTe];simp
         have hTW:w.heap.size≤T:=by rw [hTe];exact hC7.size
         have hT3:v3.heap.size≤T:=by rw [hTe];exact hG7.size
         have hGX:Chg (·=b) v3 X:=hG7.trans (Chg.of_below hbX _) (fun _ _ h=>h)
         clear hX hTe hbX
         refine rA0 trivial ?_
         clear zh
         intro zh
         simp only [aP]
         have hg:=hGX
         have hgz:=hg.size
         have hU:RdE 3 Val.cells X (fun g=>w.heap.size≤g∧g<X.heap.size∧g≠T) (.slice A3 Q3.length c3) Q3:=Rd.wide (Rd.keep hU3 (fun g hb=>hg.block g hb.2 (by have:=hb.1;omega))) (fun g hb=>⟨by have:=hb.1;omega,by have:=hb.2;omega,by have h1:=hb.1;have h2:=hb.2;have:=hT3;omega⟩)
         exact tl T X A3 c3 Q3 hTW hTlX hTX hSX hCX hU hI3 hE3
        |·exact yq25 1
      ·exact yq25 0
     ·first
       |guard_hyp yT4:Th 1;refine runF 27 (some 2) (v:=.pointer (some ⟨v5.heap.size,0,none⟩)) (w':=v5.alloc (.cells #[.int .i64 0,.int .i64 0,.slice none 0 0,.int .i64 0,.int .i64 0,.int .i64 0,.int .i64 0,.int .i64 0,.int .i64 0] 56)) rfl rfl (by rfl) ?_ ?_
       |refine runF 27 (some 2) (v:=.pointer (some ⟨v4.heap.size,0,none⟩)) (w':=v4.alloc (.cells #[.int .i64 0,.int .i64 0,.slice none 0 0,.int .i64 0,.int .i64 0,.int .i64 0,.int .i64 0,.int .i64 0,.int .i64 0] 56)) rfl rfl (by rfl) ?_ ?_
      ·go_simp<;>with_reducible rfl
      first
       |guard_hyp yT4:Th 1;obtain ⟨T,hTe⟩:=eN0 v5.heap.size
       |obtain ⟨T,hTe⟩:=eN0 v4.heap.size
      rw [←hTe]
      first
       |guard_hyp yT4:Th 1;obtain ⟨X,hX⟩:=eN0 (v5.alloc (.cells #[.int .i64 0,.int .i64 0,.slice none 0 0,.int .i64 0,.int .i64 0,.int .i64 0,.int .i64 0,.int .i64 0,.int .i64 0] 56))
       |obtain ⟨X,hX⟩:=eN0 (v4.alloc (.cells #[.int .i64 0,.int .i64 0,.slice none 0 0,.int .i64 0,.int .i64 0,.int .i64 0,.int .i64 0,.int .i64 0,.int .i64 0] 56))
      rw [←hX]
      have hbX:=bN0 hX
      first
       |guard_hyp yT4:Th 1;have hSX:CurAt X b (strB l) kk5 qq5 r:=hS5.below hbX
        have hCX:Chg (·=b) w X:=hC5.trans (Chg.of_below hbX _) (fun _ _ h=>h)
       |have hSX:CurAt X b (strB l) kk4 qq4 r:=hS4.below hbX
        have hCX:Chg (·=b) w X:=hC4.trans (Chg.of_below hbX _) (fun _ _ h=>h)
      have hTX:X.heap[T]? =some (.cells #[.int .i64 0,.int .i64 0,.slice none 0 0,.int .i64 0,.int .i64 0,.int .i64 0,.int .i64 0,.int .i64 0,.int .i64 0] 56 (0,0)):=by rw [hX,hTe];exact heap_alloc_new _ _
      have hTlX:T<X.heap.size:=by rw [hX,hTe];simp
      first
       |guard_hyp yT4:Th 1;have hTW:w.heap.size≤T:=by rw [hTe];exact hC5.size
        have hT3:v3.heap.size≤T:=by rw [hTe];exact hG5.size
        have hGX:Chg (·=b) v3 X:=hG5.trans (Chg.of_below hbX _) (fun _ _ h=>h)
       |have hTW:w.heap.size≤T:=by rw [hTe];exact hC4.size
        have hT3:v3.heap.size≤T:=by rw [hTe];exact hG4.size
        have hGX:Chg (·=b) v3 X:=hG4.trans (Chg.of_below hbX _) (fun _ _ h=>h)
      clear hX hTe hbX
      refine rA0 trivial ?_
      clear zh
      intro zh
      simp only [aP]
      first
       |done
       |guard_hyp yT4:Th 1
       |refine fork1 17 (by kernel_rfl) ?_
        refine fC 17 21 ?_
        (with_reducible refine (K5 _ hSX hCX).mono ?_)
        rintro _ v5 ⟨rfl,hS5,hD5⟩
        have hC5:Chg (·=b) w v5:=hCX.trans hD5 (fun _ _ h=>h)
        have hG5:Chg (·=b) v3 v5:=hGX.trans hD5 (fun _ _ h=>h)
        have hT5:v5.heap[T]? =some (.cells #[.int .i64 0,.int .i64 0,.slice none 0 0,.int .i64 0,.int .i64 0,.int .i64 0,.int .i64 0,.int .i64 0,.int .i64 0] 56 (0,0)):=(hD5.block T hTlX (by show T≠b;omega)).trans hTX
        have hTl5:T<v5.heap.size:=by have:=hD5.size;omega
        refine ⟨_,rfl,rA0 trivial ?_⟩
        clear zh
        intro zh
        simp only [aP]
      refine fork1 21 (by kernel_rfl) ?_
      refine fC 21 25 ?_
      first
       |guard_hyp yT4:Th 1;(with_reducible refine (K6 _ hSX hCX).mono ?_)
       |(with_reducible refine (K6 _ hS5 hC5).mono ?_)
      rintro _ v6 ⟨rfl,hS6,hD6⟩
      first
       |guard_hyp yT4:Th 1;have hC6:Chg (·=b) w v6:=hCX.trans hD6 (fun _ _ h=>h)
        have hG6:Chg (·=b) v3 v6:=hGX.trans hD6 (fun _ _ h=>h)
        have hT6:v6.heap[T]? =some (.cells #[.int .i64 0,.int .i64 0,.slice none 0 0,.int .i64 0,.int .i64 0,.int .i64 0,.int .i64 0,.int .i64 0,.int .i64 0] 56 (0,0)):=(hD6.block T hTlX (by show T≠b;omega)).trans hTX
       |have hC6:Chg (·=b) w v6:=hC5.trans hD6 (fun _ _ h=>h)
        have hG6:Chg (·=b) v3 v6:=hG5.trans hD6 (fun _ _ h=>h)
        have hT6:v6.heap[T]? =some (.cells #[.int .i64 0,.int .i64 0,.slice none 0 0,.int .i64 0,.int .i64 0,.int .i64 0,.int .i64 0,.int .i64 0,.int .i64 0] 56 (0,0)):=(hD6.block T hTl5 (by show T≠b;omega)).trans hT5
      have hTl6:T<v6.heap.size:=by have:=hD6.size;omega
      refine ⟨_,rfl,rA0 trivial ?_⟩
      clear zh
      intro zh
      simp only [aP]
      refine fork1 25 (by kernel_rfl) ?_
      refine fC 25 29 ?_
      (with_reducible refine (K7 _ hS6 hC6).mono ?_)
      rintro _ v7 ⟨rfl,hS7,hD7⟩
      have hC7:Chg (·=b) w v7:=hC6.trans hD7 (fun _ _ h=>h)
      have hG7:Chg (·=b) v3 v7:=hG6.trans hD7 (fun _ _ h=>h)
      have hT7:v7.heap[T]? =some (.cells #[.int .i64 0,.int .i64 0,.slice none 0 0,.int .i64 0,.int .i64 0,.int .i64 0,.int .i64 0,.int .i64 0,.int .i64 0] 56 (0,0)):=(hD7.block T hTl6 (by show T≠b;omega)).trans hT6
      have hTl7:T<v7.heap.size:=by have:=hD7.size;omega
      refine ⟨_,rfl,rA0 trivial ?_⟩
      clear zh
      intro zh
      simp only [aP]
      refine tT 26 30 ?_
      have hg:=hG7
      have hgz:=hg.size
      have hU:RdE 3 Val.cells v7 (fun g=>w.heap.size≤g∧g<v7.heap.size∧g≠T) (.slice A3 Q3.length c3) Q3:=Rd.wide (Rd.keep hU3 (fun g hb=>hg.block g hb.2 (by have:=hb.1;omega))) (fun g hb=>⟨by have:=hb.1;omega,by have:=hb.2;omega,by have h1:=hb.1;have h2:=hb.2;have:=hT3;omega⟩)
      exact tl T v7 A3 c3 Q3 hTW hTl7 hT7 hS7 hC7 hU hI3 hE3
    ·exact yq23 3
   ·exact yq23 2
  ·exact yq23 1
 ·exact yq23 0) : P := h ⟨⟩
theorem yq15 {P:Prop} (h:P:=by
 intro w' hSw;(try dsimp only at hSw);(have p9:w'.cell? ⟨b,9,none⟩=some (.slice (some ⟨g,0,none⟩) c.tabs.length c.tC):=(by rw [←HA.out];exact cW0 w' _ 9 _ _ _ hSw);go_simp<;>with_reducible rfl)) : P := h
theorem yq23 {P:Prop} (i:Nat) (h:Th i→P:=by
 intro yT23
 first
  |guard_hyp yT23:Th 3
   first
    |guard_hyp yT4:Th 1;refine runF 27 (some 2) (v:=.pointer (some ⟨v4.heap.size,0,none⟩)) (w':=v4.alloc (.cells #[.int .i64 0,.int .i64 0,.slice none 0 0,.int .i64 0,.int .i64 0,.int .i64 0,.int .i64 0,.int .i64 0,.int .i64 0] 56)) rfl rfl (by rfl) ?_ ?_
    |refine runF 27 (some 2) (v:=.pointer (some ⟨v3.heap.size,0,none⟩)) (w':=v3.alloc (.cells #[.int .i64 0,.int .i64 0,.slice none 0 0,.int .i64 0,.int .i64 0,.int .i64 0,.int .i64 0,.int .i64 0,.int .i64 0] 56)) rfl rfl (by rfl) ?_ ?_
  |guard_hyp yT23:Th 2
   first
    |guard_hyp yT4:Th 1;refine runF 27 (some 2) (v:=.pointer (some ⟨v3.heap.size,0,none⟩)) (w':=v3.alloc (.cells #[.int .i64 0,.int .i64 0,.slice none 0 0,.int .i64 0,.int .i64 0,.int .i64 0,.int .i64 0,.int .i64 0,.int .i64 0] 56)) rfl rfl (by rfl) ?_ ?_
    |refine runF 27 (some 2) (v:=.pointer (some ⟨v2.heap.size,0,none⟩)) (w':=v2.alloc (.cells #[.int .i64 0,.int .i64 0,.slice none 0 0,.int .i64 0,.int .i64 0,.int .i64 0,.int .i64 0,.int .i64 0,.int .i64 0] 56)) rfl rfl (by rfl) ?_ ?_
  |guard_hyp yT23:Th 1
   first
    |guard_hyp yT4:Th 1;refine runF 27 (some 2) (v:=.pointer (some ⟨v2.heap.size,0,none⟩)) (w':=v2.alloc (.cells #[.int .i64 0,.int .i64 0,.slice none 0 0,.int .i64 0,.int .i64 0,.int .i64 0,.int .i64 0,.int .i64 0,.int .i64 0] 56)) rfl rfl (by rfl) ?_ ?_
    |refine runF 27 (some 2) (v:=.pointer (some ⟨v1.heap.size,0,none⟩)) (w':=v1.alloc (.cells #[.int .i64 0,.int .i64 0,.slice none 0 0,.int .i64 0,.int .i64 0,.int .i64 0,.int .i64 0,.int .i64 0,.int .i64 0] 56)) rfl rfl (by rfl) ?_ ?_
  |guard_hyp yT4:Th 1;refine runF 27 (some 2) (v:=.pointer (some ⟨v1.heap.size,0,none⟩)) (w':=v1.alloc (.cells #[.int .i64 0,.int .i64 0,.slice none 0 0,.int .i64 0,.int .i64 0,.int .i64 0,.int .i64 0,.int .i64 0,.int .i64 0] 56)) rfl rfl (by rfl) ?_ ?_
  |refine runF 27 (some 2) (v:=.pointer (some ⟨w.drew.heap.size,0,none⟩)) (w':=w.drew.alloc (.cells #[.int .i64 0,.int .i64 0,.slice none 0 0,.int .i64 0,.int .i64 0,.int .i64 0,.int .i64 0,.int .i64 0,.int .i64 0] 56)) rfl rfl (by rfl) ?_ ?_
 ·go_simp<;>with_reducible rfl
 first
  |guard_hyp yT23:Th 3
   first
    |guard_hyp yT4:Th 1;obtain ⟨T,hTe⟩:=eN0 v4.heap.size
    |obtain ⟨T,hTe⟩:=eN0 v3.heap.size
  |guard_hyp yT23:Th 2
   first
    |guard_hyp yT4:Th 1;obtain ⟨T,hTe⟩:=eN0 v3.heap.size
    |obtain ⟨T,hTe⟩:=eN0 v2.heap.size
  |guard_hyp yT23:Th 1
   first
    |guard_hyp yT4:Th 1;obtain ⟨T,hTe⟩:=eN0 v2.heap.size
    |obtain ⟨T,hTe⟩:=eN0 v1.heap.size
  |guard_hyp yT4:Th 1;obtain ⟨T,hTe⟩:=eN0 v1.heap.size
  |obtain ⟨T,hTe⟩:=eN0 w.drew.heap.size
 rw [←hTe]
 first
  |guard_hyp yT23:Th 3
   first
    |guard_hyp yT4:Th 1;obtain ⟨X,hX⟩:=eN0 (v4.alloc (.cells #[.int .i64 0,.int .i64 0,.slice none 0 0,.int .i64 0,.int .i64 0,.int .i64 0,.int .i64 0,.int .i64 0,.int .i64 0] 56))
    |obtain ⟨X,hX⟩:=eN0 (v3.alloc (.cells #[.int .i64 0,.int .i64 0,.slice none 0 0,.int .i64 0,.int .i64 0,.int .i64 0,.int .i64 0,.int .i64 0,.int .i64 0] 56))
  |guard_hyp yT23:Th 2
   first
    |guard_hyp yT4:Th 1;obtain ⟨X,hX⟩:=eN0 (v3.alloc (.cells #[.int .i64 0,.int .i64 0,.slice none 0 0,.int .i64 0,.int .i64 0,.int .i64 0,.int .i64 0,.int .i64 0,.int .i64 0] 56))
    |obtain ⟨X,hX⟩:=eN0 (v2.alloc (.cells #[.int .i64 0,.int .i64 0,.slice none 0 0,.int .i64 0,.int .i64 0,.int .i64 0,.int .i64 0,.int .i64 0,.int .i64 0] 56))
  |guard_hyp yT23:Th 1
   first
    |guard_hyp yT4:Th 1;obtain ⟨X,hX⟩:=eN0 (v2.alloc (.cells #[.int .i64 0,.int .i64 0,.slice none 0 0,.int .i64 0,.int .i64 0,.int .i64 0,.int .i64 0,.int .i64 0,.int .i64 0] 56))
    |obtain ⟨X,hX⟩:=eN0 (v1.alloc (.cells #[.int .i64 0,.int .i64 0,.slice none 0 0,.int .i64 0,.int .i64 0,.int .i64 0,.int .i64 0,.int .i64 0,.int .i64 0] 56))
  |guard_hyp yT4:Th 1;obtain ⟨X,hX⟩:=eN0 (v1.alloc (.cells #[.int .i64 0,.int .i64 0,.slice none 0 0,.int .i64 0,.int .i64 0,.int .i64 0,.int .i64 0,.int .i64 0,.int .i64 0] 56))
  |obtain ⟨X,hX⟩:=eN0 (w.drew.alloc (.cells #[.int .i64 0,.int .i64 0,.slice none 0 0,.int .i64 0,.int .i64 0,.int .i64 0,.int .i64 0,.int .i64 0,.int .i64 0] 56))
 rw [←hX]
 have hbX:=bN0 hX
 first
  |guard_hyp yT23:Th 3
   first
    |guard_hyp yT4:Th 1;have hSX:CurAt X b (strB l) kk4 qq4 r:=hS4.below hbX
     have hCX:Chg (·=b) w X:=hC4.trans (Chg.of_below hbX _) (fun _ _ h=>h)
    |have hSX:CurAt X b (strB l) kk3 qq3 r:=hS3.below hbX
     have hCX:Chg (·=b) w X:=hC3.trans (Chg.of_below hbX _) (fun _ _ h=>h)
  |guard_hyp yT23:Th 2
   first
    |guard_hyp yT4:Th 1;have hSX:CurAt X b (strB l) kk3 qq3 r:=hS3.below hbX
     have hCX:Chg (·=b) w X:=hC3.trans (Chg.of_below hbX _) (fun _ _ h=>h)
    |have hSX:CurAt X b (strB l) kk2 qq2 r:=hS2.below hbX
     have hCX:Chg (·=b) w X:=hC2.trans (Chg.of_below hbX _) (fun _ _ h=>h)
  |guard_hyp yT23:Th 1
   first
    |guard_hyp yT4:Th 1;have hSX:CurAt X b (strB l) kk2 qq2 r:=hS2.below hbX
     have hCX:Chg (·=b) w X:=hC2.trans (Chg.of_below hbX _) (fun _ _ h=>h)
    |have hSX:CurAt X b (strB l) kk1 qq1 r:=hS1.below hbX
     have hCX:Chg (·=b) w X:=hC1.trans (Chg.of_below hbX _) (fun _ _ h=>h)
  |guard_hyp yT4:Th 1;have hSX:CurAt X b (strB l) kk1 qq1 r:=hS1.below hbX
   have hCX:Chg (·=b) w X:=hC1.trans (Chg.of_below hbX _) (fun _ _ h=>h)
  |have hSX:CurAt X b (strB l) i d r:=hS0.below hbX
   have hCX:Chg (·=b) w X:=hC0.trans (Chg.of_below hbX _) (fun _ _ h=>h)
 have hTX:X.heap[T]? =some (.cells #[.int .i64 0,.int .i64 0,.slice none 0 0,.int .i64 0,.int .i64 0,.int .i64 0,.int .i64 0,.int .i64 0,.int .i64 0] 56 (0,0)):=by rw [hX,hTe];exact heap_alloc_new _ _
 have hTlX:T<X.heap.size:=by rw [hX,hTe];simp
 first
  |guard_hyp yT23:Th 3
   first
    |guard_hyp yT4:Th 1;have hTW:w.heap.size≤T:=by rw [hTe];exact hC4.size
     have hT3:v3.heap.size≤T:=by rw [hTe];exact hG4.size
     have hGX:Chg (·=b) v3 X:=hG4.trans (Chg.of_below hbX _) (fun _ _ h=>h)
    |have hTW:w.heap.size≤T:=by rw [hTe];exact hC3.size
     have hT3:v3.heap.size≤T:=by rw [hTe];exact hG3.size
     have hGX:Chg (·=b) v3 X:=hG3.trans (Chg.of_below hbX _) (fun _ _ h=>h)
  |guard_hyp yT23:Th 2
   first
    |guard_hyp yT4:Th 1;have hTW:w.heap.size≤T:=by rw [hTe];exact hC3.size
     have hT3:v3.heap.size≤T:=by rw [hTe];exact hG3.size
     have hGX:Chg (·=b) v3 X:=hG3.trans (Chg.of_below hbX _) (fun _ _ h=>h)
    |have hTW:w.heap.size≤T:=by rw [hTe];exact hC2.size
  |guard_hyp yT23:Th 1
   first
    |guard_hyp yT4:Th 1;have hTW:w.heap.size≤T:=by rw [hTe];exact hC2.size
    |have hTW:w.heap.size≤T:=by rw [hTe];exact hC1.size
  |guard_hyp yT4:Th 1;have hTW:w.heap.size≤T:=by rw [hTe];exact hC1.size
  |have hTW:w.heap.size≤T:=by rw [hTe];exact hC0.size
 clear hX hTe hbX
 refine rA0 trivial ?_
 clear zh
 intro zh
 simp only [aP]
 first
  |guard_hyp yT23:Th 3
   first
    |done
    |guard_hyp yT4:Th 1
    |refine fork1 15 (by kernel_rfl) ?_
     refine fC 15 19 ?_
     (with_reducible refine (K4 _ hSX hCX).mono ?_)
     rintro _ v4 ⟨rfl,hS4,hD4⟩
     have hC4:Chg (·=b) w v4:=hCX.trans hD4 (fun _ _ h=>h)
     have hG4:Chg (·=b) v3 v4:=hGX.trans hD4 (fun _ _ h=>h)
     have hT4:v4.heap[T]? =some (.cells #[.int .i64 0,.int .i64 0,.slice none 0 0,.int .i64 0,.int .i64 0,.int .i64 0,.int .i64 0,.int .i64 0,.int .i64 0] 56 (0,0)):=(hD4.block T hTlX (by show T≠b;omega)).trans hTX
     have hTl4:T<v4.heap.size:=by have:=hD4.size;omega
     refine ⟨_,rfl,rA0 trivial ?_⟩
     clear zh
     intro zh
     simp only [aP]
  |first
    |guard_hyp yT23:Th 2
     first
      |done
      |guard_hyp yT4:Th 1
      |refine fork1 13 (by kernel_rfl) ?_
       refine fC 13 17 ?_
       (with_reducible refine (K3 _ hSX hCX).mono ?_)
       rintro _ v3 ⟨u3,Q3,rfl,hU3,hI3,hE3,hS3,hD3⟩
       rw [List.map_id] at hE3
       obtain ⟨A3,c3,rfl⟩:=rdQ_slice hU3
       have hG3:Chg (·=b) v3 v3:=Chg.refl _ _
       have hL3:X.heap.size≤v3.heap.size∧w.heap.size≤X.heap.size:=⟨hD3.size,hCX.size⟩
       have hC3:Chg (·=b) w v3:=hCX.trans hD3 (fun _ _ h=>h)
       have hT3:v3.heap[T]? =some (.cells #[.int .i64 0,.int .i64 0,.slice none 0 0,.int .i64 0,.int .i64 0,.int .i64 0,.int .i64 0,.int .i64 0,.int .i64 0] 56 (0,0)):=(hD3.block T hTlX (by show T≠b;omega)).trans hTX
       have hTl3:T<v3.heap.size:=by have:=hD3.size;omega
       refine ⟨_,rfl,rA0 trivial ?_⟩
       clear zh
       intro zh
       simp only [aP]
    |first
      |guard_hyp yT23:Th 1
       first
        |done
        |guard_hyp yT4:Th 1
        |refine fork1 7 (by kernel_rfl) ?_
         refine fC 7 11 ?_
         (with_reducible refine (K2 _ hSX hCX).mono ?_)
         rintro _ v2 ⟨rfl,hS2,hD2⟩
         have hC2:Chg (·=b) w v2:=hCX.trans hD2 (fun _ _ h=>h)
         have hT2:v2.heap[T]? =some (.cells #[.int .i64 0,.int .i64 0,.slice none 0 0,.int .i64 0,.int .i64 0,.int .i64 0,.int .i64 0,.int .i64 0,.int .i64 0] 56 (0,0)):=(hD2.block T hTlX (by show T≠b;omega)).trans hTX
         have hTl2:T<v2.heap.size:=by have:=hD2.size;omega
         refine ⟨_,rfl,rA0 trivial ?_⟩
         clear zh
         intro zh
         simp only [aP]
      |first
        |done
        |guard_hyp yT4:Th 1
        |refine fork1 3 (by kernel_rfl) ?_
         refine fC 3 7 ?_
         (with_reducible refine (K1 _ hSX hCX).mono ?_)
         rintro _ v1 ⟨rfl,hS1,hD1⟩
         have hC1:Chg (·=b) w v1:=hCX.trans hD1 (fun _ _ h=>h)
         have hT1:v1.heap[T]? =some (.cells #[.int .i64 0,.int .i64 0,.slice none 0 0,.int .i64 0,.int .i64 0,.int .i64 0,.int .i64 0,.int .i64 0,.int .i64 0] 56 (0,0)):=(hD1.block T hTlX (by show T≠b;omega)).trans hTX
         have hTl1:T<v1.heap.size:=by have:=hD1.size;omega
         refine ⟨_,rfl,rA0 trivial ?_⟩
         clear zh
         intro zh
         simp only [aP]
       refine fork1 7 (by kernel_rfl) ?_
       refine fC 7 11 ?_
       first
        |guard_hyp yT4:Th 1;(with_reducible refine (K2 _ hSX hCX).mono ?_)
        |(with_reducible refine (K2 _ hS1 hC1).mono ?_)
       rintro _ v2 ⟨rfl,hS2,hD2⟩
       first
        |guard_hyp yT4:Th 1;have hC2:Chg (·=b) w v2:=hCX.trans hD2 (fun _ _ h=>h)
         have hT2:v2.heap[T]? =some (.cells #[.int .i64 0,.int .i64 0,.slice none 0 0,.int .i64 0,.int .i64 0,.int .i64 0,.int .i64 0,.int .i64 0,.int .i64 0] 56 (0,0)):=(hD2.block T hTlX (by show T≠b;omega)).trans hTX
        |have hC2:Chg (·=b) w v2:=hC1.trans hD2 (fun _ _ h=>h)
         have hT2:v2.heap[T]? =some (.cells #[.int .i64 0,.int .i64 0,.slice none 0 0,.int .i64 0,.int .i64 0,.int .i64 0,.int .i64 0,.int .i64 0,.int .i64 0] 56 (0,0)):=(hD2.block T hTl1 (by show T≠b;omega)).trans hT1
       have hTl2:T<v2.heap.size:=by have:=hD2.size;omega
       refine ⟨_,rfl,rA0 trivial ?_⟩
       clear zh
       intro zh
       simp only [aP]
     refine fork1 13 (by kernel_rfl) ?_
     refine fC 13 17 ?_
     first
      |guard_hyp yT23:Th 1
       first
        |guard_hyp yT4:Th 1;(with_reducible refine (K3 _ hSX hCX).mono ?_)
        |(with_reducible refine (K3 _ hS2 hC2).mono ?_)
      |(with_reducible refine (K3 _ hS2 hC2).mono ?_)
     rintro _ v3 ⟨u3,Q3,rfl,hU3,hI3,hE3,hS3,hD3⟩
     rw [List.map_id] at hE3
     obtain ⟨A3,c3,rfl⟩:=rdQ_slice hU3
     have hG3:Chg (·=b) v3 v3:=Chg.refl _ _
     first
      |guard_hyp yT23:Th 1
       first
        |guard_hyp yT4:Th 1;have hL3:X.heap.size≤v3.heap.size∧w.heap.size≤X.heap.size:=⟨hD3.size,hCX.size⟩
         have hC3:Chg (·=b) w v3:=hCX.trans hD3 (fun _ _ h=>h)
         have hT3:v3.heap[T]? =some (.cells #[.int .i64 0,.int .i64 0,.slice none 0 0,.int .i64 0,.int .i64 0,.int .i64 0,.int .i64 0,.int .i64 0,.int .i64 0] 56 (0,0)):=(hD3.block T hTlX (by show T≠b;omega)).trans hTX
        |have hL3:v2.heap.size≤v3.heap.size∧w.heap.size≤v2.heap.size:=⟨hD3.size,hC2.size⟩
         have hC3:Chg (·=b) w v3:=hC2.trans hD3 (fun _ _ h=>h)
         have hT3:v3.heap[T]? =some (.cells #[.int .i64 0,.int .i64 0,.slice none 0 0,.int .i64 0,.int .i64 0,.int .i64 0,.int .i64 0,.int .i64 0,.int .i64 0] 56 (0,0)):=(hD3.block T hTl2 (by show T≠b;omega)).trans hT2
      |have hL3:v2.heap.size≤v3.heap.size∧w.heap.size≤v2.heap.size:=⟨hD3.size,hC2.size⟩
       have hC3:Chg (·=b) w v3:=hC2.trans hD3 (fun _ _ h=>h)
       have hT3:v3.heap[T]? =some (.cells #[.int .i64 0,.int .i64 0,.slice none 0 0,.int .i64 0,.int .i64 0,.int .i64 0,.int .i64 0,.int .i64 0,.int .i64 0] 56 (0,0)):=(hD3.block T hTl2 (by show T≠b;omega)).trans hT2
     have hTl3:T<v3.heap.size:=by have:=hD3.size;omega
     refine ⟨_,rfl,rA0 trivial ?_⟩
     clear zh
     intro zh
     simp only [aP]
   refine fork1 15 (by kernel_rfl) ?_
   refine fC 15 19 ?_
   first
    |guard_hyp yT23:Th 2
     first
      |guard_hyp yT4:Th 1;(with_reducible refine (K4 _ hSX hCX).mono ?_)
      |(with_reducible refine (K4 _ hS3 hC3).mono ?_)
    |(with_reducible refine (K4 _ hS3 hC3).mono ?_)
   rintro _ v4 ⟨rfl,hS4,hD4⟩
   first
    |guard_hyp yT23:Th 2
     first
      |guard_hyp yT4:Th 1;have hC4:Chg (·=b) w v4:=hCX.trans hD4 (fun _ _ h=>h)
       have hG4:Chg (·=b) v3 v4:=hGX.trans hD4 (fun _ _ h=>h)
       have hT4:v4.heap[T]? =some (.cells #[.int .i64 0,.int .i64 0,.slice none 0 0,.int .i64 0,.int .i64 0,.int .i64 0,.int .i64 0,.int .i64 0,.int .i64 0] 56 (0,0)):=(hD4.block T hTlX (by show T≠b;omega)).trans hTX
      |have hC4:Chg (·=b) w v4:=hC3.trans hD4 (fun _ _ h=>h)
       have hG4:Chg (·=b) v3 v4:=hG3.trans hD4 (fun _ _ h=>h)
       have hT4:v4.heap[T]? =some (.cells #[.int .i64 0,.int .i64 0,.slice none 0 0,.int .i64 0,.int .i64 0,.int .i64 0,.int .i64 0,.int .i64 0,.int .i64 0] 56 (0,0)):=(hD4.block T hTl3 (by show T≠b;omega)).trans hT3
    |have hC4:Chg (·=b) w v4:=hC3.trans hD4 (fun _ _ h=>h)
     have hG4:Chg (·=b) v3 v4:=hG3.trans hD4 (fun _ _ h=>h)
     have hT4:v4.heap[T]? =some (.cells #[.int .i64 0,.int .i64 0,.slice none 0 0,.int .i64 0,.int .i64 0,.int .i64 0,.int .i64 0,.int .i64 0,.int .i64 0] 56 (0,0)):=(hD4.block T hTl3 (by show T≠b;omega)).trans hT3
   have hTl4:T<v4.heap.size:=by have:=hD4.size;omega
   refine ⟨_,rfl,rA0 trivial ?_⟩
   clear zh
   intro zh
   simp only [aP]
 refine fork1 17 (by kernel_rfl) ?_
 refine fC 17 21 ?_
 first
  |guard_hyp yT23:Th 3
   first
    |guard_hyp yT4:Th 1;(with_reducible refine (K5 _ hSX hCX).mono ?_)
    |(with_reducible refine (K5 _ hS4 hC4).mono ?_)
  |(with_reducible refine (K5 _ hS4 hC4).mono ?_)
 rintro _ v5 ⟨rfl,hS5,hD5⟩
 first
  |guard_hyp yT23:Th 3
   first
    |guard_hyp yT4:Th 1;have hC5:Chg (·=b) w v5:=hCX.trans hD5 (fun _ _ h=>h)
     have hG5:Chg (·=b) v3 v5:=hGX.trans hD5 (fun _ _ h=>h)
     have hT5:v5.heap[T]? =some (.cells #[.int .i64 0,.int .i64 0,.slice none 0 0,.int .i64 0,.int .i64 0,.int .i64 0,.int .i64 0,.int .i64 0,.int .i64 0] 56 (0,0)):=(hD5.block T hTlX (by show T≠b;omega)).trans hTX
    |have hC5:Chg (·=b) w v5:=hC4.trans hD5 (fun _ _ h=>h)
     have hG5:Chg (·=b) v3 v5:=hG4.trans hD5 (fun _ _ h=>h)
     have hT5:v5.heap[T]? =some (.cells #[.int .i64 0,.int .i64 0,.slice none 0 0,.int .i64 0,.int .i64 0,.int .i64 0,.int .i64 0,.int .i64 0,.int .i64 0] 56 (0,0)):=(hD5.block T hTl4 (by show T≠b;omega)).trans hT4
  |have hC5:Chg (·=b) w v5:=hC4.trans hD5 (fun _ _ h=>h)
   have hG5:Chg (·=b) v3 v5:=hG4.trans hD5 (fun _ _ h=>h)
   have hT5:v5.heap[T]? =some (.cells #[.int .i64 0,.int .i64 0,.slice none 0 0,.int .i64 0,.int .i64 0,.int .i64 0,.int .i64 0,.int .i64 0,.int .i64 0] 56 (0,0)):=(hD5.block T hTl4 (by show T≠b;omega)).trans hT4
 have hTl5:T<v5.heap.size:=by have:=hD5.size;omega
 refine ⟨_,rfl,rA0 trivial ?_⟩
 clear zh
 intro zh
 simp only [aP]
 refine fork1 21 (by kernel_rfl) ?_
 refine fC 21 25 ?_
 (with_reducible refine (K6 _ hS5 hC5).mono ?_)
 rintro _ v6 ⟨rfl,hS6,hD6⟩
 have hC6:Chg (·=b) w v6:=hC5.trans hD6 (fun _ _ h=>h)
 have hG6:Chg (·=b) v3 v6:=hG5.trans hD6 (fun _ _ h=>h)
 have hT6:v6.heap[T]? =some (.cells #[.int .i64 0,.int .i64 0,.slice none 0 0,.int .i64 0,.int .i64 0,.int .i64 0,.int .i64 0,.int .i64 0,.int .i64 0] 56 (0,0)):=(hD6.block T hTl5 (by show T≠b;omega)).trans hT5
 have hTl6:T<v6.heap.size:=by have:=hD6.size;omega
 refine ⟨_,rfl,rA0 trivial ?_⟩
 clear zh
 intro zh
 simp only [aP]
 refine fork1 25 (by kernel_rfl) ?_
 refine fC 25 29 ?_
 (with_reducible refine (K7 _ hS6 hC6).mono ?_)
 rintro _ v7 ⟨rfl,hS7,hD7⟩
 have hC7:Chg (·=b) w v7:=hC6.trans hD7 (fun _ _ h=>h)
 have hG7:Chg (·=b) v3 v7:=hG6.trans hD7 (fun _ _ h=>h)
 have hT7:v7.heap[T]? =some (.cells #[.int .i64 0,.int .i64 0,.slice none 0 0,.int .i64 0,.int .i64 0,.int .i64 0,.int .i64 0,.int .i64 0,.int .i64 0] 56 (0,0)):=(hD7.block T hTl6 (by show T≠b;omega)).trans hT6
 have hTl7:T<v7.heap.size:=by have:=hD7.size;omega
 refine ⟨_,rfl,rA0 trivial ?_⟩
 clear zh
 intro zh
 simp only [aP]
 refine tT 26 30 ?_
 have hg:=hG7
 have hgz:=hg.size
 first
  |guard_hyp yT23:Th 3;have hU:RdE 3 Val.cells v7 (fun g=>w.heap.size≤g∧g<v7.heap.size∧g≠T) (.slice A3 Q3.length c3) Q3:=Rd.wide (Rd.keep hU3 (fun g hb=>hg.block g hb.2 (by have:=hb.1;omega))) (fun g hb=>⟨by have:=hb.1;omega,by have:=hb.2;omega,by have h1:=hb.1;have h2:=hb.2;have:=hT3;omega⟩)
  |guard_hyp yT23:Th 2
   first
    |guard_hyp yT4:Th 1;have hU:RdE 3 Val.cells v7 (fun g=>w.heap.size≤g∧g<v7.heap.size∧g≠T) (.slice A3 Q3.length c3) Q3:=Rd.wide (Rd.keep hU3 (fun g hb=>hg.block g hb.2 (by have:=hb.1;omega))) (fun g hb=>⟨by have:=hb.1;omega,by have:=hb.2;omega,by have h1:=hb.1;have h2:=hb.2;have:=hT3;omega⟩)
    |have hU:RdE 3 Val.cells v7 (fun g=>w.heap.size≤g∧g<v7.heap.size∧g≠T) (.slice A3 Q3.length c3) Q3:=Rd.wide (Rd.keep hU3 (fun g hb=>hg.block g hb.2 (by have:=hb.1;omega))) (fun g hb=>⟨by have:=hb.1;omega,by have:=hb.2;omega,by have h1:=hb.1;have h2:=hb.2;have:=hTlX;omega⟩)
  |guard_hyp yT23:Th 1
   first
    |guard_hyp yT4:Th 1;have hU:RdE 3 Val.cells v7 (fun g=>w.heap.size≤g∧g<v7.heap.size∧g≠T) (.slice A3 Q3.length c3) Q3:=Rd.wide (Rd.keep hU3 (fun g hb=>hg.block g hb.2 (by have:=hb.1;omega))) (fun g hb=>⟨by have:=hb.1;omega,by have:=hb.2;omega,by have h1:=hb.1;have h2:=hb.2;have:=hTlX;omega⟩)
    |have hU:RdE 3 Val.cells v7 (fun g=>w.heap.size≤g∧g<v7.heap.size∧g≠T) (.slice A3 Q3.length c3) Q3:=Rd.wide (Rd.keep hU3 (fun g hb=>hg.block g hb.2 (by have:=hb.1;omega))) (fun g hb=>⟨by have:=hb.1;omega,by have:=hb.2;omega,by have h1:=hb.1;have h2:=hb.2;have:=hTl2;omega⟩)
  |have hU:RdE 3 Val.cells v7 (fun g=>w.heap.size≤g∧g<v7.heap.size∧g≠T) (.slice A3 Q3.length c3) Q3:=Rd.wide (Rd.keep hU3 (fun g hb=>hg.block g hb.2 (by have:=hb.1;omega))) (fun g hb=>⟨by have:=hb.1;omega,by have:=hb.2;omega,by have h1:=hb.1;have h2:=hb.2;have:=hTl2;omega⟩)
 exact tl T v7 A3 c3 Q3 hTW hTl7 hT7 hS7 hC7 hU hI3 hE3) : P := h ⟨⟩
theorem yq25 {P:Prop} (i:Nat) (h:Th i→P:=by
 intro yT25
 first
  |guard_hyp yT25:Th 1;refine runF 27 (some 2) (v:=.pointer (some ⟨v6.heap.size,0,none⟩)) (w':=v6.alloc (.cells #[.int .i64 0,.int .i64 0,.slice none 0 0,.int .i64 0,.int .i64 0,.int .i64 0,.int .i64 0,.int .i64 0,.int .i64 0] 56)) rfl rfl (by rfl) ?_ ?_
  |guard_hyp yT4:Th 1;refine runF 27 (some 2) (v:=.pointer (some ⟨v6.heap.size,0,none⟩)) (w':=v6.alloc (.cells #[.int .i64 0,.int .i64 0,.slice none 0 0,.int .i64 0,.int .i64 0,.int .i64 0,.int .i64 0,.int .i64 0,.int .i64 0] 56)) rfl rfl (by rfl) ?_ ?_
  |refine runF 27 (some 2) (v:=.pointer (some ⟨v5.heap.size,0,none⟩)) (w':=v5.alloc (.cells #[.int .i64 0,.int .i64 0,.slice none 0 0,.int .i64 0,.int .i64 0,.int .i64 0,.int .i64 0,.int .i64 0,.int .i64 0] 56)) rfl rfl (by rfl) ?_ ?_
 ·go_simp<;>with_reducible rfl
 first
  |guard_hyp yT25:Th 1;obtain ⟨T,hTe⟩:=eN0 v6.heap.size
  |guard_hyp yT4:Th 1;obtain ⟨T,hTe⟩:=eN0 v6.heap.size
  |obtain ⟨T,hTe⟩:=eN0 v5.heap.size
 rw [←hTe]
 first
  |guard_hyp yT25:Th 1;obtain ⟨X,hX⟩:=eN0 (v6.alloc (.cells #[.int .i64 0,.int .i64 0,.slice none 0 0,.int .i64 0,.int .i64 0,.int .i64 0,.int .i64 0,.int .i64 0,.int .i64 0] 56))
  |guard_hyp yT4:Th 1;obtain ⟨X,hX⟩:=eN0 (v6.alloc (.cells #[.int .i64 0,.int .i64 0,.slice none 0 0,.int .i64 0,.int .i64 0,.int .i64 0,.int .i64 0,.int .i64 0,.int .i64 0] 56))
  |obtain ⟨X,hX⟩:=eN0 (v5.alloc (.cells #[.int .i64 0,.int .i64 0,.slice none 0 0,.int .i64 0,.int .i64 0,.int .i64 0,.int .i64 0,.int .i64 0,.int .i64 0] 56))
 rw [←hX]
 have hbX:=bN0 hX
 first
  |guard_hyp yT25:Th 1;have hSX:CurAt X b (strB l) kk6 qq6 r:=hS6.below hbX
   have hCX:Chg (·=b) w X:=hC6.trans (Chg.of_below hbX _) (fun _ _ h=>h)
  |guard_hyp yT4:Th 1;have hSX:CurAt X b (strB l) kk6 qq6 r:=hS6.below hbX
   have hCX:Chg (·=b) w X:=hC6.trans (Chg.of_below hbX _) (fun _ _ h=>h)
  |have hSX:CurAt X b (strB l) kk5 qq5 r:=hS5.below hbX
   have hCX:Chg (·=b) w X:=hC5.trans (Chg.of_below hbX _) (fun _ _ h=>h)
 have hTX:X.heap[T]? =some (.cells #[.int .i64 0,.int .i64 0,.slice none 0 0,.int .i64 0,.int .i64 0,.int .i64 0,.int .i64 0,.int .i64 0,.int .i64 0] 56 (0,0)):=by rw [hX,hTe];exact heap_alloc_new _ _
 have hTlX:T<X.heap.size:=by rw [hX,hTe];simp
 first
  |guard_hyp yT25:Th 1;have hTW:w.heap.size≤T:=by rw [hTe];exact hC6.size
   have hT3:v3.heap.size≤T:=by rw [hTe];exact hG6.size
   have hGX:Chg (·=b) v3 X:=hG6.trans (Chg.of_below hbX _) (fun _ _ h=>h)
  |guard_hyp yT4:Th 1;have hTW:w.heap.size≤T:=by rw [hTe];exact hC6.size
   have hT3:v3.heap.size≤T:=by rw [hTe];exact hG6.size
   have hGX:Chg (·=b) v3 X:=hG6.trans (Chg.of_below hbX _) (fun _ _ h=>h)
  |have hTW:w.heap.size≤T:=by rw [hTe];exact hC5.size
   have hT3:v3.heap.size≤T:=by rw [hTe];exact hG5.size
   have hGX:Chg (·=b) v3 X:=hG5.trans (Chg.of_below hbX _) (fun _ _ h=>h)
 clear hX hTe hbX
 refine rA0 trivial ?_
 clear zh
 intro zh
 simp only [aP]
 first
  |done
  |guard_hyp yT25:Th 1
  |guard_hyp yT4:Th 1
  |refine fork1 21 (by kernel_rfl) ?_
   refine fC 21 25 ?_
   (with_reducible refine (K6 _ hSX hCX).mono ?_)
   rintro _ v6 ⟨rfl,hS6,hD6⟩
   have hC6:Chg (·=b) w v6:=hCX.trans hD6 (fun _ _ h=>h)
   have hG6:Chg (·=b) v3 v6:=hGX.trans hD6 (fun _ _ h=>h)
   have hT6:v6.heap[T]? =some (.cells #[.int .i64 0,.int .i64 0,.slice none 0 0,.int .i64 0,.int .i64 0,.int .i64 0,.int .i64 0,.int .i64 0,.int .i64 0] 56 (0,0)):=(hD6.block T hTlX (by show T≠b;omega)).trans hTX
   have hTl6:T<v6.heap.size:=by have:=hD6.size;omega
   refine ⟨_,rfl,rA0 trivial ?_⟩
   clear zh
   intro zh
   simp only [aP]
 refine fork1 25 (by kernel_rfl) ?_
 refine fC 25 29 ?_
 first
  |guard_hyp yT25:Th 1;(with_reducible refine (K7 _ hSX hCX).mono ?_)
  |guard_hyp yT4:Th 1;(with_reducible refine (K7 _ hSX hCX).mono ?_)
  |(with_reducible refine (K7 _ hS6 hC6).mono ?_)
 rintro _ v7 ⟨rfl,hS7,hD7⟩
 first
  |guard_hyp yT25:Th 1;have hC7:Chg (·=b) w v7:=hCX.trans hD7 (fun _ _ h=>h)
   have hG7:Chg (·=b) v3 v7:=hGX.trans hD7 (fun _ _ h=>h)
   have hT7:v7.heap[T]? =some (.cells #[.int .i64 0,.int .i64 0,.slice none 0 0,.int .i64 0,.int .i64 0,.int .i64 0,.int .i64 0,.int .i64 0,.int .i64 0] 56 (0,0)):=(hD7.block T hTlX (by show T≠b;omega)).trans hTX
  |guard_hyp yT4:Th 1;have hC7:Chg (·=b) w v7:=hCX.trans hD7 (fun _ _ h=>h)
   have hG7:Chg (·=b) v3 v7:=hGX.trans hD7 (fun _ _ h=>h)
   have hT7:v7.heap[T]? =some (.cells #[.int .i64 0,.int .i64 0,.slice none 0 0,.int .i64 0,.int .i64 0,.int .i64 0,.int .i64 0,.int .i64 0,.int .i64 0] 56 (0,0)):=(hD7.block T hTlX (by show T≠b;omega)).trans hTX
  |have hC7:Chg (·=b) w v7:=hC6.trans hD7 (fun _ _ h=>h)
   have hG7:Chg (·=b) v3 v7:=hG6.trans hD7 (fun _ _ h=>h)
   have hT7:v7.heap[T]? =some (.cells #[.int .i64 0,.int .i64 0,.slice none 0 0,.int .i64 0,.int .i64 0,.int .i64 0,.int .i64 0,.int .i64 0,.int .i64 0] 56 (0,0)):=(hD7.block T hTl6 (by show T≠b;omega)).trans hT6
 have hTl7:T<v7.heap.size:=by have:=hD7.size;omega
 refine ⟨_,rfl,rA0 trivial ?_⟩
 clear zh
 intro zh
 simp only [aP]
 refine tT 26 30 ?_
 have hg:=hG7
 have hgz:=hg.size
 have hU:RdE 3 Val.cells v7 (fun g=>w.heap.size≤g∧g<v7.heap.size∧g≠T) (.slice A3 Q3.length c3) Q3:=Rd.wide (Rd.keep hU3 (fun g hb=>hg.block g hb.2 (by have:=hb.1;omega))) (fun g hb=>⟨by have:=hb.1;omega,by have:=hb.2;omega,by have h1:=hb.1;have h2:=hb.2;have:=hT3;omega⟩)
 exact tl T v7 A3 c3 Q3 hTW hTl7 hT7 hS7 hC7 hU hI3 hE3) : P := h ⟨⟩
theorem zset9 {w:World} {T:Nat} {a0 a1 a2 a3 a4 a5 a6 a7 a8:Value} {e:TypeId} (h:w.heap[T]? =some (.cells #[a0,a1,a2,a3,a4,a5,a6,a7,a8] e (0,0))) (c0 c1 c2 c3 c4 c5 c6 c7 c8:Value):(((((((((w.setCell ⟨T,0,none⟩ c0).setCell ⟨T,1,none⟩ c1).setCell ⟨T,2,none⟩ c2).setCell ⟨T,3,none⟩ c3).setCell ⟨T,4,none⟩ c4).setCell ⟨T,5,none⟩ c5).setCell ⟨T,6,none⟩ c6).setCell ⟨T,7,none⟩ c7).setCell ⟨T,8,none⟩ c8).heap[T]? =some (.cells #[c0,c1,c2,c3,c4,c5,c6,c7,c8] e (0,0))∧Chg (·=T) w (((((((((w.setCell ⟨T,0,none⟩ c0).setCell ⟨T,1,none⟩ c1).setCell ⟨T,2,none⟩ c2).setCell ⟨T,3,none⟩ c3).setCell ⟨T,4,none⟩ c4).setCell ⟨T,5,none⟩ c5).setCell ⟨T,6,none⟩ c6).setCell ⟨T,7,none⟩ c7).setCell ⟨T,8,none⟩ c8):=by
 exact yq3 0
theorem infVerQ:(prog.info? 56).map (fun i=>(i.zero,i.size,i.bytes))=some (some (.agg #[.int .i64 0,.int .i64 0,.slice none 0 0,.int .i64 0,.int .i64 0,.int .i64 0,.int .i64 0,.int .i64 0,.int .i64 0]),9,88):=by kernel_rfl
theorem addVer_snoc (x:VP) (t:RTv):∀ts:List RTv,addVer x (ts++[t])=ts++[⟨t.table,t.A,t.C,t.vers++[x]⟩]
 |[]=>rfl
 |[_]=>rfl
 |a::b::r=>by
  have:=addVer_snoc x t (b::r)
  simp only [List.cons_append] at this ⊢
  unfold addVer
  rw [this]
theorem valQ_any (b:Nat) (l:List UInt8) (i:Nat) (d:Bool) (r:List Value) (w:World) (he:EnvP b w) (h:CurAt w b (strB l) i d r) (hi:i≤l.length) (hl:l.length≤4294967281):Calls prog 146 #[.pointer (some ⟨b,0,none⟩)] w (OneQ (fun x:Val=>.agg x.cells.toArray) (isC goV) id b l r (pVal l (i,d)) w):=
 (pvalue_any b l i d r w he h hi hl).mono fun _ _ ⟨a1,a2,a3⟩=>⟨_,a1,pVal_go l (i,d) hl,rfl,a2,a3⟩
theorem pversion_any (b:Nat) (l:List UInt8) (i:Nat) (d:Bool) (c:RSt) (ts:List RTv) (t:RTv) (w:World) (hts:c.tabs=ts++[t]) (he:EnvP b w) (h:CurAt w b (strB l) i d c.enc) (hO:StO w b c) (hN:t.vers.length≤4294967281) (hNt:c.tabs.length≤4294967281) (h0:0<i) (hi:i≤l.length) (hl:l.length≤4294967281):
  Calls prog 97 #[.pointer (some ⟨b,0,none⟩)] w fun e w'=>e=.returned (.tuple #[])∧PartQ b l (pPart l 4 c (i,d)) w w':=by
 have hbw:=h.lt
 obtain ⟨r,hr⟩:=eN0 c.enc
 rw [←hr] at h
 have hEV:∀V,Chg (·=b) w V→EnvP b V:=fun V hV=>he.chg hV (Nat.le_of_lt hbw)
 rcases h1:cnumI l (i,d) with ⟨n1,kk1,qq1⟩
 have u1:i≤kk1∧kk1≤l.length:=by have u:=adv_num (l:=l) (st:=(i,d)) hi;rw [h1] at u;exact u
 rcases h2:cnumI l (kk1,qq1) with ⟨n2,kk2,qq2⟩
 have u2:kk1≤kk2∧kk2≤l.length:=by have u:=adv_num (l:=l) (st:=(kk1,qq1)) u1.2;rw [h2] at u;exact u
 rcases h3:pMany l (pVal l) (kk2,qq2) with ⟨xs3,kk3,qq3⟩
 have u3:kk2≤kk3∧kk3≤l.length:=by have u:=adv_many (advV l).le (l:=l) (st:=(kk2,qq2)) u2.2;rw [h3] at u;exact u
 rcases h4:pPer l (kk3,qq3) with ⟨⟨f4,t4⟩,kk4,qq4⟩
 have u4:kk3≤kk4∧kk4≤l.length:=by have u:=adv_per (l:=l) (st:=(kk3,qq3)) u3.2;rw [h4] at u;exact u
 rcases h5:pPer l (kk4,qq4) with ⟨⟨f5,t5⟩,kk5,qq5⟩
 have u5:kk4≤kk5∧kk5≤l.length:=by have u:=adv_per (l:=l) (st:=(kk4,qq4)) u4.2;rw [h5] at u;exact u
 rcases h6:cnumI l (kk5,qq5) with ⟨n6,kk6,qq6⟩
 have u6:kk5≤kk6∧kk6≤l.length:=by have u:=adv_num (l:=l) (st:=(kk5,qq5)) u5.2;rw [h6] at u;exact u
 rcases h7:cnumI l (kk6,qq6) with ⟨n7,kk7,qq7⟩
 have u7:kk6≤kk7∧kk7≤l.length:=by have u:=adv_num (l:=l) (st:=(kk6,qq6)) u6.2;rw [h7] at u;exact u
 have K1:∀V,CurAt V b (strB l) i d r→Chg (·=b) w V→Calls prog 93 #[.pointer (some ⟨b,0,none⟩)] V fun x w'=>x=.returned (.int .i64 n1)∧CurAt w' b (strB l) kk1 qq1 r∧Chg (·=b) V w':=fun V hs hV=>by
  have k:=cnum_any b l i d r V (hEV V hV) hs hi hl
  rw [h1] at k
  exact k
 have K2:∀V,CurAt V b (strB l) kk1 qq1 r→Chg (·=b) w V→Calls prog 93 #[.pointer (some ⟨b,0,none⟩)] V fun x w'=>x=.returned (.int .i64 n2)∧CurAt w' b (strB l) kk2 qq2 r∧Chg (·=b) V w':=fun V hs hV=>by
  have k:=cnum_any b l kk1 qq1 r V (hEV V hV) hs u1.2 hl
  rw [h2] at k
  exact k
 have K3:∀V,CurAt V b (strB l) kk2 qq2 r→Chg (·=b) w V→Calls prog 147 #[.pointer (some ⟨b,0,none⟩),.func (.func 146) #[.pointer (some ⟨b,0,none⟩)] #[]] V (ManyQ 3 Val.cells (isC goV) id b l r (xs3,kk3,qq3) V):=fun V hs hV=>by
  have k:=manyVal_any b l (pVal l) 146 (entQ func146) kk2 qq2 r V (hEV V hV) hs (by omega) (by omega) hl (advV l) (fun k q U hsU hU hk0 hk1=>valQ_any b l k q r U (hEV U (hV.trans hU (fun _ _ h=>h))) hsU hk1 hl)
  rw [h3] at k
  exact k
 have K4:∀V,CurAt V b (strB l) kk3 qq3 r→Chg (·=b) w V→Calls prog 98 #[.pointer (some ⟨b,0,none⟩)] V fun x w'=>x=.returned (.agg #[.int .i64 f4,.int .i64 t4])∧CurAt w' b (strB l) kk4 qq4 r∧Chg (·=b) V w':=fun V hs hV=>by
  have k:=pper_any b l kk3 qq3 r V (hEV V hV) hs (by omega) u3.2 hl
  rw [h4] at k
  exact k.mono fun e w' ⟨y,a1,_,a3,a4,a5⟩=>⟨by simp only [id] at a3;rw [a1,a3],a4,a5⟩
 have K5:∀V,CurAt V b (strB l) kk4 qq4 r→Chg (·=b) w V→Calls prog 98 #[.pointer (some ⟨b,0,none⟩)] V fun x w'=>x=.returned (.agg #[.int .i64 f5,.int .i64 t5])∧CurAt w' b (strB l) kk5 qq5 r∧Chg (·=b) V w':=fun V hs hV=>by
  have k:=pper_any b l kk4 qq4 r V (hEV V hV) hs (by omega) u4.2 hl
  rw [h5] at k
  exact k.mono fun e w' ⟨y,a1,_,a3,a4,a5⟩=>⟨by simp only [id] at a3;rw [a1,a3],a4,a5⟩
 have K6:∀V,CurAt V b (strB l) kk5 qq5 r→Chg (·=b) w V→Calls prog 93 #[.pointer (some ⟨b,0,none⟩)] V fun x w'=>x=.returned (.int .i64 n6)∧CurAt w' b (strB l) kk6 qq6 r∧Chg (·=b) V w':=fun V hs hV=>by
  have k:=cnum_any b l kk5 qq5 r V (hEV V hV) hs u5.2 hl
  rw [h6] at k
  exact k
 have K7:∀V,CurAt V b (strB l) kk6 qq6 r→Chg (·=b) w V→Calls prog 93 #[.pointer (some ⟨b,0,none⟩)] V fun x w'=>x=.returned (.int .i64 n7)∧CurAt w' b (strB l) kk7 qq7 r∧Chg (·=b) V w':=fun V hs hV=>by
  have k:=cnum_any b l kk6 qq6 r V (hEV V hV) hs u6.2 hl
  rw [h7] at k
  exact k
 have hd:pVer l (i,d)=(⟨n1,n2,xs3,f4,t4,f5,t5,n6,n7⟩,kk7,qq7):=by unfold pVer;simp only [h1,h2,h3,h4,h5,h6,h7]
 have hS0:CurAt w.drew b (strB l) i d r:=h
 have hC0:Chg (·=b) w w.drew:=(Chg.refl _ _).drew
 have HD:=hI0 hd
 have HO:=hI0 hO
 have HRR:=hI0 hr
 clear h hd hEV he hO hr h1 u1 h2 u2 h3 u3 h4 u4 h5 u5 h6 u6 h7 u7
 go_in
 go_wp2_with fail
 refine (fun (tl:∀(T:Nat) (V:World) (A3:Option Addr) (c3:Nat) (Q3:List Val),w.heap.size≤T→T<V.heap.size→V.heap[T]? =some (.cells #[.int .i64 0,.int .i64 0,.slice none 0 0,.int .i64 0,.int .i64 0,.int .i64 0,.int .i64 0,.int .i64 0,.int .i64 0] 56 (0,0))→CurAt V b (strB l) kk7 qq7 r→Chg (·=b) w V→RdE 3 Val.cells V (fun g=>w.heap.size≤g∧g<V.heap.size∧g≠T) (.slice A3 Q3.length c3) Q3→(∀p∈Q3,isC goV V (fun _=>True) p)→Q3=xs3→(?Rest:Nat→World→Option Addr→Nat→List Val→Prop) T V A3 c3 Q3)=>?leaves) ?tail
 case leaves=>
  exact yq4 0
 case tail=>
  intro T V A3 c3 Q3 hTW hTlV hTV hSV hCV hUV hIV hEQ
  clear K1 K2 K3 K4 K5 K6 K7 hS0 hC0
  refine fork1 28 (by kernel_rfl) ?_
  refine skipRunF 28 none (w':=(((((((((V.setCell ⟨T,0,none⟩ (.int .i64 n1)).setCell ⟨T,1,none⟩ (.int .i64 n2)).setCell ⟨T,2,none⟩ (.slice A3 Q3.length c3)).setCell ⟨T,3,none⟩ (.int .i64 f4)).setCell ⟨T,4,none⟩ (.int .i64 t4)).setCell ⟨T,5,none⟩ (.int .i64 f5)).setCell ⟨T,6,none⟩ (.int .i64 t5)).setCell ⟨T,7,none⟩ (.int .i64 n6)).setCell ⟨T,8,none⟩ (.int .i64 n7))) rfl rfl (by rfl) ?_ ?_
  ·have p8:V.cell? ⟨T,8,none⟩=some (.int .i64 0):=cW0 V _ 8 _ _ _ hTV;have p7:V.cell? ⟨T,7,none⟩=some (.int .i64 0):=cW0 V _ 7 _ _ _ hTV;have p6:V.cell? ⟨T,6,none⟩=some (.int .i64 0):=cW0 V _ 6 _ _ _ hTV;have p5:V.cell? ⟨T,5,none⟩=some (.int .i64 0):=cW0 V _ 5 _ _ _ hTV;have p4:V.cell? ⟨T,4,none⟩=some (.int .i64 0):=cW0 V _ 4 _ _ _ hTV;have p3:V.cell? ⟨T,3,none⟩=some (.int .i64 0):=cW0 V _ 3 _ _ _ hTV;have p2:V.cell? ⟨T,2,none⟩=some (.slice none 0 0):=cW0 V _ 2 _ _ _ hTV;have p1:V.cell? ⟨T,1,none⟩=some (.int .i64 0):=cW0 V _ 1 _ _ _ hTV;have p0:V.cell? ⟨T,0,none⟩=some (.int .i64 0):=cW0 V _ 0 _ _ _ hTV;have g0:V.frozen? ⟨T,0,none⟩=false:=fW0 V _ 0 _ _ hTV;have g1:V.frozen? ⟨T,1,none⟩=false:=fW0 V _ 1 _ _ hTV;have g2:V.frozen? ⟨T,2,none⟩=false:=fW0 V _ 2 _ _ hTV;have g3:V.frozen? ⟨T,3,none⟩=false:=fW0 V _ 3 _ _ hTV;have g4:V.frozen? ⟨T,4,none⟩=false:=fW0 V _ 4 _ _ hTV;have g5:V.frozen? ⟨T,5,none⟩=false:=fW0 V _ 5 _ _ hTV;have g6:V.frozen? ⟨T,6,none⟩=false:=fW0 V _ 6 _ _ hTV;have g7:V.frozen? ⟨T,7,none⟩=false:=fW0 V _ 7 _ _ hTV;have g8:V.frozen? ⟨T,8,none⟩=false:=fW0 V _ 8 _ _ hTV;go_simp<;>with_reducible rfl
  have hZ:=zset9 hTV (.int .i64 n1) (.int .i64 n2) (.slice A3 Q3.length c3) (.int .i64 f4) (.int .i64 t4) (.int .i64 f5) (.int .i64 t5) (.int .i64 n6) (.int .i64 n7)
  generalize (((((((((V.setCell ⟨T,0,none⟩ (.int .i64 n1)).setCell ⟨T,1,none⟩ (.int .i64 n2)).setCell ⟨T,2,none⟩ (.slice A3 Q3.length c3)).setCell ⟨T,3,none⟩ (.int .i64 f4)).setCell ⟨T,4,none⟩ (.int .i64 t4)).setCell ⟨T,5,none⟩ (.int .i64 f5)).setCell ⟨T,6,none⟩ (.int .i64 t5)).setCell ⟨T,7,none⟩ (.int .i64 n6)).setCell ⟨T,8,none⟩ (.int .i64 n7))=Y at *
  have hzY:=hZ.2.size
  have hCY:Chg (·=b) w Y:=hCV.trans hZ.2 (fun i hi (h:i=T)=>by omega)
  have hTY:=hZ.1
  have hSY:CurAt Y b (strB l) kk7 qq7 r:=(hZ.2.block b hSV.lt (by show b≠T;omega)).trans hSV
  have hTl:T<Y.heap.size:=by omega
  have hUY:RdE 3 Val.cells Y (fun g=>w.heap.size≤g∧g<Y.heap.size) (.slice A3 Q3.length c3) Q3:=Rd.wide (Rd.keep hUV (fun g hg=>hZ.2.block g hg.2.1 hg.2.2)) (fun g hg=>⟨hg.1,by omega⟩)
  clear hZ hTV hSV hCV hTlV hUV
  refine ⟨fun h=>absurd rfl h,?_⟩
  simp only [Act.put]
  refine doneT (by kernel_rfl) ?_ _
  refine NoPanic.normal ?_
  rw [hEQ] at hUY
  have hVer:VerIs Y (fun g=>w.heap.size≤g∧g<Y.heap.size) (⟨n1,n2,A3,xs3.length,c3,f4,t4,f5,t5,n6,n7⟩:RV) ⟨n1,n2,xs3,f4,t4,f5,t5,n6,n7⟩:=⟨rfl,rfl,rfl,rfl,rfl,rfl,rfl,rfl,hUY,fun p hp=>hIV p (by rw [hEQ];exact hp)⟩
  have HVer:=hI0 hVer
  have HSY:=hI0 hSY
  rw [hEQ] at hTY
  have HTY:=hI0 hTY
  have HCY:=hI0 hCY
  clear hVer hSY hTY hCY hUY hIV
  have hOY:StO Y b c:=HO.out.chg HCY.out
  have hmem:(⟨37,2,.slice c.tA c.tabs.length c.tC,c.tabs.length,c.tabs.flatMap RTv.enc⟩:RowO)∈rowsO c:=List.mem_of_getElem? (i:=2) rfl
  have hown:Y.ownsRow (b+1) 37 2 (.slice c.tA c.tabs.length c.tC) c.tabs.length (c.tabs.flatMap RTv.enc):=hOY.own _ hmem
  have hlen:c.tabs.length=ts.length+1:=by rw [hts];simp
  obtain ⟨g,cur,hA,hgr,hcell⟩:∃g cur,c.tA=some ⟨g,0,none⟩∧Y.heap[g]? =some (.cells cur 37 (0,0))∧Y.cell? ⟨g,ts.length*2+1,none⟩=some (.slice t.A t.vers.length t.C):=by
   rcases hown.2 with ⟨_,h0⟩|⟨g,cap,cur,hv,_,hgr,_⟩
   ·omega
   ·have hA:c.tA=some ⟨g,0,none⟩:=by injection hv
    obtain ⟨b',off,e1,_,e2⟩:=RdE.at_ (enc:=RTv.enc) (fun _=>rfl) (by decide) (Rd.of_own hown) (k:=ts.length) (by omega)
    rw [hA] at e1
    injection e1 with e1
    injection e1 with e1 e3
    subst e1
    subst e3
    refine ⟨g,cur,hA,hgr,?_⟩
    have ht:c.tabs[ts.length]'(by omega)=t:=by simp [hts]
    have:=e2 ts.length (by omega) 1 (.slice t.A t.vers.length t.C) (by decide) (by rw [ht];rfl)
    simpa using this
  have hrow:CurAt Y b (strB l) kk7 qq7 c.enc:=by rw [←HRR.out];exact HSY.out
  have hix:(c.tabs.length:Int)-1=(ts.length:Int):=by omega
  have hwr:IntKind.i64.wrap (ts.length:Int)=(ts.length:Int):=by rw [IntKind.wrap_i64];omega
  have HOY:=hI0 hOY
  have HROW:=hI0 hrow
  have HA:=hI0 hA
  have HGR:=hI0 hgr
  have HCELL:=hI0 hcell
  clear hOY hown hrow hA hgr hcell
  go_wp2_with fail
  refine wp_region_noPanic ?_
  refine wp_region_held_drew (S:=(fun W1:World=>CurAt W1 b (strB l) kk7 qq7 c.enc)) (by kernel_rfl) ?_ (fun zh=>?_)
  ·exact HROW.out
  refine hT 0 31 ?_
  refine hT 1 32 ?_
  refine hT 2 33 ?_
  refine hT 3 34 ?_
  refine hU 4 35 (v:=?_) zh ?_ ?_
  rotate_left
  ·exact yq15
  refine hT 5 36 ?_
  refine hT 6 37 ?_
  refine hT 7 38 ?_
  refine hT 8 39 ?_
  refine hU 9 40 (v:=?_) zh ?_ ?_
  rotate_left
  ·exact yq15
  refine hT 10 41 ?_
  refine hT 11 42 ?_
  refine hU 12 43 (v:=?_) zh ?_ ?_
  rotate_left
  ·intro w' hSw;(try dsimp only at hSw);(go_simp;rw [if_pos (by omega:(ts.length:Int)<(ts.length:Int)+1)])
  refine hT 13 3 ?_
  refine rD0 ?_
  go_wp2_with fail
  have hlt:lastT c.tabs=t:=by rw [hts];exact lastT_snoc t _
  have hmv:verO t∈rowsO c:=by
   have h6:verO (lastT c.tabs)∈rowsO c:=List.mem_of_getElem? (i:=6) rfl
   rwa [hlt] at h6
  have hgl:g<Y.heap.size:=gL0 HGR.out
  have hgb:b<g:=(own_blockO (HOY.out.own _ hmem) (g:=g) (by rw [HA.out];rfl)).1
  have hgne:some g≠(Value.slice t.A t.vers.length t.C).ownBlock:=own_neO (HOY.out.own _ hmem) (HOY.out.own _ hmv) (by show (37 :Nat)≠56;decide) (by rw [HA.out];rfl)
  have hTne:some T≠(Value.slice t.A t.vers.length t.C).ownBlock:=fun e=>by have:=(own_blockO (HO.out.own _ hmv) e).2.1;omega
  have hob:some b≠(Value.slice t.A t.vers.length t.C).ownBlock:=fun e=>Nat.lt_irrefl _ (own_blockO (HO.out.own _ hmv) e).1
  have hobl:∀k,some k=(Value.slice t.A t.vers.length t.C).ownBlock→b<k:=fun k e=>(own_blockO (HO.out.own _ hmv) e).1
  obtain ⟨i0,hI,hz0,hz1,hz2⟩:=info_parts infVerQ
  have HI:=hI0 hI
  have HZ0:=hI0 hz0
  have HZ1:=hI0 hz1
  have HZ2:=hI0 hz2
  clear hI hz0 hz1 hz2
  refine wp_region_noPanic ?_
  refine beginT (S:=(fun W1:World=>W1.cell? ⟨g,ts.length*2+1,none⟩=some (.slice t.A t.vers.length t.C)∧W1.heap[T]? =some (.cells #[.int .i64 n1,.int .i64 n2,.slice A3 xs3.length c3,.int .i64 f4,.int .i64 t4,.int .i64 f5,.int .i64 t5,.int .i64 n6,.int .i64 n7] 56 (0,0)))) 10 (by kernel_rfl) ?_ (fun zh=>?_)
  ·exact ⟨HCELL.out,HTY.out⟩
  refine tT 0 44 ?_
  refine tT 1 45 ?_
  refine tT 2 46 ?_
  refine tT 3 47 ?_
  refine tU 4 48 (v:=?_) zh ?_ ?_
  rotate_left
  ·intro w' hSw;(try dsimp only at hSw);(have p1:=hSw.1;go_simp<;>with_reducible rfl)
  refine tU 5 49 (v:=?_) zh ?_ ?_
  rotate_left
  ·intro w' hSw;(try dsimp only at hSw);(have p8:w'.cell? ⟨T,8,none⟩=some (.int .i64 n7):=cW0 w' _ 8 _ _ _ hSw.2;have p7:w'.cell? ⟨T,7,none⟩=some (.int .i64 n6):=cW0 w' _ 7 _ _ _ hSw.2;have p6:w'.cell? ⟨T,6,none⟩=some (.int .i64 t5):=cW0 w' _ 6 _ _ _ hSw.2;have p5:w'.cell? ⟨T,5,none⟩=some (.int .i64 f5):=cW0 w' _ 5 _ _ _ hSw.2;have p4:w'.cell? ⟨T,4,none⟩=some (.int .i64 t4):=cW0 w' _ 4 _ _ _ hSw.2;have p3:w'.cell? ⟨T,3,none⟩=some (.int .i64 f4):=cW0 w' _ 3 _ _ _ hSw.2;have p2:w'.cell? ⟨T,2,none⟩=some (.slice A3 xs3.length c3):=cW0 w' _ 2 _ _ _ hSw.2;have p1:w'.cell? ⟨T,1,none⟩=some (.int .i64 n2):=cW0 w' _ 1 _ _ _ hSw.2;have p0:w'.cell? ⟨T,0,none⟩=some (.int .i64 n1):=cW0 w' _ 0 _ _ _ hSw.2;go_simp<;>with_reducible rfl)
  have hNew:(fun W1:World=>W1.cell? ⟨g,ts.length*2+1,none⟩=some (.slice t.A t.vers.length t.C)∧W1.heap[T]? =some (.cells #[.int .i64 n1,.int .i64 n2,.slice A3 xs3.length c3,.int .i64 f4,.int .i64 t4,.int .i64 f5,.int .i64 t5,.int .i64 n6,.int .i64 n7] 56 (0,0))) (Y.drew.drew.alloc (.cells #[.int .i64 n1,.int .i64 n2,.slice A3 xs3.length c3,.int .i64 f4,.int .i64 t4,.int .i64 f5,.int .i64 t5,.int .i64 n6,.int .i64 n7] 56)):=by exact ⟨(World.cell?_of_block ((Below.of_alloc (w:=Y.drew.drew) _).block g hgl)).trans HCELL.out,((Below.of_alloc (w:=Y.drew.drew) _).block T hTl).trans HTY.out⟩
  refine runT 6 (some 50) (v:=.slice (some ⟨Y.heap.size,0,none⟩) 1 1) (w':=Y.drew.drew.alloc (.cells #[.int .i64 n1,.int .i64 n2,.slice A3 xs3.length c3,.int .i64 f4,.int .i64 t4,.int .i64 f5,.int .i64 t5,.int .i64 n6,.int .i64 n7] 56)) rfl rfl (by kernel_rfl) (by rfl) ?_ (fun _=>hNew) ?_
  ·go_simp<;>with_reducible rfl
  clear zh
  have zh:=hNew
  clear hNew
  simp only [aP]
  refine opT 7 rfl (by kernel_rfl) (by rfl) ?_
  have hA:StO (Y.drew.drew.alloc (.cells #[.int .i64 n1,.int .i64 n2,.slice A3 xs3.length c3,.int .i64 f4,.int .i64 t4,.int .i64 f5,.int .i64 t5,.int .i64 n6,.int .i64 n7] 56)) b c:=HOY.out.chg (((Chg.refl (·=b) Y).drew.drew).alloc _)
  have hown:(Y.drew.drew.alloc (.cells #[.int .i64 n1,.int .i64 n2,.slice A3 xs3.length c3,.int .i64 f4,.int .i64 t4,.int .i64 f5,.int .i64 t5,.int .i64 n6,.int .i64 n7] 56)).ownsRow (b+1) 56 9 (.slice t.A t.vers.length t.C) t.vers.length (t.vers.flatMap encVP):=hA.own _ hmv
  refine wp_append_app _ (.tmp 48) (.tmp 50) 35 rfl (b+1) 56 i0 _ 9 88 underlying35 HI.out HZ0.out HZ1.out HZ2.out rfl (by omega) (.slice t.A t.vers.length t.C) t.vers.length (t.vers.flatMap encVP) rfl (.inl hown) (·=Y.heap.size) _ 1 [.int .i64 n1,.int .i64 n2,.slice A3 xs3.length c3,.int .i64 f4,.int .i64 t4,.int .i64 f5,.int .i64 t5,.int .i64 n6,.int .i64 n7] rfl (Rd.new' Y.drew.drew Y.heap.size rfl [.int .i64 n1,.int .i64 n2,.slice A3 xs3.length c3,.int .i64 f4,.int .i64 t4,.int .i64 f5,.int .i64 t5,.int .i64 n6,.int .i64 n7] 56 9 1 rfl (by decide)) (fun u hu=>by simp only [List.mem_cons,List.not_mem_nil,or_false] at hu;rcases hu with rfl|rfl|rfl|rfl|rfl|rfl|rfl|rfl|rfl<;>rfl) (by unfold maxLen;omega) (by omega) (by simp;omega) ?_
  intro v' w3 _ hO3 hg3 hb3 hv3
  have hO3:=hO3 (.inl (by omega))
  have hx:VerIs (Y.drew.drew.alloc (.cells #[.int .i64 n1,.int .i64 n2,.slice A3 xs3.length c3,.int .i64 f4,.int .i64 t4,.int .i64 f5,.int .i64 t5,.int .i64 n6,.int .i64 n7] 56)) (frO (rowsO c) (Y.drew.drew.alloc (.cells #[.int .i64 n1,.int .i64 n2,.slice A3 xs3.length c3,.int .i64 f4,.int .i64 t4,.int .i64 f5,.int .i64 t5,.int .i64 n6,.int .i64 n7] 56)) b) (((⟨n1,n2,A3,xs3.length,c3,f4,t4,f5,t5,n6,n7⟩:RV),(⟨n1,n2,xs3,f4,t4,f5,t5,n6,n7⟩:Ver)):VP).1 (((⟨n1,n2,A3,xs3.length,c3,f4,t4,f5,t5,n6,n7⟩:RV),(⟨n1,n2,xs3,f4,t4,f5,t5,n6,n7⟩:Ver)):VP).2:=(HVer.out.keep (fun g hg=>(Below.of_alloc (w:=Y.drew.drew) _).block g hg.2)).wide (fun g hg=>HO.out.fresh hbw hg.1 (by simp;have:=hg.2;omega))
  obtain ⟨A9,c9,rfl,hSt,hCh⟩:=StO.pushV hA hts (x:=(((⟨n1,n2,A3,xs3.length,c3,f4,t4,f5,t5,n6,n7⟩:RV),(⟨n1,n2,xs3,f4,t4,f5,t5,n6,n7⟩:Ver)):VP)) hx hO3 hg3 hv3 (g:=g) (by rw [HA.out];rfl)
  have hk3:(fun W1:World=>W1.cell? ⟨g,ts.length*2+1,none⟩=some (.slice t.A t.vers.length t.C)∧W1.heap[T]? =some (.cells #[.int .i64 n1,.int .i64 n2,.slice A3 xs3.length c3,.int .i64 f4,.int .i64 t4,.int .i64 f5,.int .i64 t5,.int .i64 n6,.int .i64 n7] 56 (0,0))) w3:=⟨(World.cell?_of_block (hg3.block g (by simp;omega) hgne)).trans ((World.cell?_of_block ((Below.of_alloc (w:=Y.drew.drew) _).block g hgl)).trans HCELL.out),(hg3.block T (by simp;omega) hTne).trans (((Below.of_alloc (w:=Y.drew.drew) _).block T hTl).trans HTY.out)⟩
  refine rA0 hk3 ?_
  clear zh
  intro zh
  simp only [aP]
  refine runT 8 (some 52) (v:=?_) (w':=_) rfl rfl (by kernel_rfl) (by rfl) ?_ (fun _=>zh) ?_
  rotate_left
  ·go_simp<;>with_reducible rfl
  simp only [aP]
  refine tT 9 53 ?_
  refine skipRunT 10 none (w':=w3.setCell ⟨g,ts.length*2+1,none⟩ (.slice A9 (t.vers.length+1) c9)) rfl rfl (by kernel_rfl) (by rfl) ?_ (fun h=>absurd rfl h) ?_
  ·(have p8:=hk3.1;have g8:w3.frozen? ⟨g,ts.length*2+1,none⟩=false:=fW0 w3 _ _ _ _ ((hg3.block g (by simp;omega) hgne).trans (((Below.of_alloc (w:=Y.drew.drew) _).block g hgl).trans HGR.out));go_simp<;>with_reducible rfl)
  clear zh
  simp only [Act.put]
  refine doneT (by kernel_rfl) ?_ _
  refine NoPanic.normal ?_
  have hbl:Below b w (w3.setCell ⟨g,ts.length*2+1,none⟩ (.slice A9 (t.vers.length+1) c9)):=((HCY.out.below (Nat.le_of_lt hbw) (fun _ e=>by omega)).trans (((Chg.refl (·=b) Y).drew.drew.alloc (.cells #[.int .i64 n1,.int .i64 n2,.slice A3 xs3.length c3,.int .i64 f4,.int .i64 t4,.int .i64 f5,.int .i64 t5,.int .i64 n6,.int .i64 n7] 56)).below (by have:=HCY.out.size;omega) (fun _ e=>by omega))).trans (hCh.below (by have:=HCY.out.size;simp;omega) (fun k e=>by rcases e with e|e;exact Nat.le_of_lt (hobl k e);omega))
  have hcu:CurAt (w3.setCell ⟨g,ts.length*2+1,none⟩ (.slice A9 (t.vers.length+1) c9)) b (strB l) kk7 qq7 c.enc:=(hCh.block b (by have:=HCY.out.size;simp;omega) (fun e=>by rcases e with e|e;exact hob e;omega)).trans (((Below.of_alloc (w:=Y.drew.drew) _).block b (by have:=HCY.out.size;show b<Y.heap.size;omega)).trans HROW.out)
  have hen:({ c with tabs:=ts++[⟨t.table,A9,c9,t.vers++[(((⟨n1,n2,A3,xs3.length,c3,f4,t4,f5,t5,n6,n7⟩:RV),(⟨n1,n2,xs3,f4,t4,f5,t5,n6,n7⟩:Ver)):VP)]⟩] }:RSt).enc=c.enc:=by simp [RSt.enc,hts]
  have hadd:addVer (rvP ⟨n1,n2,xs3,f4,t4,f5,t5,n6,n7⟩) (ts++[t])=ts++[⟨t.table,t.A,t.C,t.vers++[rvP ⟨n1,n2,xs3,f4,t4,f5,t5,n6,n7⟩]⟩]:=addVer_snoc _ _ _
  have her:({ c with tabs:=ts++[⟨t.table,A9,c9,t.vers++[(((⟨n1,n2,A3,xs3.length,c3,f4,t4,f5,t5,n6,n7⟩:RV),(⟨n1,n2,xs3,f4,t4,f5,t5,n6,n7⟩:Ver)):VP)]⟩] }:RSt).er=(pPart l 4 c (i,d)).1.er:=by
   have hp1:(pPart l 4 c (i,d)).1= { c with tabs:=addVer (rvP (pVer l (i,d)).1) c.tabs }:=by unfold pPart;simp
   rw [hp1,HD.out]
   simp only [hts]
   rw [hadd]
   simp [RSt.er,RTv.er,verEr,rvP]
  have hp2:(pPart l 4 c (i,d)).2=(kk7,qq7):=by unfold pPart;simp [HD.out]
  have HFIN:Hid (PartQ b l (pPart l 4 c (i,d)) w (w3.setCell ⟨g,ts.length*2+1,none⟩ (.slice A9 (t.vers.length+1) c9))):=hI0 ⟨_,her,by rw [hp2,hen];exact hcu,hSt,hbl⟩
  go_wp2_with fail
  go_end0
  exact ⟨rfl,HFIN.out⟩
end Go.Proofs.YtgfhknnklapldaaGreatDoor
