/-
 PbK
-/
import Derived.Test.YtgfhknnklapldaaGreatDoorBPcD
import Derived.Test.YtgfhknnklapldaaGreatDoorBPbI
import Derived.Test.YtgfhknnklapldaaGreatDoorBPbH
import Derived.Test.YtgfhknnklapldaaGreatDoorBPbG
import Derived.Test.YtgfhknnklapldaaGreatDoorBPbF
import Derived.Test.YtgfhknnklapldaaGreatDoorBPbE
import Derived.Test.YtgfhknnklapldaaGreatDoorBPbD
import Derived.Test.YtgfhknnklapldaaGreatDoorBPbC
import Derived.Test.YtgfhknnklapldaaGreatDoorBPbB
import Derived.Test.YtgfhknnklapldaaGreatDoorBPbA
import Derived.Test.YtgfhknnklapldaaGreatDoorBBase
import Derived.Test.YtgfhknnklapldaaGreatDoorBDuJ
import Derived.Deep.Cut
namespace Go.Proofs.YtgfhknnklapldaaGreatDoor
open Go.Proofs.Tryz
set_option maxRecDepth 99999
set_option maxHeartbeats 0
open Go.RowKit Go.Lib Go.IntWalk Go.Sort Go.Shelf
theorem yq5 {P:Prop} (i:Nat) (h:Th i→P:=by
 intro yT5
 first
  |guard_hyp yT5:Th 1;refine fC 3 26 ?_
   (with_reducible refine (K4 _ hS0 hC0).mono ?_)
   rintro _ v4 ⟨rfl,hS4,hD4⟩
   have hC4:Chg (·=b) W v4:=hC0.trans hD4 (fun _ _ h=>h)
   have hz4:=hD4.size
   have hT4:v4.heap[T]? =some (.cells #[.int .i64 n1,.string n2,.string ⟨#[]⟩,.slice none 0 0,.slice none 0 0,.slice none 0 0,.slice none 0 0,.int .i64 0,.string ⟨#[]⟩,.string ⟨#[]⟩,.string ⟨#[]⟩,.int .i64 0,.bool false,.int .i64 0,.int .i64 0,.string ⟨#[]⟩] 79 (0,0)):=(hD4.block T (by omega) (by show T≠b;omega)).trans hTz
   have hTl4:T<v4.heap.size:=by omega
   have hY4:Y3.heap.size≤v4.heap.size:=by have:Y3.drew.heap.size=Y3.heap.size:=rfl;omega
   refine ⟨_,rfl,rA0 (HA.out _ hC4) ?_⟩
   clear zh
   intro zh
   simp only [aP]
   refine fork2 7 15 (by kernel_rfl) ?_ ?_
  |refine wp_region_noPanic ?_
   refine beginT (S:=(fun Y:World=>Y.heap[w.heap.size]? =some (.cells #[.pointer (some ⟨b,0,none⟩)] 175 (0,0)))) 16 (by kernel_rfl) ?_ (fun zh=>?_)
   ·exact HA.out _ hC0
   refine tU 0 23 (v:=?_) zh ?_ ?_
   rotate_left
   ·exact yq28
   refine tT 1 24 ?_
   refine tT 2 25 ?_
   refine tU 4 27 (v:=?_) zh ?_ ?_
   rotate_left
   ·exact yq28
   refine tU 5 28 (v:=?_) zh ?_ ?_
   rotate_left
   ·exact yq28
   refine tU 6 29 (v:=?_) zh ?_ ?_
   rotate_left
   ·exact yq27
   refine tU 8 31 (v:=?_) zh ?_ ?_
   rotate_left
   ·exact yq28
   refine tU 9 32 (v:=?_) zh ?_ ?_
   rotate_left
   ·exact yq28
   refine tT 10 33 ?_
   refine tT 11 34 ?_
   refine tU 12 35 (v:=?_) zh ?_ ?_
   rotate_left
   ·exact yq27
   refine fork2 3 15 (by kernel_rfl) ?_ ?_
 ·first
   |guard_hyp yT5:Th 1;refine fC 7 30 ?_
    (with_reducible refine (K5 _ hS4 hC4).mono ?_)
    rintro _ v5 ⟨u5,Q5,rfl,hR5,-,hE5,hS5,hD5⟩
    rw [List.map_id] at hE5
    have HE5:=hI0 hE5
    clear hE5
    obtain ⟨A5,c5,rfl⟩:=rdQ_slice hR5
    have hC5:Chg (·=b) W v5:=hC4.trans hD5 (fun _ _ h=>h)
    have hz5:=hD5.size
    have hT5:v5.heap[T]? =some (.cells #[.int .i64 n1,.string n2,.string ⟨#[]⟩,.slice none 0 0,.slice none 0 0,.slice none 0 0,.slice none 0 0,.int .i64 0,.string ⟨#[]⟩,.string ⟨#[]⟩,.string ⟨#[]⟩,.int .i64 0,.bool false,.int .i64 0,.int .i64 0,.string ⟨#[]⟩] 79 (0,0)):=(hD5.block T (by omega) (by show T≠b;omega)).trans hT4
    have hTl5:T<v5.heap.size:=by omega
    have hY5:Y3.heap.size≤v5.heap.size:=by have:Y3.drew.heap.size=Y3.heap.size:=rfl;omega
    have hG5:RdE 3 RCol.enc v5 (fun g=>Y3.heap.size≤g∧g<v5.heap.size) (.slice A5 Q5.length c5) Q5:=Rd.wide hR5 (fun g hg=>⟨by have:=hg.1;omega,hg.2⟩)
    refine ⟨_,rfl,rA0 (HA.out _ hC5) ?_⟩
   |refine fC 3 26 ?_
    (with_reducible refine (K4 _ hS0 hC0).mono ?_)
    rintro _ v4 ⟨rfl,hS4,hD4⟩
    have hC4:Chg (·=b) W v4:=hC0.trans hD4 (fun _ _ h=>h)
    have hz4:=hD4.size
    have hT4:v4.heap[T]? =some (.cells #[.int .i64 n1,.string n2,.string ⟨#[]⟩,.slice none 0 0,.slice none 0 0,.slice none 0 0,.slice none 0 0,.int .i64 0,.string ⟨#[]⟩,.string ⟨#[]⟩,.string ⟨#[]⟩,.int .i64 0,.bool false,.int .i64 0,.int .i64 0,.string ⟨#[]⟩] 79 (0,0)):=(hD4.block T (by omega) (by show T≠b;omega)).trans hTz
    have hTl4:T<v4.heap.size:=by omega
    have hY4:Y3.heap.size≤v4.heap.size:=by have:Y3.drew.heap.size=Y3.heap.size:=rfl;omega
    refine ⟨_,rfl,rA0 (HA.out _ hC4) ?_⟩
  clear zh
  intro zh
  simp only [aP]
  first
   |guard_hyp yT5:Th 1;refine fork2 13 15 (by kernel_rfl) ?_ ?_
   |refine fork2 7 15 (by kernel_rfl) ?_ ?_
  ·first
    |guard_hyp yT5:Th 1;refine fC 13 36 ?_
     (with_reducible refine (K6 _ hS5 hC5).mono ?_)
     rintro _ v6 ⟨u6,Q6,rfl,hR6,-,hE6,hS6,hD6⟩
     rw [List.map_id] at hE6
     have HE6:=hI0 hE6
     clear hE6
     obtain ⟨A6,c6,rfl⟩:=rdQ_slice hR6
     have hC6:Chg (·=b) W v6:=hC5.trans hD6 (fun _ _ h=>h)
     have hz6:=hD6.size
     have hT6:v6.heap[T]? =some (.cells #[.int .i64 n1,.string n2,.string ⟨#[]⟩,.slice none 0 0,.slice none 0 0,.slice none 0 0,.slice none 0 0,.int .i64 0,.string ⟨#[]⟩,.string ⟨#[]⟩,.string ⟨#[]⟩,.int .i64 0,.bool false,.int .i64 0,.int .i64 0,.string ⟨#[]⟩] 79 (0,0)):=(hD6.block T (by omega) (by show T≠b;omega)).trans hT5
     have hTl6:T<v6.heap.size:=by omega
     have hY6:Y3.heap.size≤v6.heap.size:=by have:Y3.drew.heap.size=Y3.heap.size:=rfl;omega
     have hG6:RdE 1 intE v6 (fun g=>Y3.heap.size≤g∧g<v6.heap.size) (.slice A6 Q6.length c6) Q6:=Rd.wide hR6 (fun g hg=>⟨by have:=hg.1;omega,hg.2⟩)
     have hG5:RdE 3 RCol.enc v6 (fun g=>Y3.heap.size≤g∧g<v6.heap.size) (.slice A5 Q5.length c5) Q5:=Rd.wide (Rd.keep hG5 (fun g hg=>hD6.block g hg.2 yi12)) (fun g hg=>⟨hg.1,by have:=hg.2;omega⟩)
     refine ⟨_,rfl,rA0 (HA.out _ hC6) ?_⟩
    |refine fC 7 30 ?_
     (with_reducible refine (K5 _ hS4 hC4).mono ?_)
     rintro _ v5 ⟨u5,Q5,rfl,hR5,-,hE5,hS5,hD5⟩
     rw [List.map_id] at hE5
     have HE5:=hI0 hE5
     clear hE5
     obtain ⟨A5,c5,rfl⟩:=rdQ_slice hR5
     have hC5:Chg (·=b) W v5:=hC4.trans hD5 (fun _ _ h=>h)
     have hz5:=hD5.size
     have hT5:v5.heap[T]? =some (.cells #[.int .i64 n1,.string n2,.string ⟨#[]⟩,.slice none 0 0,.slice none 0 0,.slice none 0 0,.slice none 0 0,.int .i64 0,.string ⟨#[]⟩,.string ⟨#[]⟩,.string ⟨#[]⟩,.int .i64 0,.bool false,.int .i64 0,.int .i64 0,.string ⟨#[]⟩] 79 (0,0)):=(hD5.block T (by omega) (by show T≠b;omega)).trans hT4
     have hTl5:T<v5.heap.size:=by omega
     have hY5:Y3.heap.size≤v5.heap.size:=by have:Y3.drew.heap.size=Y3.heap.size:=rfl;omega
     have hG5:RdE 3 RCol.enc v5 (fun g=>Y3.heap.size≤g∧g<v5.heap.size) (.slice A5 Q5.length c5) Q5:=Rd.wide hR5 (fun g hg=>⟨by have:=hg.1;omega,hg.2⟩)
     refine ⟨_,rfl,rA0 (HA.out _ hC5) ?_⟩
   clear zh
   intro zh
   simp only [aP]
   first
    |guard_hyp yT5:Th 1;refine tT 14 37 ?_
     refine fork1 15 (by kernel_rfl) ?_
     refine runF 15 (some 3) (v:=.pointer (some ⟨v6.heap.size,0,none⟩)) (w':=v6.alloc (.cells #[.string ⟨#[]⟩,.slice none 0 0,.slice none 0 0,.slice none 0 0,.slice none 0 0] 73)) rfl rfl (by rfl) ?_ ?_
    |refine fork2 13 15 (by kernel_rfl) ?_ ?_
   ·first
     |guard_hyp yT5:Th 1;go_simp<;>with_reducible rfl
     |refine fC 13 36 ?_
      (with_reducible refine (K6 _ hS5 hC5).mono ?_)
      rintro _ v6 ⟨u6,Q6,rfl,hR6,-,hE6,hS6,hD6⟩
      rw [List.map_id] at hE6
      have HE6:=hI0 hE6
      clear hE6
      obtain ⟨A6,c6,rfl⟩:=rdQ_slice hR6
      have hC6:Chg (·=b) W v6:=hC5.trans hD6 (fun _ _ h=>h)
      have hz6:=hD6.size
      have hT6:v6.heap[T]? =some (.cells #[.int .i64 n1,.string n2,.string ⟨#[]⟩,.slice none 0 0,.slice none 0 0,.slice none 0 0,.slice none 0 0,.int .i64 0,.string ⟨#[]⟩,.string ⟨#[]⟩,.string ⟨#[]⟩,.int .i64 0,.bool false,.int .i64 0,.int .i64 0,.string ⟨#[]⟩] 79 (0,0)):=(hD6.block T (by omega) (by show T≠b;omega)).trans hT5
      have hTl6:T<v6.heap.size:=by omega
      have hY6:Y3.heap.size≤v6.heap.size:=by have:Y3.drew.heap.size=Y3.heap.size:=rfl;omega
      have hG6:RdE 1 intE v6 (fun g=>Y3.heap.size≤g∧g<v6.heap.size) (.slice A6 Q6.length c6) Q6:=Rd.wide hR6 (fun g hg=>⟨by have:=hg.1;omega,hg.2⟩)
      have hG5:RdE 3 RCol.enc v6 (fun g=>Y3.heap.size≤g∧g<v6.heap.size) (.slice A5 Q5.length c5) Q5:=Rd.wide (Rd.keep hG5 (fun g hg=>hD6.block g hg.2 yi12)) (fun g hg=>⟨hg.1,by have:=hg.2;omega⟩)
      refine ⟨_,rfl,rA0 (HA.out _ hC6) ?_⟩
      clear zh
      intro zh
      simp only [aP]
      refine tT 14 37 ?_
      refine fork1 15 (by kernel_rfl) ?_
      refine runF 15 (some 3) (v:=.pointer (some ⟨v6.heap.size,0,none⟩)) (w':=v6.alloc (.cells #[.string ⟨#[]⟩,.slice none 0 0,.slice none 0 0,.slice none 0 0,.slice none 0 0] 73)) rfl rfl (by rfl) ?_ ?_
      ·go_simp<;>with_reducible rfl
      obtain ⟨U,hUe⟩:=eN0 v6.heap.size
      rw [←hUe]
      obtain ⟨X,hX⟩:=eN0 (v6.alloc (.cells #[.string ⟨#[]⟩,.slice none 0 0,.slice none 0 0,.slice none 0 0,.slice none 0 0] 73))
      rw [←hX]
      have hbX:=bN0 hX
      have hSX:CurAt X b (strB l) kk6 qq6 r:=hS6.below hbX
      have hCX:Chg (·=b) W X:=hC6.trans (Chg.of_below hbX _) (fun _ _ h=>h)
      have hzX:=hbX.size
      have hTX:X.heap[T]? =some (.cells #[.int .i64 n1,.string n2,.string ⟨#[]⟩,.slice none 0 0,.slice none 0 0,.slice none 0 0,.slice none 0 0,.int .i64 0,.string ⟨#[]⟩,.string ⟨#[]⟩,.string ⟨#[]⟩,.int .i64 0,.bool false,.int .i64 0,.int .i64 0,.string ⟨#[]⟩] 79 (0,0)):=(hbX.block T (by omega)).trans hT6
      have hTlX:T<X.heap.size:=by omega
      have hUX:X.heap[U]? =some (.cells #[.string ⟨#[]⟩,.slice none 0 0,.slice none 0 0,.slice none 0 0,.slice none 0 0] 73 (0,0)):=by rw [hX,hUe];exact heap_alloc_new _ _
      have hUlX:U<X.heap.size:=by rw [hX,hUe];simp
      have hUY:Y3.heap.size≤U:=by omega
      have hG5:RdE 3 RCol.enc X (fun g=>Y3.heap.size≤g∧g<X.heap.size∧g≠U) (.slice A5 Q5.length c5) Q5:=Rd.wide (Rd.keep hG5 (fun g hg=>hbX.block g hg.2)) (fun g hg=>⟨hg.1,by have:=hg.2;omega,by have:=hg.2;omega⟩)
      have hG6:RdE 1 intE X (fun g=>Y3.heap.size≤g∧g<X.heap.size∧g≠U) (.slice A6 Q6.length c6) Q6:=Rd.wide (Rd.keep hG6 (fun g hg=>hbX.block g hg.2)) (fun g hg=>⟨hg.1,by have:=hg.2;omega,by have:=hg.2;omega⟩)
      clear hX hUe hbX
      refine rA0 (HA.out _ hCX) ?_
      clear zh
      intro zh
      simp only [aP]
      exact tl U X A5 c5 Q5 A6 c6 Q6 hUY hUlX hUX hTX hSX hCX hG5 hG6 HE5.out HE6.out
   first
    |guard_hyp yT5:Th 1;obtain ⟨U,hUe⟩:=eN0 v6.heap.size
     rw [←hUe]
     obtain ⟨X,hX⟩:=eN0 (v6.alloc (.cells #[.string ⟨#[]⟩,.slice none 0 0,.slice none 0 0,.slice none 0 0,.slice none 0 0] 73))
     rw [←hX]
     have hbX:=bN0 hX
     have hSX:CurAt X b (strB l) kk6 qq6 r:=hS6.below hbX
     have hCX:Chg (·=b) W X:=hC6.trans (Chg.of_below hbX _) (fun _ _ h=>h)
     have hzX:=hbX.size
     have hTX:X.heap[T]? =some (.cells #[.int .i64 n1,.string n2,.string ⟨#[]⟩,.slice none 0 0,.slice none 0 0,.slice none 0 0,.slice none 0 0,.int .i64 0,.string ⟨#[]⟩,.string ⟨#[]⟩,.string ⟨#[]⟩,.int .i64 0,.bool false,.int .i64 0,.int .i64 0,.string ⟨#[]⟩] 79 (0,0)):=(hbX.block T (by omega)).trans hT6
     have hTlX:T<X.heap.size:=by omega
     have hUX:X.heap[U]? =some (.cells #[.string ⟨#[]⟩,.slice none 0 0,.slice none 0 0,.slice none 0 0,.slice none 0 0] 73 (0,0)):=by rw [hX,hUe];exact heap_alloc_new _ _
     have hUlX:U<X.heap.size:=by rw [hX,hUe];simp
     have hUY:Y3.heap.size≤U:=by omega
     have hG5:RdE 3 RCol.enc X (fun g=>Y3.heap.size≤g∧g<X.heap.size∧g≠U) (.slice A5 Q5.length c5) Q5:=Rd.wide (Rd.keep hG5 (fun g hg=>hbX.block g hg.2)) (fun g hg=>⟨hg.1,by have:=hg.2;omega,by have:=hg.2;omega⟩)
     have hG6:RdE 1 intE X (fun g=>Y3.heap.size≤g∧g<X.heap.size∧g≠U) (.slice A6 Q6.length c6) Q6:=Rd.wide (Rd.keep hG6 (fun g hg=>hbX.block g hg.2)) (fun g hg=>⟨hg.1,by have:=hg.2;omega,by have:=hg.2;omega⟩)
     clear hX hUe hbX
     refine rA0 (HA.out _ hCX) ?_
     clear zh
     intro zh
     simp only [aP]
     exact tl U X A5 c5 Q5 A6 c6 Q6 hUY hUlX hUX hTX hSX hCX hG5 hG6 HE5.out HE6.out
    |·exact yq24 1
  ·exact yq24 0
 ·first
   |guard_hyp yT5:Th 1;refine runF 15 (some 3) (v:=.pointer (some ⟨v4.heap.size,0,none⟩)) (w':=v4.alloc (.cells #[.string ⟨#[]⟩,.slice none 0 0,.slice none 0 0,.slice none 0 0,.slice none 0 0] 73)) rfl rfl (by rfl) ?_ ?_
   |refine runF 15 (some 3) (v:=.pointer (some ⟨Y3.drew.heap.size,0,none⟩)) (w':=Y3.drew.alloc (.cells #[.string ⟨#[]⟩,.slice none 0 0,.slice none 0 0,.slice none 0 0,.slice none 0 0] 73)) rfl rfl (by rfl) ?_ ?_
  ·go_simp<;>with_reducible rfl
  first
   |guard_hyp yT5:Th 1;obtain ⟨U,hUe⟩:=eN0 v4.heap.size
   |obtain ⟨U,hUe⟩:=eN0 Y3.drew.heap.size
  rw [←hUe]
  first
   |guard_hyp yT5:Th 1;obtain ⟨X,hX⟩:=eN0 (v4.alloc (.cells #[.string ⟨#[]⟩,.slice none 0 0,.slice none 0 0,.slice none 0 0,.slice none 0 0] 73))
   |obtain ⟨X,hX⟩:=eN0 (Y3.drew.alloc (.cells #[.string ⟨#[]⟩,.slice none 0 0,.slice none 0 0,.slice none 0 0,.slice none 0 0] 73))
  rw [←hX]
  have hbX:=bN0 hX
  first
   |guard_hyp yT5:Th 1;have hSX:CurAt X b (strB l) kk4 qq4 r:=hS4.below hbX
    have hCX:Chg (·=b) W X:=hC4.trans (Chg.of_below hbX _) (fun _ _ h=>h)
   |have hSX:CurAt X b (strB l) kk3 qq3 r:=hS0.below hbX
    have hCX:Chg (·=b) W X:=hC0.trans (Chg.of_below hbX _) (fun _ _ h=>h)
  have hzX:=hbX.size
  first
   |guard_hyp yT5:Th 1;have hTX:X.heap[T]? =some (.cells #[.int .i64 n1,.string n2,.string ⟨#[]⟩,.slice none 0 0,.slice none 0 0,.slice none 0 0,.slice none 0 0,.int .i64 0,.string ⟨#[]⟩,.string ⟨#[]⟩,.string ⟨#[]⟩,.int .i64 0,.bool false,.int .i64 0,.int .i64 0,.string ⟨#[]⟩] 79 (0,0)):=(hbX.block T (by omega)).trans hT4
   |have hTX:X.heap[T]? =some (.cells #[.int .i64 n1,.string n2,.string ⟨#[]⟩,.slice none 0 0,.slice none 0 0,.slice none 0 0,.slice none 0 0,.int .i64 0,.string ⟨#[]⟩,.string ⟨#[]⟩,.string ⟨#[]⟩,.int .i64 0,.bool false,.int .i64 0,.int .i64 0,.string ⟨#[]⟩] 79 (0,0)):=(hbX.block T (by omega)).trans hTz
  have hTlX:T<X.heap.size:=by omega
  have hUX:X.heap[U]? =some (.cells #[.string ⟨#[]⟩,.slice none 0 0,.slice none 0 0,.slice none 0 0,.slice none 0 0] 73 (0,0)):=by rw [hX,hUe];exact heap_alloc_new _ _
  have hUlX:U<X.heap.size:=by rw [hX,hUe];simp
  first
   |guard_hyp yT5:Th 1;have hUY:Y3.heap.size≤U:=by omega
   |have hUY:Y3.heap.size≤U:=by have e3:Y3.drew.heap.size=Y3.heap.size:=rfl;omega
  clear hX hUe hbX
  refine rA0 (HA.out _ hCX) ?_
  clear zh
  intro zh
  simp only [aP]
  first
   |done
   |guard_hyp yT5:Th 1
   |refine fork1 3 (by kernel_rfl) ?_
    refine fC 3 26 ?_
    (with_reducible refine (K4 _ hSX hCX).mono ?_)
    rintro _ v4 ⟨rfl,hS4,hD4⟩
    have hC4:Chg (·=b) W v4:=hCX.trans hD4 (fun _ _ h=>h)
    have hz4:=hD4.size
    have hT4:v4.heap[T]? =some (.cells #[.int .i64 n1,.string n2,.string ⟨#[]⟩,.slice none 0 0,.slice none 0 0,.slice none 0 0,.slice none 0 0,.int .i64 0,.string ⟨#[]⟩,.string ⟨#[]⟩,.string ⟨#[]⟩,.int .i64 0,.bool false,.int .i64 0,.int .i64 0,.string ⟨#[]⟩] 79 (0,0)):=(hD4.block T (by omega) (by show T≠b;omega)).trans hTX
    have hTl4:T<v4.heap.size:=by omega
    have hU4:v4.heap[U]? =some (.cells #[.string ⟨#[]⟩,.slice none 0 0,.slice none 0 0,.slice none 0 0,.slice none 0 0] 73 (0,0)):=(hD4.block U hUlX (by show U≠b;omega)).trans hUX
    have hUl4:U<v4.heap.size:=by omega
    have hY4:Y3.heap.size≤v4.heap.size:=by have:Y3.drew.heap.size=Y3.heap.size:=rfl;omega
    refine ⟨_,rfl,rA0 (HA.out _ hC4) ?_⟩
    clear zh
    intro zh
    simp only [aP]
  refine fork1 7 (by kernel_rfl) ?_
  refine fC 7 30 ?_
  first
   |guard_hyp yT5:Th 1;(with_reducible refine (K5 _ hSX hCX).mono ?_)
   |(with_reducible refine (K5 _ hS4 hC4).mono ?_)
  rintro _ v5 ⟨u5,Q5,rfl,hR5,-,hE5,hS5,hD5⟩
  rw [List.map_id] at hE5
  have HE5:=hI0 hE5
  clear hE5
  obtain ⟨A5,c5,rfl⟩:=rdQ_slice hR5
  first
   |guard_hyp yT5:Th 1;have hC5:Chg (·=b) W v5:=hCX.trans hD5 (fun _ _ h=>h)
   |have hC5:Chg (·=b) W v5:=hC4.trans hD5 (fun _ _ h=>h)
  have hz5:=hD5.size
  first
   |guard_hyp yT5:Th 1;have hT5:v5.heap[T]? =some (.cells #[.int .i64 n1,.string n2,.string ⟨#[]⟩,.slice none 0 0,.slice none 0 0,.slice none 0 0,.slice none 0 0,.int .i64 0,.string ⟨#[]⟩,.string ⟨#[]⟩,.string ⟨#[]⟩,.int .i64 0,.bool false,.int .i64 0,.int .i64 0,.string ⟨#[]⟩] 79 (0,0)):=(hD5.block T (by omega) (by show T≠b;omega)).trans hTX
   |have hT5:v5.heap[T]? =some (.cells #[.int .i64 n1,.string n2,.string ⟨#[]⟩,.slice none 0 0,.slice none 0 0,.slice none 0 0,.slice none 0 0,.int .i64 0,.string ⟨#[]⟩,.string ⟨#[]⟩,.string ⟨#[]⟩,.int .i64 0,.bool false,.int .i64 0,.int .i64 0,.string ⟨#[]⟩] 79 (0,0)):=(hD5.block T (by omega) (by show T≠b;omega)).trans hT4
  have hTl5:T<v5.heap.size:=by omega
  first
   |guard_hyp yT5:Th 1;have hU5:v5.heap[U]? =some (.cells #[.string ⟨#[]⟩,.slice none 0 0,.slice none 0 0,.slice none 0 0,.slice none 0 0] 73 (0,0)):=(hD5.block U hUlX (by show U≠b;omega)).trans hUX
   |have hU5:v5.heap[U]? =some (.cells #[.string ⟨#[]⟩,.slice none 0 0,.slice none 0 0,.slice none 0 0,.slice none 0 0] 73 (0,0)):=(hD5.block U hUl4 (by show U≠b;omega)).trans hU4
  have hUl5:U<v5.heap.size:=by omega
  have hY5:Y3.heap.size≤v5.heap.size:=by have:Y3.drew.heap.size=Y3.heap.size:=rfl;omega
  have hG5:RdE 3 RCol.enc v5 (fun g=>Y3.heap.size≤g∧g<v5.heap.size∧g≠U) (.slice A5 Q5.length c5) Q5:=Rd.wide hR5 (fun g hg=>⟨by have:=hg.1;omega,hg.2,by have:=hg.1;omega⟩)
  refine ⟨_,rfl,rA0 (HA.out _ hC5) ?_⟩
  clear zh
  intro zh
  simp only [aP]
  refine fork1 13 (by kernel_rfl) ?_
  refine fC 13 36 ?_
  (with_reducible refine (K6 _ hS5 hC5).mono ?_)
  rintro _ v6 ⟨u6,Q6,rfl,hR6,-,hE6,hS6,hD6⟩
  rw [List.map_id] at hE6
  have HE6:=hI0 hE6
  clear hE6
  obtain ⟨A6,c6,rfl⟩:=rdQ_slice hR6
  have hC6:Chg (·=b) W v6:=hC5.trans hD6 (fun _ _ h=>h)
  have hz6:=hD6.size
  have hT6:v6.heap[T]? =some (.cells #[.int .i64 n1,.string n2,.string ⟨#[]⟩,.slice none 0 0,.slice none 0 0,.slice none 0 0,.slice none 0 0,.int .i64 0,.string ⟨#[]⟩,.string ⟨#[]⟩,.string ⟨#[]⟩,.int .i64 0,.bool false,.int .i64 0,.int .i64 0,.string ⟨#[]⟩] 79 (0,0)):=(hD6.block T (by omega) (by show T≠b;omega)).trans hT5
  have hTl6:T<v6.heap.size:=by omega
  have hU6:v6.heap[U]? =some (.cells #[.string ⟨#[]⟩,.slice none 0 0,.slice none 0 0,.slice none 0 0,.slice none 0 0] 73 (0,0)):=(hD6.block U hUl5 (by show U≠b;omega)).trans hU5
  have hUl6:U<v6.heap.size:=by omega
  have hY6:Y3.heap.size≤v6.heap.size:=by have:Y3.drew.heap.size=Y3.heap.size:=rfl;omega
  have hG6:RdE 1 intE v6 (fun g=>Y3.heap.size≤g∧g<v6.heap.size∧g≠U) (.slice A6 Q6.length c6) Q6:=Rd.wide hR6 (fun g hg=>⟨by have:=hg.1;omega,hg.2,by have:=hg.1;omega⟩)
  have hG5:RdE 3 RCol.enc v6 (fun g=>Y3.heap.size≤g∧g<v6.heap.size∧g≠U) (.slice A5 Q5.length c5) Q5:=Rd.wide (Rd.keep hG5 (fun g hg=>hD6.block g hg.2.1 yi12)) (fun g hg=>⟨hg.1,by have:=hg.2;omega,hg.2.2⟩)
  refine ⟨_,rfl,rA0 (HA.out _ hC6) ?_⟩
  clear zh
  intro zh
  simp only [aP]
  refine tT 14 37 ?_
  exact tl U v6 A5 c5 Q5 A6 c6 Q6 hUY hUl6 hU6 hT6 hS6 hC6 hG5 hG6 HE5.out HE6.out) : P := h ⟨⟩
theorem yq10 {P:Prop} (i:Nat) (h:Th i→P:=by
 intro yT10
 first
  |guard_hyp yT10:Th 1;refine runF 9 (some 2) (v:=.pointer (some ⟨v1.heap.size,0,none⟩)) (w':=v1.alloc (.cells #[.int .i64 0,.string ⟨#[]⟩,.string ⟨#[]⟩,.slice none 0 0,.slice none 0 0,.slice none 0 0,.slice none 0 0,.int .i64 0,.string ⟨#[]⟩,.string ⟨#[]⟩,.string ⟨#[]⟩,.int .i64 0,.bool false,.int .i64 0,.int .i64 0,.string ⟨#[]⟩] 79)) rfl rfl (by rfl) ?_ ?_
  |refine runF 9 (some 2) (v:=.pointer (some ⟨W.drew.heap.size,0,none⟩)) (w':=W.drew.alloc (.cells #[.int .i64 0,.string ⟨#[]⟩,.string ⟨#[]⟩,.slice none 0 0,.slice none 0 0,.slice none 0 0,.slice none 0 0,.int .i64 0,.string ⟨#[]⟩,.string ⟨#[]⟩,.string ⟨#[]⟩,.int .i64 0,.bool false,.int .i64 0,.int .i64 0,.string ⟨#[]⟩] 79)) rfl rfl (by rfl) ?_ ?_
 ·go_simp<;>with_reducible rfl
 first
  |guard_hyp yT10:Th 1;obtain ⟨T,hTe⟩:=eN0 v1.heap.size
  |obtain ⟨T,hTe⟩:=eN0 W.drew.heap.size
 rw [←hTe]
 first
  |guard_hyp yT10:Th 1;obtain ⟨X,hX⟩:=eN0 (v1.alloc (.cells #[.int .i64 0,.string ⟨#[]⟩,.string ⟨#[]⟩,.slice none 0 0,.slice none 0 0,.slice none 0 0,.slice none 0 0,.int .i64 0,.string ⟨#[]⟩,.string ⟨#[]⟩,.string ⟨#[]⟩,.int .i64 0,.bool false,.int .i64 0,.int .i64 0,.string ⟨#[]⟩] 79))
  |obtain ⟨X,hX⟩:=eN0 (W.drew.alloc (.cells #[.int .i64 0,.string ⟨#[]⟩,.string ⟨#[]⟩,.slice none 0 0,.slice none 0 0,.slice none 0 0,.slice none 0 0,.int .i64 0,.string ⟨#[]⟩,.string ⟨#[]⟩,.string ⟨#[]⟩,.int .i64 0,.bool false,.int .i64 0,.int .i64 0,.string ⟨#[]⟩] 79))
 rw [←hX]
 have hbX:=bN0 hX
 first
  |guard_hyp yT10:Th 1;have hSX:CurAt X b (strB l) kk1 qq1 r:=hS1.below hbX
   have hCX:Chg (·=b) W X:=hC1.trans (Chg.of_below hbX _) (fun _ _ h=>h)
  |have hSX:CurAt X b (strB l) i d r:=hS0.below hbX
   have hCX:Chg (·=b) W X:=hC0.trans (Chg.of_below hbX _) (fun _ _ h=>h)
 have hTX:X.heap[T]? =some (.cells #[.int .i64 0,.string ⟨#[]⟩,.string ⟨#[]⟩,.slice none 0 0,.slice none 0 0,.slice none 0 0,.slice none 0 0,.int .i64 0,.string ⟨#[]⟩,.string ⟨#[]⟩,.string ⟨#[]⟩,.int .i64 0,.bool false,.int .i64 0,.int .i64 0,.string ⟨#[]⟩] 79 (0,0)):=by rw [hX,hTe];exact heap_alloc_new _ _
 have hTlX:T<X.heap.size:=by rw [hX,hTe];simp
 first
  |guard_hyp yT10:Th 1;have hTW:W.heap.size≤T:=by rw [hTe];exact hC1.size
  |have hTW:W.heap.size≤T:=by rw [hTe];exact hC0.size
 clear hX hTe hbX
 refine rA0 (HA.out _ hCX) ?_
 clear zh
 intro zh
 simp only [aP]
 first
  |done
  |guard_hyp yT10:Th 1
  |refine fork1 3 (by kernel_rfl) ?_
   refine fC 3 7 ?_
   (with_reducible refine (K1 _ hSX hCX).mono ?_)
   rintro _ v1 ⟨rfl,hS1,hD1⟩
   have hC1:Chg (·=b) W v1:=hCX.trans hD1 (fun _ _ h=>h)
   have hT1:v1.heap[T]? =some (.cells #[.int .i64 0,.string ⟨#[]⟩,.string ⟨#[]⟩,.slice none 0 0,.slice none 0 0,.slice none 0 0,.slice none 0 0,.int .i64 0,.string ⟨#[]⟩,.string ⟨#[]⟩,.string ⟨#[]⟩,.int .i64 0,.bool false,.int .i64 0,.int .i64 0,.string ⟨#[]⟩] 79 (0,0)):=(hD1.block T hTlX (by show T≠b;omega)).trans hTX
   have hTl1:T<v1.heap.size:=by have:=hD1.size;omega
   refine ⟨_,rfl,rA0 (HA.out _ hC1) ?_⟩
   clear zh
   intro zh
   simp only [aP]
 refine fork1 7 (by kernel_rfl) ?_
 refine fC 7 11 ?_
 first
  |guard_hyp yT10:Th 1;(with_reducible refine (K2 _ hSX hCX).mono ?_)
  |(with_reducible refine (K2 _ hS1 hC1).mono ?_)
 rintro _ v2 ⟨rfl,hS2,hD2⟩
 first
  |guard_hyp yT10:Th 1;have hC2:Chg (·=b) W v2:=hCX.trans hD2 (fun _ _ h=>h)
   have hT2:v2.heap[T]? =some (.cells #[.int .i64 0,.string ⟨#[]⟩,.string ⟨#[]⟩,.slice none 0 0,.slice none 0 0,.slice none 0 0,.slice none 0 0,.int .i64 0,.string ⟨#[]⟩,.string ⟨#[]⟩,.string ⟨#[]⟩,.int .i64 0,.bool false,.int .i64 0,.int .i64 0,.string ⟨#[]⟩] 79 (0,0)):=(hD2.block T hTlX (by show T≠b;omega)).trans hTX
  |have hC2:Chg (·=b) W v2:=hC1.trans hD2 (fun _ _ h=>h)
   have hT2:v2.heap[T]? =some (.cells #[.int .i64 0,.string ⟨#[]⟩,.string ⟨#[]⟩,.slice none 0 0,.slice none 0 0,.slice none 0 0,.slice none 0 0,.int .i64 0,.string ⟨#[]⟩,.string ⟨#[]⟩,.string ⟨#[]⟩,.int .i64 0,.bool false,.int .i64 0,.int .i64 0,.string ⟨#[]⟩] 79 (0,0)):=(hD2.block T hTl1 (by show T≠b;omega)).trans hT1
 have hTl2:T<v2.heap.size:=by have:=hD2.size;omega
 refine ⟨_,rfl,rA0 (HA.out _ hC2) ?_⟩
 clear zh
 intro zh
 simp only [aP]
 refine tT 8 12 ?_
 exact tl T v2 hTW hTl2 hT2 hS2 hC2) : P := h ⟨⟩
theorem yq17 {P:Prop} (h:P:=by
 (have p8:w3.cell? ⟨b,7,none⟩=some (.slice c.eA c.ents.length c.eC):=cW0 w3 _ 7 _ _ _ hS9;have g8:w3.frozen? ⟨b,7,none⟩=false:=fW0 w3 _ _ _ _ hS9;go_simp<;>with_reducible rfl)) : P := h
theorem yq18 {P:Prop} (h:P:=by
 have:=(own_blockO (HO.out.own _ (List.mem_of_getElem? (i:=0) rfl:(⟨79,16,.slice c.eA c.ents.length c.eC,c.ents.length,c.ents.flatMap REn.enc⟩:RowO)∈rowsO c)) e).2.1
 omega) : P := h
theorem yq19 {P:Prop} (h:P:=by
 intro w' hSw;(try dsimp only at hSw);have q0:w'.cell? ⟨w.heap.size,0,none⟩=some (.pointer (some ⟨b,0,none⟩)):=cW0 w' _ 0 _ _ _ hSw.2.1;go_simp<;>with_reducible rfl) : P := h
theorem yq20 {P:Prop} (h:P:=by
 intro w' hSw;(try dsimp only at hSw);have p8:w'.cell? ⟨b,7,none⟩=some (.slice c.eA c.ents.length c.eC):=cW0 w' _ 7 _ _ _ hSw.1;go_simp<;>with_reducible rfl) : P := h
theorem yq24 {P:Prop} (i:Nat) (h:Th i→P:=by
 intro yT24
 first
  |guard_hyp yT24:Th 1;refine runF 15 (some 3) (v:=.pointer (some ⟨v5.heap.size,0,none⟩)) (w':=v5.alloc (.cells #[.string ⟨#[]⟩,.slice none 0 0,.slice none 0 0,.slice none 0 0,.slice none 0 0] 73)) rfl rfl (by rfl) ?_ ?_
  |guard_hyp yT5:Th 1;refine runF 15 (some 3) (v:=.pointer (some ⟨v5.heap.size,0,none⟩)) (w':=v5.alloc (.cells #[.string ⟨#[]⟩,.slice none 0 0,.slice none 0 0,.slice none 0 0,.slice none 0 0] 73)) rfl rfl (by rfl) ?_ ?_
  |refine runF 15 (some 3) (v:=.pointer (some ⟨v4.heap.size,0,none⟩)) (w':=v4.alloc (.cells #[.string ⟨#[]⟩,.slice none 0 0,.slice none 0 0,.slice none 0 0,.slice none 0 0] 73)) rfl rfl (by rfl) ?_ ?_
 ·go_simp<;>with_reducible rfl
 first
  |guard_hyp yT24:Th 1;obtain ⟨U,hUe⟩:=eN0 v5.heap.size
  |guard_hyp yT5:Th 1;obtain ⟨U,hUe⟩:=eN0 v5.heap.size
  |obtain ⟨U,hUe⟩:=eN0 v4.heap.size
 rw [←hUe]
 first
  |guard_hyp yT24:Th 1;obtain ⟨X,hX⟩:=eN0 (v5.alloc (.cells #[.string ⟨#[]⟩,.slice none 0 0,.slice none 0 0,.slice none 0 0,.slice none 0 0] 73))
  |guard_hyp yT5:Th 1;obtain ⟨X,hX⟩:=eN0 (v5.alloc (.cells #[.string ⟨#[]⟩,.slice none 0 0,.slice none 0 0,.slice none 0 0,.slice none 0 0] 73))
  |obtain ⟨X,hX⟩:=eN0 (v4.alloc (.cells #[.string ⟨#[]⟩,.slice none 0 0,.slice none 0 0,.slice none 0 0,.slice none 0 0] 73))
 rw [←hX]
 have hbX:=bN0 hX
 first
  |guard_hyp yT24:Th 1;have hSX:CurAt X b (strB l) kk5 qq5 r:=hS5.below hbX
   have hCX:Chg (·=b) W X:=hC5.trans (Chg.of_below hbX _) (fun _ _ h=>h)
  |guard_hyp yT5:Th 1;have hSX:CurAt X b (strB l) kk5 qq5 r:=hS5.below hbX
   have hCX:Chg (·=b) W X:=hC5.trans (Chg.of_below hbX _) (fun _ _ h=>h)
  |have hSX:CurAt X b (strB l) kk4 qq4 r:=hS4.below hbX
   have hCX:Chg (·=b) W X:=hC4.trans (Chg.of_below hbX _) (fun _ _ h=>h)
 have hzX:=hbX.size
 first
  |guard_hyp yT24:Th 1;have hTX:X.heap[T]? =some (.cells #[.int .i64 n1,.string n2,.string ⟨#[]⟩,.slice none 0 0,.slice none 0 0,.slice none 0 0,.slice none 0 0,.int .i64 0,.string ⟨#[]⟩,.string ⟨#[]⟩,.string ⟨#[]⟩,.int .i64 0,.bool false,.int .i64 0,.int .i64 0,.string ⟨#[]⟩] 79 (0,0)):=(hbX.block T (by omega)).trans hT5
  |guard_hyp yT5:Th 1;have hTX:X.heap[T]? =some (.cells #[.int .i64 n1,.string n2,.string ⟨#[]⟩,.slice none 0 0,.slice none 0 0,.slice none 0 0,.slice none 0 0,.int .i64 0,.string ⟨#[]⟩,.string ⟨#[]⟩,.string ⟨#[]⟩,.int .i64 0,.bool false,.int .i64 0,.int .i64 0,.string ⟨#[]⟩] 79 (0,0)):=(hbX.block T (by omega)).trans hT5
  |have hTX:X.heap[T]? =some (.cells #[.int .i64 n1,.string n2,.string ⟨#[]⟩,.slice none 0 0,.slice none 0 0,.slice none 0 0,.slice none 0 0,.int .i64 0,.string ⟨#[]⟩,.string ⟨#[]⟩,.string ⟨#[]⟩,.int .i64 0,.bool false,.int .i64 0,.int .i64 0,.string ⟨#[]⟩] 79 (0,0)):=(hbX.block T (by omega)).trans hT4
 have hTlX:T<X.heap.size:=by omega
 have hUX:X.heap[U]? =some (.cells #[.string ⟨#[]⟩,.slice none 0 0,.slice none 0 0,.slice none 0 0,.slice none 0 0] 73 (0,0)):=by rw [hX,hUe];exact heap_alloc_new _ _
 have hUlX:U<X.heap.size:=by rw [hX,hUe];simp
 have hUY:Y3.heap.size≤U:=by omega
 first
  |done
  |guard_hyp yT24:Th 1;have hG5:RdE 3 RCol.enc X (fun g=>Y3.heap.size≤g∧g<X.heap.size∧g≠U) (.slice A5 Q5.length c5) Q5:=Rd.wide (Rd.keep hG5 (fun g hg=>hbX.block g hg.2)) (fun g hg=>⟨hg.1,by have:=hg.2;omega,by have:=hg.2;omega⟩)
  |guard_hyp yT5:Th 1;have hG5:RdE 3 RCol.enc X (fun g=>Y3.heap.size≤g∧g<X.heap.size∧g≠U) (.slice A5 Q5.length c5) Q5:=Rd.wide (Rd.keep hG5 (fun g hg=>hbX.block g hg.2)) (fun g hg=>⟨hg.1,by have:=hg.2;omega,by have:=hg.2;omega⟩)
  |skip
 clear hX hUe hbX
 refine rA0 (HA.out _ hCX) ?_
 clear zh
 intro zh
 simp only [aP]
 first
  |done
  |guard_hyp yT24:Th 1
  |guard_hyp yT5:Th 1
  |refine fork1 7 (by kernel_rfl) ?_
   refine fC 7 30 ?_
   (with_reducible refine (K5 _ hSX hCX).mono ?_)
   rintro _ v5 ⟨u5,Q5,rfl,hR5,-,hE5,hS5,hD5⟩
   rw [List.map_id] at hE5
   have HE5:=hI0 hE5
   clear hE5
   obtain ⟨A5,c5,rfl⟩:=rdQ_slice hR5
   have hC5:Chg (·=b) W v5:=hCX.trans hD5 (fun _ _ h=>h)
   have hz5:=hD5.size
   have hT5:v5.heap[T]? =some (.cells #[.int .i64 n1,.string n2,.string ⟨#[]⟩,.slice none 0 0,.slice none 0 0,.slice none 0 0,.slice none 0 0,.int .i64 0,.string ⟨#[]⟩,.string ⟨#[]⟩,.string ⟨#[]⟩,.int .i64 0,.bool false,.int .i64 0,.int .i64 0,.string ⟨#[]⟩] 79 (0,0)):=(hD5.block T (by omega) (by show T≠b;omega)).trans hTX
   have hTl5:T<v5.heap.size:=by omega
   have hU5:v5.heap[U]? =some (.cells #[.string ⟨#[]⟩,.slice none 0 0,.slice none 0 0,.slice none 0 0,.slice none 0 0] 73 (0,0)):=(hD5.block U hUlX (by show U≠b;omega)).trans hUX
   have hUl5:U<v5.heap.size:=by omega
   have hY5:Y3.heap.size≤v5.heap.size:=by have:Y3.drew.heap.size=Y3.heap.size:=rfl;omega
   have hG5:RdE 3 RCol.enc v5 (fun g=>Y3.heap.size≤g∧g<v5.heap.size∧g≠U) (.slice A5 Q5.length c5) Q5:=Rd.wide hR5 (fun g hg=>⟨by have:=hg.1;omega,hg.2,by have:=hg.1;omega⟩)
   refine ⟨_,rfl,rA0 (HA.out _ hC5) ?_⟩
   clear zh
   intro zh
   simp only [aP]
 refine fork1 13 (by kernel_rfl) ?_
 refine fC 13 36 ?_
 first
  |guard_hyp yT24:Th 1;(with_reducible refine (K6 _ hSX hCX).mono ?_)
  |guard_hyp yT5:Th 1;(with_reducible refine (K6 _ hSX hCX).mono ?_)
  |(with_reducible refine (K6 _ hS5 hC5).mono ?_)
 rintro _ v6 ⟨u6,Q6,rfl,hR6,-,hE6,hS6,hD6⟩
 rw [List.map_id] at hE6
 have HE6:=hI0 hE6
 clear hE6
 obtain ⟨A6,c6,rfl⟩:=rdQ_slice hR6
 first
  |guard_hyp yT24:Th 1;have hC6:Chg (·=b) W v6:=hCX.trans hD6 (fun _ _ h=>h)
  |guard_hyp yT5:Th 1;have hC6:Chg (·=b) W v6:=hCX.trans hD6 (fun _ _ h=>h)
  |have hC6:Chg (·=b) W v6:=hC5.trans hD6 (fun _ _ h=>h)
 have hz6:=hD6.size
 first
  |guard_hyp yT24:Th 1;have hT6:v6.heap[T]? =some (.cells #[.int .i64 n1,.string n2,.string ⟨#[]⟩,.slice none 0 0,.slice none 0 0,.slice none 0 0,.slice none 0 0,.int .i64 0,.string ⟨#[]⟩,.string ⟨#[]⟩,.string ⟨#[]⟩,.int .i64 0,.bool false,.int .i64 0,.int .i64 0,.string ⟨#[]⟩] 79 (0,0)):=(hD6.block T (by omega) (by show T≠b;omega)).trans hTX
  |guard_hyp yT5:Th 1;have hT6:v6.heap[T]? =some (.cells #[.int .i64 n1,.string n2,.string ⟨#[]⟩,.slice none 0 0,.slice none 0 0,.slice none 0 0,.slice none 0 0,.int .i64 0,.string ⟨#[]⟩,.string ⟨#[]⟩,.string ⟨#[]⟩,.int .i64 0,.bool false,.int .i64 0,.int .i64 0,.string ⟨#[]⟩] 79 (0,0)):=(hD6.block T (by omega) (by show T≠b;omega)).trans hTX
  |have hT6:v6.heap[T]? =some (.cells #[.int .i64 n1,.string n2,.string ⟨#[]⟩,.slice none 0 0,.slice none 0 0,.slice none 0 0,.slice none 0 0,.int .i64 0,.string ⟨#[]⟩,.string ⟨#[]⟩,.string ⟨#[]⟩,.int .i64 0,.bool false,.int .i64 0,.int .i64 0,.string ⟨#[]⟩] 79 (0,0)):=(hD6.block T (by omega) (by show T≠b;omega)).trans hT5
 have hTl6:T<v6.heap.size:=by omega
 first
  |guard_hyp yT24:Th 1;have hU6:v6.heap[U]? =some (.cells #[.string ⟨#[]⟩,.slice none 0 0,.slice none 0 0,.slice none 0 0,.slice none 0 0] 73 (0,0)):=(hD6.block U hUlX (by show U≠b;omega)).trans hUX
  |guard_hyp yT5:Th 1;have hU6:v6.heap[U]? =some (.cells #[.string ⟨#[]⟩,.slice none 0 0,.slice none 0 0,.slice none 0 0,.slice none 0 0] 73 (0,0)):=(hD6.block U hUlX (by show U≠b;omega)).trans hUX
  |have hU6:v6.heap[U]? =some (.cells #[.string ⟨#[]⟩,.slice none 0 0,.slice none 0 0,.slice none 0 0,.slice none 0 0] 73 (0,0)):=(hD6.block U hUl5 (by show U≠b;omega)).trans hU5
 have hUl6:U<v6.heap.size:=by omega
 have hY6:Y3.heap.size≤v6.heap.size:=by have:Y3.drew.heap.size=Y3.heap.size:=rfl;omega
 have hG6:RdE 1 intE v6 (fun g=>Y3.heap.size≤g∧g<v6.heap.size∧g≠U) (.slice A6 Q6.length c6) Q6:=Rd.wide hR6 (fun g hg=>⟨by have:=hg.1;omega,hg.2,by have:=hg.1;omega⟩)
 have hG5:RdE 3 RCol.enc v6 (fun g=>Y3.heap.size≤g∧g<v6.heap.size∧g≠U) (.slice A5 Q5.length c5) Q5:=Rd.wide (Rd.keep hG5 (fun g hg=>hD6.block g hg.2.1 yi12)) (fun g hg=>⟨hg.1,by have:=hg.2;omega,hg.2.2⟩)
 refine ⟨_,rfl,rA0 (HA.out _ hC6) ?_⟩
 clear zh
 intro zh
 simp only [aP]
 refine tT 14 37 ?_
 exact tl U v6 A5 c5 Q5 A6 c6 Q6 hUY hUl6 hU6 hT6 hS6 hC6 hG5 hG6 HE5.out HE6.out) : P := h ⟨⟩
theorem yq28 {P:Prop} (h:P:=by
 intro w' hSw;(try dsimp only at hSw);have c0:=cW1 (v:=.pointer (some ⟨b,0,none⟩)) 0 hSw rfl;go_simp<;>with_reducible rfl) : P := h
theorem yi12 {P:Prop} (h:P:=by have:=hg.1;show g≠b;omega):P:=h
theorem set_row {w:World} {T j:Nat} {A:Array Value} {e:TypeId} (h:w.heap[T]? =some (.cells A e (0,0))) (x:Value):(w.setCell ⟨T,j,none⟩ x).heap[T]? =some (.cells (A.setIfInBounds j x) e (0,0))∧Chg (·=T) w (w.setCell ⟨T,j,none⟩ x):=⟨by have:=heap_setCell_same w T j _ _ x h;simpa using this,(Chg.refl (·=T) w).setCell (p:=⟨T,j,none⟩) (.inl rfl) x⟩
theorem RE.er_er:∀e:RE,e.er.er=e.er:=by
 have h:∀(n:Nat) (e:RE),e.nodes≤n→e.er.er=e.er:=by
  intro n
  induction n with
  |zero=>intro e h;have:=e.nodes_pos;omega
  |succ n ih=>
   intro e h
   obtain ⟨op,it,val,nm,A,c,args⟩:=e
   rw [reErQ,reErQ,List.map_map]
   congr 1
   refine List.map_congr_left fun x hx=>ih x ?_
   have h2:=nodes_mem hx
   simp only [RE.nodes,nodesL_sum] at h
   omega
 exact fun e=>h e.nodes e (Nat.le_refl _)
def LF (Z V:World) (U g:Nat):Prop:=Z.heap.size≤g∧g<V.heap.size∧g≠U
theorem LF.go {Z V V':World} {U:Nat} {S:Nat→Prop} (h:Chg S V V') (hS:∀i,S i→i<Z.heap.size∨i=U):Keeps (LF Z V U) V V'∧∀g,LF Z V U g→LF Z V' U g:=
 ⟨fun g hg=>h.block g hg.2.1 (fun e=>by have:=hg.1;have:=hg.2.2;rcases hS g e with h|h<;>omega),fun g hg=>⟨hg.1,Nat.lt_of_lt_of_le hg.2.1 h.size,hg.2.2⟩⟩
theorem LF.tab {Z V V':World} {U:Nat} {S:Nat→Prop} {t:RTab} (ht:t.is V (LF Z V U)) (h:Chg S V V') (hS:∀i,S i→i<Z.heap.size∨i=U):t.is V' (LF Z V' U):=rTab_kw ht (LF.go h hS).1 (LF.go h hS).2
theorem tab0_is (w:World) (F:Nat→Prop):tab0.is w F:=⟨Rd.nil _ _ _,Rd.nil _ _ _,Rd.nil _ _ _,(fun _ h=>by cases h),Rd.nil _ _ _,(fun _ h=>by cases h)⟩
theorem zset5 {w:World} {T:Nat} {a0 a1 a2 a3 a4:Value} {e:TypeId} (h:w.heap[T]? =some (.cells #[a0,a1,a2,a3,a4] e (0,0))) (c0 c1 c2 c3 c4:Value):(((((w.setCell ⟨T,0,none⟩ c0).setCell ⟨T,1,none⟩ c1).setCell ⟨T,2,none⟩ c2).setCell ⟨T,3,none⟩ c3).setCell ⟨T,4,none⟩ c4).heap[T]? =some (.cells #[c0,c1,c2,c3,c4] e (0,0))∧Chg (·=T) w (((((w.setCell ⟨T,0,none⟩ c0).setCell ⟨T,1,none⟩ c1).setCell ⟨T,2,none⟩ c2).setCell ⟨T,3,none⟩ c3).setCell ⟨T,4,none⟩ c4):=by
 exact yq3 2
theorem zset16 {w:World} {T:Nat} {a0 a1 a2 a3 a4 a5 a6 a7 a8 a9 a10 a11 a12 a13 a14 a15:Value} {e:TypeId} (h:w.heap[T]? =some (.cells #[a0,a1,a2,a3,a4,a5,a6,a7,a8,a9,a10,a11,a12,a13,a14,a15] e (0,0))) (c0 c1 c2 c3 c4 c5 c6 c7 c8 c9 c10 c11 c12 c13 c14 c15:Value):((((((((((((((((w.setCell ⟨T,0,none⟩ c0).setCell ⟨T,1,none⟩ c1).setCell ⟨T,2,none⟩ c2).setCell ⟨T,3,none⟩ c3).setCell ⟨T,4,none⟩ c4).setCell ⟨T,5,none⟩ c5).setCell ⟨T,6,none⟩ c6).setCell ⟨T,7,none⟩ c7).setCell ⟨T,8,none⟩ c8).setCell ⟨T,9,none⟩ c9).setCell ⟨T,10,none⟩ c10).setCell ⟨T,11,none⟩ c11).setCell ⟨T,12,none⟩ c12).setCell ⟨T,13,none⟩ c13).setCell ⟨T,14,none⟩ c14).setCell ⟨T,15,none⟩ c15).heap[T]? =some (.cells #[c0,c1,c2,c3,c4,c5,c6,c7,c8,c9,c10,c11,c12,c13,c14,c15] e (0,0))∧Chg (·=T) w ((((((((((((((((w.setCell ⟨T,0,none⟩ c0).setCell ⟨T,1,none⟩ c1).setCell ⟨T,2,none⟩ c2).setCell ⟨T,3,none⟩ c3).setCell ⟨T,4,none⟩ c4).setCell ⟨T,5,none⟩ c5).setCell ⟨T,6,none⟩ c6).setCell ⟨T,7,none⟩ c7).setCell ⟨T,8,none⟩ c8).setCell ⟨T,9,none⟩ c9).setCell ⟨T,10,none⟩ c10).setCell ⟨T,11,none⟩ c11).setCell ⟨T,12,none⟩ c12).setCell ⟨T,13,none⟩ c13).setCell ⟨T,14,none⟩ c14).setCell ⟨T,15,none⟩ c15):=by
 have h0:=heap_setCell_same w T 0 _ _ c0 h
 have h1:=heap_setCell_same _ T 1 _ _ c1 h0
 have h2:=heap_setCell_same _ T 2 _ _ c2 h1
 have h3:=heap_setCell_same _ T 3 _ _ c3 h2
 have h4:=heap_setCell_same _ T 4 _ _ c4 h3
 have h5:=heap_setCell_same _ T 5 _ _ c5 h4
 have h6:=heap_setCell_same _ T 6 _ _ c6 h5
 have h7:=heap_setCell_same _ T 7 _ _ c7 h6
 have h8:=heap_setCell_same _ T 8 _ _ c8 h7
 have h9:=heap_setCell_same _ T 9 _ _ c9 h8
 have h10:=heap_setCell_same _ T 10 _ _ c10 h9
 have h11:=heap_setCell_same _ T 11 _ _ c11 h10
 have h12:=heap_setCell_same _ T 12 _ _ c12 h11
 have h13:=heap_setCell_same _ T 13 _ _ c13 h12
 have h14:=heap_setCell_same _ T 14 _ _ c14 h13
 have h15:=heap_setCell_same _ T 15 _ _ c15 h14
 exact ⟨by simpa using h15,((((((((((((((((Chg.refl (·=T) w).setCell (p:=⟨T,0,none⟩) (.inl rfl) c0).setCell (p:=⟨T,1,none⟩) (.inl rfl) c1).setCell (p:=⟨T,2,none⟩) (.inl rfl) c2).setCell (p:=⟨T,3,none⟩) (.inl rfl) c3).setCell (p:=⟨T,4,none⟩) (.inl rfl) c4).setCell (p:=⟨T,5,none⟩) (.inl rfl) c5).setCell (p:=⟨T,6,none⟩) (.inl rfl) c6).setCell (p:=⟨T,7,none⟩) (.inl rfl) c7).setCell (p:=⟨T,8,none⟩) (.inl rfl) c8).setCell (p:=⟨T,9,none⟩) (.inl rfl) c9).setCell (p:=⟨T,10,none⟩) (.inl rfl) c10).setCell (p:=⟨T,11,none⟩) (.inl rfl) c11).setCell (p:=⟨T,12,none⟩) (.inl rfl) c12).setCell (p:=⟨T,13,none⟩) (.inl rfl) c13).setCell (p:=⟨T,14,none⟩) (.inl rfl) c14).setCell (p:=⟨T,15,none⟩) (.inl rfl) c15⟩
theorem zsetT {w:World} {T:Nat} {a0 a1 a2 a3 a4 a5 a6 a7 a8 a9 a10 a11 a12 a13 a14 a15:Value} {e:TypeId} (h:w.heap[T]? =some (.cells #[a0,a1,a2,a3,a4,a5,a6,a7,a8,a9,a10,a11,a12,a13,a14,a15] e (0,0))) (c0 c1 c2 c3 c4:Value):(((((w.setCell ⟨T,2,none⟩ c0).setCell ⟨T,3,none⟩ c1).setCell ⟨T,4,none⟩ c2).setCell ⟨T,5,none⟩ c3).setCell ⟨T,6,none⟩ c4).heap[T]? =some (.cells #[a0,a1,c0,c1,c2,c3,c4,a7,a8,a9,a10,a11,a12,a13,a14,a15] e (0,0))∧Chg (·=T) w (((((w.setCell ⟨T,2,none⟩ c0).setCell ⟨T,3,none⟩ c1).setCell ⟨T,4,none⟩ c2).setCell ⟨T,5,none⟩ c3).setCell ⟨T,6,none⟩ c4):=by
 have h0:=heap_setCell_same w T 2 _ _ c0 h
 have h1:=heap_setCell_same _ T 3 _ _ c1 h0
 have h2:=heap_setCell_same _ T 4 _ _ c2 h1
 have h3:=heap_setCell_same _ T 5 _ _ c3 h2
 have h4:=heap_setCell_same _ T 6 _ _ c4 h3
 exact ⟨by simpa using h4,(((((Chg.refl (·=T) w).setCell (p:=⟨T,2,none⟩) (.inl rfl) c0).setCell (p:=⟨T,3,none⟩) (.inl rfl) c1).setCell (p:=⟨T,4,none⟩) (.inl rfl) c2).setCell (p:=⟨T,5,none⟩) (.inl rfl) c3).setCell (p:=⟨T,6,none⟩) (.inl rfl) c4⟩
theorem zset3_10 {w:World} {T:Nat} {a0 a1 a2 a3 a4 a5 a6 a7 a8 a9 a10 a11 a12 a13 a14 a15:Value} {e:TypeId} (h:w.heap[T]? =some (.cells #[a0,a1,a2,a3,a4,a5,a6,a7,a8,a9,a10,a11,a12,a13,a14,a15] e (0,0))) (c0 c1 c2:Value):(((w.setCell ⟨T,10,none⟩ c0).setCell ⟨T,11,none⟩ c1).setCell ⟨T,12,none⟩ c2).heap[T]? =some (.cells #[a0,a1,a2,a3,a4,a5,a6,a7,a8,a9,c0,c1,c2,a13,a14,a15] e (0,0))∧Chg (·=T) w (((w.setCell ⟨T,10,none⟩ c0).setCell ⟨T,11,none⟩ c1).setCell ⟨T,12,none⟩ c2):=by
 have h0:=heap_setCell_same w T 10 _ _ c0 h
 have h1:=heap_setCell_same _ T 11 _ _ c1 h0
 have h2:=heap_setCell_same _ T 12 _ _ c2 h1
 exact ⟨by simpa using h2,(((Chg.refl (·=T) w).setCell (p:=⟨T,10,none⟩) (.inl rfl) c0).setCell (p:=⟨T,11,none⟩) (.inl rfl) c1).setCell (p:=⟨T,12,none⟩) (.inl rfl) c2⟩
theorem zset3_13 {w:World} {T:Nat} {a0 a1 a2 a3 a4 a5 a6 a7 a8 a9 a10 a11 a12 a13 a14 a15:Value} {e:TypeId} (h:w.heap[T]? =some (.cells #[a0,a1,a2,a3,a4,a5,a6,a7,a8,a9,a10,a11,a12,a13,a14,a15] e (0,0))) (c0 c1 c2:Value):(((w.setCell ⟨T,13,none⟩ c0).setCell ⟨T,14,none⟩ c1).setCell ⟨T,15,none⟩ c2).heap[T]? =some (.cells #[a0,a1,a2,a3,a4,a5,a6,a7,a8,a9,a10,a11,a12,c0,c1,c2] e (0,0))∧Chg (·=T) w (((w.setCell ⟨T,13,none⟩ c0).setCell ⟨T,14,none⟩ c1).setCell ⟨T,15,none⟩ c2):=by
 have h0:=heap_setCell_same w T 13 _ _ c0 h
 have h1:=heap_setCell_same _ T 14 _ _ c1 h0
 have h2:=heap_setCell_same _ T 15 _ _ c2 h1
 exact ⟨by simpa using h2,(((Chg.refl (·=T) w).setCell (p:=⟨T,13,none⟩) (.inl rfl) c0).setCell (p:=⟨T,14,none⟩) (.inl rfl) c1).setCell (p:=⟨T,15,none⟩) (.inl rfl) c2⟩
theorem infEnQ:(prog.info? 79).map (fun i=>(i.zero,i.size,i.bytes))=some (some (.agg #[.int .i64 0,.string ⟨#[]⟩,.string ⟨#[]⟩,.slice none 0 0,.slice none 0 0,.slice none 0 0,.slice none 0 0,.int .i64 0,.string ⟨#[]⟩,.string ⟨#[]⟩,.string ⟨#[]⟩,.int .i64 0,.bool false,.int .i64 0,.int .i64 0,.string ⟨#[]⟩]),16,240):=by kernel_rfl
theorem pentry_any (b:Nat) (l:List UInt8) (i:Nat) (d:Bool) (c:RSt) (w:World) (he:EnvP b w) (h:CurAt w b (strB l) i d c.enc) (hO:StO w b c) (hN:c.ents.length≤4294967281) (h0:0<i) (hi:i≤l.length) (hl:l.length≤4294967281):
  Calls prog 95 #[.pointer (some ⟨b,0,none⟩)] w fun e w'=>e=.returned (.tuple #[])∧PartQ b l (pPart l 1 c (i,d)) w w':=by
 have hbw:=h.lt
 obtain ⟨r,hr⟩:=eN0 c.enc
 rw [←hr] at h
 obtain ⟨W,hW⟩:=eN0 (w.alloc (.cells #[.pointer (some ⟨b,0,none⟩)] 175))
 have hbW:=bN0 hW
 have hnW:=hN0 hW
 have eW:w.alloc (.cells #[.pointer (some ⟨b,0,none⟩)] 175)=W:=by rw [hW]
 clear hW
 have hzW:W.heap.size=w.heap.size+1:=by rw [←eW];simp
 have hEV:∀V,Chg (·=b) W V→EnvP b V:=fun V hV=>he.chg ((Chg.of_below hbW _).trans hV (fun _ _ h=>h)) (Nat.le_of_lt hbw)
 have HA:Hid (∀V,Chg (·=b) W V→V.heap[w.heap.size]? =some (.cells #[.pointer (some ⟨b,0,none⟩)] 175 (0,0))):=hI0 fun V hV=>(hV.block _ (by omega) (by show w.heap.size≠b;omega)).trans hnW
 rcases h1:cnumI l (i,d) with ⟨n1,kk1,qq1⟩
 have u1:i≤kk1∧kk1≤l.length:=by have u:=adv_num (l:=l) (st:=(i,d)) hi;rw [h1] at u;exact u
 rcases h2:pText l (kk1,qq1) with ⟨n2,kk2,qq2⟩
 have u2:kk1≤kk2∧kk2≤l.length:=by have u:=adv_text (l:=l) (st:=(kk1,qq1)) u1.2;rw [h2] at u;exact u
 rcases h3:cnumI l (kk2,qq2) with ⟨n3,kk3,qq3⟩
 have u3:kk2≤kk3∧kk3≤l.length:=by have u:=adv_num (l:=l) (st:=(kk2,qq2)) u2.2;rw [h3] at u;exact u
 have hS0:CurAt W.drew b (strB l) i d r:=h.below hbW.drew
 have hC0:Chg (·=b) W W.drew:=(Chg.refl _ _).drew
 have K1:∀V,CurAt V b (strB l) i d r→Chg (·=b) W V→Calls prog 93 #[.pointer (some ⟨b,0,none⟩)] V (fun x w'=>x=.returned (.int .i64 n1)∧CurAt w' b (strB l) kk1 qq1 r∧Chg (·=b) V w'):=fun V hs hV=>by
  have k:=cnum_any b l i d r V (hEV V hV) hs hi hl
  rw [h1] at k
  exact k
 have K2:∀V,CurAt V b (strB l) kk1 qq1 r→Chg (·=b) W V→Calls prog 96 #[.pointer (some ⟨b,0,none⟩)] V (fun x w'=>x=.returned (.string n2)∧CurAt w' b (strB l) kk2 qq2 r∧Chg (·=b) V w'):=fun V hs hV=>by
  have k:=text_any b l kk1 qq1 r V hs u1.2 hl
  rw [h2] at k
  exact k
 have K3:∀V,CurAt V b (strB l) kk2 qq2 r→Chg (·=b) W V→Calls prog 93 #[.pointer (some ⟨b,0,none⟩)] V (fun x w'=>x=.returned (.int .i64 n3)∧CurAt w' b (strB l) kk3 qq3 r∧Chg (·=b) V w'):=fun V hs hV=>by
  have k:=cnum_any b l kk2 qq2 r V (hEV V hV) hs u2.2 hl
  rw [h3] at k
  exact k
 have HO:=hI0 hO
 have HRR:=hI0 hr
 have HBW:=hI0 hbW
 clear h he hO hr hbW hnW
 go_in
 go_wp2_with fail
 clear eW
 refine (fun (tl:∀(T:Nat) (V:World),W.heap.size≤T→T<V.heap.size→V.heap[T]? =some (.cells #[.int .i64 0,.string ⟨#[]⟩,.string ⟨#[]⟩,.slice none 0 0,.slice none 0 0,.slice none 0 0,.slice none 0 0,.int .i64 0,.string ⟨#[]⟩,.string ⟨#[]⟩,.string ⟨#[]⟩,.int .i64 0,.bool false,.int .i64 0,.int .i64 0,.string ⟨#[]⟩] 79 (0,0))→CurAt V b (strB l) kk2 qq2 r→Chg (·=b) W V→(?Rest:Nat→World→Prop) T V)=>?leaves) ?tail
 case leaves=>
  refine wp_region_noPanic ?_
  refine beginT (S:=(fun Y:World=>Y.heap[w.heap.size]? =some (.cells #[.pointer (some ⟨b,0,none⟩)] 175 (0,0)))) 10 (by kernel_rfl) ?_ (fun zh=>?_)
  ·exact HA.out _ hC0
  refine tU 0 4 (v:=?_) zh ?_ ?_
  rotate_left
  ·exact yq21
  refine tT 1 5 ?_
  refine tT 2 6 ?_
  refine tU 4 8 (v:=?_) zh ?_ ?_
  rotate_left
  ·exact yq21
  refine tT 5 9 ?_
  refine tT 6 10 ?_
  refine fork2 3 9 (by kernel_rfl) ?_ ?_
  ·refine fC 3 7 ?_
   (with_reducible refine (K1 _ hS0 hC0).mono ?_)
   rintro _ v1 ⟨rfl,hS1,hD1⟩
   have hC1:Chg (·=b) W v1:=hC0.trans hD1 (fun _ _ h=>h)
   refine ⟨_,rfl,rA0 (HA.out _ hC1) ?_⟩
   clear zh
   intro zh
   simp only [aP]
   refine fork2 7 9 (by kernel_rfl) ?_ ?_
   ·refine fC 7 11 ?_
    (with_reducible refine (K2 _ hS1 hC1).mono ?_)
    rintro _ v2 ⟨rfl,hS2,hD2⟩
    have hC2:Chg (·=b) W v2:=hC1.trans hD2 (fun _ _ h=>h)
    refine ⟨_,rfl,rA0 (HA.out _ hC2) ?_⟩
    clear zh
    intro zh
    simp only [aP]
    refine tT 8 12 ?_
    refine fork1 9 (by kernel_rfl) ?_
    refine runF 9 (some 2) (v:=.pointer (some ⟨v2.heap.size,0,none⟩)) (w':=v2.alloc (.cells #[.int .i64 0,.string ⟨#[]⟩,.string ⟨#[]⟩,.slice none 0 0,.slice none 0 0,.slice none 0 0,.slice none 0 0,.int .i64 0,.string ⟨#[]⟩,.string ⟨#[]⟩,.string ⟨#[]⟩,.int .i64 0,.bool false,.int .i64 0,.int .i64 0,.string ⟨#[]⟩] 79)) rfl rfl (by rfl) ?_ ?_
    ·go_simp<;>with_reducible rfl
    obtain ⟨T,hTe⟩:=eN0 v2.heap.size
    rw [←hTe]
    obtain ⟨X,hX⟩:=eN0 (v2.alloc (.cells #[.int .i64 0,.string ⟨#[]⟩,.string ⟨#[]⟩,.slice none 0 0,.slice none 0 0,.slice none 0 0,.slice none 0 0,.int .i64 0,.string ⟨#[]⟩,.string ⟨#[]⟩,.string ⟨#[]⟩,.int .i64 0,.bool false,.int .i64 0,.int .i64 0,.string ⟨#[]⟩] 79))
    rw [←hX]
    have hbX:=bN0 hX
    have hSX:CurAt X b (strB l) kk2 qq2 r:=hS2.below hbX
    have hCX:Chg (·=b) W X:=hC2.trans (Chg.of_below hbX _) (fun _ _ h=>h)
    have hTX:X.heap[T]? =some (.cells #[.int .i64 0,.string ⟨#[]⟩,.string ⟨#[]⟩,.slice none 0 0,.slice none 0 0,.slice none 0 0,.slice none 0 0,.int .i64 0,.string ⟨#[]⟩,.string ⟨#[]⟩,.string ⟨#[]⟩,.int .i64 0,.bool false,.int .i64 0,.int .i64 0,.string ⟨#[]⟩] 79 (0,0)):=by rw [hX,hTe];exact heap_alloc_new _ _
    have hTlX:T<X.heap.size:=by rw [hX,hTe];simp
    have hTW:W.heap.size≤T:=by rw [hTe];exact hC2.size
    clear hX hTe hbX
    refine rA0 (HA.out _ hCX) ?_
    clear zh
    intro zh
    simp only [aP]
    exact tl T X hTW hTlX hTX hSX hCX
   ·exact yq10 1
  ·exact yq10 0
 case tail=>
  intro T V hTW hTlV hTV hSV hCV
  clear K1 K2
  refine fork1 10 (by kernel_rfl) ?_
  refine skipRunF 10 none (w':=((((((((((((((((V.setCell ⟨T,0,none⟩ (.int .i64 n1)).setCell ⟨T,1,none⟩ (.string n2)).setCell ⟨T,2,none⟩ (.string ⟨#[]⟩)).setCell ⟨T,3,none⟩ (.slice none 0 0)).setCell ⟨T,4,none⟩ (.slice none 0 0)).setCell ⟨T,5,none⟩ (.slice none 0 0)).setCell ⟨T,6,none⟩ (.slice none 0 0)).setCell ⟨T,7,none⟩ (.int .i64 0)).setCell ⟨T,8,none⟩ (.string ⟨#[]⟩)).setCell ⟨T,9,none⟩ (.string ⟨#[]⟩)).setCell ⟨T,10,none⟩ (.string ⟨#[]⟩)).setCell ⟨T,11,none⟩ (.int .i64 0)).setCell ⟨T,12,none⟩ (.bool false)).setCell ⟨T,13,none⟩ (.int .i64 0)).setCell ⟨T,14,none⟩ (.int .i64 0)).setCell ⟨T,15,none⟩ (.string ⟨#[]⟩))) rfl rfl (by rfl) ?_ ?_
  ·have p15:V.cell? ⟨T,15,none⟩=some (.string ⟨#[]⟩):=cW0 V _ 15 _ _ _ hTV;have p14:V.cell? ⟨T,14,none⟩=some (.int .i64 0):=cW0 V _ 14 _ _ _ hTV;have p13:V.cell? ⟨T,13,none⟩=some (.int .i64 0):=cW0 V _ 13 _ _ _ hTV;have p12:V.cell? ⟨T,12,none⟩=some (.bool false):=cW0 V _ 12 _ _ _ hTV;have p11:V.cell? ⟨T,11,none⟩=some (.int .i64 0):=cW0 V _ 11 _ _ _ hTV;have p10:V.cell? ⟨T,10,none⟩=some (.string ⟨#[]⟩):=cW0 V _ 10 _ _ _ hTV;have p9:V.cell? ⟨T,9,none⟩=some (.string ⟨#[]⟩):=cW0 V _ 9 _ _ _ hTV;have p8:V.cell? ⟨T,8,none⟩=some (.string ⟨#[]⟩):=cW0 V _ 8 _ _ _ hTV;have p7:V.cell? ⟨T,7,none⟩=some (.int .i64 0):=cW0 V _ 7 _ _ _ hTV;have p6:V.cell? ⟨T,6,none⟩=some (.slice none 0 0):=cW0 V _ 6 _ _ _ hTV;have p5:V.cell? ⟨T,5,none⟩=some (.slice none 0 0):=cW0 V _ 5 _ _ _ hTV;have p4:V.cell? ⟨T,4,none⟩=some (.slice none 0 0):=cW0 V _ 4 _ _ _ hTV;have p3:V.cell? ⟨T,3,none⟩=some (.slice none 0 0):=cW0 V _ 3 _ _ _ hTV;have p2:V.cell? ⟨T,2,none⟩=some (.string ⟨#[]⟩):=cW0 V _ 2 _ _ _ hTV;have p1:V.cell? ⟨T,1,none⟩=some (.string ⟨#[]⟩):=cW0 V _ 1 _ _ _ hTV;have p0:V.cell? ⟨T,0,none⟩=some (.int .i64 0):=cW0 V _ 0 _ _ _ hTV;have g0:V.frozen? ⟨T,0,none⟩=false:=fW0 V _ 0 _ _ hTV;have g1:V.frozen? ⟨T,1,none⟩=false:=fW0 V _ 1 _ _ hTV;have g2:V.frozen? ⟨T,2,none⟩=false:=fW0 V _ 2 _ _ hTV;have g3:V.frozen? ⟨T,3,none⟩=false:=fW0 V _ 3 _ _ hTV;have g4:V.frozen? ⟨T,4,none⟩=false:=fW0 V _ 4 _ _ hTV;have g5:V.frozen? ⟨T,5,none⟩=false:=fW0 V _ 5 _ _ hTV;have g6:V.frozen? ⟨T,6,none⟩=false:=fW0 V _ 6 _ _ hTV;have g7:V.frozen? ⟨T,7,none⟩=false:=fW0 V _ 7 _ _ hTV;have g8:V.frozen? ⟨T,8,none⟩=false:=fW0 V _ 8 _ _ hTV;have g9:V.frozen? ⟨T,9,none⟩=false:=fW0 V _ 9 _ _ hTV;have g10:V.frozen? ⟨T,10,none⟩=false:=fW0 V _ 10 _ _ hTV;have g11:V.frozen? ⟨T,11,none⟩=false:=fW0 V _ 11 _ _ hTV;have g12:V.frozen? ⟨T,12,none⟩=false:=fW0 V _ 12 _ _ hTV;have g13:V.frozen? ⟨T,13,none⟩=false:=fW0 V _ 13 _ _ hTV;have g14:V.frozen? ⟨T,14,none⟩=false:=fW0 V _ 14 _ _ hTV;have g15:V.frozen? ⟨T,15,none⟩=false:=fW0 V _ 15 _ _ hTV;go_simp<;>with_reducible rfl
  have hZ:=zset16 hTV (.int .i64 n1) (.string n2) (.string ⟨#[]⟩) (.slice none 0 0) (.slice none 0 0) (.slice none 0 0) (.slice none 0 0) (.int .i64 0) (.string ⟨#[]⟩) (.string ⟨#[]⟩) (.string ⟨#[]⟩) (.int .i64 0) (.bool false) (.int .i64 0) (.int .i64 0) (.string ⟨#[]⟩)
  generalize ((((((((((((((((V.setCell ⟨T,0,none⟩ (.int .i64 n1)).setCell ⟨T,1,none⟩ (.string n2)).setCell ⟨T,2,none⟩ (.string ⟨#[]⟩)).setCell ⟨T,3,none⟩ (.slice none 0 0)).setCell ⟨T,4,none⟩ (.slice none 0 0)).setCell ⟨T,5,none⟩ (.slice none 0 0)).setCell ⟨T,6,none⟩ (.slice none 0 0)).setCell ⟨T,7,none⟩ (.int .i64 0)).setCell ⟨T,8,none⟩ (.string ⟨#[]⟩)).setCell ⟨T,9,none⟩ (.string ⟨#[]⟩)).setCell ⟨T,10,none⟩ (.string ⟨#[]⟩)).setCell ⟨T,11,none⟩ (.int .i64 0)).setCell ⟨T,12,none⟩ (.bool false)).setCell ⟨T,13,none⟩ (.int .i64 0)).setCell ⟨T,14,none⟩ (.int .i64 0)).setCell ⟨T,15,none⟩ (.string ⟨#[]⟩))=Y at *
  have hzY:=hZ.2.size
  have hCY:Chg (·=b) W Y:=hCV.trans hZ.2 (fun i hi (h:i=T)=>by omega)
  have hTY:=hZ.1
  have hSY:CurAt Y b (strB l) kk2 qq2 r:=(hZ.2.block b hSV.lt (by show b≠T;omega)).trans hSV
  have hTl:T<Y.heap.size:=by omega
  clear hZ hTV hSV hCV hTlV
  refine ⟨fun h=>absurd rfl h,?_⟩
  simp only [Act.put]
  refine doneT (by kernel_rfl) ?_ _
  refine NoPanic.normal ?_
  have K3Z:=hI0 (K3 Y hSY hCY)
  have q0:=cW1 0 (HA.out _ hCY) rfl
  have HSY:=hI0 hSY
  have HCY:=hI0 hCY
  have HTY:=hI0 hTY
  clear hSY hCY hTY K3 hS0 hC0
  go_wp2_with fail
  clear q0
  (with_reducible refine K3Z.out.mono ?_)
  rintro _ v3 ⟨rfl,hS3,hD3⟩
  have hz3:=hD3.size
  have hC3:Chg (·=b) W v3:=HCY.out.trans hD3 (fun _ _ h=>h)
  have hT3:=(hD3.block T hTl (by show T≠b;omega)).trans HTY.out
  have p15:=cW1 15 hT3 rfl
  have p14:=cW1 14 hT3 rfl
  have p13:=cW1 13 hT3 rfl
  have p12:=cW1 12 hT3 rfl
  have p11:=cW1 11 hT3 rfl
  have p10:=cW1 10 hT3 rfl
  have p9:=cW1 9 hT3 rfl
  have p8:=cW1 8 hT3 rfl
  have p7:=cW1 7 hT3 rfl
  have p6:=cW1 6 hT3 rfl
  have p5:=cW1 5 hT3 rfl
  have p4:=cW1 4 hT3 rfl
  have p3:=cW1 3 hT3 rfl
  have p2:=cW1 2 hT3 rfl
  have p1:=cW1 1 hT3 rfl
  have p0:=cW1 0 hT3 rfl
  have g7:v3.frozen? ⟨T,7,none⟩=false:=fW0 v3 _ 7 _ _ hT3
  have HSb:=hI0 hS3
  have HCb:=hI0 hC3
  have HTb:=hI0 hT3
  clear hS3 hC3 hT3 hD3 K3Z HSY HCY HTY
  go_upto_region 3 with (fail)
  have hsr:=set_row (j:=7) HTb.out (.int .i64 n3)
  have hT3:(v3.setCell ⟨T,7,none⟩ (.int .i64 n3)).heap[T]? =some (.cells #[.int .i64 n1,.string n2,.string ⟨#[]⟩,.slice none 0 0,.slice none 0 0,.slice none 0 0,.slice none 0 0,.int .i64 n3,.string ⟨#[]⟩,.string ⟨#[]⟩,.string ⟨#[]⟩,.int .i64 0,.bool false,.int .i64 0,.int .i64 0,.string ⟨#[]⟩] 79 (0,0)):=by simpa using hsr.1
  have hcr:=hsr.2
  have hS3:CurAt (v3.setCell ⟨T,7,none⟩ (.int .i64 n3)) b (strB l) kk3 qq3 r:=(hcr.block b HSb.out.lt (by show b≠T;omega)).trans HSb.out
  have hC3:=HCb.out.trans hcr (fun i hi (h:i=T)=>by omega)
  have hzY3:=hcr.size
  clear p0 p1 p2 p3 p4 p5 p6 p7 p8 p9 p10 p11 p12 p13 p14 p15 g7 hsr HSb HCb HTb hcr
  generalize v3.setCell ⟨T,7,none⟩ (.int .i64 n3)=Y3 at *
  have hTl3:T<Y3.heap.size:=by omega
  have p7:=cW1 7 hT3 rfl
  have HS3:=hI0 hS3
  have HC3:=hI0 hC3
  clear hS3 hC3
  by_cases hk0:n3=0
  ·subst hk0
   have HT3:=hI0 hT3
   clear hT3
   rcases h4:pText l (kk3,qq3) with ⟨n4,kk4,qq4⟩
   have u4:kk3≤kk4∧kk4≤l.length:=by have u:=adv_text (l:=l) (st:=(kk3,qq3)) u3.2;rw [h4] at u;exact u
   rcases h5:pMany l (pCol l) (kk4,qq4) with ⟨xs5,kk5,qq5⟩
   have u5:kk4≤kk5∧kk5≤l.length:=by have u:=adv_many (advC l).le (l:=l) (st:=(kk4,qq4)) u4.2;rw [h5] at u;exact u
   rcases h6:pMany l (cnumI l) (kk5,qq5) with ⟨xs6,kk6,qq6⟩
   have u6:kk5≤kk6∧kk6≤l.length:=by have u:=adv_many (advI l).le (l:=l) (st:=(kk5,qq5)) u5.2;rw [h6] at u;exact u
   rcases h7:pMany l (pFor l) (kk6,qq6) with ⟨xs7,kk7,qq7⟩
   have u7:kk6≤kk7∧kk7≤l.length:=by have u:=adv_many (advF l).le (l:=l) (st:=(kk6,qq6)) u6.2;rw [h7] at u;exact u
   rcases h8:pMany l (pExp l 24) (kk7,qq7) with ⟨xs8,kk8,qq8⟩
   have u8:kk7≤kk8∧kk8≤l.length:=by have u:=adv_many (advX l 24).le (l:=l) (st:=(kk7,qq7)) u7.2;rw [h8] at u;exact u
   have hd:pEnt l (i,d)=(⟨n1,n2,⟨n4,none,0,xs5,none,0,xs6,none,0,xs7,none,0,xs8⟩,chn0⟩,kk8,qq8):=by unfold pEnt;simp only [h1,h2,h3];rw [if_pos trivial];unfold pTab;simp only [h4,h5,h6,h7,h8]
   have hln:xs5.length≤10000000000∧xs6.length≤10000000000∧xs7.length≤10000000000∧xs8.length≤10000000000:=by
    have g5:=pMany_len (advC l) (st:=(kk4,qq4)) (by simp only;omega) (by simp only;omega)
    rw [h5] at g5
    simp only at g5
    have g6:=pMany_len (advI l) (st:=(kk5,qq5)) (by simp only;omega) (by simp only;omega)
    rw [h6] at g6
    simp only at g6
    have g7:=pMany_len (advF l) (st:=(kk6,qq6)) (by simp only;omega) (by simp only;omega)
    rw [h7] at g7
    simp only at g7
    have g8:=pMany_len (advX l 24) (st:=(kk7,qq7)) (by simp only;omega) (by simp only;omega)
    rw [h8] at g8
    simp only at g8
    exact ⟨by omega,by omega,by omega,by omega⟩
   have K4:∀V,CurAt V b (strB l) kk3 qq3 r→Chg (·=b) W V→Calls prog 96 #[.pointer (some ⟨b,0,none⟩)] V (fun x w'=>x=.returned (.string n4)∧CurAt w' b (strB l) kk4 qq4 r∧Chg (·=b) V w'):=fun V hs hV=>by
    have k:=text_any b l kk3 qq3 r V hs u3.2 hl
    rw [h4] at k
    exact k
   have K5:∀V,CurAt V b (strB l) kk4 qq4 r→Chg (·=b) W V→Calls prog 138 #[.pointer (some ⟨b,0,none⟩),.func (.func 139) #[.pointer (some ⟨b,0,none⟩)] #[]] V (ManyQ 3 RCol.enc (isC (fun _:RCol=>True)) id b l r (xs5,kk5,qq5) V):=fun V hs hV=>by
    have k:=manyCol_any b l (pCol l) 139 (entQ func139) kk4 qq4 r V (hEV V hV) hs (by omega) u4.2 hl (advC l) (fun k q U hsU hU hk0 hk1=>pcol_any b l k q r U (hEV U (hV.trans hU (fun _ _ h=>h))) hsU hk0 hk1 hl)
    rw [h5] at k
    exact k
   have K6:∀V,CurAt V b (strB l) kk5 qq5 r→Chg (·=b) W V→Calls prog 140 #[.pointer (some ⟨b,0,none⟩),.func (.func 93) #[.pointer (some ⟨b,0,none⟩)] #[]] V (ManyQ 1 intE (isC (fun _:Int=>True)) id b l r (xs6,kk6,qq6) V):=fun V hs hV=>by
    have k:=manyInt_any b l (cnumI l) 93 (entQ func93) kk5 qq5 r V (hEV V hV) hs (by omega) u5.2 hl (advI l) (fun k q U hsU hU hk0 hk1=>cnumQ_any b l k q r U (hEV U (hV.trans hU (fun _ _ h=>h))) hsU hk1 hl)
    rw [h6] at k
    exact k
   have K7:∀V,CurAt V b (strB l) kk6 qq6 r→Chg (·=b) W V→Calls prog 141 #[.pointer (some ⟨b,0,none⟩),.func (.func 142) #[] #[.pointer (some ⟨w.heap.size,0,none⟩)]] V (ManyQ 2 RFor.enc RFor.is RFor.er b l r (xs7,kk7,qq7) V):=fun V hs hV=>by
    have k:=manyFor_any b w.heap.size l (pFor l) 142 (entQ func142) kk6 qq6 r V (hEV V hV) hs (by omega) u6.2 hl (advF l) (fun k q U hsU hU hk0 hk1=>pfor_any b w.heap.size l k q r U (hEV U (hV.trans hU (fun _ _ h=>h))) hsU hk0 hk1 hl (HA.out U (hV.trans hU (fun _ _ h=>h))) (by omega))
    rw [h7] at k
    exact k
   have K8:∀V,CurAt V b (strB l) kk7 qq7 r→Chg (·=b) W V→Calls prog 143 #[.pointer (some ⟨b,0,none⟩),.func (.func 144) #[] #[.pointer (some ⟨w.heap.size,0,none⟩)]] V (ManyQ 7 RE.enc exAll RE.er b l r (xs8,kk8,qq8) V):=fun V hs hV=>by
    have k:=manyExp_any b w.heap.size l (pExp l 24) 144 (entQ func144) kk7 qq7 r V (hEV V hV) hs (by omega) u7.2 hl (advX l 24) (fun k q U hsU hU hk0 hk1=>pexp2_any b w.heap.size l 24 k q r U hsU (HA.out U (hV.trans hU (fun _ _ h=>h))) (fun X hX hbX=>pexp_any 24 b l 1 k q r X (by omega) (by omega) (hEV X ((hV.trans hU (fun _ _ h=>h)).then_below hbX)) hX hk0 hk1 hl))
    rw [h8] at k
    exact k
   have HD:=hI0 hd
   have HLN:=hI0 hln
   have K7:=hI0 K7
   have K8:=hI0 K8
   have hS0:CurAt Y3.drew b (strB l) kk3 qq3 r:=HS3.out
   have hC0:Chg (·=b) W Y3.drew:=HC3.out.drew
   have hTz:Y3.drew.heap[T]? =some (.cells #[.int .i64 n1,.string n2,.string ⟨#[]⟩,.slice none 0 0,.slice none 0 0,.slice none 0 0,.slice none 0 0,.int .i64 0,.string ⟨#[]⟩,.string ⟨#[]⟩,.string ⟨#[]⟩,.int .i64 0,.bool false,.int .i64 0,.int .i64 0,.string ⟨#[]⟩] 79 (0,0)):=HT3.out
   have hTlz:T<Y3.drew.heap.size:=hTl3
   clear hd hln hEV h1 h2 h3 h4 h5 h6 h7 h8 u1 u2 u3 u4 u5 u6 u7 u8 hi h0
   go_wp2_with fail
   refine (fun (tl:∀(U:Nat) (V:World) (A5:Option Addr) (c5:Nat) (Q5:List RCol) (A6:Option Addr) (c6:Nat) (Q6:List Int),Y3.heap.size≤U→U<V.heap.size→V.heap[U]? =some (.cells #[.string ⟨#[]⟩,.slice none 0 0,.slice none 0 0,.slice none 0 0,.slice none 0 0] 73 (0,0))→V.heap[T]? =some (.cells #[.int .i64 n1,.string n2,.string ⟨#[]⟩,.slice none 0 0,.slice none 0 0,.slice none 0 0,.slice none 0 0,.int .i64 0,.string ⟨#[]⟩,.string ⟨#[]⟩,.string ⟨#[]⟩,.int .i64 0,.bool false,.int .i64 0,.int .i64 0,.string ⟨#[]⟩] 79 (0,0))→CurAt V b (strB l) kk6 qq6 r→Chg (·=b) W V→RdE 3 RCol.enc V (fun g=>Y3.heap.size≤g∧g<V.heap.size∧g≠U) (.slice A5 Q5.length c5) Q5→RdE 1 intE V (fun g=>Y3.heap.size≤g∧g<V.heap.size∧g≠U) (.slice A6 Q6.length c6) Q6→Q5=xs5→Q6=xs6→(?Rest4:Nat→World→Option Addr→Nat→List RCol→Option Addr→Nat→List Int→Prop) U V A5 c5 Q5 A6 c6 Q6)=>?leaves4) ?tail4
   case leaves4=>
    exact yq5 0
   intro U V A5 c5 Q5 A6 c6 Q6 hUY3 hUlV hUV hTV hSV hCV hG5V hG6V hE5 hE6
   have HE5:=hI0 hE5
   have HE6:=hI0 hE6
   clear hE5 hE6 K4 K5 K6 hS0 hC0 hTz hTlz
   refine fork1 16 (by kernel_rfl) ?_
   refine skipRunF 16 none (w':=(((((V.setCell ⟨U,0,none⟩ (.string n4)).setCell ⟨U,1,none⟩ (.slice A5 Q5.length c5)).setCell ⟨U,2,none⟩ (.slice A6 Q6.length c6)).setCell ⟨U,3,none⟩ (.slice none 0 0)).setCell ⟨U,4,none⟩ (.slice none 0 0))) rfl rfl (by rfl) ?_ ?_
   ·have p4:V.cell? ⟨U,4,none⟩=some (.slice none 0 0):=cW0 V _ 4 _ _ _ hUV;have p3:V.cell? ⟨U,3,none⟩=some (.slice none 0 0):=cW0 V _ 3 _ _ _ hUV;have p2:V.cell? ⟨U,2,none⟩=some (.slice none 0 0):=cW0 V _ 2 _ _ _ hUV;have p1:V.cell? ⟨U,1,none⟩=some (.slice none 0 0):=cW0 V _ 1 _ _ _ hUV;have p0:V.cell? ⟨U,0,none⟩=some (.string ⟨#[]⟩):=cW0 V _ 0 _ _ _ hUV;have g0:V.frozen? ⟨U,0,none⟩=false:=fW0 V _ 0 _ _ hUV;have g1:V.frozen? ⟨U,1,none⟩=false:=fW0 V _ 1 _ _ hUV;have g2:V.frozen? ⟨U,2,none⟩=false:=fW0 V _ 2 _ _ hUV;have g3:V.frozen? ⟨U,3,none⟩=false:=fW0 V _ 3 _ _ hUV;have g4:V.frozen? ⟨U,4,none⟩=false:=fW0 V _ 4 _ _ hUV;go_simp<;>with_reducible rfl
   have hZ:=zset5 hUV (.string n4) (.slice A5 Q5.length c5) (.slice A6 Q6.length c6) (.slice none 0 0) (.slice none 0 0)
   generalize (((((V.setCell ⟨U,0,none⟩ (.string n4)).setCell ⟨U,1,none⟩ (.slice A5 Q5.length c5)).setCell ⟨U,2,none⟩ (.slice A6 Q6.length c6)).setCell ⟨U,3,none⟩ (.slice none 0 0)).setCell ⟨U,4,none⟩ (.slice none 0 0))=Y at *
   have hzY:=hZ.2.size
   have hCY:Chg (·=b) W Y:=hCV.trans hZ.2 (fun i hi (h:i=U)=>by omega)
   have hUY4:=hZ.1
   have hTY4:=(hZ.2.block T (by omega) (by show T≠U;omega)).trans hTV
   have hSY:CurAt Y b (strB l) kk6 qq6 r:=(hZ.2.block b hSV.lt (by show b≠U;omega)).trans hSV
   have hUl:U<Y.heap.size:=by omega
   have hTab:(⟨n4,A5,c5,Q5,A6,c6,Q6,none,0,[],none,0,[]⟩:RTab).is V (LF Y3 V U):=⟨hG5V,hG6V,Rd.nil _ _ _,(fun _ h=>by cases h),Rd.nil _ _ _,(fun _ h=>by cases h)⟩
   have hTab:=LF.tab hTab hZ.2 (fun i e=>.inr e)
   clear hZ hUV hTV hSV hCV hUlV hG5V hG6V
   refine ⟨fun h=>absurd rfl h,?_⟩
   simp only [Act.put]
   refine doneT (by kernel_rfl) ?_ _
   refine NoPanic.normal ?_
   have q0:=cW1 0 (HA.out _ hCY) rfl
   have hmf:∀(fn:Fn) (first cap:Array Value) (w:World),(Instr.makeFunc fn first cap).run prog w=.ok (.func fn first cap) w:=fun _ _ _ _=>rfl
   have K7Z:=hI0 (K7.out Y hSY hCY)
   unfold ManyQ at K7Z
   have HSa:=hI0 hSY
   have HCa:=hI0 hCY
   have HUa:=hI0 hUY4
   have HTa:=hI0 hTY4
   have HTb:=hI0 hTab
   clear hSY hCY hUY4 hTY4 hTab K7
   go_wp2_with fail
   clear q0 hmf
   (with_reducible refine K7Z.out.mono ?_)
   rintro _ v7 ⟨u7,Q7,rfl,hR7,hI7,hE7,hS7,hD7⟩
   obtain ⟨A7,c7,rfl⟩:=rdQ_slice hR7
   have hz7:=hD7.size
   have hT7:=(hD7.block T (by omega) (by show T≠b;omega)).trans HTa.out
   have hU7:=(hD7.block U hUl (by show U≠b;omega)).trans HUa.out
   have hTab7:=LF.tab HTb.out hD7 (fun i e=>.inl (by omega))
   have hTab7b:(⟨n4,A5,c5,Q5,A6,c6,Q6,A7,c7,Q7,none,0,[]⟩:RTab).is v7 (LF Y3 v7 U):=⟨hTab7.cols,hTab7.key,Rd.wide hR7 (fun g hg=>⟨by have:=hg.1;omega,hg.2,by have:=hg.1;omega⟩),fun x hx=>isQ_For.wide (hI7 x hx) (fun g hg=>⟨by have:=hg.1;omega,hg.2,by have:=hg.1;omega⟩),Rd.nil _ _ _,(fun _ h=>by cases h)⟩
   have hC7:Chg (·=b) W v7:=HCa.out.trans hD7 (fun _ _ h=>h)
   have p4:=cW1 4 hU7 rfl
   have p3:=cW1 3 hU7 rfl
   have p2:=cW1 2 hU7 rfl
   have p1:=cW1 1 hU7 rfl
   have p0:=cW1 0 hU7 rfl
   have g3:v7.frozen? ⟨U,3,none⟩=false:=fW0 v7 _ 3 _ _ hU7
   have HE7:=hI0 hE7
   have HSb:=hI0 hS7
   have HCb:=hI0 hC7
   have HUb:=hI0 hU7
   have HTc:=hI0 hT7
   have HTd:=hI0 hTab7b
   clear hR7 hI7 hE7 hS7 hD7 hC7 hU7 hT7 hTab7 hTab7b HSa HCa HUa HTa HTb K7Z
   go_upto_region 6 with (fail)
   have hsr:=set_row (j:=3) HUb.out (.slice A7 Q7.length c7)
   have hTabP:=LF.tab HTd.out hsr.2 (fun i e=>.inr e)
   have hSP:=(hsr.2.block b HSb.out.lt (by show b≠U;omega)).trans HSb.out
   have hCP:=HCb.out.trans hsr.2 (fun i hi (h:i=U)=>by omega)
   have hTP:=(hsr.2.block T (by omega) (by show T≠U;omega)).trans HTc.out
   have hUP:(v7.setCell ⟨U,3,none⟩ (.slice A7 Q7.length c7)).heap[U]? =some (.cells #[.string n4,.slice A5 Q5.length c5,.slice A6 Q6.length c6,.slice A7 Q7.length c7,.slice none 0 0] 73 (0,0)):=by simpa using hsr.1
   have hzP:=hsr.2.size
   clear p0 p1 p2 p3 p4 g3 HSb HCb HUb HTc HTd hsr
   generalize v7.setCell ⟨U,3,none⟩ (.slice A7 Q7.length c7)=P at *
   have hUlP:U<P.heap.size:=by omega
   have hTlP:T<P.heap.size:=by omega
   have hSP:CurAt P b (strB l) kk7 qq7 r:=hSP
   have q0:=cW1 0 (HA.out _ hCP) rfl
   have hmf:∀(fn:Fn) (first cap:Array Value) (w:World),(Instr.makeFunc fn first cap).run prog w=.ok (.func fn first cap) w:=fun _ _ _ _=>rfl
   have K8Z:=hI0 (K8.out P hSP hCP)
   unfold ManyQ at K8Z
   have HSa:=hI0 hSP
   have HCa:=hI0 hCP
   have HUa:=hI0 hUP
   have HTa:=hI0 hTP
   have HTb:=hI0 hTabP
   clear hSP hCP hUP hTP hTabP K8
   go_wp2_with fail
   clear q0 hmf
   (with_reducible refine K8Z.out.mono ?_)
   rintro _ v8 ⟨u8,Q8,rfl,hR8,hI8,hE8,hS8,hD8⟩
   obtain ⟨A8,c8,rfl⟩:=rdQ_slice hR8
   have hz8:=hD8.size
   have hT8:=(hD8.block T (by omega) (by show T≠b;omega)).trans HTa.out
   have hU8:=(hD8.block U hUlP (by show U≠b;omega)).trans HUa.out
   have hTab8:=LF.tab HTb.out hD8 (fun i e=>.inl (by omega))
   have hTab8b:(⟨n4,A5,c5,Q5,A6,c6,Q6,A7,c7,Q7,A8,c8,Q8⟩:RTab).is v8 (LF Y3 v8 U):=⟨hTab8.cols,hTab8.key,hTab8.fors,hTab8.forI,Rd.wide hR8 (fun g hg=>⟨by have:=hg.1;omega,hg.2,by have:=hg.1;omega⟩),fun x hx=>isQ_X.wide (hI8 x hx) (fun g hg=>⟨by have:=hg.1;omega,hg.2,by have:=hg.1;omega⟩) 24⟩
   have hC8:Chg (·=b) W v8:=HCa.out.trans hD8 (fun _ _ h=>h)
   have p4:=cW1 4 hU8 rfl
   have p3:=cW1 3 hU8 rfl
   have p2:=cW1 2 hU8 rfl
   have p1:=cW1 1 hU8 rfl
   have p0:=cW1 0 hU8 rfl
   have g4:v8.frozen? ⟨U,4,none⟩=false:=fW0 v8 _ 4 _ _ hU8
   have HE8:=hI0 hE8
   have HSb:=hI0 hS8
   have HCb:=hI0 hC8
   have HUb:=hI0 hU8
   have HTc:=hI0 hT8
   have HTd:=hI0 hTab8b
   clear hR8 hI8 hE8 hS8 hD8 hC8 hU8 hT8 hTab8 hTab8b HSa HCa HUa HTa HTb K8Z
   go_upto_region 7 with (fail)
   have hsr:=set_row (j:=4) HUb.out (.slice A8 Q8.length c8)
   have hTabR:=LF.tab HTd.out hsr.2 (fun i e=>.inr e)
   have hSR:=(hsr.2.block b HSb.out.lt (by show b≠U;omega)).trans HSb.out
   have hCR:=HCb.out.trans hsr.2 (fun i hi (h:i=U)=>by omega)
   have hTR:=(hsr.2.block T (by omega) (by show T≠U;omega)).trans HTc.out
   have hUR:(v8.setCell ⟨U,4,none⟩ (.slice A8 Q8.length c8)).heap[U]? =some (.cells #[.string n4,.slice A5 Q5.length c5,.slice A6 Q6.length c6,.slice A7 Q7.length c7,.slice A8 Q8.length c8] 73 (0,0)):=by simpa using hsr.1
   have hzR:=hsr.2.size
   clear p0 p1 p2 p3 p4 g4 HSb HCb HUb HTc HTd hsr
   generalize v8.setCell ⟨U,4,none⟩ (.slice A8 Q8.length c8)=R at *
   have hUlR:U<R.heap.size:=by omega
   have hTlR:T<R.heap.size:=by omega
   have hSR:CurAt R b (strB l) kk8 qq8 r:=hSR
   have p4:=cW1 4 hUR rfl
   have p3:=cW1 3 hUR rfl
   have p2:=cW1 2 hUR rfl
   have p1:=cW1 1 hUR rfl
   have p0:=cW1 0 hUR rfl
   have t15:=cW1 15 hTR rfl
   have t14:=cW1 14 hTR rfl
   have t13:=cW1 13 hTR rfl
   have t12:=cW1 12 hTR rfl
   have t11:=cW1 11 hTR rfl
   have t10:=cW1 10 hTR rfl
   have t9:=cW1 9 hTR rfl
   have t8:=cW1 8 hTR rfl
   have t7:=cW1 7 hTR rfl
   have t6:=cW1 6 hTR rfl
   have t5:=cW1 5 hTR rfl
   have t4:=cW1 4 hTR rfl
   have t3:=cW1 3 hTR rfl
   have t2:=cW1 2 hTR rfl
   have t1:=cW1 1 hTR rfl
   have t0:=cW1 0 hTR rfl
   have s0:R.frozen? ⟨T,0,none⟩=false:=fW0 R _ 0 _ _ hTR
   have s1:R.frozen? ⟨T,1,none⟩=false:=fW0 R _ 1 _ _ hTR
   have s2:R.frozen? ⟨T,2,none⟩=false:=fW0 R _ 2 _ _ hTR
   have s3:R.frozen? ⟨T,3,none⟩=false:=fW0 R _ 3 _ _ hTR
   have s4:R.frozen? ⟨T,4,none⟩=false:=fW0 R _ 4 _ _ hTR
   have s5:R.frozen? ⟨T,5,none⟩=false:=fW0 R _ 5 _ _ hTR
   have s6:R.frozen? ⟨T,6,none⟩=false:=fW0 R _ 6 _ _ hTR
   have s7:R.frozen? ⟨T,7,none⟩=false:=fW0 R _ 7 _ _ hTR
   have s8:R.frozen? ⟨T,8,none⟩=false:=fW0 R _ 8 _ _ hTR
   have s9:R.frozen? ⟨T,9,none⟩=false:=fW0 R _ 9 _ _ hTR
   have s10:R.frozen? ⟨T,10,none⟩=false:=fW0 R _ 10 _ _ hTR
   have s11:R.frozen? ⟨T,11,none⟩=false:=fW0 R _ 11 _ _ hTR
   have s12:R.frozen? ⟨T,12,none⟩=false:=fW0 R _ 12 _ _ hTR
   have s13:R.frozen? ⟨T,13,none⟩=false:=fW0 R _ 13 _ _ hTR
   have s14:R.frozen? ⟨T,14,none⟩=false:=fW0 R _ 14 _ _ hTR
   have s15:R.frozen? ⟨T,15,none⟩=false:=fW0 R _ 15 _ _ hTR
   have HSb:=hI0 hSR
   have HCb:=hI0 hCR
   have HTc:=hI0 hTR
   have HTd:=hI0 hTabR
   clear hSR hCR hUR hTR hTabR
   go_upto_region 12 with (fail)
   clear p0 p1 p2 p3 p4 t0 t1 t2 t3 t4 t5 t6 t7 t8 t9 t10 t11 t12 t13 t14 t15 s0 s1 s2 s3 s4 s5 s6 s7 s8 s9 s10 s11 s12 s13 s14 s15
   have hsr:=zsetT HTc.out (.string n4) (.slice A5 Q5.length c5) (.slice A6 Q6.length c6) (.slice A7 Q7.length c7) (.slice A8 Q8.length c8)
   have hTabE:=LF.tab HTd.out hsr.2 (fun i e=>.inl (by omega))
   have hSE:=(hsr.2.block b HSb.out.lt (by show b≠T;omega)).trans HSb.out
   have hCE:=HCb.out.trans hsr.2 (fun i hi (h:i=T)=>by omega)
   have hTE:=hsr.1
   have hzE:=hsr.2.size
   clear HSb HCb HTc HTd hsr
   generalize (((((R.setCell ⟨T,2,none⟩ (.string n4)).setCell ⟨T,3,none⟩ (.slice A5 Q5.length c5)).setCell ⟨T,4,none⟩ (.slice A6 Q6.length c6)).setCell ⟨T,5,none⟩ (.slice A7 Q7.length c7)).setCell ⟨T,6,none⟩ (.slice A8 Q8.length c8))=E at *
   have hER:REn.er (⟨n1,n2,(⟨n4,A5,c5,Q5,A6,c6,Q6,A7,c7,Q7,A8,c8,Q8⟩:RTab),chn0⟩)=REn.er ⟨n1,n2,⟨n4,none,0,xs5,none,0,xs6,none,0,xs7,none,0,xs8⟩,chn0⟩:=by
    have e7:xs7.map RFor.er=xs7:=by rw [←HE7.out,List.map_map];rfl
    have e8:xs8.map RE.er=xs8:=by
     rw [←HE8.out,List.map_map]
     exact List.map_congr_left fun x _=>RE.er_er x
    simp only [REn.er,RTab.er,e7,e8]
    rw [HE7.out,HE8.out,HE5.out,HE6.out]
   have hEN:REn.is E (frO (rowsO c) E b) (⟨n1,n2,(⟨n4,A5,c5,Q5,A6,c6,Q6,A7,c7,Q7,A8,c8,Q8⟩:RTab),chn0⟩):=⟨rTab_kw hTabE (Keeps.refl _ _) (fun g hg=>HO.out.fresh hbw (by have:=hg.1;omega) hg.2.1),(by
    have l7:=congrArg List.length HE7.out
    have l8:=congrArg List.length HE8.out
    rw [List.length_map] at l7 l8
    obtain ⟨g5,g6,g7,g8⟩:=HLN.out
    exact ⟨by show Q5.length≤_;rw [HE5.out];exact g5,by show Q6.length≤_;rw [HE6.out];exact g6,by show Q7.length≤_;omega,by show Q8.length≤_;omega⟩),empZ_le⟩
   have HER:=hI0 hER
   have HEN:=hI0 hEN
   have hCW:Chg (·=b) w E:=(Chg.of_below HBW.out _).trans hCE (fun _ _ h=>h)
   have HCW:=hI0 hCW
   have HBE:=hI0 (HA.out _ hCE)
   have HTE:=hI0 hTE
   have hSE2:CurAt E b (strB l) kk8 qq8 c.enc:=by rw [←HRR.out];exact hSE
   have HSE:=hI0 hSE2
   have HBL:Hid (w.heap.size<E.heap.size):=hI0 (by omega)
   have HTL:Hid (T<E.heap.size):=hI0 (by omega)
   have hbE:b<E.heap.size:=by omega
   clear hER hEN hCW hTE hSE hSE2 hCE
   have hTne:some T≠(Value.slice c.eA c.ents.length c.eC).ownBlock:=fun e=>by
    exact yq18
   have hBne:some w.heap.size≠(Value.slice c.eA c.ents.length c.eC).ownBlock:=fun e=>Nat.lt_irrefl _ (own_blockO (HO.out.own _ (List.mem_of_getElem? (i:=0) rfl:(⟨79,16,.slice c.eA c.ents.length c.eC,c.ents.length,c.ents.flatMap REn.enc⟩:RowO)∈rowsO c)) e).2.1
   have HSd:Hid (CurAt E.drew b (strB l) kk8 qq8 c.enc):=HSE
   obtain ⟨i0,hI,hz0,hz1,hz2⟩:=info_parts infEnQ
   have HI:=hI0 hI
   have HZ0:=hI0 hz0
   have HZ1:=hI0 hz1
   have HZ2:=hI0 hz2
   clear hI hz0 hz1 hz2
   go_wp2_with fail
   refine wp_region_noPanic ?_
   refine beginT (S:=(fun W1:World=>CurAt W1 b (strB l) kk8 qq8 c.enc∧W1.heap[w.heap.size]? =some (.cells #[.pointer (some ⟨b,0,none⟩)] 175 (0,0))∧W1.heap[T]? =some (.cells #[.int .i64 n1,.string n2,.string n4,.slice A5 Q5.length c5,.slice A6 Q6.length c6,.slice A7 Q7.length c7,.slice A8 Q8.length c8,.int .i64 0,.string ⟨#[]⟩,.string ⟨#[]⟩,.string ⟨#[]⟩,.int .i64 0,.bool false,.int .i64 0,.int .i64 0,.string ⟨#[]⟩] 79 (0,0)))) 12 (by kernel_rfl) ?_ (fun zh=>?_)
   ·exact ⟨HSE.out,HBE.out,HTE.out⟩
   refine tU 0 70 (v:=?_) zh ?_ ?_
   rotate_left
   ·exact yq19
   refine tU 1 71 (v:=?_) zh ?_ ?_
   rotate_left
   ·exact yq19
   refine tT 2 72 ?_
   refine tT 3 73 ?_
   refine tT 4 74 ?_
   refine tU 5 75 (v:=?_) zh ?_ ?_
   rotate_left
   ·exact yq20
   refine tU 6 76 (v:=?_) zh ?_ ?_
   rotate_left
   ·intro w' hSw;(try dsimp only at hSw);have p15:w'.cell? ⟨T,15,none⟩=some (.string ⟨#[]⟩):=cW0 w' _ 15 _ _ _ hSw.2.2;have p14:w'.cell? ⟨T,14,none⟩=some (.int .i64 0):=cW0 w' _ 14 _ _ _ hSw.2.2;have p13:w'.cell? ⟨T,13,none⟩=some (.int .i64 0):=cW0 w' _ 13 _ _ _ hSw.2.2;have p12:w'.cell? ⟨T,12,none⟩=some (.bool false):=cW0 w' _ 12 _ _ _ hSw.2.2;have p11:w'.cell? ⟨T,11,none⟩=some (.int .i64 0):=cW0 w' _ 11 _ _ _ hSw.2.2;have p10:w'.cell? ⟨T,10,none⟩=some (.string ⟨#[]⟩):=cW0 w' _ 10 _ _ _ hSw.2.2;have p9:w'.cell? ⟨T,9,none⟩=some (.string ⟨#[]⟩):=cW0 w' _ 9 _ _ _ hSw.2.2;have p8:w'.cell? ⟨T,8,none⟩=some (.string ⟨#[]⟩):=cW0 w' _ 8 _ _ _ hSw.2.2;have p7:w'.cell? ⟨T,7,none⟩=some (.int .i64 0):=cW0 w' _ 7 _ _ _ hSw.2.2;have p6:w'.cell? ⟨T,6,none⟩=some (.slice A8 Q8.length c8):=cW0 w' _ 6 _ _ _ hSw.2.2;have p5:w'.cell? ⟨T,5,none⟩=some (.slice A7 Q7.length c7):=cW0 w' _ 5 _ _ _ hSw.2.2;have p4:w'.cell? ⟨T,4,none⟩=some (.slice A6 Q6.length c6):=cW0 w' _ 4 _ _ _ hSw.2.2;have p3:w'.cell? ⟨T,3,none⟩=some (.slice A5 Q5.length c5):=cW0 w' _ 3 _ _ _ hSw.2.2;have p2:w'.cell? ⟨T,2,none⟩=some (.string n4):=cW0 w' _ 2 _ _ _ hSw.2.2;have p1:w'.cell? ⟨T,1,none⟩=some (.string n2):=cW0 w' _ 1 _ _ _ hSw.2.2;have p0:w'.cell? ⟨T,0,none⟩=some (.int .i64 n1):=cW0 w' _ 0 _ _ _ hSw.2.2;go_simp<;>with_reducible rfl
   have hNew:(fun W1:World=>CurAt W1 b (strB l) kk8 qq8 c.enc∧W1.heap[w.heap.size]? =some (.cells #[.pointer (some ⟨b,0,none⟩)] 175 (0,0))∧W1.heap[T]? =some (.cells #[.int .i64 n1,.string n2,.string n4,.slice A5 Q5.length c5,.slice A6 Q6.length c6,.slice A7 Q7.length c7,.slice A8 Q8.length c8,.int .i64 0,.string ⟨#[]⟩,.string ⟨#[]⟩,.string ⟨#[]⟩,.int .i64 0,.bool false,.int .i64 0,.int .i64 0,.string ⟨#[]⟩] 79 (0,0))) (E.drew.alloc (.cells #[.int .i64 n1,.string n2,.string n4,.slice A5 Q5.length c5,.slice A6 Q6.length c6,.slice A7 Q7.length c7,.slice A8 Q8.length c8,.int .i64 0,.string ⟨#[]⟩,.string ⟨#[]⟩,.string ⟨#[]⟩,.int .i64 0,.bool false,.int .i64 0,.int .i64 0,.string ⟨#[]⟩] 79)):=by exact ⟨HSd.out.below (Below.of_alloc _),((Below.of_alloc (w:=E.drew) _).block w.heap.size HBL.out).trans HBE.out,((Below.of_alloc (w:=E.drew) _).block T HTL.out).trans HTE.out⟩
   refine runT 7 (some 77) (v:=.slice (some ⟨E.heap.size,0,none⟩) 1 1) (w':=E.drew.alloc (.cells #[.int .i64 n1,.string n2,.string n4,.slice A5 Q5.length c5,.slice A6 Q6.length c6,.slice A7 Q7.length c7,.slice A8 Q8.length c8,.int .i64 0,.string ⟨#[]⟩,.string ⟨#[]⟩,.string ⟨#[]⟩,.int .i64 0,.bool false,.int .i64 0,.int .i64 0,.string ⟨#[]⟩] 79)) rfl rfl (by kernel_rfl) (by rfl) ?_ (fun _=>hNew) ?_
   ·go_simp<;>with_reducible rfl
   clear zh
   have zh:=hNew
   clear hNew
   simp only [aP]
   refine opT 8 rfl (by kernel_rfl) (by rfl) ?_
   have hA:StO (E.drew.alloc (.cells #[.int .i64 n1,.string n2,.string n4,.slice A5 Q5.length c5,.slice A6 Q6.length c6,.slice A7 Q7.length c7,.slice A8 Q8.length c8,.int .i64 0,.string ⟨#[]⟩,.string ⟨#[]⟩,.string ⟨#[]⟩,.int .i64 0,.bool false,.int .i64 0,.int .i64 0,.string ⟨#[]⟩] 79)) b c:=HO.out.chg ((HCW.out.drew).alloc _)
   have hmem:(⟨79,16,.slice c.eA c.ents.length c.eC,c.ents.length,c.ents.flatMap REn.enc⟩:RowO)∈rowsO c:=List.mem_of_getElem? (i:=0) rfl
   have hown:(E.drew.alloc (.cells #[.int .i64 n1,.string n2,.string n4,.slice A5 Q5.length c5,.slice A6 Q6.length c6,.slice A7 Q7.length c7,.slice A8 Q8.length c8,.int .i64 0,.string ⟨#[]⟩,.string ⟨#[]⟩,.string ⟨#[]⟩,.int .i64 0,.bool false,.int .i64 0,.int .i64 0,.string ⟨#[]⟩] 79)).ownsRow (b+1) 79 16 (.slice c.eA c.ents.length c.eC) c.ents.length (c.ents.flatMap REn.enc):=hA.own _ hmem
   refine wp_append_app _ (.tmp 75) (.tmp 77) 22 rfl (b+1) 79 i0 _ 16 240 underlying22 HI.out HZ0.out HZ1.out HZ2.out rfl (by omega) (.slice c.eA c.ents.length c.eC) c.ents.length (c.ents.flatMap REn.enc) rfl (.inl hown) (·=E.heap.size) _ 1 [.int .i64 n1,.string n2,.string n4,.slice A5 Q5.length c5,.slice A6 Q6.length c6,.slice A7 Q7.length c7,.slice A8 Q8.length c8,.int .i64 0,.string ⟨#[]⟩,.string ⟨#[]⟩,.string ⟨#[]⟩,.int .i64 0,.bool false,.int .i64 0,.int .i64 0,.string ⟨#[]⟩] rfl (Rd.new' E.drew E.heap.size rfl [.int .i64 n1,.string n2,.string n4,.slice A5 Q5.length c5,.slice A6 Q6.length c6,.slice A7 Q7.length c7,.slice A8 Q8.length c8,.int .i64 0,.string ⟨#[]⟩,.string ⟨#[]⟩,.string ⟨#[]⟩,.int .i64 0,.bool false,.int .i64 0,.int .i64 0,.string ⟨#[]⟩] 79 16 1 rfl (by decide)) (fun u hu=>by simp only [List.mem_cons,List.not_mem_nil,or_false] at hu;rcases hu with rfl|rfl|rfl|rfl|rfl|rfl|rfl|rfl|rfl|rfl|rfl|rfl|rfl|rfl|rfl|rfl<;>rfl) (by unfold maxLen;omega) (by omega) (by simp;omega) ?_
   intro v' w3 _ hO3 hg3 hb3 hv3
   have hO3:=hO3 (.inl (by omega))
   have hx:REn.is (E.drew.alloc (.cells #[.int .i64 n1,.string n2,.string n4,.slice A5 Q5.length c5,.slice A6 Q6.length c6,.slice A7 Q7.length c7,.slice A8 Q8.length c8,.int .i64 0,.string ⟨#[]⟩,.string ⟨#[]⟩,.string ⟨#[]⟩,.int .i64 0,.bool false,.int .i64 0,.int .i64 0,.string ⟨#[]⟩] 79)) (frO (rowsO c) (E.drew.alloc (.cells #[.int .i64 n1,.string n2,.string n4,.slice A5 Q5.length c5,.slice A6 Q6.length c6,.slice A7 Q7.length c7,.slice A8 Q8.length c8,.int .i64 0,.string ⟨#[]⟩,.string ⟨#[]⟩,.string ⟨#[]⟩,.int .i64 0,.bool false,.int .i64 0,.int .i64 0,.string ⟨#[]⟩] 79)) b) (⟨n1,n2,(⟨n4,A5,c5,Q5,A6,c6,Q6,A7,c7,Q7,A8,c8,Q8⟩:RTab),chn0⟩):=rEn_kw HEN.out (fun g hg=>(Below.of_alloc (w:=E.drew) _).block g hg.2.1) (fun g hg=>⟨hg.1,by have:=hg.2.1;simp;omega,hg.2.2⟩)
   obtain ⟨A3,c3,rfl,hSt⟩:=StO.pushE hA (x:=⟨n1,n2,(⟨n4,A5,c5,Q5,A6,c6,Q6,A7,c7,Q7,A8,c8,Q8⟩:RTab),chn0⟩) hx hO3 hg3 hv3
   obtain ⟨hS9,hB9⟩:=grow_cur hA hmem hg3 (HSd.out.below (Below.of_alloc _))
   have hk3:(fun W1:World=>CurAt W1 b (strB l) kk8 qq8 c.enc∧W1.heap[w.heap.size]? =some (.cells #[.pointer (some ⟨b,0,none⟩)] 175 (0,0))∧W1.heap[T]? =some (.cells #[.int .i64 n1,.string n2,.string n4,.slice A5 Q5.length c5,.slice A6 Q6.length c6,.slice A7 Q7.length c7,.slice A8 Q8.length c8,.int .i64 0,.string ⟨#[]⟩,.string ⟨#[]⟩,.string ⟨#[]⟩,.int .i64 0,.bool false,.int .i64 0,.int .i64 0,.string ⟨#[]⟩] 79 (0,0))) w3:=⟨hS9,(hg3.block w.heap.size (by simp;have:=HBL.out;omega) hBne).trans (((Below.of_alloc (w:=E.drew) _).block w.heap.size HBL.out).trans HBE.out),(hg3.block T (by simp;have:=HTL.out;omega) hTne).trans (((Below.of_alloc (w:=E.drew) _).block T HTL.out).trans HTE.out)⟩
   refine rA0 hk3 ?_
   clear zh
   intro zh
   simp only [aP]
   refine runT 9 (some 79) (v:=?_) (w':=_) rfl rfl (by kernel_rfl) (by rfl) ?_ (fun _=>zh) ?_
   rotate_left
   ·go_simp<;>with_reducible rfl
   simp only [aP]
   refine runT 10 (some 80) (v:=?_) (w':=_) rfl rfl (by kernel_rfl) (by rfl) ?_ (fun _=>zh) ?_
   rotate_left
   ·go_simp<;>with_reducible rfl
   simp only [aP]
   refine tT 11 81 ?_
   refine skipRunT 12 none (w':=w3.setCell ⟨b,7,none⟩ (.slice A3 (c.ents.length+1) c3)) rfl rfl (by kernel_rfl) (by rfl) ?_ (fun h=>absurd rfl h) ?_
   ·exact yq17
   clear zh
   simp only [Act.put]
   refine doneT (by kernel_rfl) ?_ _
   refine NoPanic.normal ?_
   obtain ⟨c9,hc9⟩:∃c9:RSt,c9= { c with eA:=A3,eC:=c3,ents:=c.ents++[⟨n1,n2,(⟨n4,A5,c5,Q5,A6,c6,Q6,A7,c7,Q7,A8,c8,Q8⟩:RTab),chn0⟩] }:=⟨_,rfl⟩
   rw [←hc9] at hSt
   have hF:CurAt (w3.setCell ⟨b,7,none⟩ (.slice A3 (c.ents.length+1) c3)) b (strB l) kk8 qq8 c9.enc∧StO (w3.setCell ⟨b,7,none⟩ (.slice A3 (c.ents.length+1) c3)) b c9∧Below b w3 (w3.setCell ⟨b,7,none⟩ (.slice A3 (c.ents.length+1) c3)):=push_fin (j:=4) hS9 hSt (by rw [hc9];simp [RSt.enc])
   have hBY:Below b w (w3.setCell ⟨b,7,none⟩ (.slice A3 (c.ents.length+1) c3)):=(((HCW.out.below (Nat.le_of_lt hbw) (fun _ e=>by omega)).trans (((Chg.refl (·=b) E).drew.alloc (.cells #[.int .i64 n1,.string n2,.string n4,.slice A5 Q5.length c5,.slice A6 Q6.length c6,.slice A7 Q7.length c7,.slice A8 Q8.length c8,.int .i64 0,.string ⟨#[]⟩,.string ⟨#[]⟩,.string ⟨#[]⟩,.int .i64 0,.bool false,.int .i64 0,.int .i64 0,.string ⟨#[]⟩] 79)).below (Nat.le_of_lt hbE) (fun _ e=>by omega))).trans hB9).trans hF.2.2
   have hE9:c9.er=(pPart l 1 c (i,d)).1.er:=by
    rw [hc9]
    unfold pPart
    rw [if_pos rfl,HD.out]
    simp only [RSt.er,List.map_append,List.map_cons,List.map_nil,HER.out]
   have hP9:(pPart l 1 c (i,d)).2=(kk8,qq8):=by unfold pPart;rw [if_pos rfl,HD.out]
   have HFIN:Hid (PartQ b l (pPart l 1 c (i,d)) w (w3.setCell ⟨b,7,none⟩ (.slice A3 (c.ents.length+1) c3))):=hI0 ⟨c9,hE9,by rw [hP9];exact hF.1,hF.2.1,hBY⟩
   go_wp2_with fail
   go_end0
   exact ⟨rfl,HFIN.out⟩
  ·have hk1:decide (n3=0)=false:=decide_eq_false hk0
   have hk2:(n3==0)=false:=by simpa using hk0
   have HT3:=hI0 hT3
   clear hT3
   rcases h4:pText l (kk3,qq3) with ⟨n4,kk4,qq4⟩
   have u4:kk3≤kk4∧kk4≤l.length:=by have u:=adv_text (l:=l) (st:=(kk3,qq3)) u3.2;rw [h4] at u;exact u
   rcases h5:pText l (kk4,qq4) with ⟨n5,kk5,qq5⟩
   have u5:kk4≤kk5∧kk5≤l.length:=by have u:=adv_text (l:=l) (st:=(kk4,qq4)) u4.2;rw [h5] at u;exact u
   rcases h6:pCol l (kk5,qq5) with ⟨⟨n6,m6,f6⟩,kk6,qq6⟩
   have u6:kk5≤kk6∧kk6≤l.length:=by have u:=adv_col (l:=l) (st:=(kk5,qq5)) u5.2;rw [h6] at u;exact u
   rcases h7:pVal l (kk6,qq6) with ⟨⟨k7,i7,t7⟩,kk7,qq7⟩
   have u7:kk6≤kk7∧kk7≤l.length:=by have u:=adv_val (l:=l) (st:=(kk6,qq6)) u6.2;rw [h7] at u;exact u
   have hd:pEnt l (i,d)=(⟨n1,n2,tab0,⟨n3,n4,n5,n6,m6,f6,⟨k7,i7,t7⟩⟩⟩,kk7,qq7):=by unfold pEnt;simp only [h1,h2,h3];rw [if_neg hk0];unfold pChn;simp only [h4,h5,h6,h7]
   have hgv:t7.size≤maxLen:=by have:=pVal_go l (kk6,qq6) hl;rw [h7] at this;exact this.2.2
   have K4:∀V,CurAt V b (strB l) kk3 qq3 r→Chg (·=b) W V→Calls prog 96 #[.pointer (some ⟨b,0,none⟩)] V (fun x w'=>x=.returned (.string n4)∧CurAt w' b (strB l) kk4 qq4 r∧Chg (·=b) V w'):=fun V hs hV=>by
    have k:=text_any b l kk3 qq3 r V hs u3.2 hl
    rw [h4] at k
    exact k
   have K5:∀V,CurAt V b (strB l) kk4 qq4 r→Chg (·=b) W V→Calls prog 96 #[.pointer (some ⟨b,0,none⟩)] V (fun x w'=>x=.returned (.string n5)∧CurAt w' b (strB l) kk5 qq5 r∧Chg (·=b) V w'):=fun V hs hV=>by
    have k:=text_any b l kk4 qq4 r V hs u4.2 hl
    rw [h5] at k
    exact k
   have K6:∀V,CurAt V b (strB l) kk5 qq5 r→Chg (·=b) W V→Calls prog 139 #[.pointer (some ⟨b,0,none⟩)] V (fun x w'=>x=.returned (.agg #[.string n6,.int .i64 m6,.bool f6])∧CurAt w' b (strB l) kk6 qq6 r∧Chg (·=b) V w'):=fun V hs hV=>by
    have k:=pcol_any b l kk5 qq5 r V (hEV V hV) hs (by omega) u5.2 hl
    rw [h6] at k
    exact k.mono fun e w' ⟨y,a1,_,a3,a4,a5⟩=>⟨by simp only [id] at a3;rw [a1,a3];rfl,a4,a5⟩
   have K7:∀V,CurAt V b (strB l) kk6 qq6 r→Chg (·=b) W V→Calls prog 146 #[.pointer (some ⟨b,0,none⟩)] V (fun x w'=>x=.returned (.agg #[.int .i64 k7,.int .i64 i7,.string t7])∧CurAt w' b (strB l) kk7 qq7 r∧Chg (·=b) V w'):=fun V hs hV=>by
    have k:=pvalue_any b l kk6 qq6 r V (hEV V hV) hs u6.2 hl
    rw [h7] at k
    exact k
   have HD:=hI0 hd
   have HGV:=hI0 hgv
   clear hd hgv hEV h1 h2 h3 h4 h5 h6 h7 u1 u2 u3 u4 u5 u6 u7 hi h0
   have q0:=cW1 0 (HA.out _ HC3.out) rfl
   have K4Z:=hI0 (K4 Y3 HS3.out HC3.out)
   clear K4
   go_wp2_with fail
   clear q0
   (with_reducible refine K4Z.out.mono ?_)
   rintro _ v4 ⟨rfl,hS4,hD4⟩
   have hz4:=hD4.size
   have hC4:Chg (·=b) W v4:=HC3.out.trans hD4 (fun _ _ h=>h)
   have hT4:=(hD4.block T hTl3 (by show T≠b;omega)).trans HT3.out
   have p15:=cW1 15 hT4 rfl
   have p14:=cW1 14 hT4 rfl
   have p13:=cW1 13 hT4 rfl
   have p12:=cW1 12 hT4 rfl
   have p11:=cW1 11 hT4 rfl
   have p10:=cW1 10 hT4 rfl
   have p9:=cW1 9 hT4 rfl
   have p8:=cW1 8 hT4 rfl
   have p7:=cW1 7 hT4 rfl
   have p6:=cW1 6 hT4 rfl
   have p5:=cW1 5 hT4 rfl
   have p4:=cW1 4 hT4 rfl
   have p3:=cW1 3 hT4 rfl
   have p2:=cW1 2 hT4 rfl
   have p1:=cW1 1 hT4 rfl
   have p0:=cW1 0 hT4 rfl
   have g8:v4.frozen? ⟨T,8,none⟩=false:=fW0 v4 _ 8 _ _ hT4
   have HSb:=hI0 hS4
   have HCb:=hI0 hC4
   have HTb:=hI0 hT4
   clear hS4 hC4 hT4 hD4 K4Z
   go_upto_region 9 with (fail)
   have hsr:=set_row (j:=8) HTb.out (.string n4)
   have hTY4:(v4.setCell ⟨T,8,none⟩ (.string n4)).heap[T]? =some (.cells #[.int .i64 n1,.string n2,.string ⟨#[]⟩,.slice none 0 0,.slice none 0 0,.slice none 0 0,.slice none 0 0,.int .i64 n3,.string n4,.string ⟨#[]⟩,.string ⟨#[]⟩,.int .i64 0,.bool false,.int .i64 0,.int .i64 0,.string ⟨#[]⟩] 79 (0,0)):=by simpa using hsr.1
   have hcr:=hsr.2
   clear p0 p1 p2 p3 p4 p5 p6 p7 p8 p9 p10 p11 p12 p13 p14 p15 g8 hsr
   have hSY4:=(hcr.block b HSb.out.lt (by show b≠T;omega)).trans HSb.out
   have hCY4:=HCb.out.trans hcr (fun i hi (h:i=T)=>by omega)
   have hzY4:=hcr.size
   clear HSb HCb HTb hcr
   generalize v4.setCell ⟨T,8,none⟩ (.string n4)=Y4 at *
   have hTl4b:T<Y4.heap.size:=by omega
   have hSY4:CurAt Y4 b (strB l) kk4 qq4 r:=hSY4
   have HS4:=hI0 hSY4
   have HC4:=hI0 hCY4
   have HT4:=hI0 hTY4
   clear hSY4 hCY4 hTY4
   have q0:=cW1 0 (HA.out _ HC4.out) rfl
   have K5Z:=hI0 (K5 Y4 HS4.out HC4.out)
   clear K5
   go_wp2_with fail
   clear q0
   (with_reducible refine K5Z.out.mono ?_)
   rintro _ v5 ⟨rfl,hS5,hD5⟩
   have hz5:=hD5.size
   have hC5:Chg (·=b) W v5:=HC4.out.trans hD5 (fun _ _ h=>h)
   have hT5:=(hD5.block T hTl4b (by show T≠b;omega)).trans HT4.out
   have p15:=cW1 15 hT5 rfl
   have p14:=cW1 14 hT5 rfl
   have p13:=cW1 13 hT5 rfl
   have p12:=cW1 12 hT5 rfl
   have p11:=cW1 11 hT5 rfl
   have p10:=cW1 10 hT5 rfl
   have p9:=cW1 9 hT5 rfl
   have p8:=cW1 8 hT5 rfl
   have p7:=cW1 7 hT5 rfl
   have p6:=cW1 6 hT5 rfl
   have p5:=cW1 5 hT5 rfl
   have p4:=cW1 4 hT5 rfl
   have p3:=cW1 3 hT5 rfl
   have p2:=cW1 2 hT5 rfl
   have p1:=cW1 1 hT5 rfl
   have p0:=cW1 0 hT5 rfl
   have g9:v5.frozen? ⟨T,9,none⟩=false:=fW0 v5 _ 9 _ _ hT5
   have HSb:=hI0 hS5
   have HCb:=hI0 hC5
   have HTb:=hI0 hT5
   clear hS5 hC5 hT5 hD5 K5Z
   go_upto_region 10 with (fail)
   have hsr:=set_row (j:=9) HTb.out (.string n5)
   have hTY5:(v5.setCell ⟨T,9,none⟩ (.string n5)).heap[T]? =some (.cells #[.int .i64 n1,.string n2,.string ⟨#[]⟩,.slice none 0 0,.slice none 0 0,.slice none 0 0,.slice none 0 0,.int .i64 n3,.string n4,.string n5,.string ⟨#[]⟩,.int .i64 0,.bool false,.int .i64 0,.int .i64 0,.string ⟨#[]⟩] 79 (0,0)):=by simpa using hsr.1
   have hcr:=hsr.2
   clear p0 p1 p2 p3 p4 p5 p6 p7 p8 p9 p10 p11 p12 p13 p14 p15 g9 hsr
   have hSY5:=(hcr.block b HSb.out.lt (by show b≠T;omega)).trans HSb.out
   have hCY5:=HCb.out.trans hcr (fun i hi (h:i=T)=>by omega)
   have hzY5:=hcr.size
   clear HSb HCb HTb hcr
   generalize v5.setCell ⟨T,9,none⟩ (.string n5)=Y5 at *
   have hTl5b:T<Y5.heap.size:=by omega
   have hSY5:CurAt Y5 b (strB l) kk5 qq5 r:=hSY5
   have HS5:=hI0 hSY5
   have HC5:=hI0 hCY5
   have HT5:=hI0 hTY5
   clear hSY5 hCY5 hTY5
   have q0:=cW1 0 (HA.out _ HC5.out) rfl
   have K6Z:=hI0 (K6 Y5 HS5.out HC5.out)
   clear K6
   go_wp2_with fail
   clear q0
   (with_reducible refine K6Z.out.mono ?_)
   rintro _ v6 ⟨rfl,hS6,hD6⟩
   have hz6:=hD6.size
   have hC6:Chg (·=b) W v6:=HC5.out.trans hD6 (fun _ _ h=>h)
   have hT6:=(hD6.block T hTl5b (by show T≠b;omega)).trans HT5.out
   have p15:=cW1 15 hT6 rfl
   have p14:=cW1 14 hT6 rfl
   have p13:=cW1 13 hT6 rfl
   have p12:=cW1 12 hT6 rfl
   have p11:=cW1 11 hT6 rfl
   have p10:=cW1 10 hT6 rfl
   have p9:=cW1 9 hT6 rfl
   have p8:=cW1 8 hT6 rfl
   have p7:=cW1 7 hT6 rfl
   have p6:=cW1 6 hT6 rfl
   have p5:=cW1 5 hT6 rfl
   have p4:=cW1 4 hT6 rfl
   have p3:=cW1 3 hT6 rfl
   have p2:=cW1 2 hT6 rfl
   have p1:=cW1 1 hT6 rfl
   have p0:=cW1 0 hT6 rfl
   have g10:v6.frozen? ⟨T,10,none⟩=false:=fW0 v6 _ 10 _ _ hT6
   have g11:v6.frozen? ⟨T,11,none⟩=false:=fW0 v6 _ 11 _ _ hT6
   have g12:v6.frozen? ⟨T,12,none⟩=false:=fW0 v6 _ 12 _ _ hT6
   have HSb:=hI0 hS6
   have HCb:=hI0 hC6
   have HTb:=hI0 hT6
   clear hS6 hC6 hT6 hD6 K6Z
   go_upto_region 11 with (fail)
   have hsr:=zset3_10 HTb.out (.string n6) (.int .i64 m6) (.bool f6)
   have hTY6:=hsr.1
   have hcr:=hsr.2
   clear p0 p1 p2 p3 p4 p5 p6 p7 p8 p9 p10 p11 p12 p13 p14 p15 g10 g11 g12 hsr
   have hSY6:=(hcr.block b HSb.out.lt (by show b≠T;omega)).trans HSb.out
   have hCY6:=HCb.out.trans hcr (fun i hi (h:i=T)=>by omega)
   have hzY6:=hcr.size
   clear HSb HCb HTb hcr
   generalize (((v6.setCell ⟨T,10,none⟩ (.string n6)).setCell ⟨T,11,none⟩ (.int .i64 m6)).setCell ⟨T,12,none⟩ (.bool f6))=Y6 at *
   have hTl6b:T<Y6.heap.size:=by omega
   have hSY6:CurAt Y6 b (strB l) kk6 qq6 r:=hSY6
   have HS6:=hI0 hSY6
   have HC6:=hI0 hCY6
   have HT6:=hI0 hTY6
   clear hSY6 hCY6 hTY6
   have q0:=cW1 0 (HA.out _ HC6.out) rfl
   have K7Z:=hI0 (K7 Y6 HS6.out HC6.out)
   clear K7
   go_wp2_with fail
   clear q0
   (with_reducible refine K7Z.out.mono ?_)
   rintro _ v7 ⟨rfl,hS7,hD7⟩
   have hz7:=hD7.size
   have hC7:Chg (·=b) W v7:=HC6.out.trans hD7 (fun _ _ h=>h)
   have hT7:=(hD7.block T hTl6b (by show T≠b;omega)).trans HT6.out
   have p15:=cW1 15 hT7 rfl
   have p14:=cW1 14 hT7 rfl
   have p13:=cW1 13 hT7 rfl
   have p12:=cW1 12 hT7 rfl
   have p11:=cW1 11 hT7 rfl
   have p10:=cW1 10 hT7 rfl
   have p9:=cW1 9 hT7 rfl
   have p8:=cW1 8 hT7 rfl
   have p7:=cW1 7 hT7 rfl
   have p6:=cW1 6 hT7 rfl
   have p5:=cW1 5 hT7 rfl
   have p4:=cW1 4 hT7 rfl
   have p3:=cW1 3 hT7 rfl
   have p2:=cW1 2 hT7 rfl
   have p1:=cW1 1 hT7 rfl
   have p0:=cW1 0 hT7 rfl
   have g13:v7.frozen? ⟨T,13,none⟩=false:=fW0 v7 _ 13 _ _ hT7
   have g14:v7.frozen? ⟨T,14,none⟩=false:=fW0 v7 _ 14 _ _ hT7
   have g15:v7.frozen? ⟨T,15,none⟩=false:=fW0 v7 _ 15 _ _ hT7
   have HSb:=hI0 hS7
   have HCb:=hI0 hC7
   have HTb:=hI0 hT7
   clear hS7 hC7 hT7 hD7 K7Z
   go_upto_region 12 with (fail)
   have hsr:=zset3_13 HTb.out (.int .i64 k7) (.int .i64 i7) (.string t7)
   have hTE:=hsr.1
   have hcr:=hsr.2
   clear p0 p1 p2 p3 p4 p5 p6 p7 p8 p9 p10 p11 p12 p13 p14 p15 g13 g14 g15 hsr
   have hSE:=(hcr.block b HSb.out.lt (by show b≠T;omega)).trans HSb.out
   have hCE:=HCb.out.trans hcr (fun i hi (h:i=T)=>by omega)
   have hzE:=hcr.size
   clear HSb HCb HTb hcr
   generalize (((v7.setCell ⟨T,13,none⟩ (.int .i64 k7)).setCell ⟨T,14,none⟩ (.int .i64 i7)).setCell ⟨T,15,none⟩ (.string t7))=E at *
   have hTl7b:T<E.heap.size:=by omega
   have hSE:CurAt E b (strB l) kk7 qq7 r:=hSE
   have hER:REn.er (⟨n1,n2,tab0,⟨n3,n4,n5,n6,m6,f6,⟨k7,i7,t7⟩⟩⟩)=REn.er (⟨n1,n2,tab0,⟨n3,n4,n5,n6,m6,f6,⟨k7,i7,t7⟩⟩⟩):=rfl
   have hEN:REn.is E (frO (rowsO c) E b) (⟨n1,n2,tab0,⟨n3,n4,n5,n6,m6,f6,⟨k7,i7,t7⟩⟩⟩):=⟨tab0_is _ _,⟨Nat.zero_le _,Nat.zero_le _,Nat.zero_le _,Nat.zero_le _⟩,HGV.out⟩
   have HER:=hI0 hER
   have HEN:=hI0 hEN
   have hCW:Chg (·=b) w E:=(Chg.of_below HBW.out _).trans hCE (fun _ _ h=>h)
   have HCW:=hI0 hCW
   have HBE:=hI0 (HA.out _ hCE)
   have HTE:=hI0 hTE
   have hSE2:CurAt E b (strB l) kk7 qq7 c.enc:=by rw [←HRR.out];exact hSE
   have HSE:=hI0 hSE2
   have HBL:Hid (w.heap.size<E.heap.size):=hI0 (by omega)
   have HTL:Hid (T<E.heap.size):=hI0 (by omega)
   have hbE:b<E.heap.size:=by omega
   clear hER hEN hCW hTE hSE hSE2 hCE
   have hTne:some T≠(Value.slice c.eA c.ents.length c.eC).ownBlock:=fun e=>by
    exact yq18
   have hBne:some w.heap.size≠(Value.slice c.eA c.ents.length c.eC).ownBlock:=fun e=>Nat.lt_irrefl _ (own_blockO (HO.out.own _ (List.mem_of_getElem? (i:=0) rfl:(⟨79,16,.slice c.eA c.ents.length c.eC,c.ents.length,c.ents.flatMap REn.enc⟩:RowO)∈rowsO c)) e).2.1
   have HSd:Hid (CurAt E.drew b (strB l) kk7 qq7 c.enc):=HSE
   obtain ⟨i0,hI,hz0,hz1,hz2⟩:=info_parts infEnQ
   have HI:=hI0 hI
   have HZ0:=hI0 hz0
   have HZ1:=hI0 hz1
   have HZ2:=hI0 hz2
   clear hI hz0 hz1 hz2
   go_wp2_with fail
   refine wp_region_noPanic ?_
   refine beginT (S:=(fun W1:World=>CurAt W1 b (strB l) kk7 qq7 c.enc∧W1.heap[w.heap.size]? =some (.cells #[.pointer (some ⟨b,0,none⟩)] 175 (0,0))∧W1.heap[T]? =some (.cells #[.int .i64 n1,.string n2,.string ⟨#[]⟩,.slice none 0 0,.slice none 0 0,.slice none 0 0,.slice none 0 0,.int .i64 n3,.string n4,.string n5,.string n6,.int .i64 m6,.bool f6,.int .i64 k7,.int .i64 i7,.string t7] 79 (0,0)))) 12 (by kernel_rfl) ?_ (fun zh=>?_)
   ·exact ⟨HSE.out,HBE.out,HTE.out⟩
   refine tU 0 70 (v:=?_) zh ?_ ?_
   rotate_left
   ·exact yq19
   refine tU 1 71 (v:=?_) zh ?_ ?_
   rotate_left
   ·exact yq19
   refine tT 2 72 ?_
   refine tT 3 73 ?_
   refine tT 4 74 ?_
   refine tU 5 75 (v:=?_) zh ?_ ?_
   rotate_left
   ·exact yq20
   refine tU 6 76 (v:=?_) zh ?_ ?_
   rotate_left
   ·intro w' hSw;(try dsimp only at hSw);have p15:w'.cell? ⟨T,15,none⟩=some (.string t7):=cW0 w' _ 15 _ _ _ hSw.2.2;have p14:w'.cell? ⟨T,14,none⟩=some (.int .i64 i7):=cW0 w' _ 14 _ _ _ hSw.2.2;have p13:w'.cell? ⟨T,13,none⟩=some (.int .i64 k7):=cW0 w' _ 13 _ _ _ hSw.2.2;have p12:w'.cell? ⟨T,12,none⟩=some (.bool f6):=cW0 w' _ 12 _ _ _ hSw.2.2;have p11:w'.cell? ⟨T,11,none⟩=some (.int .i64 m6):=cW0 w' _ 11 _ _ _ hSw.2.2;have p10:w'.cell? ⟨T,10,none⟩=some (.string n6):=cW0 w' _ 10 _ _ _ hSw.2.2;have p9:w'.cell? ⟨T,9,none⟩=some (.string n5):=cW0 w' _ 9 _ _ _ hSw.2.2;have p8:w'.cell? ⟨T,8,none⟩=some (.string n4):=cW0 w' _ 8 _ _ _ hSw.2.2;have p7:w'.cell? ⟨T,7,none⟩=some (.int .i64 n3):=cW0 w' _ 7 _ _ _ hSw.2.2;have p6:w'.cell? ⟨T,6,none⟩=some (.slice none 0 0):=cW0 w' _ 6 _ _ _ hSw.2.2;have p5:w'.cell? ⟨T,5,none⟩=some (.slice none 0 0):=cW0 w' _ 5 _ _ _ hSw.2.2;have p4:w'.cell? ⟨T,4,none⟩=some (.slice none 0 0):=cW0 w' _ 4 _ _ _ hSw.2.2;have p3:w'.cell? ⟨T,3,none⟩=some (.slice none 0 0):=cW0 w' _ 3 _ _ _ hSw.2.2;have p2:w'.cell? ⟨T,2,none⟩=some (.string ⟨#[]⟩):=cW0 w' _ 2 _ _ _ hSw.2.2;have p1:w'.cell? ⟨T,1,none⟩=some (.string n2):=cW0 w' _ 1 _ _ _ hSw.2.2;have p0:w'.cell? ⟨T,0,none⟩=some (.int .i64 n1):=cW0 w' _ 0 _ _ _ hSw.2.2;go_simp<;>with_reducible rfl
   have hNew:(fun W1:World=>CurAt W1 b (strB l) kk7 qq7 c.enc∧W1.heap[w.heap.size]? =some (.cells #[.pointer (some ⟨b,0,none⟩)] 175 (0,0))∧W1.heap[T]? =some (.cells #[.int .i64 n1,.string n2,.string ⟨#[]⟩,.slice none 0 0,.slice none 0 0,.slice none 0 0,.slice none 0 0,.int .i64 n3,.string n4,.string n5,.string n6,.int .i64 m6,.bool f6,.int .i64 k7,.int .i64 i7,.string t7] 79 (0,0))) (E.drew.alloc (.cells #[.int .i64 n1,.string n2,.string ⟨#[]⟩,.slice none 0 0,.slice none 0 0,.slice none 0 0,.slice none 0 0,.int .i64 n3,.string n4,.string n5,.string n6,.int .i64 m6,.bool f6,.int .i64 k7,.int .i64 i7,.string t7] 79)):=by exact ⟨HSd.out.below (Below.of_alloc _),((Below.of_alloc (w:=E.drew) _).block w.heap.size HBL.out).trans HBE.out,((Below.of_alloc (w:=E.drew) _).block T HTL.out).trans HTE.out⟩
   refine runT 7 (some 77) (v:=.slice (some ⟨E.heap.size,0,none⟩) 1 1) (w':=E.drew.alloc (.cells #[.int .i64 n1,.string n2,.string ⟨#[]⟩,.slice none 0 0,.slice none 0 0,.slice none 0 0,.slice none 0 0,.int .i64 n3,.string n4,.string n5,.string n6,.int .i64 m6,.bool f6,.int .i64 k7,.int .i64 i7,.string t7] 79)) rfl rfl (by kernel_rfl) (by rfl) ?_ (fun _=>hNew) ?_
   ·go_simp<;>with_reducible rfl
   clear zh
   have zh:=hNew
   clear hNew
   simp only [aP]
   refine opT 8 rfl (by kernel_rfl) (by rfl) ?_
   have hA:StO (E.drew.alloc (.cells #[.int .i64 n1,.string n2,.string ⟨#[]⟩,.slice none 0 0,.slice none 0 0,.slice none 0 0,.slice none 0 0,.int .i64 n3,.string n4,.string n5,.string n6,.int .i64 m6,.bool f6,.int .i64 k7,.int .i64 i7,.string t7] 79)) b c:=HO.out.chg ((HCW.out.drew).alloc _)
   have hmem:(⟨79,16,.slice c.eA c.ents.length c.eC,c.ents.length,c.ents.flatMap REn.enc⟩:RowO)∈rowsO c:=List.mem_of_getElem? (i:=0) rfl
   have hown:(E.drew.alloc (.cells #[.int .i64 n1,.string n2,.string ⟨#[]⟩,.slice none 0 0,.slice none 0 0,.slice none 0 0,.slice none 0 0,.int .i64 n3,.string n4,.string n5,.string n6,.int .i64 m6,.bool f6,.int .i64 k7,.int .i64 i7,.string t7] 79)).ownsRow (b+1) 79 16 (.slice c.eA c.ents.length c.eC) c.ents.length (c.ents.flatMap REn.enc):=hA.own _ hmem
   refine wp_append_app _ (.tmp 75) (.tmp 77) 22 rfl (b+1) 79 i0 _ 16 240 underlying22 HI.out HZ0.out HZ1.out HZ2.out rfl (by omega) (.slice c.eA c.ents.length c.eC) c.ents.length (c.ents.flatMap REn.enc) rfl (.inl hown) (·=E.heap.size) _ 1 [.int .i64 n1,.string n2,.string ⟨#[]⟩,.slice none 0 0,.slice none 0 0,.slice none 0 0,.slice none 0 0,.int .i64 n3,.string n4,.string n5,.string n6,.int .i64 m6,.bool f6,.int .i64 k7,.int .i64 i7,.string t7] rfl (Rd.new' E.drew E.heap.size rfl [.int .i64 n1,.string n2,.string ⟨#[]⟩,.slice none 0 0,.slice none 0 0,.slice none 0 0,.slice none 0 0,.int .i64 n3,.string n4,.string n5,.string n6,.int .i64 m6,.bool f6,.int .i64 k7,.int .i64 i7,.string t7] 79 16 1 rfl (by decide)) (fun u hu=>by simp only [List.mem_cons,List.not_mem_nil,or_false] at hu;rcases hu with rfl|rfl|rfl|rfl|rfl|rfl|rfl|rfl|rfl|rfl|rfl|rfl|rfl|rfl|rfl|rfl<;>rfl) (by unfold maxLen;omega) (by omega) (by simp;omega) ?_
   intro v' w3 _ hO3 hg3 hb3 hv3
   have hO3:=hO3 (.inl (by omega))
   have hx:REn.is (E.drew.alloc (.cells #[.int .i64 n1,.string n2,.string ⟨#[]⟩,.slice none 0 0,.slice none 0 0,.slice none 0 0,.slice none 0 0,.int .i64 n3,.string n4,.string n5,.string n6,.int .i64 m6,.bool f6,.int .i64 k7,.int .i64 i7,.string t7] 79)) (frO (rowsO c) (E.drew.alloc (.cells #[.int .i64 n1,.string n2,.string ⟨#[]⟩,.slice none 0 0,.slice none 0 0,.slice none 0 0,.slice none 0 0,.int .i64 n3,.string n4,.string n5,.string n6,.int .i64 m6,.bool f6,.int .i64 k7,.int .i64 i7,.string t7] 79)) b) (⟨n1,n2,tab0,⟨n3,n4,n5,n6,m6,f6,⟨k7,i7,t7⟩⟩⟩):=rEn_kw HEN.out (fun g hg=>(Below.of_alloc (w:=E.drew) _).block g hg.2.1) (fun g hg=>⟨hg.1,by have:=hg.2.1;simp;omega,hg.2.2⟩)
   obtain ⟨A3,c3,rfl,hSt⟩:=StO.pushE hA (x:=⟨n1,n2,tab0,⟨n3,n4,n5,n6,m6,f6,⟨k7,i7,t7⟩⟩⟩) hx hO3 hg3 hv3
   obtain ⟨hS9,hB9⟩:=grow_cur hA hmem hg3 (HSd.out.below (Below.of_alloc _))
   have hk3:(fun W1:World=>CurAt W1 b (strB l) kk7 qq7 c.enc∧W1.heap[w.heap.size]? =some (.cells #[.pointer (some ⟨b,0,none⟩)] 175 (0,0))∧W1.heap[T]? =some (.cells #[.int .i64 n1,.string n2,.string ⟨#[]⟩,.slice none 0 0,.slice none 0 0,.slice none 0 0,.slice none 0 0,.int .i64 n3,.string n4,.string n5,.string n6,.int .i64 m6,.bool f6,.int .i64 k7,.int .i64 i7,.string t7] 79 (0,0))) w3:=⟨hS9,(hg3.block w.heap.size (by simp;have:=HBL.out;omega) hBne).trans (((Below.of_alloc (w:=E.drew) _).block w.heap.size HBL.out).trans HBE.out),(hg3.block T (by simp;have:=HTL.out;omega) hTne).trans (((Below.of_alloc (w:=E.drew) _).block T HTL.out).trans HTE.out)⟩
   refine rA0 hk3 ?_
   clear zh
   intro zh
   simp only [aP]
   refine runT 9 (some 79) (v:=?_) (w':=_) rfl rfl (by kernel_rfl) (by rfl) ?_ (fun _=>zh) ?_
   rotate_left
   ·go_simp<;>with_reducible rfl
   simp only [aP]
   refine runT 10 (some 80) (v:=?_) (w':=_) rfl rfl (by kernel_rfl) (by rfl) ?_ (fun _=>zh) ?_
   rotate_left
   ·go_simp<;>with_reducible rfl
   simp only [aP]
   refine tT 11 81 ?_
   refine skipRunT 12 none (w':=w3.setCell ⟨b,7,none⟩ (.slice A3 (c.ents.length+1) c3)) rfl rfl (by kernel_rfl) (by rfl) ?_ (fun h=>absurd rfl h) ?_
   ·exact yq17
   clear zh
   simp only [Act.put]
   refine doneT (by kernel_rfl) ?_ _
   refine NoPanic.normal ?_
   obtain ⟨c9,hc9⟩:∃c9:RSt,c9= { c with eA:=A3,eC:=c3,ents:=c.ents++[⟨n1,n2,tab0,⟨n3,n4,n5,n6,m6,f6,⟨k7,i7,t7⟩⟩⟩] }:=⟨_,rfl⟩
   rw [←hc9] at hSt
   have hF:CurAt (w3.setCell ⟨b,7,none⟩ (.slice A3 (c.ents.length+1) c3)) b (strB l) kk7 qq7 c9.enc∧StO (w3.setCell ⟨b,7,none⟩ (.slice A3 (c.ents.length+1) c3)) b c9∧Below b w3 (w3.setCell ⟨b,7,none⟩ (.slice A3 (c.ents.length+1) c3)):=push_fin (j:=4) hS9 hSt (by rw [hc9];simp [RSt.enc])
   have hBY:Below b w (w3.setCell ⟨b,7,none⟩ (.slice A3 (c.ents.length+1) c3)):=(((HCW.out.below (Nat.le_of_lt hbw) (fun _ e=>by omega)).trans (((Chg.refl (·=b) E).drew.alloc (.cells #[.int .i64 n1,.string n2,.string ⟨#[]⟩,.slice none 0 0,.slice none 0 0,.slice none 0 0,.slice none 0 0,.int .i64 n3,.string n4,.string n5,.string n6,.int .i64 m6,.bool f6,.int .i64 k7,.int .i64 i7,.string t7] 79)).below (Nat.le_of_lt hbE) (fun _ e=>by omega))).trans hB9).trans hF.2.2
   have hE9:c9.er=(pPart l 1 c (i,d)).1.er:=by
    rw [hc9]
    unfold pPart
    rw [if_pos rfl,HD.out]
    simp only [RSt.er,List.map_append,List.map_cons,List.map_nil]
   have hP9:(pPart l 1 c (i,d)).2=(kk7,qq7):=by unfold pPart;rw [if_pos rfl,HD.out]
   have HFIN:Hid (PartQ b l (pPart l 1 c (i,d)) w (w3.setCell ⟨b,7,none⟩ (.slice A3 (c.ents.length+1) c3))):=hI0 ⟨c9,hE9,by rw [hP9];exact hF.1,hF.2.1,hBY⟩
   go_wp2_with fail
   go_end0
   exact ⟨rfl,HFIN.out⟩
end Go.Proofs.YtgfhknnklapldaaGreatDoor
