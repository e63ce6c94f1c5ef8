/-
 Wk1
-/
import Derived.Test.YtgfhknnklapldaaGreatDoorPRc3
import Derived.Test.YtgfhknnklapldaaGreatDoorPSeg1
namespace Go.Proofs.YtgfhknnklapldaaGreatDoor
open Go.Proofs.Tryz
set_option maxRecDepth 99999
set_option maxHeartbeats 0
open Go.RowKit Go.Lib Go.IntWalk Go.Sort Go.Shelf
theorem bufText_any (base B:Nat) (l:List UInt8) (S:ByteArray) (w:World) (hbB:base≤B) (h:BufAt w base B l) (hS:S.size≤300) (hl:l.length+4000≤140737488300000):
  Calls prog 54 #[.pointer (some ⟨B,0,none⟩),.string S] w (BufOut base B (l++(encI S.size++S.data.toList)) w):=by
 have hBl:=h.lt
 obtain ⟨v,hBB,hO⟩:=h
 have hbase:base≤w.heap.size:=by omega
 have HBB:=hI0 hBB
 have HO:=hI0 hO
 obtain ⟨A0,c0,rfl,y1,y2,y3⟩:=Rd.open_ (Rd.of_own hO)
 have k0:=cW1 0 hBB rfl
 clear y3 y2 hBB hO
 have HLE:Hid (l.length+((encI S.size++S.data.toList)).length≤140737488300000):=hI0 (by have:=encI_length S.size;rw [List.length_append,show S.data.toList.length=S.size from rfl];omega)
 have hbW:Bl w w:=Below.refl _ _
 have hWs:w.heap.size≤w.heap.size:=Nat.le_refl _
 have hWl:B<w.heap.size:=hBl
 have k1:=k0
 go_in
 go_wp2_with fail
 refine wp_region_noPanic ?_
 refine beginT (S:=(fun w'=>w'.cell? ⟨B,0,none⟩=some (.slice A0 l.length c0))) 10 (by kernel_rfl) ?_ (fun zh=>?_)
 ·exact k1
 refine tT 0 4 ?_
 refine tT 1 5 ?_
 refine tT 2 6 ?_
 refine tT 3 7 ?_
 refine tT 4 8 ?_
 refine tT 5 9 ?_
 refine cT 6 10 ?_
 (with_reducible refine (putText_any (.slice none 0 0) [] S _ (RdB.nil _ _) (by simp;omega)).mono ?_)
 rintro e w2 ⟨vd,rfl,hOd,hb2⟩
 obtain ⟨Ad,cd,rfl,j1,j2,j3⟩:=Rd.open_ hOd.rd
 clear j3 j2
 refine ⟨_,rfl,keepAnd ?_ (fun hNew=>?_)⟩
 ·intro _;exact (World.cell?_of_block (hb2.block B (by have:=hWl;exact this))).trans k1
 have hNew:=hNew (by decide)
 clear zh
 have zh:=hNew
 clear hNew
 simp only [aP]
 have hbw2:Bl w w2:=hbW.trans ((Below.undrew hb2).mono hWs)
 have hO2:OwnB w2 base (.slice A0 l.length c0) l:=own_below HO.out hbw2
 have hB2:w2.heap[B]? =some (.cells #[.slice A0 l.length c0] 123 (0,0)):=(hbw2.block B hBl).trans HBB.out
 refine opT 7 rfl (by kernel_rfl) (by rfl) ?_
 refine wp_append_b (.tmp 8) (.tmp 10) rfl base (.slice A0 l.length c0) l rfl hO2 (ltw w2) _ ((encI S.size++S.data.toList)) rfl hOd.rd (by have:=HLE.out;omega) (by have:=hbw2.size;omega) ?_
 intro v' w3 hO3 hb3 hg3 hv3
 have hDone:=buf_done hbB HBB.out HO.out hbw2 hO3 hb3 hg3 hv3
 have hB3:w3.heap[B]? =some (.cells #[.slice A0 l.length c0] 123 (0,0)):=(hg3.block B (by have:=hbw2.size;omega) (own_not hO2 hB2 (by decide))).trans hB2
 have kf:=fW0 w3 B 0 _ _ hB3
 have kc:=cW1 0 hB3 rfl
 obtain ⟨A3,c3,rfl,z1,z2,z3⟩:=Rd.open_ (Rd.of_own hO3)
 clear z3 z2
 refine rA0 (cW0 _ B 0 _ _ _ hB3) ?_
 clear zh
 intro zh
 simp only [aP]
 refine runT 8 (some 12) (v:=?_) (w':=_) rfl rfl (by kernel_rfl) (by rfl) ?_ (fun _=>zh) ?_
 rotate_left
 ·go_simp<;>with_reducible rfl
 simp only [aP]
 refine tT 9 13 ?_
 refine skipRunT 10 none (w':=w3.setCell ⟨B,0,none⟩ (.slice A3 (l++(encI S.size++S.data.toList)).length c3)) rfl rfl (by kernel_rfl) (by rfl) ?_ (fun h=>absurd rfl h) ?_
 ·go_simp<;>with_reducible rfl
 clear zh
 simp only [Act.put]
 refine doneT (by kernel_rfl) ?_ _
 refine NoPanic.normal ?_
 go_wp2_with fail
 go_end0
 exact hDone
end Go.Proofs.YtgfhknnklapldaaGreatDoor
