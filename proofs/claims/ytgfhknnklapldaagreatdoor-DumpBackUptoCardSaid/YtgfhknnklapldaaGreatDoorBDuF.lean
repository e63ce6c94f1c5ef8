/-
 DuF
-/
import Derived.Test.YtgfhknnklapldaaGreatDoorBDuE
namespace Go.Proofs.YtgfhknnklapldaaGreatDoor
open Go.Proofs.Tryz
set_option maxRecDepth 99999
set_option maxHeartbeats 0
open Go.RowKit Go.Lib Go.IntWalk Go.Sort Go.Shelf
theorem lstInt_any (A:Option Addr) (c:Nat) (l:List Int) (g:Int→List (List UInt8)) (w:World) (he:EnvD w) (hv:RdE 1 intE w (ltw w) (.slice A l.length c) l)
  (h1:∀x∈l,∀W,Bl w W→Calls prog 69 #[.int .i64 x] W (ItS (g x) W)) (hl:sumI (lstI g l)≤100000000000):
  Calls prog 68 #[.slice A l.length c,.func (.func 69) #[] #[]] w (ItS (lstI g l) w):=by
 obtain ⟨z1,z2⟩:=RdE.bd hv
 have hb:Bl w (w.alloc (.cells #[.int .i64 (l.length:Int)] 3)):=Below.of_alloc _
 have KD:=hI0 (digits_any (.slice (some ⟨w.heap.size,0,none⟩) 1 1) [(l.length:Int)] _ (he.below hb) (rdBlkD (enc:=intE) (K:=1) (x:=(l.length:Int)) (e:=3) (heap_alloc_new w _) rfl) (by intro m hm;rw [List.mem_singleton] at hm;subst hm;omega) (by simp))
 have HB:=hI0 hb
 have HV:=hI0 hv
 have H1:=hI0 h1
 have HL:=hI0 hl
 clear he hv h1 hl hb
 go_in
 go_wp2_with fail
 (with_reducible refine KD.out.mono ?_)
 rintro _ w1 ⟨v0,rfl,ho0,hb1⟩
 have HO0:Hid (OwnS w1 w.heap.size v0 [itoa (l.length:Int)]):=hI0 (ho0.base HB.out.size)
 have HB1:=bT0 HB hb1
 clear ho0 hb1 KD
 go_wp2_with fail
 go_loopw [5,14] (fun out i wr=>∃k:Nat,i=.int .i64 (k:Int)∧k≤l.length∧Hid (OwnS wr w.heap.size out (itoa (l.length:Int)::(l.take k).flatMap g))∧Hid (Bl w wr)) (fun _ i _=>l.length-(intOf i).toNat)
 case atStart=>exact ⟨0,rfl,Nat.zero_le _,HO0,HB1⟩
 obtain ⟨k,rfl,hk,HO,HW⟩:=hrel
 obtain ⟨wi,rfl⟩:=eN0 wr
 by_cases hlt:k<l.length
 case neg=>
  have e:k=l.length:=by omega
  have ho:=HO.out
  rw [e,List.take_length] at ho
  have HO2:=hI0 ho
  clear ho e
  go_wp2_with fail
  go_ret
  exact ⟨_,rfl,HO2.out,HW.out⟩
 obtain ⟨b,off,hA,hF,hc⟩:=RdE.at_ (K:=1) (enc:=intE) (fun _=>rfl) (by omega) (HV.out.keep (Keeps.below HW.out)) hlt
 have hq:=hc k hlt
 have h1x:=H1.out l[k] (List.getElem_mem hlt)
 have hs:=takeF (f:=g) hlt
 have hn:(itoa (l.length:Int)::(l.take k).flatMap g).length+(g l[k]).length≤1000000000000:=by
  have e1:=takeF_le (f:=g) (l:=l) (k+1)
  have e2:=sumI_ge ((l.take k).flatMap g)
  have e3:=sumI_ge (g l[k])
  have e4:=HL.out
  unfold lstI at e4
  rw [hs,sumI_app] at e1
  rw [sumI_cons] at e4
  simp only [List.length_cons]
  omega
 have HS:=hI0 hs
 have HN:=hI0 hn
 clear hc hs hn
 subst hA
 generalize l[k]=x at *
 have c0:wi.cell? ⟨b,off+k,none⟩=some (.int .i64 x):=by have:=hq 0 (.int .i64 x) (by omega) rfl;simpa using this
 clear hq
 have hW1:Bl wi wi:=Below.refl _ _
 have KX:Hid (Calls prog 69 #[.int .i64 x] wi (ItS (g x) wi)):=hI0 (h1x wi (bU0 HW hW1))
 have HO1:=hI0 (HO.out.below hW1)
 have HW1:=bT0 HW hW1
 clear h1x hW1
 go_wp2_with fail
 (with_reducible refine KX.out.mono ?_)
 rintro _ w2 ⟨v2,rfl,ho2,hb2⟩
 have hO2:=HO1.out.below hb2
 have HW2:=bT0 HW1 hb2
 go_wp2_with (refine apS 18 21 hO2 ho2.rd HN.out HW2.out.size ?_;intro v3 w3 hO3 hg3 hb3)
 go_roundw
 case rel=>exact ⟨k+1,by go_num,by omega,hI0 (by rw [HS.out];exact hO3),hI0 (HW2.out.trans hb3)⟩
 case measure=>simp [intOf];omega
theorem lstVal_any (A:Option Addr) (c:Nat) (l:List Val) (g:Val→List (List UInt8)) (w:World) (he:EnvD w) (hv:RdE 3 Val.cells w (ltw w) (.slice A l.length c) l)
  (h1:∀x∈l,∀W,Bl w W→Calls prog 75 #[.agg x.cells.toArray] W (ItS (g x) W)) (hl:sumI (lstI g l)≤100000000000):
  Calls prog 74 #[.slice A l.length c,.func (.func 75) #[] #[]] w (ItS (lstI g l) w):=by
 obtain ⟨z1,z2⟩:=RdE.bd hv
 have hb:Bl w (w.alloc (.cells #[.int .i64 (l.length:Int)] 3)):=Below.of_alloc _
 have KD:=hI0 (digits_any (.slice (some ⟨w.heap.size,0,none⟩) 1 1) [(l.length:Int)] _ (he.below hb) (rdBlkD (enc:=intE) (K:=1) (x:=(l.length:Int)) (e:=3) (heap_alloc_new w _) rfl) (by intro m hm;rw [List.mem_singleton] at hm;subst hm;omega) (by simp))
 have HB:=hI0 hb
 have HV:=hI0 hv
 have H1:=hI0 h1
 have HL:=hI0 hl
 clear he hv h1 hl hb
 go_in
 go_wp2_with fail
 (with_reducible refine KD.out.mono ?_)
 rintro _ w1 ⟨v0,rfl,ho0,hb1⟩
 have HO0:Hid (OwnS w1 w.heap.size v0 [itoa (l.length:Int)]):=hI0 (ho0.base HB.out.size)
 have HB1:=bT0 HB hb1
 clear ho0 hb1 KD
 go_wp2_with fail
 go_loopw [5,14] (fun out i wr=>∃k:Nat,i=.int .i64 (k:Int)∧k≤l.length∧Hid (OwnS wr w.heap.size out (itoa (l.length:Int)::(l.take k).flatMap g))∧Hid (Bl w wr)) (fun _ i _=>l.length-(intOf i).toNat)
 case atStart=>exact ⟨0,rfl,Nat.zero_le _,HO0,HB1⟩
 obtain ⟨k,rfl,hk,HO,HW⟩:=hrel
 obtain ⟨wi,rfl⟩:=eN0 wr
 by_cases hlt:k<l.length
 case neg=>
  have e:k=l.length:=by omega
  have ho:=HO.out
  rw [e,List.take_length] at ho
  have HO2:=hI0 ho
  clear ho e
  go_wp2_with fail
  go_ret
  exact ⟨_,rfl,HO2.out,HW.out⟩
 obtain ⟨b,off,hA,hF,hc⟩:=RdE.at_ (K:=3) (enc:=Val.cells) (fun _=>rfl) (by omega) (HV.out.keep (Keeps.below HW.out)) hlt
 have hq:=hc k hlt
 have h1x:=H1.out l[k] (List.getElem_mem hlt)
 have hs:=takeF (f:=g) hlt
 have hn:(itoa (l.length:Int)::(l.take k).flatMap g).length+(g l[k]).length≤1000000000000:=by
  have e1:=takeF_le (f:=g) (l:=l) (k+1)
  have e2:=sumI_ge ((l.take k).flatMap g)
  have e3:=sumI_ge (g l[k])
  have e4:=HL.out
  unfold lstI at e4
  rw [hs,sumI_app] at e1
  rw [sumI_cons] at e4
  simp only [List.length_cons]
  omega
 have HS:=hI0 hs
 have HN:=hI0 hn
 clear hc hs hn
 subst hA
 generalize l[k]=x at *
 obtain ⟨k0,k1,k2⟩:=x
 have c0:wi.cell? ⟨b,off+k*3,none⟩=some (.int .i64 k0):=hq 0 _ (by omega) rfl
 have c1:wi.cell? ⟨b,off+k*3+1,none⟩=some (.int .i64 k1):=hq 1 _ (by omega) rfl
 have c2:wi.cell? ⟨b,off+k*3+2,none⟩=some (.string k2):=hq 2 _ (by omega) rfl
 clear hq
 have hW1:Bl wi (wi.alloc (.cells #[.int .i64 k0,.int .i64 k1,.string k2] 51)):=Below.of_alloc _
 have KX:Hid (Calls prog 75 #[.agg #[.int .i64 k0,.int .i64 k1,.string k2]] (wi.alloc (.cells #[.int .i64 k0,.int .i64 k1,.string k2] 51)) (ItS (g ⟨k0,k1,k2⟩) (wi.alloc (.cells #[.int .i64 k0,.int .i64 k1,.string k2] 51)))):=hI0 (h1x (wi.alloc (.cells #[.int .i64 k0,.int .i64 k1,.string k2] 51)) (bU0 HW hW1))
 have HO1:=hI0 (HO.out.below hW1)
 have HW1:=bT0 HW hW1
 clear h1x hW1
 go_wp2_with fail
 (with_reducible refine KX.out.mono ?_)
 rintro _ w2 ⟨v2,rfl,ho2,hb2⟩
 have hO2:=HO1.out.below hb2
 have HW2:=bT0 HW1 hb2
 go_wp2_with (refine apS 18 21 hO2 ho2.rd HN.out HW2.out.size ?_;intro v3 w3 hO3 hg3 hb3)
 go_roundw
 case rel=>exact ⟨k+1,by go_num,by omega,hI0 (by rw [HS.out];exact hO3),hI0 (HW2.out.trans hb3)⟩
 case measure=>simp [intOf];omega
theorem lstCol_any (A:Option Addr) (c:Nat) (l:List RCol) (g:RCol→List (List UInt8)) (w:World) (he:EnvD w) (hv:RdE 3 RCol.enc w (ltw w) (.slice A l.length c) l)
  (h1:∀x∈l,∀W,Bl w W→Calls prog 65 #[.agg x.enc.toArray] W (ItS (g x) W)) (hl:sumI (lstI g l)≤100000000000):
  Calls prog 67 #[.slice A l.length c,.func (.func 65) #[] #[]] w (ItS (lstI g l) w):=by
 obtain ⟨z1,z2⟩:=RdE.bd hv
 have hb:Bl w (w.alloc (.cells #[.int .i64 (l.length:Int)] 3)):=Below.of_alloc _
 have KD:=hI0 (digits_any (.slice (some ⟨w.heap.size,0,none⟩) 1 1) [(l.length:Int)] _ (he.below hb) (rdBlkD (enc:=intE) (K:=1) (x:=(l.length:Int)) (e:=3) (heap_alloc_new w _) rfl) (by intro m hm;rw [List.mem_singleton] at hm;subst hm;omega) (by simp))
 have HB:=hI0 hb
 have HV:=hI0 hv
 have H1:=hI0 h1
 have HL:=hI0 hl
 clear he hv h1 hl hb
 go_in
 go_wp2_with fail
 (with_reducible refine KD.out.mono ?_)
 rintro _ w1 ⟨v0,rfl,ho0,hb1⟩
 have HO0:Hid (OwnS w1 w.heap.size v0 [itoa (l.length:Int)]):=hI0 (ho0.base HB.out.size)
 have HB1:=bT0 HB hb1
 clear ho0 hb1 KD
 go_wp2_with fail
 go_loopw [5,14] (fun out i wr=>∃k:Nat,i=.int .i64 (k:Int)∧k≤l.length∧Hid (OwnS wr w.heap.size out (itoa (l.length:Int)::(l.take k).flatMap g))∧Hid (Bl w wr)) (fun _ i _=>l.length-(intOf i).toNat)
 case atStart=>exact ⟨0,rfl,Nat.zero_le _,HO0,HB1⟩
 obtain ⟨k,rfl,hk,HO,HW⟩:=hrel
 obtain ⟨wi,rfl⟩:=eN0 wr
 by_cases hlt:k<l.length
 case neg=>
  have e:k=l.length:=by omega
  have ho:=HO.out
  rw [e,List.take_length] at ho
  have HO2:=hI0 ho
  clear ho e
  go_wp2_with fail
  go_ret
  exact ⟨_,rfl,HO2.out,HW.out⟩
 obtain ⟨b,off,hA,hF,hc⟩:=RdE.at_ (K:=3) (enc:=RCol.enc) (fun _=>rfl) (by omega) (HV.out.keep (Keeps.below HW.out)) hlt
 have hq:=hc k hlt
 have h1x:=H1.out l[k] (List.getElem_mem hlt)
 have hs:=takeF (f:=g) hlt
 have hn:(itoa (l.length:Int)::(l.take k).flatMap g).length+(g l[k]).length≤1000000000000:=by
  have e1:=takeF_le (f:=g) (l:=l) (k+1)
  have e2:=sumI_ge ((l.take k).flatMap g)
  have e3:=sumI_ge (g l[k])
  have e4:=HL.out
  unfold lstI at e4
  rw [hs,sumI_app] at e1
  rw [sumI_cons] at e4
  simp only [List.length_cons]
  omega
 have HS:=hI0 hs
 have HN:=hI0 hn
 clear hc hs hn
 subst hA
 generalize l[k]=x at *
 obtain ⟨a,n,bb⟩:=x
 have c0:wi.cell? ⟨b,off+k*3,none⟩=some (.string a):=hq 0 _ (by omega) rfl
 have c1:wi.cell? ⟨b,off+k*3+1,none⟩=some (.int .i64 n):=hq 1 _ (by omega) rfl
 have c2:wi.cell? ⟨b,off+k*3+2,none⟩=some (.bool bb):=hq 2 _ (by omega) rfl
 clear hq
 have hW1:Bl wi (wi.alloc (.cells #[.string a,.int .i64 n,.bool bb] 75)):=Below.of_alloc _
 have KX:Hid (Calls prog 65 #[.agg #[.string a,.int .i64 n,.bool bb]] (wi.alloc (.cells #[.string a,.int .i64 n,.bool bb] 75)) (ItS (g ⟨a,n,bb⟩) (wi.alloc (.cells #[.string a,.int .i64 n,.bool bb] 75)))):=hI0 (h1x (wi.alloc (.cells #[.string a,.int .i64 n,.bool bb] 75)) (bU0 HW hW1))
 have HO1:=hI0 (HO.out.below hW1)
 have HW1:=bT0 HW hW1
 clear h1x hW1
 go_wp2_with fail
 (with_reducible refine KX.out.mono ?_)
 rintro _ w2 ⟨v2,rfl,ho2,hb2⟩
 have hO2:=HO1.out.below hb2
 have HW2:=bT0 HW1 hb2
 go_wp2_with (refine apS 18 21 hO2 ho2.rd HN.out HW2.out.size ?_;intro v3 w3 hO3 hg3 hb3)
 go_roundw
 case rel=>exact ⟨k+1,by go_num,by omega,hI0 (by rw [HS.out];exact hO3),hI0 (HW2.out.trans hb3)⟩
 case measure=>simp [intOf];omega
theorem lstFor_any (A:Option Addr) (c:Nat) (l:List RFor) (g:RFor→List (List UInt8)) (w:World) (he:EnvD w) (hv:RdE 2 RFor.enc w (ltw w) (.slice A l.length c) l)
  (h1:∀x∈l,∀W,Bl w W→Calls prog 71 #[.agg x.enc.toArray] W (ItS (g x) W)) (hl:sumI (lstI g l)≤100000000000):
  Calls prog 70 #[.slice A l.length c,.func (.func 71) #[] #[]] w (ItS (lstI g l) w):=by
 obtain ⟨z1,z2⟩:=RdE.bd hv
 have hb:Bl w (w.alloc (.cells #[.int .i64 (l.length:Int)] 3)):=Below.of_alloc _
 have KD:=hI0 (digits_any (.slice (some ⟨w.heap.size,0,none⟩) 1 1) [(l.length:Int)] _ (he.below hb) (rdBlkD (enc:=intE) (K:=1) (x:=(l.length:Int)) (e:=3) (heap_alloc_new w _) rfl) (by intro m hm;rw [List.mem_singleton] at hm;subst hm;omega) (by simp))
 have HB:=hI0 hb
 have HV:=hI0 hv
 have H1:=hI0 h1
 have HL:=hI0 hl
 clear he hv h1 hl hb
 go_in
 go_wp2_with fail
 (with_reducible refine KD.out.mono ?_)
 rintro _ w1 ⟨v0,rfl,ho0,hb1⟩
 have HO0:Hid (OwnS w1 w.heap.size v0 [itoa (l.length:Int)]):=hI0 (ho0.base HB.out.size)
 have HB1:=bT0 HB hb1
 clear ho0 hb1 KD
 go_wp2_with fail
 go_loopw [5,14] (fun out i wr=>∃k:Nat,i=.int .i64 (k:Int)∧k≤l.length∧Hid (OwnS wr w.heap.size out (itoa (l.length:Int)::(l.take k).flatMap g))∧Hid (Bl w wr)) (fun _ i _=>l.length-(intOf i).toNat)
 case atStart=>exact ⟨0,rfl,Nat.zero_le _,HO0,HB1⟩
 obtain ⟨k,rfl,hk,HO,HW⟩:=hrel
 obtain ⟨wi,rfl⟩:=eN0 wr
 by_cases hlt:k<l.length
 case neg=>
  have e:k=l.length:=by omega
  have ho:=HO.out
  rw [e,List.take_length] at ho
  have HO2:=hI0 ho
  clear ho e
  go_wp2_with fail
  go_ret
  exact ⟨_,rfl,HO2.out,HW.out⟩
 obtain ⟨b,off,hA,hF,hc⟩:=RdE.at_ (K:=2) (enc:=RFor.enc) (fun _=>rfl) (by omega) (HV.out.keep (Keeps.below HW.out)) hlt
 have hq:=hc k hlt
 have h1x:=H1.out l[k] (List.getElem_mem hlt)
 have hs:=takeF (f:=g) hlt
 have hn:(itoa (l.length:Int)::(l.take k).flatMap g).length+(g l[k]).length≤1000000000000:=by
  have e1:=takeF_le (f:=g) (l:=l) (k+1)
  have e2:=sumI_ge ((l.take k).flatMap g)
  have e3:=sumI_ge (g l[k])
  have e4:=HL.out
  unfold lstI at e4
  rw [hs,sumI_app] at e1
  rw [sumI_cons] at e4
  simp only [List.length_cons]
  omega
 have HS:=hI0 hs
 have HN:=hI0 hn
 clear hc hs hn
 subst hA
 generalize l[k]=x at *
 obtain ⟨fa,fc,fcols,ft⟩:=x
 have c0:wi.cell? ⟨b,off+k*2,none⟩=some (.slice fa fcols.length fc):=hq 0 _ (by omega) rfl
 have c1:wi.cell? ⟨b,off+k*2+1,none⟩=some (.string ft):=hq 1 _ (by omega) rfl
 clear hq
 have hW1:Bl wi (wi.alloc (.cells #[.slice fa fcols.length fc,.string ft] 158)):=Below.of_alloc _
 have KX:Hid (Calls prog 71 #[.agg #[.slice fa fcols.length fc,.string ft]] (wi.alloc (.cells #[.slice fa fcols.length fc,.string ft] 158)) (ItS (g ⟨fa,fc,fcols,ft⟩) (wi.alloc (.cells #[.slice fa fcols.length fc,.string ft] 158)))):=hI0 (h1x (wi.alloc (.cells #[.slice fa fcols.length fc,.string ft] 158)) (bU0 HW hW1))
 have HO1:=hI0 (HO.out.below hW1)
 have HW1:=bT0 HW hW1
 clear h1x hW1
 go_wp2_with fail
 (with_reducible refine KX.out.mono ?_)
 rintro _ w2 ⟨v2,rfl,ho2,hb2⟩
 have hO2:=HO1.out.below hb2
 have HW2:=bT0 HW1 hb2
 go_wp2_with (refine apS 18 21 hO2 ho2.rd HN.out HW2.out.size ?_;intro v3 w3 hO3 hg3 hb3)
 go_roundw
 case rel=>exact ⟨k+1,by go_num,by omega,hI0 (by rw [HS.out];exact hO3),hI0 (HW2.out.trans hb3)⟩
 case measure=>simp [intOf];omega
theorem lstExp_any (A:Option Addr) (c:Nat) (l:List RE) (g:RE→List (List UInt8)) (w:World) (he:EnvD w) (hv:RdE 7 RE.enc w (ltw w) (.slice A l.length c) l)
  (h1:∀x∈l,∀W,Bl w W→Calls prog 73 #[.agg x.enc.toArray] W (ItS (g x) W)) (hl:sumI (lstI g l)≤100000000000):
  Calls prog 72 #[.slice A l.length c,.func (.func 73) #[] #[]] w (ItS (lstI g l) w):=by
 obtain ⟨z1,z2⟩:=RdE.bd hv
 have hb:Bl w (w.alloc (.cells #[.int .i64 (l.length:Int)] 3)):=Below.of_alloc _
 have KD:=hI0 (digits_any (.slice (some ⟨w.heap.size,0,none⟩) 1 1) [(l.length:Int)] _ (he.below hb) (rdBlkD (enc:=intE) (K:=1) (x:=(l.length:Int)) (e:=3) (heap_alloc_new w _) rfl) (by intro m hm;rw [List.mem_singleton] at hm;subst hm;omega) (by simp))
 have HB:=hI0 hb
 have HV:=hI0 hv
 have H1:=hI0 h1
 have HL:=hI0 hl
 clear he hv h1 hl hb
 go_in
 go_wp2_with fail
 (with_reducible refine KD.out.mono ?_)
 rintro _ w1 ⟨v0,rfl,ho0,hb1⟩
 have HO0:Hid (OwnS w1 w.heap.size v0 [itoa (l.length:Int)]):=hI0 (ho0.base HB.out.size)
 have HB1:=bT0 HB hb1
 clear ho0 hb1 KD
 go_wp2_with fail
 go_loopw [5,14] (fun out i wr=>∃k:Nat,i=.int .i64 (k:Int)∧k≤l.length∧Hid (OwnS wr w.heap.size out (itoa (l.length:Int)::(l.take k).flatMap g))∧Hid (Bl w wr)) (fun _ i _=>l.length-(intOf i).toNat)
 case atStart=>exact ⟨0,rfl,Nat.zero_le _,HO0,HB1⟩
 obtain ⟨k,rfl,hk,HO,HW⟩:=hrel
 obtain ⟨wi,rfl⟩:=eN0 wr
 by_cases hlt:k<l.length
 case neg=>
  have e:k=l.length:=by omega
  have ho:=HO.out
  rw [e,List.take_length] at ho
  have HO2:=hI0 ho
  clear ho e
  go_wp2_with fail
  go_ret
  exact ⟨_,rfl,HO2.out,HW.out⟩
 obtain ⟨b,off,hA,hF,hc⟩:=RdE.at_ (K:=7) (enc:=RE.enc) RE.enc_length (by omega) (HV.out.keep (Keeps.below HW.out)) hlt
 have hq:=hc k hlt
 have h1x:=H1.out l[k] (List.getElem_mem hlt)
 have hs:=takeF (f:=g) hlt
 have hn:(itoa (l.length:Int)::(l.take k).flatMap g).length+(g l[k]).length≤1000000000000:=by
  have e1:=takeF_le (f:=g) (l:=l) (k+1)
  have e2:=sumI_ge ((l.take k).flatMap g)
  have e3:=sumI_ge (g l[k])
  have e4:=HL.out
  unfold lstI at e4
  rw [hs,sumI_app] at e1
  rw [sumI_cons] at e4
  simp only [List.length_cons]
  omega
 have HS:=hI0 hs
 have HN:=hI0 hn
 clear hc hs hn
 subst hA
 generalize l[k]=x at *
 obtain ⟨op,it,⟨vk,vi,vs⟩,nm,ea,ec,eargs⟩:=x
 have c0:wi.cell? ⟨b,off+k*7,none⟩=some (.int .i64 op):=hq 0 _ (by omega) rfl
 have c1:wi.cell? ⟨b,off+k*7+1,none⟩=some (.int .i64 it):=hq 1 _ (by omega) rfl
 have c2:wi.cell? ⟨b,off+k*7+2,none⟩=some (.int .i64 vk):=hq 2 _ (by omega) rfl
 have c3:wi.cell? ⟨b,off+k*7+3,none⟩=some (.int .i64 vi):=hq 3 _ (by omega) rfl
 have c4:wi.cell? ⟨b,off+k*7+4,none⟩=some (.string vs):=hq 4 _ (by omega) rfl
 have c5:wi.cell? ⟨b,off+k*7+5,none⟩=some (.string nm):=hq 5 _ (by omega) rfl
 have c6:wi.cell? ⟨b,off+k*7+6,none⟩=some (.slice ea eargs.length ec):=hq 6 _ (by omega) rfl
 clear hq
 have hW1:Bl wi (wi.alloc (.cells #[.int .i64 op,.int .i64 it,.int .i64 vk,.int .i64 vi,.string vs,.string nm,.slice ea eargs.length ec] 117)):=Below.of_alloc _
 have KX:Hid (Calls prog 73 #[.agg #[.int .i64 op,.int .i64 it,.int .i64 vk,.int .i64 vi,.string vs,.string nm,.slice ea eargs.length ec]] (wi.alloc (.cells #[.int .i64 op,.int .i64 it,.int .i64 vk,.int .i64 vi,.string vs,.string nm,.slice ea eargs.length ec] 117)) (ItS (g ⟨op,it,⟨vk,vi,vs⟩,nm,ea,ec,eargs⟩) (wi.alloc (.cells #[.int .i64 op,.int .i64 it,.int .i64 vk,.int .i64 vi,.string vs,.string nm,.slice ea eargs.length ec] 117)))):=hI0 (h1x (wi.alloc (.cells #[.int .i64 op,.int .i64 it,.int .i64 vk,.int .i64 vi,.string vs,.string nm,.slice ea eargs.length ec] 117)) (bU0 HW hW1))
 have HO1:=hI0 (HO.out.below hW1)
 have HW1:=bT0 HW hW1
 clear h1x hW1
 go_wp2_with fail
 (with_reducible refine KX.out.mono ?_)
 rintro _ w2 ⟨v2,rfl,ho2,hb2⟩
 have hO2:=HO1.out.below hb2
 have HW2:=bT0 HW1 hb2
 go_wp2_with (refine apS 18 21 hO2 ho2.rd HN.out HW2.out.size ?_;intro v3 w3 hO3 hg3 hb3)
 go_roundw
 case rel=>exact ⟨k+1,by go_num,by omega,hI0 (by rw [HS.out];exact hO3),hI0 (HW2.out.trans hb3)⟩
 case measure=>simp [intOf];omega
theorem entry1_any (x:RFor) (w:World) (he:EnvD w) (hi:x.is w (ltw w)) (ha:x.table.size≤1000) (hn:∀n∈x.cols,-9223372036854775808≤n∧n≤9223372036854775807) (hl:sumI (forI x)≤100000000000):Calls prog 71 #[.agg x.enc.toArray] w (ItS (forI x) w):=by
 obtain ⟨fa,fc,fcols,ft⟩:=x
 simp only at ha hn
 have hv:RdE 1 intE w (ltw w) (.slice fa fcols.length fc) fcols:=hi
 show Calls prog 71 #[.agg #[.slice fa fcols.length fc,.string ft]] w _
 have hl1:sumI (lstI numI fcols)≤100000000000:=by
  have hl':sumI (lstI numI fcols++[qS ft])≤100000000000:=hl
  rw [sumI_app] at hl'
  omega
 have hln:(lstI numI fcols).length+[qS ft].length≤1000000000000:=by
  have:=sumI_ge (lstI numI fcols)
  simp only [List.length_cons,List.length_nil]
  omega
 have hBx:(w.alloc (.cells #[.slice fa fcols.length fc,.string ft] 158)).heap[w.heap.size]? =some (.cells #[.slice fa fcols.length fc,.string ft] 158 (0,0)):=heap_alloc_new w _
 have hb:Bl w (w.alloc (.cells #[.slice fa fcols.length fc,.string ft] 158)):=Below.of_alloc _
 have HE:=hI0 he
 have HB:=hI0 hb
 have HV:=hI0 hv
 have HN:=hI0 hn
 have HL:=hI0 hl1
 have HLN:=hI0 hln
 clear he hb hv hi hn hl hl1 hln
 go_in
 go_wp2_with fail
 refine wp_region_noPanic ?_
 refine wp_region_held_drew (S:=(fun Y=>Y.heap[w.heap.size]? =some (.cells #[.slice fa fcols.length fc,.string ft] 158 (0,0)))) (by kernel_rfl) ?_ (fun zh=>?_)
 ·exact hBx
 refine hT 0 3 ?_
 refine hU 1 4 (v:=?_) zh ?_ ?_
 rotate_left
 ·intro w' hSw;(try dsimp only at hSw);have c0:=cW1 (v:=.slice fa fcols.length fc) 0 hSw rfl;go_simp<;>with_reducible rfl
 refine hT 3 6 ?_
 refine hU 4 7 (v:=?_) zh ?_ ?_
 rotate_left
 ·intro w' hSw;(try dsimp only at hSw);have c1:=cW1 (v:=.string ft) 1 hSw rfl;go_simp<;>with_reducible rfl
 refine hC 2 5 ?_
 (with_reducible refine (lstInt_any fa fc fcols numI _ (HE.out.below HB.out.drew) (HV.out.below HB.out.drew) (fun x hx V hV=>dnum_any x V (HE.out.below (HB.out.drew.trans (hV.mono HB.out.drew.size))) (HN.out x hx).1 (HN.out x hx).2) HL.out).mono ?_)
 rintro _ w1 ⟨v1,rfl,ho1,hb1⟩
 have hB1:Bl w w1:=HB.out.drew.trans (hb1.mono HB.out.size)
 refine ⟨_,rfl,keepAnd (keepRow hb1 zh) ?_⟩
 clear zh
 intro zh
 simp only [aP]
 refine hC 5 8 ?_
 (with_reducible refine (quote_any ft w1 (HE.out.below hB1) ha).mono ?_)
 rintro _ w2 ⟨rfl,hb2⟩
 have hB2:Bl w w2:=hB1.trans (hb2.mono hB1.size)
 have hO1:=hI0 ((ho1.base HB.out.size).below hb2)
 refine ⟨_,rfl,keepAnd (keepRow hb2 zh) ?_⟩
 clear zh
 intro zh
 simp only [aP]
 have hNew:(fun Y=>Y.heap[w.heap.size]? =some (.cells #[.slice fa fcols.length fc,.string ft] 158 (0,0))) (w2.alloc (.cells (svL [qS ft]).toArray 9)):=by exact (Below.heap_alloc w2 _ _ (Array.getElem?_eq_some_iff.1 zh).1).trans zh
 refine heldRun 6 (some 9) (v:=.slice (some ⟨w2.heap.size,0,none⟩) 1 1) (w':=w2.alloc (.cells (svL [qS ft]).toArray 9)) rfl rfl (by kernel_rfl) (by rfl) ?_ hNew ?_
 ·go_simp;rfl
 clear zh
 have zh:=hNew
 clear hNew
 simp only [aP]
 refine heldOp 7 rfl (by kernel_rfl) (by rfl) ?_
 refine apO 5 9 (hO1.out.below (Below.of_alloc _)) (OwnS.new w2 [qS ft] w.heap.size hB2.size (by unfold maxLen;simp)).rd HLN.out (by have:=hB2.size;simp;omega) ?_
 intro v3 w3 hO3 hg3 hb3
 refine keepAnd ?_ (fun hNew=>?_)
 ·exact keepGr (hO1.out.below (Below.of_alloc _)) hg3 zh (by intro cs fr e;injection e with _ e _;exact absurd e (by decide))
 clear zh
 have zh:=hNew
 clear hNew
 simp only [aP]
 refine hT 8 2 ?_
 refine rD0 ?_
 go_wp2_with fail
 go_ret
 exact ⟨_,rfl,hO3,(hB2.alloc hB2.size _).trans hb3⟩
theorem expr_any:∀(d:Nat) (e:RE) (w:World),EnvD w→okX d e=true→exIs d w (ltw w) e→e.nodes≤1048576→
  Calls prog 73 #[.agg e.enc.toArray] w (ItS (exI e) w):=by
 intro d
 induction d with
 |zero=>intro e w _ h;simp [okX] at h
 |succ d ih=>
  intro e w he hok hi hn
  have hle:=exI_le (d+1) e hok hn
  obtain ⟨op,it,⟨vk,vi,vs⟩,nm,ea,ec,eargs⟩:=e
  obtain ⟨hr,_,_,hia⟩:=hi
  simp only [okX,Bool.and_eq_true,decide_eq_true_eq,List.all_eq_true] at hok
  obtain ⟨h1,h2,hvv,hnm0,_,hoa⟩:=hok
  rw [exI_eq] at hle ⊢
  show Calls prog 73 #[.agg #[.int .i64 op,.int .i64 it,.int .i64 vk,.int .i64 vi,.string vs,.string nm,.slice ea eargs.length ec]] w _
  have hnm:nm.size≤1000:=by omega
  have hIB:∀n∈[op,it],-9223372036854775808≤n∧n≤9223372036854775807:=by
   intro n hm
   simp only [List.mem_cons,List.not_mem_nil,or_false] at hm
   rcases hm with rfl|rfl<;>omega
  simp only [RE.nodes,nodesL_sum] at hn hle
  have hl2:sumI (lstI exI eargs)≤100000000000:=by
   rw [sumI_app] at hle
   omega
  have hnl:∀x∈eargs,x.nodes≤1048576:=fun x hx=>by
   have:=szL_mem (sz:=RE.nodes) hx
   unfold szL at this
   omega
  have hBx:(w.alloc (.cells #[.int .i64 op,.int .i64 it,.int .i64 vk,.int .i64 vi,.string vs,.string nm,.slice ea eargs.length ec] 117)).heap[w.heap.size]? =some (.cells #[.int .i64 op,.int .i64 it,.int .i64 vk,.int .i64 vi,.string vs,.string nm,.slice ea eargs.length ec] 117 (0,0)):=heap_alloc_new w _
  have hb:Bl w (w.alloc (.cells #[.int .i64 op,.int .i64 it,.int .i64 vk,.int .i64 vi,.string vs,.string nm,.slice ea eargs.length ec] 117)):=Below.of_alloc _
  have KA:∀V,Bl w V→Calls prog 72 #[.slice ea eargs.length ec,.func (.func 73) #[] #[]] V (ItS (lstI exI eargs) V):=fun V hV=>
   lstExp_any ea ec eargs exI V (he.below hV) (hr.below hV) (fun x hx V2 hV2=>ih x V2 ((he.below hV).below hV2) (hoa x hx) (exIs_below hV2 d x (exIs_below hV d x (hia x hx))) (hnl x hx)) hl2
  have HE:=hI0 he
  have HB:=hI0 hb
  have HVV:=hI0 hvv
  have HKA:=hI0 KA
  have HLN:Hid (([op,it].map itoa++[valB ⟨vk,vi,vs⟩,qS nm]).length+(lstI exI eargs).length≤1000000000000):=hI0 (by
   have:=sumI_ge (lstI exI eargs)
   simp only [List.length_append,List.length_map,List.length_cons,List.length_nil]
   omega)
  clear he hb hvv KA hle hr hia hoa hnl ih h1 h2 hn hl2 hnm0
  go_in
  go_wp2_with fail
  refine wp_region_noPanic ?_
  refine wp_region_held_drew (S:=(fun Y=>Y.heap[w.heap.size]? =some (.cells #[.int .i64 op,.int .i64 it,.int .i64 vk,.int .i64 vi,.string vs,.string nm,.slice ea eargs.length ec] 117 (0,0)))) (by kernel_rfl) ?_ (fun zh=>?_)
  ·exact hBx
  refine hT 0 4 ?_
  refine hU 1 5 (v:=?_) zh ?_ ?_
  rotate_left
  ·intro w' hSw;(try dsimp only at hSw);have c0:=cW1 (v:=.int .i64 op) 0 hSw rfl;go_simp<;>with_reducible rfl
  refine hT 2 6 ?_
  refine hU 3 7 (v:=?_) zh ?_ ?_
  rotate_left
  ·intro w' hSw;(try dsimp only at hSw);have c1:=cW1 (v:=.int .i64 it) 1 hSw rfl;go_simp<;>with_reducible rfl
  refine hT 6 10 ?_
  refine hU 7 11 (v:=?_) zh ?_ ?_
  rotate_left
  ·intro w' hSw;(try dsimp only at hSw);have c2:=cW1 (v:=.int .i64 vk) 2 hSw rfl;have c3:=cW1 (v:=.int .i64 vi) 3 hSw rfl;have c4:=cW1 (v:=.string vs) 4 hSw rfl;go_simp<;>with_reducible rfl
  refine hT 9 13 ?_
  refine hU 10 14 (v:=?_) zh ?_ ?_
  rotate_left
  ·intro w' hSw;(try dsimp only at hSw);have c5:=cW1 (v:=.string nm) 5 hSw rfl;go_simp<;>with_reducible rfl
  have hNew:(fun Y=>Y.heap[w.heap.size]? =some (.cells #[.int .i64 op,.int .i64 it,.int .i64 vk,.int .i64 vi,.string vs,.string nm,.slice ea eargs.length ec] 117 (0,0))) ((w.alloc (.cells #[.int .i64 op,.int .i64 it,.int .i64 vk,.int .i64 vi,.string vs,.string nm,.slice ea eargs.length ec] 117)).drew.alloc (.cells ([op,it].flatMap intE).toArray 3)):=by exact (Below.heap_alloc (w.alloc (.cells #[.int .i64 op,.int .i64 it,.int .i64 vk,.int .i64 vi,.string vs,.string nm,.slice ea eargs.length ec] 117)).drew _ _ (Array.getElem?_eq_some_iff.1 zh).1).trans zh
  refine heldRun 4 (some 8) (v:=.slice (some ⟨(w.alloc (.cells #[.int .i64 op,.int .i64 it,.int .i64 vk,.int .i64 vi,.string vs,.string nm,.slice ea eargs.length ec] 117)).drew.heap.size,0,none⟩) 2 2) (w':=(w.alloc (.cells #[.int .i64 op,.int .i64 it,.int .i64 vk,.int .i64 vi,.string vs,.string nm,.slice ea eargs.length ec] 117)).drew.alloc (.cells ([op,it].flatMap intE).toArray 3)) rfl rfl (by kernel_rfl) (by rfl) ?_ hNew ?_
  ·go_simp;rfl
  clear zh
  have zh:=hNew
  clear hNew
  simp only [aP]
  obtain ⟨W2,hW2⟩:=eN0 ((w.alloc (.cells #[.int .i64 op,.int .i64 it,.int .i64 vk,.int .i64 vi,.string vs,.string nm,.slice ea eargs.length ec] 117)).drew.alloc (.cells ([op,it].flatMap intE).toArray 3))
  have hBW2:Bl w W2:=by rw [hW2];exact HB.out.drew.alloc (by simp) _
  have hRI:RdE 1 intE W2 (ltw W2) (.slice (some ⟨w.heap.size+1,0,none⟩) 2 2) [op,it]:=by rw [hW2];have q:=rdInts (heap_alloc_new (w.alloc (.cells #[.int .i64 op,.int .i64 it,.int .i64 vk,.int .i64 vi,.string vs,.string nm,.slice ea eargs.length ec] 117)).drew (.cells ([op,it].flatMap intE).toArray 3)) (by simp) (n:=2) rfl;simpa using q
  rw [←hW2] at zh ⊢
  clear hW2
  refine hC 5 9 ?_
  (with_reducible refine (digits_any _ [op,it] W2 (HE.out.below hBW2) hRI hIB (by simp)).mono ?_)
  rintro _ w1 ⟨v1,rfl,ho1,hb1⟩
  have hB1:Bl w w1:=hBW2.trans (hb1.mono hBW2.size)
  refine ⟨_,rfl,keepAnd (keepRow hb1 zh) ?_⟩
  clear zh
  intro zh
  simp only [aP]
  refine hC 8 12 ?_
  (with_reducible refine (literal_any vk vi vs w1 (HE.out.below hB1) HVV.out).mono ?_)
  rintro _ w2 ⟨rfl,hb2⟩
  have hB2:Bl w w2:=hB1.trans (hb2.mono hB1.size)
  refine ⟨_,rfl,keepAnd (keepRow hb2 zh) ?_⟩
  clear zh
  intro zh
  simp only [aP]
  refine hC 11 15 ?_
  (with_reducible refine (quote_any nm w2 (HE.out.below hB2) hnm).mono ?_)
  rintro _ w3 ⟨rfl,hb3⟩
  have hB3:Bl w w3:=hB2.trans (hb3.mono hB2.size)
  have hO1:=hI0 (((ho1.base hBW2.size).below hb2).below hb3)
  refine ⟨_,rfl,keepAnd (keepRow hb3 zh) ?_⟩
  clear zh
  intro zh
  simp only [aP]
  have hNew:(fun Y=>Y.heap[w.heap.size]? =some (.cells #[.int .i64 op,.int .i64 it,.int .i64 vk,.int .i64 vi,.string vs,.string nm,.slice ea eargs.length ec] 117 (0,0))) (w3.alloc (.cells (svL [valB ⟨vk,vi,vs⟩,qS nm]).toArray 9)):=by exact (Below.heap_alloc w3 _ _ (Array.getElem?_eq_some_iff.1 zh).1).trans zh
  refine heldRun 12 (some 16) (v:=.slice (some ⟨w3.heap.size,0,none⟩) 2 2) (w':=w3.alloc (.cells (svL [valB ⟨vk,vi,vs⟩,qS nm]).toArray 9)) rfl rfl (by kernel_rfl) (by rfl) ?_ hNew ?_
  ·go_simp;rfl
  clear zh
  have zh:=hNew
  clear hNew
  simp only [aP]
  refine heldOp 13 rfl (by kernel_rfl) (by rfl) ?_
  refine apO 9 16 (hO1.out.below (Below.of_alloc _)) (OwnS.new w3 [valB ⟨vk,vi,vs⟩,qS nm] w.heap.size hB3.size (by unfold maxLen;simp)).rd (by simp) (by have:=hB3.size;simp;omega) ?_
  intro v4 w4 hO4 hg4 hb4
  refine keepAnd ?_ (fun hNew=>?_)
  ·exact keepGr (hO1.out.below (Below.of_alloc _)) hg4 zh (by intro cs fr e;injection e with _ e _;exact absurd e (by decide))
  clear zh
  have zh:=hNew
  clear hNew
  simp only [aP]
  refine hT 14 3 ?_
  refine rD0 ?_
  have hB4:Bl w w4:=(hB3.alloc hB3.size _).trans hb4
  have c6:=cW1 6 zh rfl
  have HO4:=hI0 hO4
  clear hO4 zh hg4
  go_wp2_with fail
  (with_reducible refine (HKA.out w4 hB4).mono ?_)
  rintro _ w5 ⟨v5,rfl,ho5,hb5⟩
  have hO5:=HO4.out.below hb5
  have hB5:Bl w w5:=hB4.trans (hb5.mono hB4.size)
  go_wp2_with (refine apS 18 21 hO5 ho5.rd HLN.out hB5.size ?_;intro v6 w6 hO6 hg6 hb6)
  go_ret
  exact ⟨_,rfl,hO6,hB5.trans hb6⟩
end Go.Proofs.YtgfhknnklapldaaGreatDoor
