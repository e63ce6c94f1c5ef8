/-
 Codec
-/
import Derived.Test.YtbfdegkickjbpaaGreatVBase
import Derived.BigQuiet
import Derived.Deep.RegionHeld3
namespace Go.Proofs.YtbfdegkickjbpaaGreat
open Tryz
set_option maxRecDepth 99999
set_option maxHeartbeats 0
theorem zq14 {P:Prop} (i:Nat) (h:Tg i→P:=by
 intro zT14
 obtain ⟨A,cp,rfl,hc1,hc2,hc3⟩:=hv.open_
 unfold maxLen at hc2
 obtain ⟨bb,off,rfl,hF,hcell⟩:=Rd.plain hv (by omega) (by omega)
 have hc:=hcell k _ (bv_get hk)
 clear hcell
 have hbx:=Below.of_alloc (w:=w) (.cells #[.int .i64 0,.int .i64 0,.string ⟨#[]⟩] 79)
 first
  |guard_hyp zT14:Tg 1;have hC:=fun (W:World) (h:Bl w W)=>int_any (ltw W) _ l ((k:Int)+1) W (hv.below h)
   have hT:=fun (W:World) (h:Bl w W)=>text_any (ltw W) _ l ((k:Int)+1) 200 W (hv.below h)
  |have hC:=fun (W:World) (h:Bl w W)=>refInt_any (ltw W) _ l ((k:Int)+1) W (hv.below h)
   have hT:=fun (W:World) (h:Bl w W)=>refText_any (ltw W) _ l ((k:Int)+1) 200 W (hv.below h)
 have hTb:=decT_bd l ((k:Int)+1) 200
 have HC:=hI0 hC
 have HT:=hI0 hT
 have h256:(l[k]'hk).toNat<256:=(l[k]'hk).toNat_lt
 clear hC hT
 unfold decV1
 generalize (l[k]'hk).toNat=c at *
 by_cases q0:c=0
 ·subst q0
  simp only [if_true]
  go_in
  go_wp2_with fail
  first
   |guard_hyp zT14:Tg 1;exact bodyPost_ret (v:=.tuple #[.agg #[.int .i64 0,.int .i64 0,.string ⟨#[]⟩],.int .i64 ((k:Int)+1),.int .i64 0]) zi3 rfl ⟨rfl,below1 _⟩
   |exact bodyPost_ret (v:=.tuple #[.agg #[.int .i64 0,.int .i64 0,.string ⟨#[]⟩],.int .i64 ((k:Int)+1),.int .i64 0]) zi1 rfl ⟨rfl,below1 _⟩
 ·rw [if_neg q0]
  by_cases q1:c=1
  ·subst q1
   simp only [if_true]
   generalize decI l ((k:Int)+1)=r at *
   obtain ⟨n,m,e⟩:=r
   simp only
   by_cases he:e=0
   ·subst he
    simp only [ne_eq,not_true_eq_false,if_false]
    by_cases hr:n< -1125899906842624∨1125899906842624<n
    ·rw [if_pos hr]
     rcases hr with hr|hr
     ·clear HT
      go_in
      go_wp2_with fail
      (with_reducible refine (HC.out _ hbx).mono ?_)
      rintro _ _ ⟨rfl,rfl⟩
      go_wp2_with fail
      first
       |guard_hyp zT14:Tg 1;exact bodyPost_ret (v:=.tuple #[.agg #[.int .i64 0,.int .i64 0,.string ⟨#[]⟩],.int .i64 0,.int .i64 6]) zi3 rfl ⟨rfl,below1 _⟩
       |exact bodyPost_ret (v:=.tuple #[.agg #[.int .i64 0,.int .i64 0,.string ⟨#[]⟩],.int .i64 0,.int .i64 6]) zi1 rfl ⟨rfl,below1 _⟩
     ·have hr':¬n< -1125899906842624:=by omega
      clear HT
      go_in
      go_wp2_with fail
      (with_reducible refine (HC.out _ hbx).mono ?_)
      rintro _ _ ⟨rfl,rfl⟩
      go_wp2_with fail
      first
       |guard_hyp zT14:Tg 1;exact bodyPost_ret (v:=.tuple #[.agg #[.int .i64 0,.int .i64 0,.string ⟨#[]⟩],.int .i64 0,.int .i64 6]) zi3 rfl ⟨rfl,below1 _⟩
       |exact bodyPost_ret (v:=.tuple #[.agg #[.int .i64 0,.int .i64 0,.string ⟨#[]⟩],.int .i64 0,.int .i64 6]) zi1 rfl ⟨rfl,below1 _⟩
    ·rw [if_neg hr]
     have r1:¬n< -1125899906842624:=by omega
     have r2:¬ 1125899906842624<n:=by omega
     clear hr HT
     go_in
     go_wp2_with fail
     (with_reducible refine (HC.out _ hbx).mono ?_)
     rintro _ _ ⟨rfl,rfl⟩
     go_wp2_with fail
     first
      |guard_hyp zT14:Tg 1;exact bodyPost_ret (v:=.tuple #[.agg #[.int .i64 1,.int .i64 n,.string ⟨#[]⟩],.int .i64 m,.int .i64 0]) zi3 rfl ⟨rfl,below1 _⟩
      |exact bodyPost_ret (v:=.tuple #[.agg #[.int .i64 1,.int .i64 n,.string ⟨#[]⟩],.int .i64 m,.int .i64 0]) zi1 rfl ⟨rfl,below1 _⟩
   ·exact zq69 1
  ·rw [if_neg q1]
   by_cases q2:c=2
   ·subst q2
    simp only [if_true]
    generalize decT l ((k:Int)+1) 200=r at *
    obtain ⟨x,m,e⟩:=r
    simp only at hTb ⊢
    by_cases he:e=0
    ·subst he
     simp only [ne_eq,not_true_eq_false,if_false]
     have hx:x.length≤200:=by omega
     have hvx:=validV_text hx
     have hxs:=strB_size x
     have hxl:(strB x).data.toList=x:=by simp [strB]
     cases hp:printB x
     ·simp only [if_true]
      first
       |guard_hyp zT14:Tg 1;have HP:=hI0 (hvx.trans hp)
       |have HP:=hI0 ((congrArg printB hxl).trans hp)
      have HX:=hI0 hxs
      clear hp hvx hxs hxl HC
      go_in
      go_wp2_with fail
      (with_reducible refine (HT.out _ hbx).mono ?_)
      rintro _ _ ⟨rfl,rfl⟩
      go_wp2_with fail
      first
       |guard_hyp zT14:Tg 1;(with_reducible refine (validValue_any 2 0 (strB x) _ ?_).mono ?_)
       |(with_reducible refine (refPrintable_any (strB x) _ ?_).mono ?_)
      ·rw [HX.out];simp only [maxLen];omega
      rintro e w1 ⟨rfl,rfl⟩
      rw [HP.out]
      go_wp2_with fail
      first
       |guard_hyp zT14:Tg 1;exact bodyPost_ret (v:=.tuple #[.agg #[.int .i64 0,.int .i64 0,.string ⟨#[]⟩],.int .i64 0,.int .i64 1]) zi3 rfl ⟨rfl,below3 _ _ _⟩
       |exact bodyPost_ret (v:=.tuple #[.agg #[.int .i64 0,.int .i64 0,.string ⟨#[]⟩],.int .i64 0,.int .i64 1]) zi1 rfl ⟨rfl,below1 _⟩
     ·simp only [Bool.true_eq_false,if_false]
      first
       |guard_hyp zT14:Tg 1;have HP:=hI0 (hvx.trans hp)
       |have HP:=hI0 ((congrArg printB hxl).trans hp)
      have HX:=hI0 hxs
      clear hp hvx hxs hxl HC
      go_in
      go_wp2_with fail
      (with_reducible refine (HT.out _ hbx).mono ?_)
      rintro _ _ ⟨rfl,rfl⟩
      go_wp2_with fail
      first
       |guard_hyp zT14:Tg 1;(with_reducible refine (validValue_any 2 0 (strB x) _ ?_).mono ?_)
       |(with_reducible refine (refPrintable_any (strB x) _ ?_).mono ?_)
      ·rw [HX.out];simp only [maxLen];omega
      rintro e w1 ⟨rfl,rfl⟩
      rw [HP.out]
      go_wp2_with fail
      first
       |guard_hyp zT14:Tg 1;exact bodyPost_ret (v:=.tuple #[.agg #[.int .i64 2,.int .i64 0,.string (strB x)],.int .i64 m,.int .i64 0]) zi3 rfl ⟨rfl,below3 _ _ _⟩
       |exact bodyPost_ret (v:=.tuple #[.agg #[.int .i64 2,.int .i64 0,.string (strB x)],.int .i64 m,.int .i64 0]) zi1 rfl ⟨rfl,below1 _⟩
    ·exact zq69 0
   ·rw [if_neg q2]
    clear hTb HC HT
    by_cases q3:c=3
    ·subst q3
     simp only [true_or,if_true]
     go_in
     go_wp2_with fail
     first
      |guard_hyp zT14:Tg 1;exact bodyPost_ret (v:=.tuple #[.agg #[.int .i64 3,.int .i64 (((3:Nat):Int)-3),.string ⟨#[]⟩],.int .i64 ((k:Int)+1),.int .i64 0]) zi3 rfl ⟨rfl,below1 _⟩
      |exact bodyPost_ret (v:=.tuple #[.agg #[.int .i64 3,.int .i64 (((3:Nat):Int)-3),.string ⟨#[]⟩],.int .i64 ((k:Int)+1),.int .i64 0]) zi1 rfl ⟨rfl,below1 _⟩
    ·by_cases q4:c=4
     ·subst q4
      simp only [or_true,if_true]
      go_in
      go_wp2_with fail
      first
       |guard_hyp zT14:Tg 1;exact bodyPost_ret (v:=.tuple #[.agg #[.int .i64 3,.int .i64 (((4:Nat):Int)-3),.string ⟨#[]⟩],.int .i64 ((k:Int)+1),.int .i64 0]) zi3 rfl ⟨rfl,below1 _⟩
       |exact bodyPost_ret (v:=.tuple #[.agg #[.int .i64 3,.int .i64 (((4:Nat):Int)-3),.string ⟨#[]⟩],.int .i64 ((k:Int)+1),.int .i64 0]) zi1 rfl ⟨rfl,below1 _⟩
     ·rw [if_neg (by omega)]
      have b0:((c:Int)==0)=false:=beq_eq_false_iff_ne.2 (by omega)
      have b1:((c:Int)==1)=false:=beq_eq_false_iff_ne.2 (by omega)
      have b2:((c:Int)==2)=false:=beq_eq_false_iff_ne.2 (by omega)
      have b3:((c:Int)==3)=false:=beq_eq_false_iff_ne.2 (by omega)
      have b4:((c:Int)==4)=false:=beq_eq_false_iff_ne.2 (by omega)
      clear q0 q1 q2 q3 q4
      go_in
      go_wp2_with fail
      first
       |guard_hyp zT14:Tg 1;exact bodyPost_ret (v:=.tuple #[.agg #[.int .i64 0,.int .i64 0,.string ⟨#[]⟩],.int .i64 0,.int .i64 1]) zi3 rfl ⟨rfl,below1 _⟩
       |exact bodyPost_ret (v:=.tuple #[.agg #[.int .i64 0,.int .i64 0,.string ⟨#[]⟩],.int .i64 0,.int .i64 1]) zi1 rfl ⟨rfl,below1 _⟩) : P := h ⟨⟩
theorem zq18 {P:Prop} (i:Nat) (h:Tg i→P:=by
 intro zT18
 first
  |done
  |guard_hyp zT18:Tg 1;obtain ⟨i0,hi,hz0,hz1,hz2⟩:=info_parts infoB
  |skip
 obtain ⟨A,c,rfl,hc1,hc2,hc3⟩:=hv.open_
 first
  |done
  |guard_hyp zT18:Tg 1;have hR:=Rd.cut' hv hk (Nat.le_refl _) hc1 (Nat.le_refl c)
   have hsl:=fun W=>run_slice_lo (P:=prog) underlying34 hi hz1 A l.length c k hk W
  |skip
 unfold maxLen at hc2
 rw [decI_in hk]
 generalize hres:decL k (l.drop k) 0 0=res
 have HR:=hI0 hres
 clear hres
 go_in
 go_wp2
 first
  |guard_hyp zT18:Tg 1;clear hsl
   generalize cutA A c k 1=X at *
   go_loop [7,22] (fun u i=>IntRel k l res u i) (fun _ i=>(20-intOf i).toNat)
   case atStart=>exact ⟨0,0,by omega,by omega,by simp,rfl,rfl,HR.out⟩
  |go_loop [7,8,9] (fun u p i=>IntRel2 k l res u p i) (fun _ _ i=>(20-intOf i).toNat)
   case atStart=>exact ⟨0,0,1,by omega,by omega,by simp,rfl,rfl,rfl,rfl,HR.out⟩
 clear HR
 first
  |guard_hyp zT18:Tg 1;obtain ⟨j,z,hj,hj9,hz,rfl,rfl,hd⟩:=hrel
  |obtain ⟨j,z,q,hj,hj9,hz,hq,rfl,rfl,rfl,hd⟩:=hrel
 have HD:=hI0 hd
 first
  |guard_hyp zT18:Tg 1;clear hd
  |have HQ:=hI0 hq
   clear hd hq
 by_cases hlt:k+j<l.length
 ·first
   |guard_hyp zT18:Tg 1;obtain ⟨ad,rfl,_,hcell⟩:=hR.at_ (by omega)
    have hc:=hcell j (.int .u8 (l[k+j]'hlt).toNat) (by rw [Nat.mul_one,Nat.mul_one,List.getElem?_take_of_lt (by omega),List.getElem?_drop];exact bv_get hlt)
   |obtain ⟨ad,rfl,_,hcell⟩:=Rd.at_ hv (by omega)
    have hc:=hcell (k+j) (.int .u8 (l[k+j]'hlt).toNat) (bv_get hlt)
  clear hcell
  have hdrop:l.drop (k+j)=l[k+j]::l.drop (k+j+1):=List.drop_eq_getElem_cons hlt
  have HDr:=hI0 hdrop
  clear hdrop
  have h256:(l[k+j]'hlt).toNat<256:=(l[k+j]'hlt).toNat_lt
  by_cases hbad:(j=9∧1<(l[k+j]'hlt).toNat)∨(0<j∧(l[k+j]'hlt).toNat=0)
  ·have hres:=(decL_bad (at_:=k) (l:=l.drop (k+j+1)) (z:=z) hbad).symm.trans ((congrArg (fun x=>decL k x j z) HDr.out).symm.trans HD.out)
   obtain rfl:(0,0,1)=res:=hres
   by_cases h9:j=9∧1<(l[k+j]'hlt).toNat
   ·have b1:((j:Int)==9)=true:=by simp;omega
    have b2:1<((l[k+j]'hlt).toNat:Int):=by omega
    clear h9 hbad
    go_wp2
    go_ret3
    exact ⟨rfl,rfl⟩
   ·have b3:0<j:=by omega
    have b4:(((l[k+j]'hlt).toNat:Int)==0)=true:=by simp;omega
    by_cases h9':j=9
    ·have b1:((j:Int)==9)=true:=by simp;omega
     have b2:¬ 1<((l[k+j]'hlt).toNat:Int):=by omega
     clear h9 h9' hbad
     go_wp2
     go_ret3
     exact ⟨rfl,rfl⟩
    ·have b1:((j:Int)==9)=false:=by simp;omega
     clear h9 h9' hbad
     go_wp2
     go_ret3
     exact ⟨rfl,rfl⟩
  ·have h91:j=9→(l[k+j]'hlt).toNat≤1:=by omega
   have H91:=hI0 h91
   clear h91
   by_cases h128:(l[k+j]'hlt).toNat<128
   ·have hres:=(decL_end (at_:=k) (l:=l.drop (k+j+1)) (z:=z) hbad h128).symm.trans ((congrArg (fun x=>decL k x j z) HDr.out).symm.trans HD.out)
    obtain rfl:_=res:=hres
    first
     |guard_hyp zT18:Tg 1;by_cases h9:j=9
     |have hN:=digit_lt (c:=(l[k+j]'hlt).toNat) hj9 (HQ.out▸hz) H91.out
      have hW:=digit_word2 (c:=(l[k+j]'hlt).toNat) hj9 hz HQ.out H91.out
      generalize hn:z+(l[k+j]'hlt).toNat % 128*128 ^ j=N at *
      have HN:=hI0 hN
      have b4:0<j→(((l[k+j]'hlt).toNat:Int)==0)=false:=by intro _;simp;omega
      by_cases hp:N % 2=1
    ·first
      |guard_hyp zT18:Tg 1;have b1:((j:Int)==9)=true:=by simp;omega
       have b2:¬ 1<((l[k+j]'hlt).toNat:Int):=by omega
       have b3:0<j:=by omega
       have b4:(((l[k+j]'hlt).toNat:Int)==0)=false:=by simp;omega
       clear h9 hbad
       go_wp2
       go_ret3
       exact ⟨ret_int3 (final_word h256 hj9 hz H91.out) rfl rfl,rfl⟩
      |have b5:((IntKind.u64.wrap ((z:Int)+IntKind.u64.wrap (((l[k+j]'hlt).toNat:Int) % 128*(q:Int)))).tmod 2==1)=true:=by rw [hW,tmod_two];simp;omega
       have HW:=hI0 hW
       have HPar:=hI0 hp
       clear hW hN hn
       by_cases h9:j=9
       ·exact zq73 0
       ·have b1:((j:Int)==9)=false:=by simp;omega
        by_cases b3:0<j
        ·exact zq73 1
        ·exact zq73 2
    ·first
      |guard_hyp zT18:Tg 1;have b1:((j:Int)==9)=false:=by simp;omega
       by_cases b3:0<j
      |have b5:((IntKind.u64.wrap ((z:Int)+IntKind.u64.wrap (((l[k+j]'hlt).toNat:Int) % 128*(q:Int)))).tmod 2==1)=false:=by rw [hW,tmod_two];simp;omega
       have HW:=hI0 hW
       have HPar:=hI0 hp
       clear hW hN hn
       by_cases h9:j=9
     ·first
       |guard_hyp zT18:Tg 1;have b4:(((l[k+j]'hlt).toNat:Int)==0)=false:=by simp;omega
        clear h9 hbad
       |have b1:((j:Int)==9)=true:=by simp;omega
        have b2:¬ 1<((l[k+j]'hlt).toNat:Int):=by omega
        have b3:0<j:=by omega
        have b4':=b4 b3
        clear h9 hbad hp b4
      go_wp2
      go_ret3
      first
       |guard_hyp zT18:Tg 1;exact ⟨ret_int3 (final_word h256 hj9 hz H91.out) rfl rfl,rfl⟩
       |exact ⟨ret_int3 ((congrArg (fun x:Int=>wrap64 (IntKind.u64.wrap (x.tdiv 2))) HW.out).trans (fin_even HN.out HPar.out)) rfl rfl,rfl⟩
     ·first
       |guard_hyp zT18:Tg 1;clear h9 hbad
        go_wp2
        go_ret3
        exact ⟨ret_int3 (final_word h256 hj9 hz H91.out) rfl rfl,rfl⟩
       |have b1:((j:Int)==9)=false:=by simp;omega
        by_cases b3:0<j
        ·have b4':=b4 b3
         clear h9 hbad hp b4
         go_wp2
         go_ret3
         exact ⟨ret_int3 ((congrArg (fun x:Int=>wrap64 (IntKind.u64.wrap (x.tdiv 2))) HW.out).trans (fin_even HN.out HPar.out)) rfl rfl,rfl⟩
        ·clear h9 hbad hp b4
         go_wp2
         go_ret3
         exact ⟨ret_int3 ((congrArg (fun x:Int=>wrap64 (IntKind.u64.wrap (x.tdiv 2))) HW.out).trans (fin_even HN.out HPar.out)) rfl rfl,rfl⟩
   ·have hres:=(decL_on (at_:=k) (l:=l.drop (k+j+1)) (z:=z) hbad h128).symm.trans ((congrArg (fun x=>decL k x j z) HDr.out).symm.trans HD.out)
    have HD2:=hI0 hres
    have b1:((j:Int)==9)=false:=by simp;omega
    have b4:(((l[k+j]'hlt).toNat:Int)==0)=false:=by simp;omega
    have hj8:j≤8:=by omega
    clear hres hbad
    by_cases b3:0<j
    all_goals
     go_wp2
     go_round
     first
      |guard_hyp zT18:Tg 1
       case rel=>exact ⟨j+1,_,by omega,by omega,digit_next hz,congrArg (Value.int .u64) (digit_word h256 hj9 hz H91.out),by go_num,HD2.out⟩
      |case rel=>exact ⟨j+1,_,_,by omega,by omega,digit_next (HQ.out▸hz),rfl,congrArg (Value.int .u64) (digit_word2 hj9 hz HQ.out H91.out),unit_next hj8 HQ.out,by go_num,HD2.out⟩
     case measure=>simp [intOf];omega
 ·go_wp2
  go_ret3
  have hnil:l.drop (k+j)=[]:=List.drop_eq_nil_of_le (by omega)
  obtain rfl:(0,0,2)=res:=(congrArg (fun x=>decL k x j z) hnil).symm.trans HD.out
  exact ⟨rfl,rfl⟩) : P := h ⟨⟩
theorem zq20 {P:Prop} (i:Nat) (h:Tg i→P:=by
 intro zT20
 obtain ⟨i0,hi,hz0,hz1,hz2⟩:=info_parts infoV
 first
  |guard_hyp zT20:Tg 1;have hC:=refInt_any (ltw w) v l k w hv
  |have hC:=int_any (ltw w) v l k w hv
 have hbd:=decI_bd l k
 unfold decR
 generalize decI l k=r at *
 obtain ⟨n,m,e⟩:=r
 simp only at hbd ⊢
 have HC:=hI0 hC
 clear hC
 by_cases he:e=0
 ·subst he
  simp only [ne_eq,not_true_eq_false,if_false]
  by_cases h1:n<0
  ·exact zq77 1
  ·rw [if_neg h1]
   by_cases h2:12<n
   ·exact zq77 2
   ·rw [if_neg h2]
    obtain ⟨N,rfl⟩:=Int.eq_ofNat_of_zero_le (show 0≤n by omega)
    rw [Int.toNat_natCast]
    have hN:N≤12:=by omega
    clear hbd h1 h2
    generalize hres:decVs l N m []=res
    have HR:=hI0 hres
    clear hres
    first
     |done
     |guard_hyp zT20:Tg 1
     |have hmk:∀W:World,(Instr.makeSlice 64 (.int .i64 (N:Int)) (.int .i64 (N:Int))).run prog W=.ok (.slice (some ⟨W.heap.size,0,none⟩) N N) (W.alloc (.cells (madeCells #[.int .i64 0,.int .i64 0,.string ⟨#[]⟩] (N*3)) 79)):=fun W=>by
       have h:=run_make (P:=prog) W 64 79 i0 _ underlying64 hi hz0 .i64 .i64 (N:Int) (N:Int) (by omega) (Int.le_refl _) (by rw [hz2];omega) (by omega)
       rw [hz1,Int.toNat_natCast] at h
       exact h
      have hms:=size_madeCells #[.int .i64 0,.int .i64 0,.string ⟨#[]⟩] (N*3)
      generalize madeCells #[.int .i64 0,.int .i64 0,.string ⟨#[]⟩] (N*3)=arr0 at *
      have HM:=hI0 hms
      clear hms
    go_in
    go_wp2_with fail
    (with_reducible refine HC.out.mono ?_)
    rintro _ _ ⟨rfl,rfl⟩
    go_wp2_with fail
    first
     |guard_hyp zT20:Tg 1;go_loopw [10,8,11] (fun out nx i wr=>RowRef N l res w out nx i wr) (fun _ _ i _=>N-(intOf i).toNat)
      case atStart=>exact ⟨[],m,Nat.zero_le _,rfl,rfl,HR.out,OwnV.nil _ _,Below.refl _ _⟩
      clear HR
      obtain ⟨ys,k1,hy,rfl,rfl,hd,hO,hB⟩:=hrel
     |clear hmk
      go_loopw [8,33] (fun nx i wr=>RowDec w.heap.size N l res w nx i wr) (fun _ i _=>N-(intOf i).toNat)
      case atStart=>exact ⟨[],m,arr0,Nat.zero_le _,rfl,rfl,HR.out,heap_alloc_new w _,HM.out,by simp [cv],below1 _⟩
      clear HR HM
      obtain ⟨ys,k1,arr,hy,rfl,rfl,hd,hg,hsz,htk,hB⟩:=hrel
    obtain ⟨wo,rfl⟩:=eN0 wr
    by_cases hlt:ys.length<N
    ·first
      |guard_hyp zT20:Tg 1;have hV:=refValue_any v l k1 wo (hv.below hB)
      |have hV:=value_any v l k1 wo (hv.below hB)
     obtain ⟨q,hq⟩:∃q,N-ys.length=q+1:=⟨N-ys.length-1,by omega⟩
     rw [hq,decVs] at hd
     generalize decV l k1=r at *
     obtain ⟨x,k2,e⟩:=r
     simp only at hd
     have HV:=hI0 hV
     first
      |done
      |guard_hyp zT20:Tg 1
      |have HG:=hI0 hg
     have HD:=hI0 hd
     first
      |done
      |guard_hyp zT20:Tg 1
      |have HT:=hI0 htk
       have HZ:=hI0 hsz
     have HQ:=hI0 hq
     first
      |guard_hyp zT20:Tg 1;clear hV hd hq
       have hsz:=hB.size
      |have hgl:w.heap.size<wo.heap.size:=(Array.getElem?_eq_some_iff.1 hg).1
       clear hV hg hd htk hsz hq
     go_wp2_with fail
     (with_reducible refine HV.out.mono ?_)
     rintro _ w2 ⟨rfl,hb2⟩
     first
      |guard_hyp zT20:Tg 1;have hs2:=hb2.size
       have hO2:OwnV w2 w.heap.size u10 ys:=hO.kept (row:=none) ⟨hb2.os,hb2.tape,hb2.output,hb2.size,fun k hk _=>hb2.block k hk⟩ (by cases u10.ownBlock<;>simp)
       have hB2:Bl w w2:=hB.trans (hb2.mono hsz)
      |have hg2:w2.heap[w.heap.size]? =some (.cells arr 79 (0,0)):=(hb2.block _ hgl).trans HG.out
       have c0:w2.cell? ⟨w.heap.size,ys.length*3,none⟩=some (arr[ys.length*3]'(by have:=HZ.out;omega)):=(cW0 w2 _ _ arr _ _ hg2).trans (Array.getElem?_eq_getElem _)
       have c1:w2.cell? ⟨w.heap.size,ys.length*3+1,none⟩=some (arr[ys.length*3+1]'(by have:=HZ.out;omega)):=(cW0 w2 _ _ arr _ _ hg2).trans (Array.getElem?_eq_getElem _)
       have c2:w2.cell? ⟨w.heap.size,ys.length*3+2,none⟩=some (arr[ys.length*3+2]'(by have:=HZ.out;omega)):=(cW0 w2 _ _ arr _ _ hg2).trans (Array.getElem?_eq_getElem _)
       have hfz:∀o,w2.frozen? ⟨w.heap.size,o,none⟩=false:=fun o=>by simp [World.frozen?,hg2]
       have HG2:=hI0 hg2
       clear hg2
     by_cases he2:e=0
     ·subst he2
      first
       |guard_hyp zT20:Tg 1;go_wp2_with (at_builtin;refine wpList_append_app _ rfl (.tmp 45) (.tmp 47) 64 rfl w.heap.size 79 i0 _ 3 32 underlying64 hi hz0 hz1 hz2 rfl (by omega) u10 ys.length (cv ys) rfl (by exact .inl ((hO2.alloc _).alloc _)) (·=w2.heap.size+1) _ 1 (cv [x]) rfl (by exact rdV_new' _ (w2.heap.size+1) (by simp) [x] 1 rfl (by omega)) (cv_one _) zi19 (by omega) (by simp;omega) ?_;intro v3 w3 _ hO3 _ hb3 _)
       |go_wp2_with fail
      go_roundw
      first
       |guard_hyp zT20:Tg 1
        case rel=>exact ⟨ys++[x],k2,by simp;omega,by simp,rfl,by have h1:=HD.out;have h2:N-(ys++[x]).length=q:=(by have:=HQ.out;simp;omega);rw [h2];simpa using h1,ownV_of (hO3 (.inl (by omega))),(((hB2.alloc hB2.size _).alloc (by simp;omega) _).trans hb3)⟩
       |case rel=>exact rowDec_next HD.out HQ.out HG2.out HZ.out hlt HT.out ((hB.trans (hb2.mono (Nat.le_of_lt hgl))).setCell (Nat.le_refl _) _ |>.setCell (Nat.le_refl _) _ |>.setCell (Nat.le_refl _) _)
      case measure=>simp [intOf];omega
     ·have b1:(e != 0)=true:=by rw [bne_iff_ne];exact he2
      have hres:([],0,e)=res:=by have:=HD.out;simpa [he2] using this
      obtain rfl:=hres
      clear HD
      have HE:=hI0 he2
      clear he2
      go_wp2_with fail
      go_ret3
      first
       |guard_hyp zT20:Tg 1;exact ⟨_,rfl,OwnV.nil _ _,hB2.alloc hB2.size _⟩
       |exact ⟨_,rfl,OwnV.nil _ _,((hB.trans (hb2.mono (Nat.le_of_lt hgl))).setCell (Nat.le_refl _) _ |>.setCell (Nat.le_refl _) _ |>.setCell (Nat.le_refl _) _)⟩
    ·have hNy:N=ys.length:=by omega
     subst hNy
     rw [Nat.sub_self,decVs] at hd
     obtain rfl:=hd
     first
      |done
      |guard_hyp zT20:Tg 1
      |have HG:=hI0 hg
       have HT:=hI0 htk
       have HZ:=hI0 hsz
       clear hg htk hsz
     go_wp2_with fail
     go_ret3
     first
      |guard_hyp zT20:Tg 1;exact ⟨_,rfl,hO,hB⟩
      |exact ⟨_,rfl,rowDec_end HG.out HZ.out HT.out,hB⟩
 ·exact zq77 0) : P := h ⟨⟩
theorem zq24 {P:Prop} (i:Nat) (h:Tg i→P:=by
 intro zT24
 first
  |guard_hyp zT24:Tg 1;have hC:=fun (W:World) (h:Bl w W)=>int_any (ltw W) v l k W (hv.below h)
   have hD:=fun (W:World) (h:Bl w W)=>int_any (ltw W) v l (decI l k).2.1 W (hv.below h)
  |have hC:=fun (W:World) (h:Bl w W)=>refInt_any (ltw W) v l k W (hv.below h)
   have hD:=fun (W:World) (h:Bl w W)=>refInt_any (ltw W) v l (decI l k).2.1 W (hv.below h)
 unfold decP
 generalize decI l k=r at *
 obtain ⟨a,k1,e1⟩:=r
 simp only at hD ⊢
 generalize decI l k1=q at *
 obtain ⟨b,k2,e2⟩:=q
 simp only
 have HC:=hI0 hC
 have HD:=hI0 hD
 clear hC hD
 have hbx:=Below.of_alloc (w:=w) (.cells #[.int .i64 0,.int .i64 0] 66)
 by_cases he1:e1=0
 ·subst he1
  simp only [ne_eq,not_true_eq_false,if_false]
  by_cases he2:e2=0
  ·subst he2
   simp only [not_true_eq_false,if_false]
   cases hp:validP a b
   ·simp only [if_true]
    first
     |guard_hyp zT24:Tg 1;have HP:=hI0 hp
     |have hq:a<0∨b≤a∨1099511627776<b:=by
       simp only [validP,Bool.and_eq_false_iff,decide_eq_false_iff_not] at hp
       omega
    clear hp
    first
     |guard_hyp zT24:Tg 1;go_in
      go_wp2_with fail
      (with_reducible refine (HC.out _ hbx).mono ?_)
      rintro _ _ ⟨rfl,rfl⟩
      go_wp2_with fail
      (with_reducible refine (HD.out _ hbx).mono ?_)
      rintro _ _ ⟨rfl,rfl⟩
      go_wp2_with fail
      (with_reducible refine (periodValid_any a b _).mono ?_)
      rintro e w1 ⟨rfl,rfl⟩
      rw [HP.out]
      go_wp2_with fail
      exact bodyPost_ret (v:=.tuple #[.agg #[.int .i64 0,.int .i64 0],.int .i64 0,.int .i64 6]) zi24 rfl ⟨rfl,below3 _ _ _⟩
     |by_cases q1:a<0
      ·exact zq68 2
      ·by_cases q2:b≤a
       ·exact zq68 2
       ·exact zq68 1
   ·simp only [Bool.true_eq_false,if_false]
    first
     |guard_hyp zT24:Tg 1;have HP:=hI0 hp
     |have hq:0≤a∧a<b∧b≤1099511627776:=by
       simp only [validP,Bool.and_eq_true,decide_eq_true_eq] at hp
       omega
    clear hp
    first
     |done
     |guard_hyp zT24:Tg 1
     |obtain ⟨q1,q2,q3⟩:=hq
    go_in
    go_wp2_with fail
    (with_reducible refine (HC.out _ hbx).mono ?_)
    rintro _ _ ⟨rfl,rfl⟩
    go_wp2_with fail
    (with_reducible refine (HD.out _ hbx).mono ?_)
    rintro _ _ ⟨rfl,rfl⟩
    go_wp2_with fail
    first
     |guard_hyp zT24:Tg 1;(with_reducible refine (periodValid_any a b _).mono ?_)
      rintro e w1 ⟨rfl,rfl⟩
      rw [HP.out]
      go_wp2_with fail
      exact bodyPost_ret (v:=.tuple #[.agg #[.int .i64 a,.int .i64 b],.int .i64 k2,.int .i64 0]) zi24 rfl ⟨rfl,below3 _ _ _⟩
     |exact bodyPost_ret (v:=.tuple #[.agg #[.int .i64 a,.int .i64 b],.int .i64 k2,.int .i64 0]) zi13 rfl ⟨rfl,below1 _⟩
  ·exact zq68 0
 ·simp only [ne_eq,he1,not_false_eq_true,if_true]
  have b1:(e1 != 0)=true:=by rw [bne_iff_ne];exact he1
  have HE:=hI0 he1
  clear he1
  go_in
  go_wp2_with fail
  (with_reducible refine (HC.out _ hbx).mono ?_)
  rintro _ _ ⟨rfl,rfl⟩
  go_wp2_with fail
  first
   |guard_hyp zT24:Tg 1;exact bodyPost_ret (v:=.tuple #[.agg #[.int .i64 0,.int .i64 0],.int .i64 0,.int .i64 e1]) zi24 rfl ⟨rfl,below1 _⟩
   |exact bodyPost_ret (v:=.tuple #[.agg #[.int .i64 0,.int .i64 0],.int .i64 0,.int .i64 e1]) zi13 rfl ⟨rfl,below1 _⟩) : P := h ⟨⟩
theorem zq27 {P:Prop} (i:Nat) (h:Tg i→P:=by
 intro zT27
 obtain ⟨i0,hi,hz0,hz1,hz2⟩:=info_parts infoB
 first
  |guard_hyp zT27:Tg 1;have hC:=int_any F v l k w hv
  |have hC:=refInt_any F v l k w hv
 have hb:=decI_bd l k
 unfold decT
 generalize decI l k=r at *
 obtain ⟨n,m,e⟩:=r
 simp only at hb ⊢
 have HC:=hI0 hC
 clear hC
 by_cases he:e=0
 ·subst he
  obtain ⟨k',rfl⟩:=Int.eq_ofNat_of_zero_le (show 0≤m by omega)
  have hk:k'≤l.length:=by omega
  have hn:=hb.2.1
  clear hb
  obtain ⟨A,c,rfl,hc1,hc2,hc3⟩:=hv.open_
  unfold maxLen at hc2
  simp only [ne_eq,not_true_eq_false,if_false]
  by_cases h1:n<0
  ·exact zq80 1
  ·rw [if_neg h1]
   by_cases h2:max most 0<n
   ·exact zq80 2
   ·rw [if_neg h2]
    obtain ⟨n',rfl⟩:=Int.eq_ofNat_of_zero_le (show 0≤n by omega)
    by_cases h3:(l.length:Int)-k'<n'
    ·exact zq80 3
    ·rw [if_neg h3]
     have hR:=Rd.cut' hv (l:=k') (h:=k'+n') (m:=c) (by omega) (by omega) (by omega) (Nat.le_refl c)
     have hsl:∀W:World,(Instr.slice 34 (.slice A l.length c) (some (.int .i64 (k':Int))) (some (.int .i64 ((k':Int)+(n':Int)))) none).run prog W=.ok (.slice (cutA A c k' 1) n' (c-k')) W:=fun W=>by
      have:=run_slice_lohi (P:=prog) underlying34 hi hz1 A l.length c k' (k'+n') (by omega) (by omega) W
      rwa [Int.natCast_add,Nat.add_sub_cancel_left] at this
     have hst:=run_bytes_str (w:=w) (F:=F) (v:=.slice (cutA A c k' 1) n' (c-k')) (l:=(l.drop k').take n') (by
      rw [Nat.add_sub_cancel_left,Nat.mul_one,Nat.mul_one] at hR
      have e1:((l.drop k').take n').length=n':=by rw [List.length_take,List.length_drop];omega
      unfold RdB
      rw [e1]
      simpa [bv,List.map_drop,List.map_take] using hR)
     generalize cutA A c k' 1=X at *
     go_in
     go_wp2_with fail
     refine HC.out.mono ?_
     rintro _ _ ⟨rfl,rfl⟩
     go_wp2_with fail
     all_goals go_ret3
     all_goals exact ⟨rfl,rfl⟩
 ·exact zq80 0) : P := h ⟨⟩
theorem zq30 {P:Prop} (i:Nat) (h:Tg i→P:=by
 intro zT30
 obtain ⟨A,c,rfl,hc1,hc2,hc3⟩:=hu.open_
 unfold maxLen at hc2
 have HO:=hI0 hok
 clear hok
 have hen:=encI_length xs.length
 have hl2:l.length+(encI xs.length).length+(encVs xs).length+200≤140737488354000:=by unfold encR at hl;rw [List.length_append] at hl;omega
 clear hl
 first
  |done
  |guard_hyp zT30:Tg 1
  |obtain ⟨A',c',rfl,hc1',hc2',hA⟩:=hv.view
 go_in
 go_wp2_with fail
 first
  |guard_hyp zT30:Tg 1;(with_reducible refine (refPutInt_any v l xs.length _ ?_ ?_ hv ?_).mono ?_)
  |(with_reducible refine (grow_any A' _ c' _ hc1').mono ?_)
   rintro e w' ⟨rfl,rfl⟩
   go_wp2_with fail
   (with_reducible refine (put_any w.heap.size _ l xs.length _ ?_ ?_ hA (Nat.le_refl _) ?_).mono ?_)
 ·omega
 ·omega
 ·omega
 first
  |guard_hyp zT30:Tg 1;rintro e w1 ⟨v1,rfl,ho1,hb1⟩
   skip
  |rintro e w1 ⟨v1,rfl,ho1,hg1⟩
   have hb1:=hg1.below
   clear hg1
 go_wp2_with fail
 first
  |guard_hyp zT30:Tg 1;go_loopw [5,14] (fun b i wr=>RowRel w l xs b i wr) (fun _ i _=>xs.length-(intOf i).toNat)
  |go_loopw [0,14] (fun b i wr=>RowRel w l xs b i wr) (fun _ i _=>xs.length-(intOf i).toNat)
 case atStart=>exact ⟨0,Nat.zero_le _,rfl,by simpa [encVs] using ho1,hb1⟩
 obtain ⟨k,hk,rfl,hO,hB⟩:=hrel
 obtain ⟨wo,rfl⟩:=eN0 wr
 by_cases hlt:k<xs.length
 ·obtain ⟨bb,off,rfl,hF,g0,g1,g2⟩:=RdV.at_ (Rd.below hu hB) hlt
  have hx:=HO.out xs[k] (List.getElem_mem hlt)
  have hle:=encVs_le xs k
  have hend:∀v' w',OwnB w' w.heap.size v' (l++encI xs.length++encVs (xs.take k)++encV xs[k])→Bl w w'→RowRel w l xs v' (.int .i64 ((k:Int)+1)) w':=fun v' w' h1 h2=>⟨k+1,by omega,by go_num,by rw [encVs_snoc hlt,←List.append_assoc];exact h1,h2⟩
  have HE:=hI0 hend
  clear hend
  generalize xs[k]=x at *
  obtain ⟨kd,n,s⟩:=x
  obtain ⟨x1,x2,x3,x4⟩:=hx
  simp only at g0 g1 g2 x1 x2 x3 x4
  have hll:(l++encI xs.length++encVs (xs.take k)).length+s.size≤140737488354000:=by simp only [List.length_append];omega
  generalize l++encI xs.length++encVs (xs.take k)=m at *
  have hsz:=hB.size
  go_wp2_with fail
  first
   |guard_hyp zT30:Tg 1;(with_reducible refine (refPutValue_any u5 m ⟨kd,n,s⟩ _ x1 x2 x4 ?_ ?_).mono ?_)
   |(with_reducible refine (putValue_any u0 m ⟨kd,n,s⟩ _ x1 x2 ?_ ?_).mono ?_)
  ·exact (hO.rd).below (below1 _)
  ·exact hll
  rintro e w2 ⟨v2,rfl,ho2,hb2⟩
  have hB2:Bl w w2:=(hB.alloc hsz _).trans (hb2.mono (by simp;omega))
  go_wp2_with fail
  go_roundw
  case rel=>exact HE.out v2 w2 (own_baseC ho2 (by simp;omega)) hB2
  case measure=>simp [intOf];omega
 ·go_wp2
  go_ret
  have hke:k=xs.length:=by omega
  subst hke
  rw [List.take_length,List.append_assoc] at hO
  exact ⟨_,rfl,hO,hB⟩) : P := h ⟨⟩
theorem zq33 {P:Prop} (i:Nat) (h:Tg i→P:=by
 intro zT33
 obtain ⟨A,c,rfl,hc1,hc2,hc3⟩:=hv.open_
 unfold maxLen at hc2
 have HO:=hI0 hok
 clear hok
 go_in
 go_wp2_with fail
 first
  |guard_hyp zT33:Tg 1;go_loopw [7] (fun i wr=>AllRel w xs i wr) (fun i _=>xs.length-(intOf i).toNat)
  |go_loopw [8] (fun i wr=>AllRel w xs i wr) (fun i _=>xs.length-(intOf i).toNat)
 case atStart=>exact ⟨0,Nat.zero_le _,rfl,rfl,Below.refl _ _⟩
 obtain ⟨k,hk,rfl,hall,hB⟩:=hrel
 obtain ⟨wo,rfl⟩:=eN0 wr
 have HA:=hI0 hall
 clear hall
 have hsz:=hB.size
 by_cases hlt:k<xs.length
 ·obtain ⟨bb,off,rfl,hF,g0,g1,g2⟩:=RdV.at_ (Rd.below hv hB) hlt
  have hx:=HO.out xs[k] (List.getElem_mem hlt)
  have hs:=all_snoc hlt
  have hn:=all_no hlt
  generalize xs[k]=x at *
  obtain ⟨kd,n,s⟩:=x
  obtain ⟨_,_,x3⟩:=hx
  simp only at g0 g1 g2 x3
  have HS:=hI0 hs
  have HN:=hI0 hn
  clear hs hn
  go_wp2_with fail
  first
   |guard_hyp zT33:Tg 1;(with_reducible refine (refValidValue_any kd n s _ x3).mono ?_)
   |have hc:=inv1_any kd n s wo x3
  cases hval:validV ⟨kd,n,s⟩
  ·first
    |guard_hyp zT33:Tg 1;rintro e w2 ⟨rfl,rfl⟩
     skip
    |rw [hval] at hc
   have HV:=hI0 hval
   clear hval
   first
    |done
    |guard_hyp zT33:Tg 1
    |(with_reducible refine hc.mono ?_)
     rintro e w2 ⟨rfl,hb2⟩
   go_wp2_with fail
   go_ret
   first
    |guard_hyp zT33:Tg 1;exact ⟨ret_bool (by simp [HN.out HV.out]),(hB.alloc hsz _).alloc (by simp;omega) _⟩
    |exact ⟨k,rfl,by rw [HN.out HV.out];simp,hB.trans (hb2.mono hsz)⟩
  ·first
    |guard_hyp zT33:Tg 1;rintro e w2 ⟨rfl,rfl⟩
     skip
    |rw [hval] at hc
   have HV:=hI0 hval
   clear hval
   first
    |done
    |guard_hyp zT33:Tg 1
    |(with_reducible refine hc.mono ?_)
     rintro e w2 ⟨rfl,hb2⟩
   go_wp2_with fail
   go_roundw
   first
    |guard_hyp zT33:Tg 1
     case rel=>exact ⟨k+1,by omega,by go_num,by rw [HS.out,HA.out,HV.out];rfl,(hB.alloc hsz _).alloc (by simp;omega) _⟩
    |case rel=>exact ⟨k+1,by omega,by go_num,by rw [HS.out,HA.out,HV.out];rfl,hB.trans (hb2.mono hsz)⟩
   case measure=>simp [intOf];omega
 ·have hke:k=xs.length:=by omega
  subst hke
  go_wp2_with fail
  go_ret
  have h:=HA.out
  rw [List.take_length] at h
  first
   |guard_hyp zT33:Tg 1;exact ⟨ret_bool (by simp [h];try omega),hB⟩
   |exact ⟨-1,rfl,by rw [h];rfl,hB⟩) : P := h ⟨⟩
theorem zq34 {P:Prop} (i:Nat) (h:Tg i→P:=by
 intro zT34
 unfold decV
 by_cases h:k<0∨(l.length:Int)<k
 ·rw [if_pos h]
  obtain ⟨A,cp,rfl,hc1,hc2,hc3⟩:=hv.open_
  unfold maxLen at hc2
  rcases h with h|h
  ·go_in
   go_wp2_with fail
   first
    |guard_hyp zT34:Tg 1;exact bodyPost_ret (v:=.tuple #[.agg #[.int .i64 0,.int .i64 0,.string ⟨#[]⟩],.int .i64 0,.int .i64 6]) zi3 rfl ⟨rfl,below1 _⟩
    |exact bodyPost_ret (v:=.tuple #[.agg #[.int .i64 0,.int .i64 0,.string ⟨#[]⟩],.int .i64 0,.int .i64 6]) zi1 rfl ⟨rfl,below1 _⟩
  ·have h':¬k<0:=by omega
   go_in
   go_wp2_with fail
   first
    |guard_hyp zT34:Tg 1;exact bodyPost_ret (v:=.tuple #[.agg #[.int .i64 0,.int .i64 0,.string ⟨#[]⟩],.int .i64 0,.int .i64 6]) zi3 rfl ⟨rfl,below1 _⟩
    |exact bodyPost_ret (v:=.tuple #[.agg #[.int .i64 0,.int .i64 0,.string ⟨#[]⟩],.int .i64 0,.int .i64 6]) zi1 rfl ⟨rfl,below1 _⟩
 ·rw [if_neg h]
  obtain ⟨n,rfl⟩:=Int.eq_ofNat_of_zero_le (show 0≤k by omega)
  rw [Int.toNat_natCast]
  by_cases hn:n<l.length
  ·rw [List.getElem?_eq_getElem hn]
   first
    |guard_hyp zT34:Tg 1;exact value_any_at v l n w hv hn
    |exact refValue_any_at v l n w hv hn
  ·rw [List.getElem?_eq_none (by omega)]
   obtain rfl:n=l.length:=by omega
   obtain ⟨A,cp,rfl,hc1,hc2,hc3⟩:=hv.open_
   unfold maxLen at hc2
   clear hn h
   go_in
   go_wp2_with fail
   first
    |guard_hyp zT34:Tg 1;exact bodyPost_ret (v:=.tuple #[.agg #[.int .i64 0,.int .i64 0,.string ⟨#[]⟩],.int .i64 0,.int .i64 2]) zi3 rfl ⟨rfl,below1 _⟩
    |exact bodyPost_ret (v:=.tuple #[.agg #[.int .i64 0,.int .i64 0,.string ⟨#[]⟩],.int .i64 0,.int .i64 2]) zi1 rfl ⟨rfl,below1 _⟩) : P := h ⟨⟩
theorem zq36 {P:Prop} (i:Nat) (h:Tg i→P:=by
 intro zT36
 obtain ⟨i0,hi,hz0,hz1,hz2⟩:=info_parts infoB
 obtain ⟨A,c,rfl,hc1,hc2,hA⟩:=hv.view
 first
  |guard_hyp zT36:Tg 1;have hA':=hA.box (.cells #[.int .i64 3,.int .i64 i,.string s] 79)
  |have hA':=hA.box (.cells #[.int .i64 k,.int .i64 i,.string s] 79)
 have HA:=hI0 hA'
 clear hA' hA
 first
  |done
  |guard_hyp zT36:Tg 1
  |have b1:(k==1)=false:=by simpa using k1
   have b2:(k==2)=false:=by simpa using k2
   have b3:(k==3)=false:=by simpa using k3
   clear k1 k2 k3
 go_in
 go_wp2_with (first
  |(go_at_call 205;((with_reducible refine (grow_any A _ c _ hc1).mono ?_));rintro e w' ⟨rfl,rfl⟩)
  |(at_builtin;refine wpList_append_app _ rfl _ _ 34 rfl (w.heap.size+1) 5 i0 _ 1 1 underlying34 hi hz0 hz1 hz2 rfl (by omega) (.slice A l.length l.length) l.length (bv l) rfl (by exact (App.alloc HA.out (by simp) _)) (·=w.heap.size+1) _ 1 _ rfl zi37 (one_one rfl) zi19 (by omega) (by simp) ?_;intro v1 w1 hA1 hO1 hg1 hb1 ha1))
 go_ret
 first
  |guard_hyp zT36:Tg 1;exact newB_one (and_byte i) hO1 hb1
  |exact newB_one (x:=0) rfl hO1 hb1) : P := h ⟨⟩
theorem zq37 {P:Prop} (i:Nat) (h:Tg i→P:=by
 intro zT37
 unfold maxLen at hs
 go_in
 go_wp2
 first
  |guard_hyp zT37:Tg 1;go_loop [6] (fun i=>∃k:Nat,k≤s.size∧i=.int .i64 k∧printB (s.data.toList.take k)=true) (fun i=>s.size-(intOf i).toNat)
  |go_loop [3] (fun i=>∃k:Nat,k≤s.size∧i=.int .i64 k∧printB (s.data.toList.take k)=true) (fun i=>s.size-(intOf i).toNat)
 case atStart=>exact ⟨0,Nat.zero_le _,rfl,rfl⟩
 obtain ⟨k,hk,rfl,hp⟩:=hrel
 have HP:=hI0 hp
 clear hp
 by_cases hlt:k<s.size
 ·by_cases h1:(s[k].toNat:Int)<32
  ·go_wp2
   go_ret
   exact ⟨by rw [printB_no (k:=k+1) zi29];rfl,rfl⟩
  ·by_cases h2:126<(s[k].toNat:Int)
   ·go_wp2
    go_ret
    exact ⟨by rw [printB_no (k:=k+1) zi29];rfl,rfl⟩
   ·go_wp2
    go_round
    case rel=>exact ⟨k+1,by omega,by go_num,by rw [take_snoc s k hlt,printB_snoc,HP.out];simp;omega⟩
    case measure=>simp [intOf];omega
 ·go_wp2
  go_ret
  have:k=s.size:=by omega
  subst this
  have e:List.take s.size s.data.toList=s.data.toList:=List.take_of_length_le (by simp)
  rw [←e,HP.out]
  exact ⟨rfl,rfl⟩) : P := h ⟨⟩
theorem zq40 {P:Prop} (i:Nat) (h:Tg i→P:=by
 intro zT40
 have HS:=hI0 hs
 clear hs
 go_in
 first
  |guard_hyp zT40:Tg 1;go_wp2_with (go_at_call 241;refine (printable_any _ _ HS.out).mono ?_;rintro e w' ⟨rfl,rfl⟩)
   skip
  |go_wp2_with (go_at_call 243;refine (refPrintable_any _ _ HS.out).mono ?_;rintro e w' ⟨rfl,rfl⟩)
 all_goals go_ret
 all_goals refine ⟨ret_bool ?_,by first|rfl|(simp_all;done)⟩
 all_goals clear HS
 all_goals simp only [beq_iff_eq,beq_eq_false_iff_ne] at *
 all_goals simp_all [validV,isEmpty_beq]
 all_goals first|omega|(simp_all [ByteArray.toList_eq];done)) : P := h ⟨⟩
theorem zq55 {P:Prop} (i:Nat) (h:Tg i→P:=by
 intro zT55
 go_in
 go_wp2
 first
  |guard_hyp zT55:Tg 1;rw [pos_word hn]
  |rw [neg_word hn]
 go_loopw [6,5] (fun b u wr=>PutRelC w.heap.size (.slice none 0 0) w [] (encI n) b u wr) (fun _ u _=>(intOf u).toNat)
 case atStart=>
  exact ⟨9,[],zz n,.inl (World.ownsRow_nil w _ _ _),rfl,by have:=zz_lt h1 h2;omega,by omega,by simp,rfl,Grew.refl _ _ _⟩
 obtain ⟨f,pre,u',hA,hpre,hu,hf,hpl,rfl,hG⟩:=hrel
 have HP:=hI0 hpre
 have hu64:=vl_lt hf hu
 have HU:=hI0 hu
 clear hpre hu
 have q1:([]++pre).length+1≤maxLen:=by simp only [maxLen,List.nil_append];omega
 have q2:(([]++pre).length+1)*1≤140737488355328:=by simp only [List.nil_append];omega
 have q3:=hG.size
 by_cases hc:128≤u'
 ·exact zq119 1
 ·exact zq119 0) : P := h ⟨⟩
theorem zq63 {P:Prop} (i:Nat) (h:Tg i→P:=by
 intro zT63
 split at h
 ·simp at h
 ·rename_i h1 h2 h3
  rcases hd:decI l k with ⟨n,q,e⟩
  rw [hd] at h h1 h2 h3
  simp only at h h1 h2 h3
  first
   |done
   |guard_hyp zT63:Tg 1
   |rcases hd2:decI l q with ⟨n2,q2,e2⟩
    rw [hd2] at h h2 h3
    simp only [Prod.mk.injEq,and_true] at h h1 h2 h3
  obtain rfl:e=0:=by omega
  first
   |done
   |guard_hyp zT63:Tg 1
   |obtain rfl:e2=0:=by omega
    obtain ⟨⟨rfl,rfl⟩,rfl⟩:=h
  obtain ⟨a,r,hl,hk,hq⟩:=decI_got hd
  first
   |guard_hyp zT63:Tg 1;obtain ⟨xs,b,r',hys,hn,hl2,hq2,hm,hvs⟩:=decVs_got _ _ _ _ _ h (by omega) (by rw [hq,hl];simp;omega)
   |obtain ⟨b,r',hl2,hq2,hm⟩:=decI_got hd2
  have hb:b=a++encI n:=by
   have e1:b=l.take b.length:=by conv=>rhs;rw [hl2,List.take_left]
   have e2:b.length=(a++encI n).length:=by omega
   rw [e1,e2,hl,←List.append_assoc,List.take_left]
  first
   |guard_hyp zT63:Tg 1;rw [List.nil_append] at hys
    subst hys
    have hnn:n=(ys.length:Int):=by omega
    refine ⟨a,r',?_,hk,?_,hvs,by omega⟩
   |refine ⟨a,r',?_,hk,?_,by cases hp:validP n n2<;>simp_all⟩
  ·first
    |guard_hyp zT63:Tg 1;rw [hl2,hb,hnn];simp [encR]
    |rw [hl2,hb];simp
  ·first
    |guard_hyp zT63:Tg 1;rw [hm,hb,hnn];simp [encR]
    |rw [hm,hb];simp) : P := h ⟨⟩
theorem zq68 {P:Prop} (i:Nat) (h:Tg i→P:=by
 intro zT68
 first
  |guard_hyp zT68:Tg 2;clear hq
  |guard_hyp zT68:Tg 1;have q3:1099511627776<b:=by omega
   clear hq
  |simp only [he2,not_false_eq_true,if_true]
   have b1:(e2 != 0)=true:=by rw [bne_iff_ne];exact he2
   have HE:=hI0 he2
   clear he2
 go_in
 go_wp2_with fail
 (with_reducible refine (HC.out _ hbx).mono ?_)
 rintro _ _ ⟨rfl,rfl⟩
 go_wp2_with fail
 (with_reducible refine (HD.out _ hbx).mono ?_)
 rintro _ _ ⟨rfl,rfl⟩
 go_wp2_with fail
 first
  |guard_hyp zT68:Tg 2;exact bodyPost_ret (v:=.tuple #[.agg #[.int .i64 0,.int .i64 0],.int .i64 0,.int .i64 6]) zi13 rfl ⟨rfl,below1 _⟩
  |guard_hyp zT68:Tg 1;exact bodyPost_ret (v:=.tuple #[.agg #[.int .i64 0,.int .i64 0],.int .i64 0,.int .i64 6]) zi13 rfl ⟨rfl,below1 _⟩
  |guard_hyp zT24:Tg 1;exact bodyPost_ret (v:=.tuple #[.agg #[.int .i64 0,.int .i64 0],.int .i64 0,.int .i64 e2]) zi24 rfl ⟨rfl,below1 _⟩
  |exact bodyPost_ret (v:=.tuple #[.agg #[.int .i64 0,.int .i64 0],.int .i64 0,.int .i64 e2]) zi13 rfl ⟨rfl,below1 _⟩) : P := h ⟨⟩
theorem zq69 {P:Prop} (i:Nat) (h:Tg i→P:=by
 intro zT69
 simp only [ne_eq,he,not_false_eq_true,if_true]
 have b1:(e != 0)=true:=by rw [bne_iff_ne];exact he
 have b2:(e==0)=false:=beq_eq_false_iff_ne.2 he
 have HE:=hI0 he
 first
  |guard_hyp zT69:Tg 1;clear he HT
  |clear he HC hTb
 go_in
 go_wp2_with fail
 first
  |guard_hyp zT69:Tg 1;(with_reducible refine (HC.out _ hbx).mono ?_)
  |(with_reducible refine (HT.out _ hbx).mono ?_)
 rintro _ _ ⟨rfl,rfl⟩
 go_wp2_with fail
 first
  |guard_hyp zT69:Tg 1
   first
    |guard_hyp zT14:Tg 1;exact bodyPost_ret (v:=.tuple #[.agg #[.int .i64 0,.int .i64 0,.string ⟨#[]⟩],.int .i64 0,.int .i64 e]) zi3 rfl ⟨rfl,below1 _⟩
    |exact bodyPost_ret (v:=.tuple #[.agg #[.int .i64 0,.int .i64 0,.string ⟨#[]⟩],.int .i64 0,.int .i64 e]) zi1 rfl ⟨rfl,below1 _⟩
  |guard_hyp zT14:Tg 1;exact bodyPost_ret (v:=.tuple #[.agg #[.int .i64 0,.int .i64 0,.string ⟨#[]⟩],.int .i64 0,.int .i64 e]) zi3 rfl ⟨rfl,below1 _⟩
  |exact bodyPost_ret (v:=.tuple #[.agg #[.int .i64 0,.int .i64 0,.string ⟨#[]⟩],.int .i64 0,.int .i64 e]) zi1 rfl ⟨rfl,below1 _⟩) : P := h ⟨⟩
theorem zq72 {P:Prop} (i:Nat) (h:Tg i→P:=by
 intro zT72
 go_wp2_with (at_builtin;refine wpList_append_app _ rfl _ _ 34 rfl base 5 i0 _ 1 1 underlying34 hi hz0 hz1 hz2 rfl (by omega) u0 _ _ rfl (App.alloc hA q3 _) _ _ 1 _ rfl (Rd.new wr _ 5 1 1 rfl (by decide)) (one_one rfl) q1 q2 (by simp;omega) ?_;intro v1 w1 hA1 hO1 hg1 hb1 ha1)
 first
  |guard_hyp zT72:Tg 1;go_ret
   exact PutRelC.last hG HP.out (by omega) (byte_of (by omega)) hb hO1 hg1 hb1 ha1
  |go_roundw
   case rel=>exact PutRelC.more hG HP.out HU.out hf hpl hc (or128 u') hb hA1 hg1 hb1 ha1
   case measure=>simp [intOf];omega) : P := h ⟨⟩
theorem zq73 {P:Prop} (i:Nat) (h:Tg i→P:=by
 intro zT73
 first
  |done
  |guard_hyp zT73:Tg 2
  |first
    |done
    |guard_hyp zT73:Tg 1
    |have b1:((j:Int)==9)=true:=by simp;omega
     have b2:¬ 1<((l[k+j]'hlt).toNat:Int):=by omega
     have b3:0<j:=by omega
   have b4':=b4 b3
 clear h9 hbad hp b4
 go_wp2
 go_ret3
 exact ⟨ret_int3 ((congrArg (fun x:Int=>wrap64 (wrap64 (-wrap64 (IntKind.u64.wrap (x.tdiv 2)))-1)) HW.out).trans (fin_odd HN.out HPar.out)) rfl rfl,rfl⟩) : P := h ⟨⟩
theorem zq77 {P:Prop} (i:Nat) (h:Tg i→P:=by
 intro zT77
 first
  |guard_hyp zT77:Tg 2;rw [if_pos h2]
   clear hbd
  |guard_hyp zT77:Tg 1;rw [if_pos h1]
   clear hbd
  |simp only [ne_eq,he,not_false_eq_true,if_true]
   have b1:(e != 0)=true:=by rw [bne_iff_ne];exact he
   have HE:=hI0 he
   clear he hbd
 go_in
 go_wp2_with fail
 (with_reducible refine HC.out.mono ?_)
 rintro _ _ ⟨rfl,rfl⟩
 go_wp2_with fail
 go_ret3
 exact ⟨_,rfl,OwnV.nil _ _,Below.refl _ _⟩) : P := h ⟨⟩
theorem zq80 {P:Prop} (i:Nat) (h:Tg i→P:=by
 intro zT80
 first
  |guard_hyp zT80:Tg 3;rw [if_pos h3]
  |guard_hyp zT80:Tg 2;rw [if_pos h2]
  |guard_hyp zT80:Tg 1;rw [if_pos h1]
  |rw [if_pos he]
   have b1:(e != 0)=true:=by rw [bne_iff_ne];exact he
   clear hb
   have HE:=hI0 he
   clear he
 go_in
 go_wp2_with fail
 refine HC.out.mono ?_
 rintro _ _ ⟨rfl,rfl⟩
 go_wp2_with fail
 all_goals go_ret3
 all_goals exact ⟨rfl,rfl⟩) : P := h ⟨⟩
theorem zq119 {P:Prop} (i:Nat) (h:Tg i→P:=by
 intro zT119
 go_wp2_with (at_builtin;refine wpList_append_app _ rfl _ _ 34 rfl w.heap.size 5 i0 _ 1 1 underlying34 hi hz0 hz1 hz2 rfl (by omega) u6 _ _ rfl (App.alloc hA q3 _) _ _ 1 _ rfl (Rd.new wr _ 5 1 1 rfl (by decide)) (one_one rfl) q1 q2 (by simp;omega) ?_;intro v1 w1 hA1 hO1 hg1 hb1 ha1)
 first
  |guard_hyp zT119:Tg 1;go_roundw
   case rel=>exact PutRelC.more hG HP.out HU.out hf hpl hc (ref_byte u') (Nat.le_refl _) hA1 hg1 hb1 ha1
   case measure=>simp [intOf];omega
  |have hM:=PutRelC.last (l:=[]) hG HP.out (by omega) (byte_of (by omega)) (Nat.le_refl _) hO1 hg1 hb1 ha1
   obtain ⟨v2,e2,hO,hGr⟩:=hM
   injection e2 with e2
   subst e2
   go_wp2_with fail
   refine (with_any v v1 l (encI n) _ (hv.below' hGr.below) hO.rd (by have:=encI_length n;omega)).mono ?_
   rintro e w2 ⟨v2,rfl,hO2,hb2⟩
   go_wp2_with fail
   go_ret
   exact ⟨v2,rfl,own_baseC hO2 hGr.size,hGr.below.trans (hb2.mono hGr.size)⟩) : P := h ⟨⟩
theorem zi1 {P:Prop} (h:P:=by simp [results,results225,go_sem]):P:=h
theorem zi3 {P:Prop} (h:P:=by simp [results,results221,go_sem]):P:=h
theorem zi13 {P:Prop} (h:P:=by simp [results,results177,go_sem]):P:=h
theorem zi24 {P:Prop} (h:P:=by simp [results,results222,go_sem]):P:=h
theorem zi29 {P:Prop} (h:P:=by rw [take_snoc s k hlt,printB_snoc];simp;omega):P:=h
theorem zi37 {P:Prop} (h:P:=by exact (Rd.new' _ (w.heap.size+1) (by simp) _ 5 1 1 rfl (by decide))):P:=h
section
open Go.RowKit
def PutRelC (base:Nat) (v0:Value) (w0:World) (l all:List UInt8) (b u:Value) (w:World):Prop:=
 ∃(f:Nat) (pre:List UInt8) (u':Nat),AppB w base b (l++pre)∧pre++vl f u'=all∧u'<2*128 ^ f∧f≤9∧pre.length+f≤9∧u=.int .u64 u'∧Grew base v0 w0 b w
theorem PutRelC.more {base:Nat} {v0 v v1:Value} {w0 w w1:World} {l all pre:List UInt8} {f u':Nat} {x:Int} {o:Obj} (hG:Grew base v0 w0 v w) (HP:pre++vl f u'=all) (HU:u'<2*128 ^ f) (hf:f≤9) (hpl:pre.length+f≤9) (hc:128≤u')
  (hx:x=((UInt8.ofNat (u' % 128+128)).toNat:Int)) (hb:base≤w0.heap.size)
  (hA1:App w1 base 5 1 v1 ((l++pre).length+1) (bv (l++pre)++[.int .u8 x]))
  (hg1:(w.alloc o).grownBy w1 v.ownBlock) (hb1:Below base (w.alloc o) w1) (ha1:v1.ownBlock=v.ownBlock∨v1.ownBlock=some (w.alloc o).heap.size):
  PutRelC base v0 w0 l all v1 (.int .u64 ((u':Int) / 128)) w1:=by
 subst hx
 obtain ⟨g,rfl⟩:∃g,f=g+1:=⟨f-1,by
  rcases Nat.eq_zero_or_pos f with h|h
  ·subst h;simp at HU;omega
  ·omega⟩
 rw [vl_big _ hc] at HP
 refine ⟨g,pre++[UInt8.ofNat (u' % 128+128)],u' / 128,?_,by simpa using HP,?_,by omega,by simp;omega,by simp,?_⟩
 ·have e:bv (l++(pre++[UInt8.ofNat (u' % 128+128)]))=bv (l++pre)++[.int .u8 ((UInt8.ofNat (u' % 128+128)).toNat:Int)]:=by
   rw [←List.append_assoc,bv_append];rfl
  have e2:(l++(pre++[UInt8.ofNat (u' % 128+128)])).length=(l++pre).length+1:=by simp;omega
  unfold AppB
  rw [e,e2]
  exact hA1
 ·rw [Nat.pow_succ] at HU
  omega
 ·exact (hG.alloc hb o).trans (Grew.step hg1 hb1 ha1)
theorem PutRelC.last {base:Nat} {v0 v v1:Value} {w0 w w1:World} {l all pre:List UInt8} {f u':Nat} {x:Int} {o:Obj} (hG:Grew base v0 w0 v w) (HP:pre++vl f u'=all) (hc:u'<128)
  (hx:x=((UInt8.ofNat u').toNat:Int)) (hb:base≤w0.heap.size)
  {p:Prop} (hO1:0<1∨p→w1.ownsRow base 5 1 v1 ((l++pre).length+1) (bv (l++pre)++[.int .u8 x]))
  (hg1:(w.alloc o).grownBy w1 v.ownBlock) (hb1:Below base (w.alloc o) w1) (ha1:v1.ownBlock=v.ownBlock∨v1.ownBlock=some (w.alloc o).heap.size):
  MadeB base v0 w0 (l++all) (.returned v1) w1:=by
 subst hx
 rw [vl_small _ hc] at HP
 subst HP
 refine ⟨v1,rfl,?_,(hG.alloc hb o).trans (Grew.step hg1 hb1 ha1)⟩
 have e:bv (l++(pre++[UInt8.ofNat u']))=bv (l++pre)++[.int .u8 ((UInt8.ofNat u').toNat:Int)]:=by
  rw [←List.append_assoc,bv_append];rfl
 have e2:(l++(pre++[UInt8.ofNat u'])).length=(l++pre).length+1:=by simp;omega
 unfold OwnB
 rw [e,e2]
 exact hO1 (.inl (by omega))
theorem put_any (base:Nat) (v:Value) (l:List UInt8) (n:Int) (w:World) (h1: -9223372036854775808≤n) (h2:n≤9223372036854775807)
  (hv:AppB w base v l) (hb:base≤w.heap.size) (hl:l.length≤140737488355000):
  Calls prog 204 #[v,.int .i64 n] w (MadeB base v w (l++encI n)):=by
 obtain ⟨i0,hi,hz0,hz1,hz2⟩:=info_parts infoB
 have HV:=hI0 hv
 clear hv
 go_in
 go_wp2
 rw [put_word h1 h2]
 go_loopw [0,5] (fun b u wr=>PutRelC base v w l (encI n) b u wr) (fun _ u _=>(intOf u).toNat)
 case atStart=>
  exact ⟨9,[],zz n,by simpa using HV.out,rfl,by have:=zz_lt h1 h2;omega,by omega,by simp,rfl,Grew.refl _ _ _⟩
 obtain ⟨f,pre,u',hA,hpre,hu,hf,hpl,rfl,hG⟩:=hrel
 have HP:=hI0 hpre
 have HU:=hI0 hu
 clear hpre hu
 have q1:(l++pre).length+1≤maxLen:=by simp only [maxLen,List.length_append];omega
 have q2:((l++pre).length+1)*1≤140737488355328:=by simp only [List.length_append];omega
 have q3:=Nat.le_trans hb hG.size
 by_cases hc:128≤u'
 ·exact zq72 0
 ·exact zq72 1
theorem grow_any (A:Option Addr) (n c:Nat) (w:World) (h1:n≤c):
  Calls prog 205 #[.slice A n c] w fun e w'=>e=.returned (.slice A n n)∧w=w':=by
 go_in
 go_wp2
 go_ret
 exact ⟨rfl,rfl⟩
theorem putInt_any (v:Value) (l:List UInt8) (n:Int) (w:World) (h1: -9223372036854775808≤n) (h2:n≤9223372036854775807)
  (hv:RdB w (ltw w) v l) (hl:l.length≤140737488355000):
  Calls prog 148 #[v,.int .i64 n] w (NewB w (l++encI n)):=by
 obtain ⟨A,c,rfl,hc1,hc2,hA⟩:=hv.view
 go_in
 go_wp2_with fail
 refine (grow_any A _ c _ hc1).mono ?_
 rintro e w' ⟨rfl,rfl⟩
 go_wp2_with fail
 refine (put_any w.heap.size _ l n _ h1 h2 hA (Nat.le_refl _) hl).mono ?_
 rintro e w' ⟨v1,rfl,ho,hg⟩
 go_wp2_with fail
 go_ret
 exact ⟨v1,rfl,ho,hg.below⟩
def IntRel (k:Nat) (l:List UInt8) (res:Int×Int×Int) (u i:Value):Prop:=
 ∃j z:Nat,k+j≤l.length∧j≤9∧z<128 ^ j∧u=.int .u64 z∧i=.int .i64 j∧decL k (l.drop (k+j)) j z=res
theorem int_in (F:Nat→Prop) (v:Value) (l:List UInt8) (k:Nat) (w:World) (hv:RdB w F v l) (hk:k≤l.length):
  Calls prog 160 #[v,.int .i64 k] w fun e w'=>e=.returned (.tuple #[.int .i64 (decI l k).1,.int .i64 (decI l k).2.1,.int .i64 (decI l k).2.2])∧w=w':=by
 exact zq18 1
end
section
open Go.RowKit
theorem int_out (F:Nat→Prop) (v:Value) (l:List UInt8) (k:Int) (w:World) (hv:RdB w F v l) (hk:k<0∨(l.length:Int)<k):
  Calls prog 160 #[v,.int .i64 k] w fun e w'=>e=.returned (.tuple #[.int .i64 0,.int .i64 0,.int .i64 6])∧w=w':=by
 obtain ⟨A,c,rfl,hc1,hc2,hc3⟩:=hv.open_
 rcases hk with hk|hk
 ·go_in
  go_wp2
  go_ret3
  exact ⟨rfl,rfl⟩
 ·have hk':¬k<0:=by omega
  go_in
  go_wp2
  go_ret3
  exact ⟨rfl,rfl⟩
def Int3 (r:Int×Int×Int) (w0:World) (e:Ending) (w:World):Prop:=e=.returned (.tuple #[.int .i64 r.1,.int .i64 r.2.1,.int .i64 r.2.2])∧w0=w
theorem int_any (F:Nat→Prop) (v:Value) (l:List UInt8) (k:Int) (w:World) (hv:RdB w F v l):
  Calls prog 160 #[v,.int .i64 k] w (Int3 (decI l k) w):=by
 by_cases h:k<0∨(l.length:Int)<k
 ·rw [decI_out h];exact int_out F v l k w hv h
 ·obtain ⟨n,rfl⟩:=Int.eq_ofNat_of_zero_le (show 0≤k by omega)
  exact int_in F v l n w hv (by omega)
def IntRel2 (k:Nat) (l:List UInt8) (res:Int×Int×Int) (u p i:Value):Prop:=
 ∃j z q:Nat,k+j≤l.length∧j≤9∧z<q∧q=128 ^ j∧u=.int .u64 z∧p=.int .u64 q∧i=.int .i64 j∧decL k (l.drop (k+j)) j z=res
theorem refInt_in (F:Nat→Prop) (v:Value) (l:List UInt8) (k:Nat) (w:World) (hv:RdB w F v l) (hk:k≤l.length):
  Calls prog 171 #[v,.int .i64 k] w (Int3 (decI l k) w):=by
 exact zq18 0
theorem refInt_any (F:Nat→Prop) (v:Value) (l:List UInt8) (k:Int) (w:World) (hv:RdB w F v l):
  Calls prog 171 #[v,.int .i64 k] w (Int3 (decI l k) w):=by
 by_cases hk:k<0∨(l.length:Int)<k
 ·rw [decI_out hk]
  obtain ⟨A,c,rfl,hc1,hc2,hc3⟩:=hv.open_
  rcases hk with hk|hk
  ·go_in
   go_wp2
   go_ret3
   exact ⟨rfl,rfl⟩
  ·have hk':¬k<0:=by omega
   go_in
   go_wp2
   go_ret3
   exact ⟨rfl,rfl⟩
 ·obtain ⟨n,rfl⟩:=Int.eq_ofNat_of_zero_le (show 0≤k by omega)
  exact refInt_in F v l n w hv (by omega)
end
section
open Go.RowKit Go.Lib
theorem with_any (va vb:Value) (la lb:List UInt8) (w:World) (ha:RdB w (ltw w) va la) (hb:RdB w (ltw w) vb lb) (hl:la.length+lb.length≤140737488355328):
  Calls prog 186 #[va,vb] w (NewB w (la++lb)):=by
 obtain ⟨i0,hi,hz0,hz1,hz2⟩:=info_parts infoB
 go_in
 go_wp2_with (first
  |(at_builtin;refine wpList_append_app _ rfl (.tmp 5) (.tmp 6) 34 rfl w.heap.size 5 i0 _ 1 1 underlying34 hi hz0 hz1 hz2 rfl (by omega) _ 0 [] rfl (.inl (own_empty w w.heap.size _ 1 (Nat.le_refl _))) _ va la.length (bv la) rfl (Rd.alloc ha (Nat.le_refl _) _) (bv_one _) zi19 (by omega) (by simp) ?_;intro v1 w1 hA1 hO1 hg1 hb1 ha1)
  |(at_builtin;refine wpList_append_app _ rfl (.tmp 7) (.tmp 8) 34 rfl w.heap.size 5 i0 _ 1 1 underlying34 hi hz0 hz1 hz2 rfl (by omega) v1 _ _ rfl hA1 _ vb lb.length (bv lb) rfl (Rd.below (Rd.alloc hb (Nat.le_refl _) _) hb1) (bv_one _) zi19 (by omega) (Nat.le_trans (by simp) hb1.size) ?_;intro v2 w2 hA2 hO2 hg2 hb2 ha2))
 go_ret
 refine ⟨v2,rfl,?_,(Below.of_alloc _).trans (hb1.trans hb2)⟩
 have h:=hO2 (.inr (hO1 (.inr (own_empty w w.heap.size _ 1 (Nat.le_refl _)))))
 unfold OwnB
 rw [bv_append,List.length_append]
 simpa using h
end
section
open Go.RowKit Go.Lib
theorem neg_word {n:Int} (h:n<0):2* -(n+1)+1=(zz n:Int):=by rw [zz,if_pos h];omega
theorem pos_word {n:Int} (h:0≤n):2*n=(zz n:Int):=by rw [zz,if_neg (by omega)];omega
theorem ref_byte (u:Nat):((u:Int) % 128+128)=((UInt8.ofNat (u % 128+128)).toNat:Int):=by
 rw [←byte_of (by omega)];omega
theorem vl_lt {f u:Nat} (hf:f≤9) (h:u<2*128 ^ f):u<18446744073709551616:=by
 have:128 ^ f≤128 ^ 9:=Nat.pow_le_pow_right (by omega) hf
 omega
theorem own_baseC {w:World} {b b':Nat} {e:TypeId} {size n:Nat} {v:Value} {cs:List Value} (h:w.ownsRow b e size v n cs) (hb:b'≤b):w.ownsRow b' e size v n cs:=by
 refine ⟨h.1,?_⟩
 rcases h.2 with h|⟨g,cap,cur,a1,a2,a3⟩
 ·exact .inl h
 ·exact .inr ⟨g,cap,cur,a1,by omega,a3⟩
theorem RdB.below' {w w':World} {v:Value} {l:List UInt8} (h:RdB w (ltw w) v l) (hb:Bl w w'):RdB w' (ltw w') v l:=Rd.below' h hb
theorem refPutInt_any (v:Value) (l:List UInt8) (n:Int) (w:World) (h1: -9223372036854775808≤n) (h2:n≤9223372036854775807)
  (hv:RdB w (ltw w) v l) (hl:l.length≤140737488355000):
  Calls prog 113 #[v,.int .i64 n] w (NewB w (l++encI n)):=by
 obtain ⟨i0,hi,hz0,hz1,hz2⟩:=info_parts infoB
 by_cases hn:n<0
 ·exact zq55 0
 ·exact zq55 1
end
section
open Go.RowKit Go.Lib
theorem str_len (s:ByteArray):s.data.toList.length=s.size:=by rw [Array.length_toList];rfl
theorem putText_any (v:Value) (l:List UInt8) (s:ByteArray) (w:World) (hv:RdB w (ltw w) v l) (hl:l.length+s.size≤140737488355000):
  Calls prog 183 #[v,.string s] w (NewB w (l++(encI s.size++s.data.toList))):=by
 obtain ⟨i0,hi,hz0,hz1,hz2⟩:=info_parts infoB
 obtain ⟨A,c,rfl,hc1,hc2,hA⟩:=hv.view
 go_in
 go_wp2_with fail
 refine (grow_any A _ c _ hc1).mono ?_
 rintro e w' ⟨rfl,rfl⟩
 go_wp2_with fail
 refine (put_any w.heap.size _ l s.size _ (by omega) (by omega) hA (Nat.le_refl _) (by omega)).mono ?_
 rintro e w' ⟨v1,rfl,ho,hg⟩
 have hlen:=encI_length s.size
 go_wp2_with (at_builtin;refine wpList_append_own_string _ rfl _ _ 34 9 rfl w.heap.size 5 i0 underlying34 underlying9 hi hz0 hz1 hz2 v1 _ _ rfl ho s rfl (by simp only [maxLen,List.length_append];omega) (by simp only [List.length_append];omega) hg.size ?_;intro v2 w2 ho2 hg2 _)
 go_ret
 refine ⟨v2,rfl,?_,hg.below.grown hg2 hg.size fun k hk=>(ho.lt k hk).1⟩
 unfold OwnB
 rw [←List.append_assoc,bv_append,List.length_append,str_len]
 exact ho2
theorem refPutText_any (v:Value) (l:List UInt8) (s:ByteArray) (w:World) (hv:RdB w (ltw w) v l) (hl:l.length+s.size≤140737488355000):
  Calls prog 116 #[v,.string s] w (NewB w (l++(encI s.size++s.data.toList))):=by
 go_in
 go_wp2_with fail
 refine (refPutInt_any v l s.size _ (by omega) (by omega) hv (by omega)).mono ?_
 rintro e w1 ⟨v1,rfl,ho1,hb1⟩
 have hlen:=encI_length s.size
 obtain ⟨x,W1,hcv,hx,hbw⟩:=conv_sb w1 s (by omega)
 go_wp2_with fail
 refine (with_any v1 x _ s.data.toList _ (RdB.below' ho1.rd hbw) hx (by rw [str_len,List.length_append];omega)).mono ?_
 rintro e w2 ⟨v2,rfl,ho2,hb2⟩
 clear hcv
 go_wp2_with fail
 go_ret
 exact ⟨v2,rfl,by rw [←List.append_assoc];exact own_baseC ho2 (Nat.le_trans hb1.size hbw.size),hb1.trans ((hbw.trans (hb2.mono hbw.size)).mono hb1.size)⟩
def Text3 (r:List UInt8×Int×Int) (w0:World) (e:Ending) (w:World):Prop:=e=.returned (.tuple #[.string (strB r.1),.int .i64 r.2.1,.int .i64 r.2.2])∧w0=w
theorem text_any (F:Nat→Prop) (v:Value) (l:List UInt8) (k most:Int) (w:World) (hv:RdB w F v l):
  Calls prog 190 #[v,.int .i64 k,.int .i64 most] w (Text3 (decT l k most) w):=by
 exact zq27 1
theorem refText_any (F:Nat→Prop) (v:Value) (l:List UInt8) (k most:Int) (w:World) (hv:RdB w F v l):
  Calls prog 175 #[v,.int .i64 k,.int .i64 most] w (Text3 (decT l k most) w):=by
 exact zq27 0
end
section
open Go.RowKit Go.Lib
def printB (l:List UInt8):Bool:=l.all fun c=>32≤c&&c≤126
theorem take_snoc (s:ByteArray) (k:Nat) (h:k<s.size):s.data.toList.take (k+1)=s.data.toList.take k++[s[k]]:=by
 rw [List.take_succ_eq_append_getElem (by simpa using h)];rfl
theorem printB_snoc (l:List UInt8) (c:UInt8):printB (l++[c])=(printB l&&decide (32≤(c.toNat:Int)∧(c.toNat:Int)≤126)):=by
 unfold printB
 rw [List.all_append]
 congr 1
 simp [UInt8.le_iff_toNat_le]
 rw [Bool.eq_iff_iff];simp;omega
theorem printB_no {l:List UInt8} {k:Nat} (h:printB (l.take k)=false):printB l=false:=by
 rw [←Bool.not_eq_true] at h ⊢
 intro hl
 apply h
 unfold printB at *
 rw [List.all_eq_true] at *
 exact fun x hx=>hl x (List.mem_of_mem_take hx)
theorem refPrintable_any (s:ByteArray) (w:World) (hs:s.size≤maxLen):
  Calls prog 243 #[.string s] w fun e w'=>e=.returned (.bool (printB s.data.toList))∧w=w':=by
 exact zq37 0
theorem printable_any (s:ByteArray) (w:World) (hs:s.size≤maxLen):
  Calls prog 241 #[.string s] w fun e w'=>e=.returned (.bool (printB s.data.toList))∧w=w':=by
 exact zq37 1
structure Val where
 kind:Int
 int:Int
 text:ByteArray
def Val.cells (x:Val):List Value:=[.int .i64 x.kind,.int .i64 x.int,.string x.text]
def validV (x:Val):Bool:=
 if x.kind=0 then x.int==0&&x.text.data.toList==[]
 else if x.kind=1 then decide (-1125899906842624≤x.int)&&decide (x.int≤1125899906842624)&&x.text.data.toList==[]
 else if x.kind=2 then x.int==0&&decide (x.text.size≤200)&&printB x.text.data.toList
 else if x.kind=3 then (x.int==0||x.int==1)&&x.text.data.toList==[]
 else false
theorem ret_bool {a b:Bool} (h:a=b):Ending.returned (.bool a)=.returned (.bool b):=by rw [h]
theorem isEmpty_beq (s:ByteArray):s.toList.isEmpty=(s.data.toList==[]):=by
 rw [ByteArray.toList_eq];cases s.data.toList<;>rfl
theorem refValidValue_any (k i:Int) (s:ByteArray) (w:World) (hs:s.size≤maxLen):
  Calls prog 201 #[.agg #[.int .i64 k,.int .i64 i,.string s]] w fun e w'=>e=.returned (.bool (validV ⟨k,i,s⟩))∧w.alloc (.cells #[.int .i64 k,.int .i64 i,.string s] 79)=w':=by
 exact zq40 0
theorem validValue_any (k i:Int) (s:ByteArray) (w:World) (hs:s.size≤maxLen):
  Calls prog 196 #[.agg #[.int .i64 k,.int .i64 i,.string s]] w fun e w'=>e=.returned (.bool (validV ⟨k,i,s⟩))∧w.alloc (.cells #[.int .i64 k,.int .i64 i,.string s] 79)=w':=by
 exact zq40 1
end
section
open Go.RowKit Go.Lib
def validP (f t:Int):Bool:=decide (0≤f)&&decide (f<t)&&decide (t≤1099511627776)
theorem periodValid_any (f t:Int) (w:World):
  Calls prog 134 #[.agg #[.int .i64 f,.int .i64 t]] w fun e w'=>e=.returned (.bool (validP f t))∧w.alloc (.cells #[.int .i64 f,.int .i64 t] 66)=w':=by
 go_in
 go_wp2
 all_goals go_ret
 all_goals refine ⟨ret_bool ?_,by first|rfl|(simp_all;done)⟩
 all_goals simp_all [validP]
 all_goals omega
theorem putPeriod_any (v:Value) (l:List UInt8) (f t:Int) (w:World) (f1: -9223372036854775808≤f) (f2:f≤9223372036854775807) (t1: -9223372036854775808≤t) (t2:t≤9223372036854775807)
  (hv:RdB w (ltw w) v l) (hl:l.length≤140737488354000):
  Calls prog 213 #[v,.agg #[.int .i64 f,.int .i64 t]] w (NewB w (l++(encI f++encI t))):=by
 obtain ⟨A,c,rfl,hc1,hc2,hA⟩:=hv.view
 have e1:=encI_length f
 go_in
 go_wp2_with fail
 have hA':=hA.box (.cells #[.int .i64 f,.int .i64 t] 66)
 have HA:=hI0 hA'
 clear hA' hA
 go_region_held3 (fun w'=>w'.cell? ⟨w.heap.size,0,none⟩=some (.int .i64 f)∧w'.cell? ⟨w.heap.size,1,none⟩=some (.int .i64 t))
  (first|go_keep|(go_split_ands;constructor<;>(refine (hg2.below.cell ?_).trans ?_<;>first|assumption|(simp;done)))|(go_split_ands;constructor<;>(refine (hg1.below.cell ?_).trans ?_<;>first|assumption|(simp;done))))
  (first
   |(go_at_call 205;((with_reducible refine (grow_any A _ c _ hc1).mono ?_));rintro e w' ⟨rfl,rfl⟩)
   |(go_at_call 204;((with_reducible refine (put_any (w.heap.size+1) (.slice A l.length l.length) l f _ f1 f2 ?_ ?_ ?_).mono ?_));exact HA.out;simp;omega;rintro e w1 ⟨v1,rfl,ho1,hg1⟩)
   |(go_at_call 204;((with_reducible refine (put_any (w.heap.size+1) v1 (l++encI f) t _ t1 t2 ?_ ?_ ?_).mono ?_));exact ho1.app;(have:=hg1.size;simp at this;omega);(simp;omega);rintro e w2 ⟨v2,rfl,ho2,hg2⟩))
 go_wp2
 go_ret
 exact ⟨v2,rfl,by rw [←List.append_assoc];exact own_baseC ho2 (Nat.le_succ _),(Below.of_alloc (w:=w) (.cells #[.int .i64 f,.int .i64 t] 66)).drew.trans ((hg1.below.trans hg2.below).mono (Nat.le_succ _))⟩
theorem refPutPeriod_any (v:Value) (l:List UInt8) (f t:Int) (w:World) (f1: -9223372036854775808≤f) (f2:f≤9223372036854775807) (t1: -9223372036854775808≤t) (t2:t≤9223372036854775807)
  (hv:RdB w (ltw w) v l) (hl:l.length≤140737488354000):
  Calls prog 158 #[v,.agg #[.int .i64 f,.int .i64 t]] w (NewB w (l++(encI f++encI t))):=by
 have e1:=encI_length f
 go_in
 go_wp2_with fail
 have hv':=hv.below' (Below.of_alloc (.cells #[.int .i64 f,.int .i64 t] 66))
 have HV:=hI0 hv'
 clear hv' hv
 go_region_held3 (fun w'=>w'.cell? ⟨w.heap.size,0,none⟩=some (.int .i64 f)∧w'.cell? ⟨w.heap.size,1,none⟩=some (.int .i64 t))
  (first|go_keep|(go_split_ands;constructor<;>(refine (hb2.cell ?_).trans ?_<;>first|assumption|(have:=hb1.size;simp at this ⊢;omega)))|(go_split_ands;constructor<;>(refine (hb1.cell ?_).trans ?_<;>first|assumption|(simp;done))))
  (first
   |(go_at_call 113;((with_reducible refine (refPutInt_any v l f _ f1 f2 ?_ ?_).mono ?_));exact HV.out;omega;rintro e w1 ⟨v1,rfl,ho1,hb1⟩)
   |(go_at_call 113;((with_reducible refine (refPutInt_any v1 (l++encI f) t _ t1 t2 ?_ ?_).mono ?_));exact ho1.rd;(simp;omega);rintro e w2 ⟨v2,rfl,ho2,hb2⟩))
 go_wp2
 go_ret
 have hb1':=(Below.of_alloc (w:=w) (.cells #[.int .i64 f,.int .i64 t] 66)).drew.trans (hb1.mono (by simp))
 exact ⟨v2,rfl,by rw [←List.append_assoc];exact own_baseC ho2 hb1'.size,hb1'.trans (hb2.mono hb1'.size)⟩
end
section
open Go.RowKit Go.Lib
theorem and1_i64 (i:Int):bits .and .i64 i 1=i % 2:=by
 show IntKind.i64.wrap ((BitVec.ofInt 64 i &&& BitVec.ofInt 64 1).toNat:Int)=_
 rw [BitVec.toNat_and,BitVec.toNat_ofInt]
 have e:(BitVec.ofInt 64 1).toNat=1:=by decide
 rw [e,Nat.and_one_is_mod,wrap_i64]
 omega
theorem and_byte (i:Int):wrap64 (3+bits .and .i64 i 1) % 256=((UInt8.ofNat (3+i % 2).toNat).toNat:Int):=by
 rw [and1_i64,wrap64_id (by omega) (by omega),←byte_of (by omega)]
 omega
theorem newB_one {w w1:World} {v1:Value} {l:List UInt8} {x:UInt8} {y:Int} {o o':Obj} {p:Prop} (hy:y=(x.toNat:Int)) (hO:0<1∨p→w1.ownsRow (w.heap.size+1) 5 1 v1 (l.length+1) (bv l++[.int .u8 y]))
  (hb:Below (w.heap.size+1) ((w.alloc o).alloc o') w1):NewB w (l++[x]) (.returned v1) w1:=by
 subst hy
 refine ⟨v1,rfl,?_,(Below.of_alloc o).trans ((((Below.refl _ _).alloc (by simp) _).trans hb).mono (Nat.le_succ _))⟩
 exact ownB_of (l:=l) (m:=[x]) (own_baseC (hO (.inl (by omega))) (Nat.le_succ _))
def encV (x:Val):List UInt8:=
 if x.kind=1 then 1::encI x.int
 else if x.kind=2 then 2::(encI x.text.size++x.text.data.toList)
 else if x.kind=3 then [UInt8.ofNat (3+x.int % 2).toNat]
 else [0]
theorem putValue_int (v:Value) (l:List UInt8) (i:Int) (s:ByteArray) (w:World) (i1: -9223372036854775808≤i) (i2:i≤9223372036854775807)
  (hv:RdB w (ltw w) v l) (hl:l.length≤140737488354000):
  Calls prog 212 #[v,.agg #[.int .i64 1,.int .i64 i,.string s]] w (NewB w (l++1::encI i)):=by
 obtain ⟨i0,hi,hz0,hz1,hz2⟩:=info_parts infoB
 obtain ⟨A,c,rfl,hc1,hc2,hA⟩:=hv.view
 have hA':=hA.box (.cells #[.int .i64 1,.int .i64 i,.string s] 79)
 have HA:=hI0 hA'
 clear hA' hA
 go_in
 go_wp2_with (go_at_call 205;((with_reducible refine (grow_any A _ c _ hc1).mono ?_));rintro e w' ⟨rfl,rfl⟩)
 go_region_held3 (fun w'=>w'.cell? ⟨w.heap.size,1,none⟩=some (.int .i64 i))
  (first|go_keep|(refine (hg2.below.cell ?_).trans ?_<;>first|assumption|(simp;done))|(refine (hb1.cell ?_).trans ?_<;>first|(simp;done)|(go_keep;done)|assumption))
  (first
   |(refine step_append_app _ (by rfl) (.tmp 11) (.tmp 12) 34 (by rfl) (w.heap.size+1) 5 i0 _ 1 1 underlying34 hi hz0 hz1 hz2 rfl (by omega) (.slice A l.length l.length) l.length (bv l) (by rfl) (by exact (App.alloc HA.out (by simp) _).drew) (·=w.heap.size+1) _ 1 [.int .u8 1] (by rfl) (by exact (Rd.new' _ (w.heap.size+1) (by simp) [.int .u8 1] 5 1 1 rfl (by decide)).drew) (one_one rfl) zi19 (by omega) (by simp) ?_;intro v1 w1 hA1 hO1 hg1 hb1 ha1)
   |(go_at_call 204;((with_reducible refine (put_any (w.heap.size+1) v1 (l++[1]) i _ i1 i2 ?_ ?_ ?_).mono ?_));(exact appB_of (m:=[1]) hA1);(have:=hb1.size;simp at this;omega);(simp;omega);rintro e w2 ⟨v2,rfl,ho2,hg2⟩))
 go_wp2
 go_ret
 refine ⟨v2,rfl,?_,(Below.of_alloc (w:=w) (.cells #[.int .i64 1,.int .i64 i,.string s] 79)).trans (((((Below.refl _ _).alloc (by simp) _).drew.trans hb1).trans hg2.below).mono (Nat.le_succ _))⟩
 have:=own_baseC ho2 (Nat.le_succ _)
 simpa [OwnB] using this
theorem putValue_text (v:Value) (l:List UInt8) (i:Int) (s:ByteArray) (w:World)
  (hv:RdB w (ltw w) v l) (hl:l.length+s.size≤140737488354000):
  Calls prog 212 #[v,.agg #[.int .i64 2,.int .i64 i,.string s]] w (NewB w (l++2::(encI s.size++s.data.toList))):=by
 obtain ⟨i0,hi,hz0,hz1,hz2⟩:=info_parts infoB
 obtain ⟨A,c,rfl,hc1,hc2,hA⟩:=hv.view
 have hA':=hA.box (.cells #[.int .i64 2,.int .i64 i,.string s] 79)
 have HA:=hI0 hA'
 clear hA' hA
 have hlen:=encI_length s.size
 go_in
 go_wp2_with (go_at_call 205;((with_reducible refine (grow_any A _ c _ hc1).mono ?_));rintro e w' ⟨rfl,rfl⟩)
 go_region_held3 (fun w'=>w'.cell? ⟨w.heap.size,2,none⟩=some (.string s))
  (first|go_keep|(refine (grown_cell hg3 ?_ ?_).trans ?_<;>first|assumption|(have:=hg2.size;have:=hb1.size;simp at *;omega)|(exact own_ne ho2 (by simp)))|(refine (hg2.below.cell ?_).trans ?_<;>first|assumption|(simp;done))|(refine (hb1.cell ?_).trans ?_<;>first|(simp;done)|(go_keep;done)|assumption))
  (first
   |(refine step_append_app _ (by rfl) (.tmp 19) (.tmp 20) 34 (by rfl) (w.heap.size+1) 5 i0 _ 1 1 underlying34 hi hz0 hz1 hz2 rfl (by omega) (.slice A l.length l.length) l.length (bv l) (by rfl) (by exact (App.alloc HA.out (by simp) _).drew) (·=w.heap.size+1) _ 1 [.int .u8 2] (by rfl) (by exact (Rd.new' _ (w.heap.size+1) (by simp) [.int .u8 2] 5 1 1 rfl (by decide)).drew) (one_one rfl) zi19 (by omega) (by simp) ?_;intro v1 w1 hA1 hO1 hg1 hb1 ha1)
   |(go_at_call 204;((with_reducible refine (put_any (w.heap.size+1) v1 (l++[2]) s.size _ ?_ ?_ ?_ ?_ ?_).mono ?_));omega;omega;(exact appB_of (m:=[2]) hA1);(have:=hb1.size;simp at this;omega);(simp;omega);rintro e w2 ⟨v2,rfl,ho2,hg2⟩)
   |(refine step_append_str _ (by rfl) (.tmp 25) (.tmp 27) 34 9 (by rfl) (w.heap.size+1) 5 i0 underlying34 underlying9 hi hz0 hz1 hz2 v2 _ _ (by rfl) ho2 s (by rfl) (by simp only [maxLen,List.length_append,List.length_cons,List.length_nil];omega) (by simp only [List.length_append,List.length_cons,List.length_nil];omega) (by have:=hg2.size;have:=hb1.size;simp at *;omega) ?_;intro v3 w3 ho3 hg3))
 go_wp2
 go_ret
 have hs1:w.heap.size+1≤w2.heap.size:=by have:=hg2.size;have:=hb1.size;simp at *;omega
 refine ⟨v3,rfl,?_,(Below.of_alloc (w:=w) (.cells #[.int .i64 2,.int .i64 i,.string s] 79)).trans ((((((Below.refl _ _).alloc (by simp) _).drew.trans hb1).trans hg2.below).grown hg3 hs1 fun k hk=>(ho2.lt k hk).1).mono (Nat.le_succ _))⟩
 have h4:=ownB_of (l:=(l++[2])++encI s.size) (m:=s.data.toList) (by rw [str_len];exact own_baseC ho3 (Nat.le_succ w.heap.size))
 simpa [OwnB] using h4
theorem putValue_bool (v:Value) (l:List UInt8) (i:Int) (s:ByteArray) (w:World)
  (hv:RdB w (ltw w) v l) (hl:l.length≤140737488354000):
  Calls prog 212 #[v,.agg #[.int .i64 3,.int .i64 i,.string s]] w (NewB w (l++[UInt8.ofNat (3+i % 2).toNat])):=by
 exact zq36 1
theorem putValue_else (v:Value) (l:List UInt8) (k i:Int) (s:ByteArray) (w:World) (k1:k≠1) (k2:k≠2) (k3:k≠3)
  (hv:RdB w (ltw w) v l) (hl:l.length≤140737488354000):
  Calls prog 212 #[v,.agg #[.int .i64 k,.int .i64 i,.string s]] w (NewB w (l++[0])):=by
 exact zq36 0
theorem putValue_any (v:Value) (l:List UInt8) (x:Val) (w:World) (i1: -9223372036854775808≤x.int) (i2:x.int≤9223372036854775807)
  (hv:RdB w (ltw w) v l) (hl:l.length+x.text.size≤140737488354000):
  Calls prog 212 #[v,.agg #[.int .i64 x.kind,.int .i64 x.int,.string x.text]] w (NewB w (l++encV x)):=by
 obtain ⟨k,i,s⟩:=x
 simp only at i1 i2 hl
 unfold encV
 by_cases k1:k=1
 ·subst k1;simp only [if_true];exact putValue_int v l i s w i1 i2 hv (by omega)
 ·by_cases k2:k=2
  ·subst k2;simp only [if_neg k1,if_true];exact putValue_text v l i s w hv (by omega)
  ·by_cases k3:k=3
   ·subst k3;simp only [if_neg k1,if_neg k2,if_true];exact putValue_bool v l i s w hv (by omega)
   ·simp only [if_neg k1,if_neg k2,if_neg k3];exact putValue_else v l k i s w k1 k2 k3 hv (by omega)
end
section
open Go.RowKit Go.Lib
def cv (xs:List Val):List Value:=xs.flatMap Val.cells
theorem cv_length (xs:List Val):(cv xs).length=xs.length*3:=by
 induction xs with
 |nil=>rfl
 |cons x xs ih=>simp only [cv,List.flatMap_cons,List.length_append,List.length_cons] at *;rw [ih];simp [Val.cells];omega
theorem cv_get {xs:List Val} {k j:Nat} (hk:k<xs.length) (hj:j<3):(cv xs)[k*3+j]? =(xs[k].cells)[j]? :=by
 induction xs generalizing k with
 |nil=>simp at hk
 |cons x xs ih=>
  rw [cv,List.flatMap_cons]
  have hl:x.cells.length=3:=rfl
  cases k with
  |zero=>rw [List.getElem?_append_left (by omega)];simp
  |succ k=>
   rw [List.getElem?_append_right (by omega),hl,show (k+1)*3+j-3=k*3+j by omega]
   exact ih (by simpa using hk)
theorem cv_append (a b:List Val):cv (a++b)=cv a++cv b:=by simp [cv]
theorem cv_one (xs:List Val):∀u∈cv xs,u.oneCell'=true:=by
 intro u hu
 simp only [cv,List.mem_flatMap,Val.cells] at hu
 obtain ⟨x,_,h⟩:=hu
 simp at h
 rcases h with rfl|rfl|rfl<;>rfl
def RdV (w:World) (F:Nat→Prop) (v:Value) (xs:List Val):Prop:=Rd w F 3 v xs.length (cv xs)
theorem RdV.at_ {w:World} {F:Nat→Prop} {A:Option Addr} {c:Nat} {xs:List Val} (h:RdV w F (.slice A xs.length c) xs) {k:Nat} (hk:k<xs.length):
  ∃b off,A=some ⟨b,off,none⟩∧F b∧w.cell? ⟨b,off+k*3,none⟩=some (.int .i64 xs[k].kind)∧w.cell? ⟨b,off+k*3+1,none⟩=some (.int .i64 xs[k].int)∧w.cell? ⟨b,off+k*3+2,none⟩=some (.string xs[k].text):=by
 obtain ⟨b,off,rfl,hF,hc⟩:=Rd.plain h (by omega) (by omega)
 exact ⟨b,off,rfl,hF,hc (k*3) _ (by have:=cv_get hk (j:=0) (by omega);simpa [Val.cells] using this),hc (k*3+1) _ (by rw [cv_get hk (by omega)];rfl),hc (k*3+2) _ (by rw [cv_get hk (by omega)];rfl)⟩
end
section
open Go.RowKit Go.Lib
theorem below1 {w:World} (a:Obj):Bl w (w.alloc a):=Below.of_alloc a
theorem below2 {w:World} (a b:Obj):Bl w ((w.alloc a).alloc b):=(below1 a).alloc (by simp) b
theorem below3 {w:World} (a b c:Obj):Bl w (((w.alloc a).alloc b).alloc c):=(below2 a b).alloc (by simp;omega) c
def decP (l:List UInt8) (k:Int):(Int×Int)×Int×Int:=
 if (decI l k).2.2≠0 then ((0,0),0,(decI l k).2.2)
 else if (decI l (decI l k).2.1).2.2≠0 then ((0,0),0,(decI l (decI l k).2.1).2.2)
 else if validP (decI l k).1 (decI l (decI l k).2.1).1=false then ((0,0),0,6)
 else (((decI l k).1,(decI l (decI l k).2.1).1),(decI l (decI l k).2.1).2.1,0)
def Period3 (r:(Int×Int)×Int×Int) (w0:World) (e:Ending) (w:World):Prop:=
 e=.returned (.tuple #[.agg #[.int .i64 r.1.1,.int .i64 r.1.2],.int .i64 r.2.1,.int .i64 r.2.2])∧Bl w0 w
theorem period_any (v:Value) (l:List UInt8) (k:Int) (w:World) (hv:RdB w (ltw w) v l):
  Calls prog 222 #[v,.int .i64 k] w (Period3 (decP l k) w):=by
 exact zq24 1
theorem refPeriod_any (v:Value) (l:List UInt8) (k:Int) (w:World) (hv:RdB w (ltw w) v l):
  Calls prog 177 #[v,.int .i64 k] w (Period3 (decP l k) w):=by
 exact zq24 0
end
section
open Go.RowKit Go.Lib
def zeroV:Val:=⟨0,0,⟨#[]⟩⟩
def decV1 (l:List UInt8) (k:Nat) (c:Nat):Val×Int×Int:=
 if c=0 then (zeroV,(k:Int)+1,0)
 else if c=1 then
  if (decI l ((k:Int)+1)).2.2≠0 then (zeroV,0,(decI l ((k:Int)+1)).2.2)
  else if (decI l ((k:Int)+1)).1< -1125899906842624∨1125899906842624<(decI l ((k:Int)+1)).1 then (zeroV,0,6)
  else (⟨1,(decI l ((k:Int)+1)).1,⟨#[]⟩⟩,(decI l ((k:Int)+1)).2.1,0)
 else if c=2 then
  if (decT l ((k:Int)+1) 200).2.2≠0 then (zeroV,0,(decT l ((k:Int)+1) 200).2.2)
  else if printB (decT l ((k:Int)+1) 200).1=false then (zeroV,0,1)
  else (⟨2,0,strB (decT l ((k:Int)+1) 200).1⟩,(decT l ((k:Int)+1) 200).2.1,0)
 else if c=3∨c=4 then (⟨3,(c:Int)-3,⟨#[]⟩⟩,(k:Int)+1,0)
 else (zeroV,0,1)
def decV (l:List UInt8) (k:Int):Val×Int×Int:=
 if k<0∨(l.length:Int)<k then (zeroV,0,6)
 else match l[k.toNat]? with
  |none=>(zeroV,0,2)
  |some c=>decV1 l k.toNat c.toNat
def Value3 (r:Val×Int×Int) (w0:World) (e:Ending) (w:World):Prop:=
 e=.returned (.tuple #[.agg #[.int .i64 r.1.kind,.int .i64 r.1.int,.string r.1.text],.int .i64 r.2.1,.int .i64 r.2.2])∧Bl w0 w
theorem validV_text {l:List UInt8} (h:l.length≤200):validV ⟨2,0,strB l⟩=printB l:=by
 simp [validV,strB_size,h]
 simp [strB]
theorem value_any_at (v:Value) (l:List UInt8) (k:Nat) (w:World) (hv:RdB w (ltw w) v l) (hk:k<l.length):
  Calls prog 221 #[v,.int .i64 (k:Int)] w (Value3 (decV1 l k (l[k]'hk).toNat) w):=by
 exact zq14 1
theorem value_any (v:Value) (l:List UInt8) (k:Int) (w:World) (hv:RdB w (ltw w) v l):
  Calls prog 221 #[v,.int .i64 k] w (Value3 (decV l k) w):=by
 exact zq34 1
end
section
open Go.RowKit Go.Lib
theorem refValue_any_at (v:Value) (l:List UInt8) (k:Nat) (w:World) (hv:RdB w (ltw w) v l) (hk:k<l.length):
  Calls prog 225 #[v,.int .i64 (k:Int)] w (Value3 (decV1 l k (l[k]'hk).toNat) w):=by
 exact zq14 0
theorem refValue_any (v:Value) (l:List UInt8) (k:Int) (w:World) (hv:RdB w (ltw w) v l):
  Calls prog 225 #[v,.int .i64 k] w (Value3 (decV l k) w):=by
 exact zq34 0
end
section
open Go.RowKit Go.Lib
theorem newB_trans {w w1:World} {l:List UInt8} {e:Ending} {w2:World} (hb:Bl w w1) (h:NewB w1 l e w2):NewB w l e w2:=by
 obtain ⟨v,rfl,ho,h2⟩:=h
 exact ⟨v,rfl,own_baseC ho hb.size,hb.trans (h2.mono hb.size)⟩
theorem rdB_lit2 (w:World) (H:Nat) (hH:w.heap.size=H) (m:List UInt8) (n:Nat) (hn:m.length=n) (hm:n≤1000):RdB (w.alloc (.cells (bv m).toArray 5)) (·<(w.alloc (.cells (bv m).toArray 5)).heap.size) (.slice (some ⟨H,0,none⟩) n n) m:=
 (rdB_new w H hH m n hn hm).wide fun b hb=>by simp;omega
theorem rdB_lit' (w:World) (H:Nat) (hH:w.heap.size=H) (m:List UInt8) (n:Nat) (hn:m.length=n) (hm:n≤1000):RdB (w.alloc (.cells (bv m).toArray 5)).drew (·<(w.alloc (.cells (bv m).toArray 5)).drew.heap.size) (.slice (some ⟨H,0,none⟩) n n) m:=
 rdB_lit2 w H hH m n hn hm
theorem refPutValue_1 (v:Value) (l:List UInt8) (i:Int) (s:ByteArray) (w:World) (i1: -9223372036854775808≤i) (i2:i≤9223372036854775807)
  (hv:RdB w (ltw w) v l) (hl:l.length+s.size≤140737488354000):
  Calls prog 188 #[v,.agg #[.int .i64 1,.int .i64 i,.string s]] w (NewB w (l++1::encI i)):=by
 have hv':=(hv.below (below1 (.cells #[.int .i64 1,.int .i64 i,.string s] 79))).below (below1 (.cells #[.int .u8 1] 5))
 have HV:=hI0 hv'
 clear hv' hv
 go_in
 go_wp2_with fail
 go_region_held3 (fun w'=>w'.cell? ⟨w.heap.size,1,none⟩=some (.int .i64 i))
  (first
   |go_keep
   |(refine (hb2.cell ?_).trans ?_<;>first|assumption|(have:=hb1.size;simp at this ⊢;omega))
   |(refine (hb1.cell ?_).trans ?_<;>first|assumption|(simp;done)|(simp;omega)|(go_keep;done)))
  (first
   |(go_at_call 186;((with_reducible refine (with_any v _ l [1] _ ?_ ?_ ?_).mono ?_));(exact HV.out);(exact rdB_lit' _ (w.heap.size+1) (by simp) [1] 1 rfl (by omega));(simp;omega);rintro e w1 ⟨v1,rfl,ho1,hb1⟩)
   |(go_at_call 113;((with_reducible refine (refPutInt_any v1 (l++[1]) i _ i1 i2 ?_ ?_).mono ?_));(exact ho1.rd);(simp;omega);rintro e w2 ⟨v2,rfl,ho2,hb2⟩))
 go_wp2
 go_ret
 have hB1:Bl w w1:=(below2 (.cells #[.int .i64 1,.int .i64 i,.string s] 79) (.cells #[.int .u8 1] 5)).drew.trans (hb1.mono (by simp;omega))
 refine ⟨v2,rfl,?_,hB1.trans (hb2.mono hB1.size)⟩
 have:=own_baseC ho2 hB1.size
 simpa [OwnB] using this
theorem refPutValue_2 (v:Value) (l:List UInt8) (i:Int) (s:ByteArray) (w:World) (_i1: -9223372036854775808≤i) (_i2:i≤9223372036854775807)
  (hv:RdB w (ltw w) v l) (hl:l.length+s.size≤140737488354000):
  Calls prog 188 #[v,.agg #[.int .i64 2,.int .i64 i,.string s]] w (NewB w (l++2::(encI s.size++s.data.toList))):=by
 have hv':=(hv.below (below1 (.cells #[.int .i64 2,.int .i64 i,.string s] 79))).below (below1 (.cells #[.int .u8 2] 5))
 have HV:=hI0 hv'
 clear hv' hv
 go_in
 go_wp2_with fail
 go_region_held3 (fun w'=>w'.cell? ⟨w.heap.size,2,none⟩=some (.string s))
  (first
   |go_keep
   |(refine (hb2.cell ?_).trans ?_<;>first|assumption|(have:=hb1.size;simp at this ⊢;omega))
   |(refine (hb1.cell ?_).trans ?_<;>first|assumption|(simp;done)|(simp;omega)|(go_keep;done)))
  (first
   |(go_at_call 186;((with_reducible refine (with_any v _ l [2] _ ?_ ?_ ?_).mono ?_));(exact HV.out);(exact rdB_lit' _ (w.heap.size+1) (by simp) [2] 1 rfl (by omega));(simp;omega);rintro e w1 ⟨v1,rfl,ho1,hb1⟩)
   |(go_at_call 116;((with_reducible refine (refPutText_any v1 (l++[2]) s _ ?_ ?_).mono ?_));(exact ho1.rd);(simp;omega);rintro e w2 ⟨v2,rfl,ho2,hb2⟩))
 go_wp2
 go_ret
 have hB1:Bl w w1:=(below2 (.cells #[.int .i64 2,.int .i64 i,.string s] 79) (.cells #[.int .u8 2] 5)).drew.trans (hb1.mono (by simp;omega))
 refine ⟨v2,rfl,?_,hB1.trans (hb2.mono hB1.size)⟩
 have:=own_baseC ho2 hB1.size
 simpa [OwnB] using this
theorem refPutValue_3 (v:Value) (l:List UInt8) (i:Int) (s:ByteArray) (w:World) (hi:i=0∨i=1)
  (hv:RdB w (ltw w) v l) (hl:l.length≤140737488354000):
  Calls prog 188 #[v,.agg #[.int .i64 3,.int .i64 i,.string s]] w (NewB w (l++[UInt8.ofNat (3+i % 2).toNat])):=by
 rcases hi with rfl|rfl
 ·go_in
  go_wp2_with fail
  (with_reducible refine (with_any v _ l [3] _ ?_ ?_ ?_).mono ?_)
  ·exact hv.below (below2 _ _)
  ·exact (rdB_new _ (w.heap.size+1) (by simp) [3] 1 rfl (by omega)).wide fun b hb=>by simp;omega
  ·simp;omega
  intro e w1 h1
  obtain ⟨v1,rfl,ho1,hb1⟩:=newB_trans (below2 _ _) h1
  go_wp2_with fail
  go_ret
  exact ⟨v1,rfl,ho1,hb1⟩
 ·go_in
  go_wp2_with fail
  (with_reducible refine (with_any v _ l [4] _ ?_ ?_ ?_).mono ?_)
  ·exact hv.below (below2 _ _)
  ·exact (rdB_new _ (w.heap.size+1) (by simp) [4] 1 rfl (by omega)).wide fun b hb=>by simp;omega
  ·simp;omega
  intro e w1 h1
  obtain ⟨v1,rfl,ho1,hb1⟩:=newB_trans (below2 _ _) h1
  go_wp2_with fail
  go_ret
  exact ⟨v1,rfl,ho1,hb1⟩
theorem refPutValue_0 (v:Value) (l:List UInt8) (k i:Int) (s:ByteArray) (w:World) (k1:k≠1) (k2:k≠2) (k3:k≠3)
  (hv:RdB w (ltw w) v l) (hl:l.length≤140737488354000):
  Calls prog 188 #[v,.agg #[.int .i64 k,.int .i64 i,.string s]] w (NewB w (l++[0])):=by
 have b1:(k==1)=false:=by simpa using k1
 have b2:(k==2)=false:=by simpa using k2
 have b3:(k==3)=false:=by simpa using k3
 clear k1 k2 k3
 go_in
 go_wp2_with fail
 (with_reducible refine (with_any v _ l [0] _ ?_ ?_ ?_).mono ?_)
 ·exact hv.below (below2 _ _)
 ·exact (rdB_new _ (w.heap.size+1) (by simp) [0] 1 rfl (by omega)).wide fun b hb=>by simp;omega
 ·simp;omega
 intro e w1 h1
 obtain ⟨v1,rfl,ho1,hb1⟩:=newB_trans (below2 _ _) h1
 go_wp2_with fail
 go_ret
 exact ⟨v1,rfl,ho1,hb1⟩
theorem refPutValue_any (v:Value) (l:List UInt8) (x:Val) (w:World) (i1: -9223372036854775808≤x.int) (i2:x.int≤9223372036854775807) (hx:x.kind=3→x.int=0∨x.int=1)
  (hv:RdB w (ltw w) v l) (hl:l.length+x.text.size≤140737488354000):
  Calls prog 188 #[v,.agg #[.int .i64 x.kind,.int .i64 x.int,.string x.text]] w (NewB w (l++encV x)):=by
 obtain ⟨k,i,s⟩:=x
 simp only at i1 i2 hl hx
 unfold encV
 by_cases k1:k=1
 ·subst k1;simp only [if_true];exact refPutValue_1 v l i s w i1 i2 hv hl
 ·by_cases k2:k=2
  ·subst k2;simp only [if_neg k1,if_true];exact refPutValue_2 v l i s w i1 i2 hv hl
  ·by_cases k3:k=3
   ·subst k3;simp only [if_neg k1,if_neg k2,if_true];exact refPutValue_3 v l i s w (hx rfl) hv (by omega)
   ·simp only [if_neg k1,if_neg k2,if_neg k3];exact refPutValue_0 v l k i s w k1 k2 k3 hv (by omega)
end
section
open Go.RowKit Go.Lib
def encVs (xs:List Val):List UInt8:=xs.flatMap encV
def encR (xs:List Val):List UInt8:=encI xs.length++encVs xs
theorem encVs_snoc {xs:List Val} {k:Nat} (hk:k<xs.length):encVs (xs.take (k+1))=encVs (xs.take k)++encV xs[k]:=by
 unfold encVs
 rw [List.take_succ_eq_append_getElem hk,List.flatMap_append,List.flatMap_singleton]
theorem encVs_le (xs:List Val) (k:Nat):(encVs (xs.take k)).length≤(encVs xs).length:=by
 have h:encVs xs=encVs (xs.take k)++encVs (xs.drop k):=by unfold encVs;rw [←List.flatMap_append,List.take_append_drop]
 rw [h,List.length_append]
 omega
def putV (x:Val):Prop:= -9223372036854775808≤x.int∧x.int≤9223372036854775807∧x.text.size≤200∧(x.kind=3→x.int=0∨x.int=1)
def RowRel (w0:World) (l:List UInt8) (xs:List Val) (b i:Value) (w:World):Prop:=
 ∃k:Nat,k≤xs.length∧i=.int .i64 k∧OwnB w w0.heap.size b (l++encI xs.length++encVs (xs.take k))∧Bl w0 w
theorem putRow_any (v u:Value) (l:List UInt8) (xs:List Val) (w:World) (hv:RdB w (ltw w) v l) (hu:RdV w (ltw w) u xs) (hok:∀x∈xs,putV x)
  (hl:l.length+(encR xs).length+200≤140737488354000):
  Calls prog 233 #[v,u] w (NewB w (l++encR xs)):=by
 exact zq30 0
theorem refPutRow_any (v u:Value) (l:List UInt8) (xs:List Val) (w:World) (hv:RdB w (ltw w) v l) (hu:RdV w (ltw w) u xs) (hok:∀x∈xs,putV x)
  (hl:l.length+(encR xs).length+200≤140737488354000):
  Calls prog 159 #[v,u] w (NewB w (l++encR xs)):=by
 exact zq30 1
end
section
open Go.RowKit Go.Lib
theorem infoV:(prog.info? 79).map (fun i=>(i.zero,i.size,i.bytes))=some (some (.agg #[.int .i64 0,.int .i64 0,.string ⟨#[]⟩]),3,32):=by kernel_rfl
def OwnV (w:World) (base:Nat) (v:Value) (xs:List Val):Prop:=w.ownsRow base 79 3 v xs.length (cv xs)
theorem OwnV.rd {w:World} {base:Nat} {v:Value} {xs:List Val} (h:OwnV w base v xs):RdV w (ltw w) v xs:=(Rd.of_own h).wide fun _ hb=>hb.2
theorem RdV.below {w w':World} {v:Value} {xs:List Val} (h:RdV w (ltw w) v xs) (hb:Bl w w'):RdV w' (ltw w') v xs:=Rd.below' h hb
theorem OwnV.nil (w:World) (base:Nat):OwnV w base (.slice none 0 0) []:=World.ownsRow_nil w _ _ _
def decVs (l:List UInt8):Nat→Int→List Val→List Val×Int×Int
 |0,k,acc=>(acc,k,0)
 |m+1,k,acc=>if (decV l k).2.2≠0 then ([],0,(decV l k).2.2) else decVs l m (decV l k).2.1 (acc++[(decV l k).1])
def decR (l:List UInt8) (k:Int):List Val×Int×Int:=
 if (decI l k).2.2≠0 then ([],0,(decI l k).2.2)
 else if (decI l k).1<0 then ([],0,1)
 else if 12<(decI l k).1 then ([],0,5)
 else decVs l (decI l k).1.toNat (decI l k).2.1 []
def Row3 (r:List Val×Int×Int) (w0:World) (e:Ending) (w:World):Prop:=
 ∃v,e=.returned (.tuple #[v,.int .i64 r.2.1,.int .i64 r.2.2])∧OwnV w w0.heap.size v r.1∧Bl w0 w
theorem set3 {w:World} {g:Nat} {arr:Array Value} {e:TypeId} (h:w.heap[g]? =some (.cells arr e (0,0))) (i:Nat) (u0 u1 u2:Value):
  (((w.setCell ⟨g,i,none⟩ u0).setCell ⟨g,i+1,none⟩ u1).setCell ⟨g,i+2,none⟩ u2).heap[g]? =some (.cells (((arr.setIfInBounds i u0).setIfInBounds (i+1) u1).setIfInBounds (i+2) u2) e (0,0)):=by
 simp [World.setCell,Array.getElem?_modify,h]
theorem list_set3 {arr:Array Value} {xs:List Val} {x:Val} {n:Nat} (hs:arr.size=n*3) (hx:xs.length<n) (h:arr.toList.take (xs.length*3)=cv xs):
  (((arr.setIfInBounds (xs.length*3) (.int .i64 x.kind)).setIfInBounds (xs.length*3+1) (.int .i64 x.int)).setIfInBounds (xs.length*3+2) (.string x.text)).toList.take ((xs++[x]).length*3)=cv (xs++[x]):=by
 have hl:arr.toList.length=n*3:=by rw [Array.length_toList];exact hs
 have hc:=cv_length xs
 rw [cv_append]
 simp only [Array.toList_setIfInBounds,List.length_append,List.length_cons,List.length_nil]
 apply List.ext_getElem?
 intro j
 rw [List.getElem?_take]
 by_cases hj:j<xs.length*3
 ·rw [if_pos (by omega),List.getElem?_append_left (by omega),←h,List.getElem?_take,if_pos hj,List.getElem?_set_ne (by omega),List.getElem?_set_ne (by omega),List.getElem?_set_ne (by omega)]
 ·rw [List.getElem?_append_right (by omega),hc]
  by_cases h0:j=xs.length*3
  ·subst h0
   rw [if_pos (by omega),List.getElem?_set_ne (by omega),List.getElem?_set_ne (by omega),List.getElem?_set_self (by omega)]
   simp [cv,Val.cells]
  ·by_cases h1:j=xs.length*3+1
   ·subst h1
    rw [if_pos (by omega),List.getElem?_set_ne (by omega),List.getElem?_set_self (by rw [List.length_set];omega)]
    simp [cv,Val.cells]
   ·by_cases h2:j=xs.length*3+2
    ·subst h2
     rw [if_pos (by omega),List.getElem?_set_self (by rw [List.length_set,List.length_set];omega)]
     simp [cv,Val.cells]
    ·rw [if_neg (by omega),List.getElem?_eq_none (by simp [cv,Val.cells];omega)]
def RowDec (g n:Nat) (l:List UInt8) (res:List Val×Int×Int) (w0:World) (nx i:Value) (w:World):Prop:=
 ∃(ys:List Val) (k:Int) (arr:Array Value),ys.length≤n∧i=.int .i64 ys.length∧nx=.int .i64 k∧decVs l (n-ys.length) k ys=res∧
  w.heap[g]? =some (.cells arr 79 (0,0))∧arr.size=n*3∧arr.toList.take (ys.length*3)=cv ys∧Bl w0 w
theorem rowDec_next {g N q:Nat} {l:List UInt8} {res:List Val×Int×Int} {w0 w:World} {ys:List Val} {x:Val} {k2:Int} {arr:Array Value}
  (hd:(if (0:Int)≠0 then ([],0,0) else decVs l q k2 (ys++[x]))=res) (hq:N-ys.length=q+1) (hg:w.heap[g]? =some (.cells arr 79 (0,0))) (hz:arr.size=N*3) (hlt:ys.length<N) (ht:arr.toList.take (ys.length*3)=cv ys)
  (hb:Bl w0 (((w.setCell ⟨g,ys.length*3,none⟩ (.int .i64 x.kind)).setCell ⟨g,ys.length*3+1,none⟩ (.int .i64 x.int)).setCell ⟨g,ys.length*3+2,none⟩ (.string x.text))):
  RowDec g N l res w0 (.int .i64 k2) (.int .i64 ((ys.length:Int)+1)) (((w.setCell ⟨g,ys.length*3,none⟩ (.int .i64 x.kind)).setCell ⟨g,ys.length*3+1,none⟩ (.int .i64 x.int)).setCell ⟨g,ys.length*3+2,none⟩ (.string x.text)):=by
 refine ⟨ys++[x],k2,_,by simp;omega,by simp,rfl,?_,set3 hg _ _ _ _,by simp [hz],list_set3 hz hlt ht,hb⟩
 have:N-(ys++[x]).length=q:=by simp;omega
 rw [this]
 simpa using hd
theorem rowDec_end {g:Nat} {w:World} {w0:World} {ys:List Val} {arr:Array Value} (hg:w.heap[g]? =some (.cells arr 79 (0,0))) (hz:arr.size=ys.length*3) (ht:arr.toList.take (ys.length*3)=cv ys) (hb:w0.heap.size≤g:=by exact Nat.le_refl _) (hn:ys.length≤12:=by omega):
  OwnV w w0.heap.size (.slice (some ⟨g,0,none⟩) ys.length ys.length) ys:=
 ⟨cv_length ys,.inr ⟨g,ys.length,arr,rfl,hb,hg,Nat.le_refl _,by simp only [maxLen];omega,hz,ht⟩⟩
theorem row_any (v:Value) (l:List UInt8) (k:Int) (w:World) (hv:RdB w (ltw w) v l):
  Calls prog 238 #[v,.int .i64 k] w (Row3 (decR l k) w):=by
 exact zq20 0
end
section
open Go.RowKit Go.Lib
def RowRef (N:Nat) (l:List UInt8) (res:List Val×Int×Int) (w0:World) (out nx i:Value) (w:World):Prop:=
 ∃(ys:List Val) (k:Int),ys.length≤N∧i=.int .i64 ys.length∧nx=.int .i64 k∧decVs l (N-ys.length) k ys=res∧OwnV w w0.heap.size out ys∧Bl w0 w
theorem ownV_of {w:World} {base:Nat} {v:Value} {xs ys:List Val} (h:w.ownsRow base 79 3 v (xs.length+ys.length) (cv xs++cv ys)):OwnV w base v (xs++ys):=by
 unfold OwnV;rw [cv_append,List.length_append];exact h
theorem rdV_new' (w:World) (H:Nat) (hH:w.heap.size=H) (xs:List Val) (n:Nat) (hn:xs.length=n) (hm:n≤1000):RdV (w.alloc (.cells (cv xs).toArray 79)) (·=H) (.slice (some ⟨H,0,none⟩) n n) xs:=by
 subst hn
 exact Rd.new' w H hH (cv xs) 79 3 xs.length (cv_length xs) zi19
theorem refRow_any (v:Value) (l:List UInt8) (k:Int) (w:World) (hv:RdB w (ltw w) v l):
  Calls prog 176 #[v,.int .i64 k] w (Row3 (decR l k) w):=by
 exact zq20 1
end
section
open Go.RowKit Go.Lib
def goV (x:Val):Prop:= -9223372036854775808≤x.int∧x.int≤9223372036854775807∧x.text.size≤maxLen
def AllRel (w0:World) (xs:List Val) (i:Value) (w:World):Prop:=
 ∃k:Nat,k≤xs.length∧i=.int .i64 k∧(xs.take k).all validV=true∧Bl w0 w
theorem all_snoc {xs:List Val} {k:Nat} (hk:k<xs.length):(xs.take (k+1)).all validV=((xs.take k).all validV&&validV xs[k]):=by
 rw [List.take_succ_eq_append_getElem hk,List.all_append];simp
theorem all_no {xs:List Val} {k:Nat} (hk:k<xs.length) (h:validV xs[k]=false):xs.all validV=false:=by
 rw [←Bool.not_eq_true,List.all_eq_true]
 intro hh
 have:=hh xs[k] (List.getElem_mem hk)
 rw [h] at this
 cases this
theorem refValidRow_any (v:Value) (xs:List Val) (w:World) (hv:RdV w (ltw w) v xs) (hok:∀x∈xs,goV x):
  Calls prog 202 #[v] w fun e w'=>e=.returned (.bool (xs.all validV&&decide (xs.length≤12)))∧Bl w w':=by
 exact zq33 1
def SameRel (w0:World) (n:Nat) (i:Value) (w:World):Prop:=∃k:Nat,k≤n∧i=.int .i64 k∧Bl w0 w
end
section
open Go.RowKit Go.Lib
theorem decL_got (at_ n m:Int):∀(l:List UInt8) (i z:Nat),i≤9→z<128 ^ i→decL at_ l i z=(n,m,0)→
  ∃u r,l=vl (9-i) u++r∧n=unzz (z+u*128 ^ i)∧m=at_+i+(vl (9-i) u).length∧(i=0∨u≠0):=by
 intro l
 induction l with
 |nil=>intro i z _ _ h;rw [decL_nil] at h;simp at h
 |cons c l ih=>
  intro i z hi hz h
  have hc256:c.toNat<256:=c.toNat_lt
  by_cases hb:(i=9∧1<c.toNat)∨(0<i∧c.toNat=0)
  ·rw [decL_bad hb] at h;simp at h
  ·by_cases hc:c.toNat<128
   ·rw [decL_end hb hc] at h
    simp only [Prod.mk.injEq,and_true] at h
    have e:vl (9-i) c.toNat=[c]:=by rw [vl_small _ hc];simp
    refine ⟨c.toNat,l,by rw [e];rfl,?_,?_,?_⟩
    ·rw [Nat.mod_eq_of_lt hc] at h;exact h.1.symm
    ·rw [e];simp;omega
    ·omega
   ·rw [decL_on hb hc] at h
    obtain ⟨u,r,rfl,h1,h2,h3⟩:=ih (i+1) _ (by omega) (digit_next hz) h
    have hu:u≠0:=by omega
    have e9:9-i=(9-(i+1))+1:=by omega
    have e1:(c.toNat % 128+128*u) % 128=c.toNat % 128:=by omega
    have e2:(c.toNat % 128+128*u) / 128=u:=by omega
    have e3:UInt8.ofNat (c.toNat % 128+128)=c:=by
     have:c.toNat % 128+128=c.toNat:=by omega
     rw [this];simp
    have e:vl (9-i) (c.toNat % 128+128*u)=c::vl (9-(i+1)) u:=by
     rw [e9,vl_big _ (by omega),e1,e2,e3]
    refine ⟨c.toNat % 128+128*u,r,by rw [e];rfl,?_,?_,.inr (by omega)⟩
    ·rw [h1]
     congr 1
     rw [Nat.pow_succ,Nat.add_mul,Nat.add_assoc,Nat.mul_comm (128 ^ i) 128,←Nat.mul_assoc,Nat.mul_comm u 128]
    ·rw [e,h2];simp;omega
theorem decI_got {l:List UInt8} {k n m:Int} (h:decI l k=(n,m,0)):∃a r,l=a++(encI n++r)∧k=(a.length:Int)∧m=((a++encI n).length:Int):=by
 by_cases hk:k<0∨(l.length:Int)<k
 ·rw [decI_out hk] at h;simp at h
 ·obtain ⟨j,rfl⟩:=Int.eq_ofNat_of_zero_le (show 0≤k by omega)
  have hj:j≤l.length:=by omega
  rw [decI_in hj] at h
  obtain ⟨u,r,hl,hn,hm,_⟩:=decL_got _ _ _ _ 0 0 (by omega) (by simp) h
  have hz:zz n=u:=by rw [hn];simp [zz_unzz]
  have he:encI n=vl 9 u:=by unfold encI;rw [hz]
  refine ⟨l.take j,r,?_,?_,?_⟩
  ·rw [he,←hl,List.take_append_drop]
  ·simp;omega
  ·rw [hm,he];simp;omega
theorem decT_got {l s:List UInt8} {k m most:Int} (h:decT l k most=(s,m,0)):∃a r,l=a++((encI s.length++s)++r)∧k=(a.length:Int)∧m=((a++(encI s.length++s)).length:Int)∧(s.length:Int)≤max most 0:=by
 have hb:=decT_bd l k most
 rw [h] at hb
 simp only at hb
 unfold decT at h
 split at h
 ·rename_i h0;simp at h;omega
 ·rename_i h0
  split at h
  ·simp at h
  ·split at h
   ·simp at h
   ·split at h
    ·simp at h
    ·rename_i h1 h2 h3
     rcases hd:decI l k with ⟨n,j,e⟩
     rw [hd] at h h0 h1 h2 h3
     simp only [Prod.mk.injEq,and_true] at h h0 h1 h2 h3
     obtain rfl:e=0:=by omega
     obtain ⟨a,r,hl,hk,hj⟩:=decI_got hd
     obtain ⟨p,rfl⟩:=Int.eq_ofNat_of_zero_le (show 0≤n by omega)
     have hdrop:l.drop j.toNat=r:=by rw [hj,hl,Int.toNat_natCast,←List.append_assoc,List.drop_left]
     have hlr:l.length=(a++encI (p:Int)).length+r.length:=by rw [hl];simp;omega
     have hp:p≤r.length:=by
      omega
     rw [hdrop] at h
     have hs:s.length=p:=by rw [←h.1];simp;omega
     refine ⟨a,r.drop p,?_,hk,?_,by omega⟩
     ·rw [hl,hs,←h.1]
      simp
     ·rw [←h.2,hj,hs];simp;omega
theorem decV_got {l:List UInt8} {k m:Int} {x:Val} (h:decV l k=(x,m,0)):∃a r,l=a++(encV x++r)∧k=(a.length:Int)∧m=((a++encV x).length:Int)∧validV x=true:=by
 unfold decV at h
 split at h
 ·simp at h
 ·rename_i h0
  obtain ⟨j,rfl⟩:=Int.eq_ofNat_of_zero_le (show 0≤k by omega)
  simp only [Int.toNat_natCast] at h h0
  cases hg:l[j]? with
  |none=>rw [hg] at h;simp at h
  |some c=>
   rw [hg] at h
   simp only at h
   have hj:j<l.length:=(List.getElem?_eq_some_iff.mp hg).1
   have hc:l[j]=c:=(List.getElem?_eq_some_iff.mp hg).2
   have hl:l=l.take j++(c::l.drop (j+1)):=by
    rw [←hc,List.getElem_cons_drop,List.take_append_drop]
   have hlen:(l.take j).length=j:=by simp;omega
   have hc2:∀n:Nat,n<256→c.toNat=n→c=UInt8.ofNat n:=fun n hn h=>by rw [←h];simp
   unfold decV1 at h
   split at h
   ·rename_i hz
    simp only [Prod.mk.injEq,and_true] at h
    obtain ⟨rfl,rfl⟩:=h
    have:=hc2 0 (by omega) hz
    refine ⟨l.take j,l.drop (j+1),?_,by rw [hlen],by simp [encV,zeroV];omega,rfl⟩
    rw [this] at hl
    exact hl
   ·split at h
    ·rename_i hz
     split at h
     ·rename_i he;simp at h;omega
     ·split at h
      ·simp at h
      ·rename_i h1 h2
       rcases hd:decI l ((j:Int)+1) with ⟨n,q,e⟩
       rw [hd] at h h1 h2
       simp only [Prod.mk.injEq,and_true] at h h1 h2
       obtain ⟨rfl,rfl⟩:=h
       obtain rfl:e=0:=by omega
       obtain ⟨a,r,hl2,hk,hq⟩:=decI_got hd
       have ha:a=l.take j++[1]:=by
        have e1:a=l.take a.length:=by conv=>rhs;rw [hl2,List.take_left]
        have e2:a.length=j+1:=by omega
        rw [e1,e2,List.take_succ_eq_append_getElem hj,hc,hc2 1 (by omega) hz]
        rfl
       refine ⟨l.take j,r,?_,by rw [hlen],?_,?_⟩
       ·conv=>lhs;rw [hl2,ha]
        simp [encV]
       ·rw [hq,ha];simp [encV]
       ·simp [validV];omega
    ·split at h
     ·rename_i hz
      split at h
      ·rename_i he;simp at h;omega
      ·split at h
       ·simp at h
       ·rename_i h1 h2
        rcases hd:decT l ((j:Int)+1) 200 with ⟨s,q,e⟩
        rw [hd] at h h1 h2
        simp only [Prod.mk.injEq,and_true] at h h1 h2
        obtain ⟨rfl,rfl⟩:=h
        obtain rfl:e=0:=by omega
        obtain ⟨a,r,hl2,hk,hq,hs⟩:=decT_got hd
        have ha:a=l.take j++[2]:=by
         have e1:a=l.take a.length:=by conv=>rhs;rw [hl2,List.take_left]
         have e2:a.length=j+1:=by omega
         rw [e1,e2,List.take_succ_eq_append_getElem hj,hc,hc2 2 (by omega) hz]
         rfl
        have hsz:(strB s).size=s.length:=strB_size s
        have hst:(strB s).data.toList=s:=by simp [strB]
        refine ⟨l.take j,r,?_,by rw [hlen],?_,?_⟩
        ·conv=>lhs;rw [hl2,ha]
         simp only [encV,hsz,hst]
         simp
        ·rw [hq,ha]
         simp only [encV,hsz,hst]
         simp
        ·rw [validV_text (by omega)]
         cases hp:printB s
         ·exact absurd hp h2
         ·rfl
     ·split at h
      ·rename_i hz
       simp only [Prod.mk.injEq,and_true] at h
       obtain ⟨rfl,rfl⟩:=h
       refine ⟨l.take j,l.drop (j+1),?_,by rw [hlen],by simp [encV];omega,?_⟩
       ·conv=>lhs;rw [hl]
        rcases hz with hz|hz
        ·rw [hc2 3 (by omega) hz];rfl
        ·rw [hc2 4 (by omega) hz];rfl
       ·rcases hz with hz|hz<;>rw [hz]<;>rfl
      ·simp at h
theorem decVs_got {l:List UInt8}:∀(n:Nat) (k m:Int) (acc ys:List Val),decVs l n k acc=(ys,m,0)→0≤k→k≤l.length→
  ∃xs a r,ys=acc++xs∧xs.length=n∧l=a++(encVs xs++r)∧k=(a.length:Int)∧m=((a++encVs xs).length:Int)∧xs.all validV=true:=by
 intro n
 induction n with
 |zero=>
  intro k m acc ys h h0 h1
  simp only [decVs,Prod.mk.injEq,and_true] at h
  obtain ⟨rfl,rfl⟩:=h
  refine ⟨[],l.take k.toNat,l.drop k.toNat,by simp,rfl,by simp [encVs],?_,?_,rfl⟩
  ·simp;omega
  ·simp [encVs];omega
 |succ n ih=>
  intro k m acc ys h h0 h1
  rw [decVs] at h
  rcases hd:decV l k with ⟨x,q,e⟩
  rw [hd] at h
  simp only at h
  split at h
  ·rename_i he;simp at h;omega
  ·rename_i he
   obtain rfl:e=0:=by omega
   obtain ⟨a,r,hl,hk,hq,hv⟩:=decV_got hd
   obtain ⟨xs,b,r',hys,hn,hl2,hq2,hm,hvs⟩:=ih q m _ _ h (by omega) (by rw [hq,hl];simp;omega)
   have hb:b=a++encV x:=by
    have e1:b=l.take b.length:=by conv=>rhs;rw [hl2,List.take_left]
    have e2:b.length=(a++encV x).length:=by omega
    rw [e1,e2,hl,←List.append_assoc,List.take_left]
   refine ⟨x::xs,a,r',by rw [hys];simp,by simp [hn],?_,hk,?_,?_⟩
   ·rw [hl2,hb];simp [encVs]
   ·rw [hm,hb];simp [encVs]
   ·rw [List.all_cons,hv,hvs];rfl
theorem decR_got {l:List UInt8} {k m:Int} {ys:List Val} (h:decR l k=(ys,m,0)):
  ∃a r,l=a++(encR ys++r)∧k=(a.length:Int)∧m=((a++encR ys).length:Int)∧ys.all validV=true∧ys.length≤12:=by
 unfold decR at h
 split at h
 ·rename_i he;simp at h;omega
 ·split at h
  ·simp at h
  ·exact zq63 1
theorem decP_got {l:List UInt8} {k f t m:Int} (h:decP l k=((f,t),m,0)):
  ∃a r,l=a++((encI f++encI t)++r)∧k=(a.length:Int)∧m=((a++(encI f++encI t)).length:Int)∧validP f t=true:=by
 unfold decP at h
 split at h
 ·rename_i he;simp at h;omega
 ·split at h
  ·rename_i he;simp at h;omega
  ·exact zq63 0
end
end Go.Proofs.YtbfdegkickjbpaaGreat
