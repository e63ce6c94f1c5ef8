/-
 DuD
-/
import Derived.Test.YtgfhknnklapldaaGreatDoorBDuC
import Derived.Test.YtgfhknnklapldaaGreatDoorBDuB
import Derived.Test.YtgfhknnklapldaaGreatDoorBRr1
import Derived.Test.YtgfhknnklapldaaGreatDoorBRc3
namespace Go.Proofs.YtgfhknnklapldaaGreatDoor
open Go.Proofs.Tryz
set_option maxRecDepth 99999
set_option maxHeartbeats 0
open Go.RowKit Go.Lib Go.IntWalk Go.Sort Go.Shelf
structure EnvD (w:World):Prop where
 tab:TabIs prog w "internal/strconv.uint64pow10" .u64 pow10Tab
 ml:∃m,w.cell? ⟨0,0,none⟩=some (.int .i64 m)
 es:∃tp p,w.var? prog "strconv.ErrSyntax" =some #[.iface tp p]
 er:∃tp p,w.var? prog "strconv.ErrRange" =some #[.iface tp p]
theorem var_below {w w':World} {s:String} {cs:Array Value} (hb:Bl w w') (h:w.var? prog s=some cs):w'.var? prog s=some cs:=by
 unfold World.var? at *
 cases hg:prog.globalNamed s with
 |none=>simp [hg] at h
 |some g=>
  simp only [hg,Option.bind_some] at h ⊢
  have hlt:g<w.heap.size:=by
   rcases Nat.lt_or_ge g w.heap.size with h'|h'
   ·exact h'
   ·rw [Array.getElem?_eq_none h'] at h;simp at h
  rw [hb.block g hlt];exact h
theorem EnvD.below {w w':World} (h:EnvD w) (hb:Bl w w'):EnvD w':=by
 obtain ⟨h1,⟨m,h2⟩,⟨t1,p1,h3⟩,⟨t2,p2,h4⟩⟩:=h
 refine ⟨?_,⟨m,?_⟩,⟨t1,p1,var_below hb h3⟩,⟨t2,p2,var_below hb h4⟩⟩
 ·unfold TabIs at *
  exact var_below hb h1
 ·exact (World.cell?_of_block (hb.block _ (World.block_lt_of_cell? w _ h2))).trans h2
theorem itoaC (n:Int) (w:World) (he:EnvD w) (h1: -9223372036854775808≤n) (h2:n≤9223372036854775807):
  Calls prog 26 #[.int .i64 n] w fun e w'=>e=.returned (.string (strB (itoa n)))∧Bl w w':=by
 refine (strconv_Itoa n h1 h2 w he.tab).mono ?_
 rintro e w' ⟨rfl,k,os,rfl⟩
 refine ⟨rfl,rfl,rfl,rfl,?_,fun b hb=>?_⟩
 ·show w.heap.size≤(w.heap++os).size
  rw [Array.size_append];omega
 ·show (w.heap++os)[b]? =w.heap[b]?
  exact Array.getElem?_append_left hb
theorem countB39 (s:ByteArray):countB s ⟨#[39]⟩≤s.size:=by
 have h:=countB_mul_le (⟨#[39]⟩:ByteArray) (by decide) s.size s (Nat.le_refl _)
 have e:(⟨#[39]⟩:ByteArray).size=1:=rfl
 rw [e,Nat.mul_one] at h
 exact h
theorem replC (s:ByteArray) (w:World) (he:EnvD w) (hs:s.size≤1000):
  Calls prog 76 #[.string s,.string ⟨#[39]⟩,.string ⟨#[39,39]⟩] w fun e w'=>e=.returned (.string (strB (qB s.data.toList)))∧Bl w w':=by
 obtain ⟨m,hm⟩:=he.ml
 have hc:=countB39 s
 refine (strings_ReplaceAll s ⟨#[39]⟩ ⟨#[39,39]⟩ m w (by omega) hm (by decide) (by show s.size+_*2≤_;omega)).mono ?_
 rintro e w' ⟨rfl,hb⟩
 exact ⟨by rw [show (⟨#[39]⟩:ByteArray).data.toList=[39] from rfl,show (⟨#[39,39]⟩:ByteArray).data.toList=[39,39] from rfl,replaceAll39];rfl,hb⟩
theorem qS_str (s:ByteArray):(⟨#[39]⟩:ByteArray)++strB (qB s.data.toList)++(⟨#[39]⟩:ByteArray)=strB (qS s):=by
 have e:(⟨#[39]⟩:ByteArray)=strB [39]:=rfl
 have ea:∀a b:List UInt8,strB a++strB b=strB (a++b):=fun a b=>by
  apply ByteArray.ext
  rw [ByteArray.data_append]
  simp [strB]
 rw [e,ea,ea]
 rfl
theorem quote_any (s:ByteArray) (w:World) (he:EnvD w) (hs:s.size≤1000):
  Calls prog 25 #[.string s] w fun e w'=>e=.returned (.string (strB (qS s)))∧Bl w w':=by
 have KR:=hI0 (replC s w he hs)
 have HQ:=hI0 (qS_str s)
 have hq:(strB (qB s.data.toList)).size≤2*s.size:=by
  have h1:=qB_len s.data.toList
  have h2:=str_len s
  have h3:s.data.toList.count 39≤s.data.toList.length:=List.count_le_length
  rw [strB_size];omega
 clear he
 go_in
 go_wp2_with fail
 (with_reducible refine KR.out.mono ?_)
 rintro e w1 ⟨rfl,hb1⟩
 generalize strB (qB s.data.toList)=q at *
 go_wp2_with fail
 go_ret
 exact ⟨by rw [←HQ.out];rfl,hb1⟩
def OwnS (w:World) (base:Nat) (v:Value) (l:List (List UInt8)):Prop:=w.ownsRow base 9 1 v l.length (svL l)
def RdIt (w:World) (F:Nat→Prop) (v:Value) (l:List (List UInt8)):Prop:=Rd w F 1 v l.length (svL l)
def ItS (l:List (List UInt8)) (w0:World) (e:Ending) (w:World):Prop:=∃v,e=.returned v∧OwnS w w0.heap.size v l∧Bl w0 w
theorem OwnS.rd {w:World} {base:Nat} {v:Value} {l:List (List UInt8)} (h:OwnS w base v l):RdIt w (ltw w) v l:=(Rd.of_own h).wide fun _ hb=>hb.2
theorem OwnS.base {w:World} {base b:Nat} {v:Value} {l:List (List UInt8)} (h:OwnS w base v l) (hb:b≤base):OwnS w b v l:=by
 refine ⟨h.1,?_⟩
 rcases h.2 with h0|⟨g,cap,cur,hv,hg,r⟩
 ·exact .inl h0
 ·exact .inr ⟨g,cap,cur,hv,Nat.le_trans hb hg,r⟩
theorem OwnS.below {w w':World} {base:Nat} {v:Value} {l:List (List UInt8)} (h:OwnS w base v l) (hb:Bl w w'):OwnS w' base v l:=
 h.kept (row:=none) ⟨hb.os,hb.tape,hb.output,hb.size,fun k hk _=>hb.block k hk⟩ (by cases v.ownBlock<;>simp)
theorem svL_take (l:List (List UInt8)):(svL l).toArray.toList.take (l.length*1)=svL l:=by
 rw [Nat.mul_one,List.take_of_length_le (by simp [svL])]
theorem OwnS.new (w:World) (l:List (List UInt8)) (base:Nat) (hb:base≤w.heap.size) (hl:l.length≤maxLen):OwnS (w.alloc (.cells (svL l).toArray 9)) base (.slice (some ⟨w.heap.size,0,none⟩) l.length l.length) l:=
 ⟨by simp [svL],.inr ⟨w.heap.size,l.length,_,rfl,hb,heap_alloc_new w _,Nat.le_refl _,hl,by simp [svL],svL_take l⟩⟩
theorem OwnS.lit {w W:World} {cs:Array Value} (l:List (List UInt8)) (base:Nat) (hW:W.heap[w.heap.size]? =some (.cells cs 9 (0,0))) (hb:base≤w.heap.size) (hc:cs=(svL l).toArray) (hl:l.length≤100) {n:Nat} (hn:n=l.length):OwnS W base (.slice (some ⟨w.heap.size,0,none⟩) n n) l:=by
 subst hn;subst hc
 exact ⟨by simp [svL],.inr ⟨w.heap.size,l.length,_,rfl,hb,hW,Nat.le_refl _,by unfold maxLen;omega,by simp [svL],svL_take l⟩⟩
theorem infoS:(prog.info? 9).map (fun i=>(i.zero,i.size,i.bytes))=some (some (.string ⟨#[]⟩),1,16):=by kernel_rfl
theorem make_strs (N:Nat) (hN:N≤1000000000) (W:World):(Instr.makeSlice 66 (.int .i64 (N:Int)) (.int .i64 (N:Int))).run prog W=.ok (.slice (some ⟨W.heap.size,0,none⟩) N N) (W.alloc (.cells (svL (List.replicate N [])).toArray 9)):=by
 obtain ⟨i0,hi,hz0,hz1,hz2⟩:=info_parts infoS
 have h:=run_make (P:=prog) W 66 9 i0 _ underlying66 hi hz0 .i64 .i64 (N:Int) (N:Int) (by omega) (Int.le_refl _) (by rw [hz2];omega) (by omega)
 rw [hz1,Int.toNat_natCast,Nat.mul_one] at h
 have e:madeCells (Value.string ⟨#[]⟩).cells N=(svL (List.replicate N [])).toArray:=by
  apply Array.toList_inj.1
  rw [show (Value.string ⟨#[]⟩).cells=#[.string ⟨#[]⟩] from rfl,toList_madeCells_one]
  simp only [svL,List.map_replicate]
  rfl
 rw [e] at h
 exact h
theorem dig_step {l:List Int} {k:Nat} (hk:k<l.length):(svL ((l.take k).map itoa++List.replicate (l.length-k) [])).toArray.setIfInBounds k (.string (strB (itoa l[k])))=(svL ((l.take (k+1)).map itoa++List.replicate (l.length-(k+1)) [])).toArray:=by
 apply Array.toList_inj.1
 obtain ⟨q,hq⟩:∃q,l.length-k=q+1:=⟨l.length-k-1,by omega⟩
 have e:(svL ((l.take k).map itoa)).length=k:=by simp [svL];omega
 rw [Array.toList_setIfInBounds,List.toList_toArray,List.toList_toArray,svL_app,List.set_append_right _ _ (by omega),e,Nat.sub_self,hq,List.take_succ_eq_append_getElem hk,List.map_append,show l.length-(k+1)=q by omega,List.replicate_succ]
 simp [svL]
theorem digits_any (v:Value) (l:List Int) (w:World) (he:EnvD w) (hv:RdE 1 intE w (ltw w) v l) (hb:∀n∈l,-9223372036854775808≤n∧n≤9223372036854775807) (hl:l.length≤1000000000):
  Calls prog 22 #[v] w (ItS (l.map itoa) w):=by
 obtain ⟨A,c,rfl⟩:=rdE_slice hv
 obtain ⟨z1,z2⟩:=RdE.bd hv
 have hmk:=make_strs l.length hl
 have HV:=hI0 hv
 have HE:=hI0 he
 have HB:=hI0 hb
 clear hv he hb
 go_in
 go_wp2_with fail
 clear hmk
 go_loopw [11] (fun i wr=>∃k:Nat,i=.int .i64 (k:Int)∧k≤l.length∧Hid (wr.heap[w.heap.size]? =some (.cells (svL ((l.take k).map itoa++List.replicate (l.length-k) [])).toArray 9 (0,0)))∧Hid (Bl w wr)) (fun i _=>l.length-(intOf i).toNat)
 case atStart=>exact ⟨0,rfl,Nat.zero_le _,hI0 (by simpa using heap_alloc_new w _),hI0 (Below.of_alloc _)⟩
 obtain ⟨k,rfl,hk,HT,HW⟩:=hrel
 obtain ⟨wi,rfl⟩:=eN0 wr
 by_cases hlt:k<l.length
 case neg=>
  go_wp2_with fail
  go_ret
  refine ⟨_,rfl,?_,HW.out⟩
  have e:k=l.length:=by omega
  have ht:=HT.out
  rw [e,Nat.sub_self,List.take_length,List.replicate_zero,List.append_nil] at ht
  have q:=svL_take (l.map itoa)
  exact ⟨by simp [svL],.inr ⟨w.heap.size,l.length,_,by simp,Nat.le_refl _,ht,by simp,by unfold maxLen;omega,by simp [svL],q⟩⟩
 obtain ⟨b,off,hA,hF,hc⟩:=RdE.at_ (K:=1) (enc:=intE) (fun _=>rfl) (by omega) (HV.out.keep (Keeps.below HW.out)) hlt
 have c0:wi.cell? ⟨b,off+k,none⟩=some (.int .i64 l[k]):=by have:=hc k hlt 0 (.int .i64 l[k]) (by omega) rfl;simpa using this
 have hn:=HB.out l[k] (List.getElem_mem hlt)
 have HS:=hI0 (dig_step hlt)
 subst hA
 generalize l[k]=n at *
 have KI:=hI0 (itoaC n wi (HE.out.below HW.out) hn.1 hn.2)
 have hz:w.heap.size<wi.heap.size:=gL0 HT.out
 clear hc hn
 go_wp2_with fail
 (with_reducible refine KI.out.mono ?_)
 rintro _ w2 ⟨rfl,hb2⟩
 have HT2:=hI0 ((hb2.block _ hz).trans HT.out)
 generalize hcs:(svL ((l.take k).map itoa++List.replicate (l.length-k) [])).toArray=cs at *
 have hcz:k<cs.size:=by rw [←hcs];simp [svL];omega
 have HCS:=hI0 hcs
 obtain ⟨u0,d0⟩:∃u,w2.cell? ⟨w.heap.size,k,none⟩=some u:=⟨_,(cW0 w2 _ _ _ _ _ HT2.out).trans (Array.getElem?_eq_getElem hcz)⟩
 have f0:w2.frozen? ⟨w.heap.size,k,none⟩=false:=frozen_of_heap HT2.out k
 clear hcs hcz KI
 go_wp2_with fail
 go_roundw
 case rel=>exact ⟨k+1,by go_num,by omega,hI0 (by rw [←HS.out];exact heap_setCell_same w2 _ k _ _ _ HT2.out),hI0 ((HW.out.trans (hb2.mono (Nat.le_of_lt hz))).setCell (Nat.le_refl _) _)⟩
 case measure=>simp [intOf];omega
end Go.Proofs.YtgfhknnklapldaaGreatDoor
