/-
 PcZ
-/
import Derived.Test.YtgfhknnklapldaaGreatDoorQPaB
import Derived.Test.YtgfhknnklapldaaGreatDoorQDuP
import Derived.Test.YtgfhknnklapldaaGreatDoorQPbK
import Derived.Test.YtgfhknnklapldaaGreatDoorQPbJ
import Derived.Test.YtgfhknnklapldaaGreatDoorQPbI
import Derived.Test.YtgfhknnklapldaaGreatDoorQPbH
import Derived.Test.YtgfhknnklapldaaGreatDoorQPcD
import Derived.Test.YtgfhknnklapldaaGreatDoorQDuO
import Derived.Test.YtgfhknnklapldaaGreatDoorQDuI
import Derived.Test.YtgfhknnklapldaaGreatDoorQDuB
import Derived.Test.YtgfhknnklapldaaGreatDoorQPbF
import Derived.Test.YtgfhknnklapldaaGreatDoorQDuJ
import Derived.Test.YtgfhknnklapldaaGreatDoorQDuK
import Derived.Test.YtgfhknnklapldaaGreatDoorQDuH
import Derived.Test.YtgfhknnklapldaaGreatDoorQSeg1
import Derived.Test.YtgfhknnklapldaaGreatDoorQRc3
import Derived.Test.YtgfhknnklapldaaGreatDoorQRcO
import Derived.Test.YtgfhknnklapldaaGreatDoorQVer
namespace Go.Proofs.YtgfhknnklapldaaGreatDoor
open Go.RowKit Go.Lib Go.IntWalk Go.Sort Go.Shelf
def stepL (n:Nat) (l:List UInt8) (a:Nat) (c:RSt):Option (Nat×RSt):=
 if n=1 then (if l=wTitle then some (a,c) else none)
 else if n=2 then (if secB l=true then some (a,secS l c) else none)
 else if (pBody l a c).2=0 then none else some ((pBody l a c).2,(pBody l a c).1)
def nxtL (f n:Nat) (r:List UInt8):Option (Nat×RSt)→RSt×Nat×Int
 |none=>(st0_,n,1)
 |some p=>pRun f r (n+1) p.1 p.2
theorem pRun_none {f n a:Nat} {t:List UInt8} {c:RSt} (h8:a≠8) (h:cutL t=none):pRun (f+1) t n a c=(st0_,n,2):=by
 unfold pRun
 rw [if_neg h8,h]
theorem pRun_step {f n a:Nat} {t l r:List UInt8} {c:RSt} (h8:a≠8) (h:cutL t=some (l,r)):pRun (f+1) t n a c=nxtL f n r (stepL n l a c):=by
 unfold pRun stepL
 rw [if_neg h8,h]
 simp only
 by_cases h1:n=1
 ·subst h1
  simp only [if_true]
  split<;>rfl
 ·rw [if_neg h1,if_neg h1]
  by_cases h2:n=2
  ·subst h2
   simp only [if_true]
   split<;>rfl
  ·rw [if_neg h2,if_neg h2]
   split<;>rfl
theorem cutL_put {l r:List UInt8} (h:∀x∈l,x≠10):cutL (l++10::r)=some (l,r):=by
 induction l with
 |nil=>rfl
 |cons a l ih=>
  rw [List.cons_append]
  unfold cutL
  rw [if_neg (h a (List.mem_cons_self ..)),ih (fun x hx=>h x (List.mem_cons_of_mem _ hx))]
  rfl
theorem cutL_no {l:List UInt8} (h:∀x∈l,x≠10):cutL l=none:=by
 induction l with
 |nil=>rfl
 |cons a l ih=>
  unfold cutL
  rw [if_neg (h a (List.mem_cons_self ..)),ih (fun x hx=>h x (List.mem_cons_of_mem _ hx))]
  rfl
def lnT (ls:List (List UInt8)):List UInt8:=ls.flatMap (·++[10])
theorem lnT_app (a b:List (List UInt8)):lnT (a++b)=lnT a++lnT b:=by simp [lnT]
theorem lnT_cons (a:List UInt8) (b:List (List UInt8)):lnT (a::b)=a++10::lnT b:=by simp [lnT]
def okRun:Nat→List (List UInt8)→Nat→RSt→Nat→RSt→Prop
 |_,[],a,c,a',c'=>a'=a∧c'=c
 |n,l::r,a,c,a',c'=>a≠8∧(∀x∈l,x≠10)∧∃a1 c1,stepL n l a c=some (a1,c1)∧okRun (n+1) r a1 c1 a' c'
theorem okRun_app {ls ms:List (List UInt8)} {a a1 a2:Nat} {c c1 c2:RSt}:∀ {n:Nat},okRun n ls a c a1 c1→okRun (n+ls.length) ms a1 c1 a2 c2→okRun n (ls++ms) a c a2 c2:=by
 induction ls generalizing a c with
 |nil=>
  intro n h k
  obtain ⟨rfl,rfl⟩:=h
  exact k
 |cons l r ih=>
  intro n h k
  obtain ⟨h8,h10,a3,c3,e,h⟩:=h
  refine ⟨h8,h10,a3,c3,e,ih h ?_⟩
  rw [List.length_cons] at k
  rw [show n+1+r.length=n+(r.length+1) by omega]
  exact k
theorem okRun_torn {ls:List (List UInt8)} {a a1:Nat} {c c1:RSt}:∀ {f n:Nat} {p s:List UInt8},okRun n ls a c a1 c1→p++s=lnT ls→s≠[]→p.count 10<f→pRun f p n a c=(st0_,n+p.count 10,2):=by
 induction ls generalizing a c with
 |nil=>
  intro f n p s h he hs hf
  exact absurd (List.append_eq_nil_iff.1 he).2 hs
 |cons l r ih=>
  intro f n p s h he hs hf
  obtain ⟨h8,h10,a3,c3,e,h⟩:=h
  obtain ⟨f,rfl⟩:∃g,f=g+1:=⟨f-1,by omega⟩
  rw [lnT_cons] at he
  by_cases hl:p.length≤l.length
  ·have hp:∀x∈p,x≠10:=fun x hx=>h10 x (by
    have h1:p <+: l:=List.prefix_of_prefix_length_le (l₃:=l++10::lnT r) ⟨s,he⟩ (List.prefix_append _ _) hl
    exact h1.subset hx)
   rw [pRun_none h8 (cutL_no hp),List.count_eq_zero.2 (fun hx=>hp 10 hx rfl)]
   rfl
  ·obtain ⟨q,rfl⟩:∃q,p=l++10::q:=by
    have h1:(l++[10]) <+: p:=List.prefix_of_prefix_length_le (l₃:=l++10::lnT r) ⟨lnT r,by simp⟩ ⟨s,he⟩ (by simp;omega)
    obtain ⟨q,hq⟩:=h1
    exact ⟨q,by rw [←hq];simp⟩
   have hq:q++s=lnT r:=by
    rw [List.append_assoc,List.cons_append] at he
    have:=List.append_cancel_left he
    injection this
   have hc:(l++10::q).count 10=q.count 10+1:=by
    rw [List.count_append,List.count_eq_zero.2 (fun hx=>h10 10 hx rfl),List.count_cons_self];omega
   rw [hc] at hf ⊢
   rw [pRun_step h8 (cutL_put h10),e]
   show pRun f q (n+1) a3 c3=_
   rw [ih h hq hs (by omega)]
   rw [show n+1+q.count 10=n+(q.count 10+1) by omega]
/-! one line -/
theorem line_eq (w:List UInt8) (its:List (List UInt8)):lineB (w::its)=(w++spc its)++[10]:=by
 unfold lineB
 have h:=join_app (l:=[w]) (by simp) its
 have h1:join [w] [32]=w:=by rw [join_cons];simp [joinTail]
 rw [h1] at h
 rw [←List.singleton_append,h]
 rfl
theorem body_put {R a:Nat} {w:List UInt8} {its:List (List UInt8)} {c c':RSt} (h32:∀x∈w,x≠32) (hR:rankV w=R) (hl:lessR R a=false) (h4:R=4→a=3∨a=4)
  (hp:pPart (w++spc its) R c (w.length,false)=(c',(w++spc its).length,false)):pBody (w++spc its) a c=(c',R):=by
 have ht:tokI (w++spc its) (0,false)=(w,w.length,false):=by
  have h2:itB (w++spc its) 0=w:=by
   unfold itB
   rw [List.drop_zero]
   refine takeW_put h32 ?_
   have:=nxt_spc (l:=its) (suf:=[]) (.inl rfl)
   simpa using this
  unfold tokI spI
  rw [if_pos rfl]
  simp only [h2]
  rw [Nat.zero_add]
 unfold pBody
 simp only [ht,hR]
 rw [if_neg (by
  rintro ⟨h1,h2,h3⟩
  rcases h4 h1 with h|h
  ·exact h2 h
  ·exact h3 h),hp]
 simp [hl]
theorem Bk.line {α:Type} {one:Rdr α} {it:α→List (List UInt8)} {ok:α→Prop} (h:Bk one it ok) {x:α} (hx:ok x) {w:List UInt8} (hw:w≠[]):one (w++spc (it x)) (w.length,false)=(x,(w++spc (it x)).length,false):=by
 have:=h.put x hx w [] hw (.inl rfl)
 rw [List.append_nil] at this
 rw [this,List.length_append]
theorem okRun_one {n a R:Nat} {l:List UInt8} {c c':RSt} (hn:3≤n) (h8:a≠8) (h10:∀x∈l,x≠10) (h0:R≠0) (hb:pBody l a c=(c',R)):okRun n [l] a c R c':=by
 refine ⟨h8,h10,R,c',?_,rfl,rfl⟩
 unfold stepL
 rw [if_neg (by omega),if_neg (by omega),hb]
 rw [if_neg h0]
theorem okRun_list {α:Type} {ln:α→List (List UInt8)} {add:RSt→List α→RSt} (h0:∀c,add c []=c) (h1:∀c x xs,add (add c [x]) xs=add c (x::xs)) {B:Nat}:∀ {xs:List α} (_:∀x∈xs,∀n,3≤n→∀a,a≤B→∀c,∃a',a'≤B∧okRun n (ln x) a c a' (add c [x])) {n a:Nat} {c:RSt},3≤n→a≤B→∃a',a'≤B∧okRun n (xs.flatMap ln) a c a' (add c xs)
 |[],_,n,a,c,_,ha=>⟨a,ha,rfl,h0 c⟩
 |x::xs,h,n,a,c,hn,ha=>by
  obtain ⟨a1,ha1,h2⟩:=h x (List.mem_cons_self ..) n hn a ha c
  obtain ⟨a2,ha2,h3⟩:=okRun_list h0 h1 (xs:=xs) (fun y hy=>h y (List.mem_cons_of_mem _ hy)) (n:=n+(ln x).length) (a:=a1) (c:=add c [x]) (by omega) ha1
  refine ⟨a2,ha2,?_⟩
  rw [List.flatMap_cons,←h1]
  exact okRun_app h2 h3
/-! no line feed -/
def NL (l:List (List UInt8)):Prop:=∀i∈l,∀c∈i,c≠10
theorem NL.nil:NL []:=fun _ h=>by cases h
theorem NL.cons {i:List UInt8} {l:List (List UInt8)} (h:∀c∈i,c≠10) (k:NL l):NL (i::l):=fun j hj=>by
 rcases List.mem_cons.1 hj with rfl|hj
 ·exact h
 ·exact k j hj
theorem NL.app {l k:List (List UInt8)} (h:NL l) (g:NL k):NL (l++k):=fun j hj=>by
 rcases List.mem_append.1 hj with hj|hj
 ·exact h j hj
 ·exact g j hj
theorem nl_itoa (n:Int):∀c∈itoa n,c≠10:=fun c hc=>by
 rcases itoa_char hc with rfl|h
 ·decide
 ·rintro rfl;simp at h
theorem nl_qB {s:List UInt8} (h:∀c∈s,chP c=true):∀c∈qB s,c≠10:=fun c hc=>by
 unfold qB at hc
 obtain ⟨x,hx,hc⟩:=List.mem_flatMap.1 hc
 have h1:=h x hx
 have h10:x≠10:=by rintro rfl;revert h1;decide
 split at hc
 ·simp at hc;rw [hc];decide
 ·simp at hc;rw [hc];exact h10
theorem nl_qS {s:ByteArray} (h:okS s):∀c∈qS s,c≠10:=fun c hc=>by
 unfold qS quoteB at hc
 rcases List.mem_cons.1 hc with rfl|hc
 ·decide
 ·rcases List.mem_append.1 hc with hc|hc
  ·exact nl_qB h c hc
  ·simp at hc;rw [hc];decide
theorem nl_flag (b:Bool):∀c∈flagB b,c≠10:=by cases b<;>decide
theorem nl_val {v:Val} (h:okVa v):∀c∈valB v,c≠10:=by
 rcases h with rfl|⟨h1,_,_⟩|⟨h1,_,h3⟩|⟨h1,h2,_⟩
 ·decide
 ·unfold valB litB;simp only [h1];exact nl_itoa _
 ·unfold valB litB;simp only [h1];exact nl_qS h3
 ·unfold valB litB
  rw [h1]
  rcases h2 with h2|h2<;>(rw [h2,if_neg (by decide),if_neg (by decide),if_pos rfl];decide)
theorem NL.lst {α:Type} {f:α→List (List UInt8)} {xs:List α} (h:∀x∈xs,NL (f x)):NL (lstI f xs):=NL.cons (nl_itoa _) fun i hi=>by
 obtain ⟨x,hx,hi⟩:=List.mem_flatMap.1 hi
 exact h x hx i hi
theorem NL.one {i:List UInt8} (h:∀c∈i,c≠10):NL [i]:=NL.cons h NL.nil
theorem nl_exp:∀(d:Nat) (x:RE),okE d x→NL (exI x)
 |0,_,h=>h.elim
 |d+1,.mk op it v nm A c args,h=>by
  obtain ⟨_,_,h3,h4,_,_,h7⟩:=h
  rw [exI_eq]
  exact NL.app (NL.cons (nl_itoa _) (NL.cons (nl_itoa _) (NL.cons (nl_val h3) (NL.one (nl_qS h4))))) (NL.lst fun x hx=>nl_exp d x (h7.1 x hx))
theorem nl_col {x:RCol} (h:okC x):NL (colI x):=NL.cons (nl_qS h.1) (NL.cons (nl_itoa _) (NL.one (nl_flag _)))
theorem nl_num (n:Int):NL (numI n):=NL.one (nl_itoa n)
theorem nl_tab {t:RTab} (h:okT t):NL (tabI t):=
 NL.app (NL.app (NL.app (NL.app (NL.one (nl_qS h.name)) (NL.lst fun x hx=>nl_col (h.cols.1 x hx))) (NL.lst fun x _=>nl_num x)) (NL.lst fun x hx=>NL.app (NL.lst fun x _=>nl_num x) (NL.one (nl_qS (h.fors.1 x hx).2.1)))) (NL.lst fun x hx=>nl_exp 24 x (h.chks.1 x hx))
theorem nl_chn {k:Int} {x:Chn} (h:okCh k x):NL (chnI x):=NL.app (NL.app (NL.cons (nl_qS h.name) (NL.one (nl_qS h.to))) (nl_col h.col)) (NL.one (nl_val h.def_))
theorem nl_ent {x:REn} (h:okEn x):NL (entI x).tail:=by
 have hr:=h.rest
 unfold okR at hr
 unfold entI
 refine NL.cons (nl_itoa _) (NL.cons (nl_qS h.table) (NL.cons (nl_itoa _) ?_))
 show NL (if x.change.kind=0 then tabI x.create else chnI x.change)
 split
 ·rename_i h0
  rw [if_pos h0] at hr
  exact nl_tab hr.1
 ·rename_i h0
  rw [if_neg h0] at hr
  exact nl_chn hr.2
theorem nl_ver {x:Ver} (h:okVe x):NL (verI x).tail:=NL.cons (nl_itoa _) (NL.cons (nl_itoa _) (NL.app (NL.lst fun v hv=>NL.one (nl_val (h.row.1 v hv)))
 (NL.cons (nl_itoa _) (NL.cons (nl_itoa _) (NL.cons (nl_itoa _) (NL.cons (nl_itoa _) (NL.cons (nl_itoa _) (NL.one (nl_itoa _)))))))))
theorem nl_hld {x:Hld} (h:okH x):NL (hldI x).tail:=NL.cons (nl_qS h.name) (NL.cons (nl_qS h.table) (NL.cons (nl_itoa _) (NL.cons (nl_itoa _) (NL.cons (nl_itoa _) (NL.one (nl_itoa _))))))
theorem nl_line {w:List UInt8} {its:List (List UInt8)} (h:∀c∈w,c≠10) (k:NL its):∀x∈w++spc its,x≠10:=fun x hx=>by
 rcases List.mem_append.1 hx with hx|hx
 ·exact h x hx
 ·unfold spc at hx
  obtain ⟨i,hi,hx⟩:=List.mem_flatMap.1 hx
  rcases List.mem_cons.1 hx with rfl|hx
  ·decide
  ·exact k i hi x hx
end Go.Proofs.YtgfhknnklapldaaGreatDoor
namespace Go.Proofs.YtgfhknnklapldaaGreatDoor
open Go.Proofs.Tryz
set_option maxRecDepth 99999
set_option maxHeartbeats 0
open Go.RowKit Go.Lib Go.IntWalk Go.Sort Go.Shelf
theorem cut_L:∀(u:List UInt8),Lib.cut u [10]=match cutL u with|none=>(u,[],false)|some p=>(p.1,p.2,true)
 |[]=>by simp [Lib.cut,Lib.index,cutL]
 |x::u=>by
  have ih:=cut_L u
  unfold Lib.cut at ih ⊢
  unfold cutL
  by_cases hx:x=10
  ·subst hx
   have h0:Lib.index (10::u) [10]=0:=by unfold Lib.index;rw [if_pos (by simp [List.isPrefixOf])]
   rw [h0,if_pos (by decide),if_pos rfl]
   simp
  ·rw [if_neg hx]
   have hp:([10]:List UInt8).isPrefixOf (x::u)=false:=by
    simp only [List.isPrefixOf,Bool.and_true,beq_eq_false_iff_ne]
    exact fun e=>hx e.symm
   have h0:Lib.index (x::u) [10]=if Lib.index u [10]== -1 then -1 else Lib.index u [10]+1:=by
    conv=>lhs;unfold Lib.index
    rw [if_neg (by rw [hp];decide)]
   have hge:=Lib.index_ge u [10]
   by_cases hn:0≤Lib.index u [10]
   ·rw [if_pos hn] at ih
    have h1:(Lib.index u [10]== -1)=false:=by rw [beq_eq_false_iff_ne];omega
    rw [h1] at h0
    have h2:Lib.index (x::u) [10]=Lib.index u [10]+1:=h0
    rw [h2,if_pos (by omega)]
    have h3:(Lib.index u [10]+1).toNat=(Lib.index u [10]).toNat+1:=by omega
    rw [h3]
    cases hc:cutL u with
    |none=>rw [hc] at ih;simp at ih
    |some p=>
     rw [hc] at ih
     simp only [Prod.mk.injEq,and_true,List.length_cons,List.length_nil] at ih
     obtain ⟨i1,i2⟩:=ih
     simp only [Option.map_some,List.length_cons,List.length_nil,List.take_succ_cons]
     rw [i1]
     have h4:(Lib.index u [10]).toNat+1+(0+1)=((Lib.index u [10]).toNat+(0+1))+1:=by omega
     rw [h4,List.drop_succ_cons,i2]
   ·rw [if_neg hn] at ih
    have h1:(Lib.index u [10]== -1)=true:=by rw [beq_iff_eq];omega
    rw [h1] at h0
    have h2:Lib.index (x::u) [10]= -1:=h0
    rw [h2,if_neg (by decide)]
    cases hc:cutL u with
    |none=>rfl
    |some p=>rw [hc] at ih;simp at ih
theorem bodyF_any (b:Nat) (l:List UInt8) (before:Nat) (c:RSt) (S:ByteArray) (i:Nat) (d:Bool) (w:World) (he:EnvP b w) (h:CurAt w b S i d c.enc) (hO:StO w b c) (hN:CntLe 4294967281 c) (hl:l.length≤4294967281) (hbf:before≤8) (htab:before=3∨before=4→c.tabs≠[]):
  Calls prog 38 #[.pointer (some ⟨b,0,none⟩),.string (strB l),.int .i64 (before:Int)] w (BodyQ b l (pBody l before c) w):=
 body_any b l before c S i d w he h hO hN.rows hl hbf htab (fun V k q e1 e2 e3 h0 hk=>pentry_any b l k q c V e1 e2 e3 hN.ents h0 hk hl) (fun hne V k q e1 e2 e3 h0 hk=>by
  have hts:=(List.dropLast_concat_getLast hne).symm
  exact pversion_any b l k q c c.tabs.dropLast (c.tabs.getLast hne) V hts e1 e2 e3 (hN.vers _ (List.getLast_mem hne)) hN.tabs h0 hk hl)
theorem secS_enc (l:List UInt8) (c:RSt):(secS l c).enc=.int .i64 (sec1 l).1::.int .i64 (sec2 l).1::.int .i64 (sec3 l).1::.int .i64 (sec4 l).1::[.slice c.eA c.ents.length c.eC,.slice c.sA c.stms.length c.sC,.slice c.tA c.tabs.length c.tC,.slice c.pA c.pla.length c.pC,.slice c.qA c.pol.length c.qC,.slice c.hA c.hor.length c.hC]:=by simp only [RSt.enc,secS]
theorem enc_cons (c:RSt):c.enc=.int .i64 c.tx::.int .i64 c.time::.int .i64 c.wall::.int .i64 c.next::[.slice c.eA c.ents.length c.eC,.slice c.sA c.stms.length c.sC,.slice c.tA c.tabs.length c.tC,.slice c.pA c.pla.length c.pC,.slice c.qA c.pol.length c.qC,.slice c.hA c.hor.length c.hC]:=rfl
structure PrO (t:List UInt8) (b:Nat) (w0 w:World) (u:List UInt8) (a k f:Nat) (c:RSt) (S:ByteArray) (i:Nat) (d:Bool):Prop where
 cur:CurAt w b S i d c.enc
 own:StO w b c
 bel:Below b w0 w
 run:(pRun f u k a c).2=(pAll t).2
 st:(pRun f u k a c).1.er=(pAll t).1.er
 cnt:CntLe k c
 tab:a=3∨a=4→c.tabs≠[]
theorem stO_zero (w:World) (b:Nat):StO w b st0_:=by
 refine ⟨fun p hp=>?_,(fun x hx=>by cases hx),(fun x hx=>by cases hx),(fun x hx=>by cases hx)⟩
 simp only [rowsO,List.mem_cons,List.not_mem_nil,or_false] at hp
 rcases hp with rfl|rfl|rfl|rfl|rfl|rfl|rfl<;>exact World.ownsRow_nil _ _ _ _
theorem PrO.go {t u l r:List UInt8} {b a k f:Nat} {w0 w w':World} {c c':RSt} {S S':ByteArray} {i i':Nat} {d d':Bool} (h:PrO t b w0 w u a k (f+1) c S i d) (h8:a≠8) (hk:3≤k) (hc:cutL u=some (l,r)) (hr:(pBody l a c).2≠0) (he:c'.er=(pBody l a c).1.er) (hs:CurAt w' b S' i' d' c'.enc) (hO:StO w' b c') (hb:Below b w w'):PrO t b w0 w' r (pBody l a c).2 (k+1) f c' S' i' d':=by
 have e:pRun (f+1) u k a c=pRun f r (k+1) (pBody l a c).2 (pBody l a c).1:=by
  rw [pRun_step h8 hc]
  unfold stepL
  rw [if_neg (by omega),if_neg (by omega),if_neg hr]
  rfl
 have q:=pRun_er f r (k+1) (pBody l a c).2 he
 exact ⟨hs,hO,h.bel.trans hb,by rw [q.2,←e,h.run],by rw [q.1,←e,h.st],(h.cnt.body l a).of he,fun ht hn=>body_tabs l h.tab ht ((tabs_er he).1 hn)⟩
theorem PrO.go1 {t u l r:List UInt8} {b a f:Nat} {w0 w w':World} {c:RSt} {S:ByteArray} {i:Nat} {d:Bool} (h:PrO t b w0 w u a 1 (f+1) c S i d) (h8:a≠8) (hc:cutL u=some (l,r)) (hl:l=wTitle) (hb:Bl w w'):PrO t b w0 w' r a 2 f c S i d:=by
 have e:pRun (f+1) u 1 a c=pRun f r 2 a c:=by
  rw [pRun_step h8 hc]
  unfold stepL
  rw [if_pos rfl,if_pos hl]
  rfl
 exact ⟨h.cur.below hb,h.own.chg (Chg.of_below hb _),h.bel.trans (hb.mono (Nat.le_of_lt h.cur.lt)),by rw [←e,h.run],by rw [←e,h.st],h.cnt.mono (by omega),h.tab⟩
theorem PrO.go2 {t u l r:List UInt8} {b a f:Nat} {w0 w w':World} {c:RSt} {S S':ByteArray} {i i':Nat} {d d':Bool} (h:PrO t b w0 w u a 2 (f+1) c S i d) (h8:a≠8) (hc:cutL u=some (l,r)) (hl:secB l=true) (hs:CurAt w' b S' i' d' (secS l c).enc) (hb:Chg (·=b) w w'):PrO t b w0 w' r a 3 f (secS l c) S' i' d':=by
 have e:pRun (f+1) u 2 a c=pRun f r 3 a (secS l c):=by
  rw [pRun_step h8 hc]
  unfold stepL
  rw [if_neg (by decide),if_pos rfl,if_pos hl]
  rfl
 obtain ⟨o1,o2⟩:=h.own.chg hb
 obtain ⟨q1,q2,q3⟩:=o2
 obtain ⟨m1,m2,m3,m4,m5,m6,m7⟩:=h.cnt
 exact ⟨hs,⟨o1,q1,q2,q3⟩,h.bel.trans (hb.below (Nat.le_of_lt h.cur.lt) (fun _ e=>by omega)),by rw [←e,h.run],by rw [←e,h.st],⟨by show c.ents.length≤_;omega,by show c.stms.length≤_;omega,by show c.tabs.length≤_;omega,by show c.pla.length≤_;omega,by show c.pol.length≤_;omega,by show c.hor.length≤_;omega,fun t ht=>Nat.le_succ_of_le (m7 t ht)⟩,h.tab⟩
theorem PrO.bad {t u l r:List UInt8} {b a k f:Nat} {w0 w:World} {c:RSt} {S:ByteArray} {i:Nat} {d:Bool} (h:PrO t b w0 w u a k (f+1) c S i d) (h8:a≠8) (hc:cutL u=some (l,r)) (hl:stepL k l a c=none):(pAll t).2=(k,1):=by
 rw [←h.run,pRun_step h8 hc,hl]
 rfl
theorem parseT_any (t:List UInt8) (w:World) (he:EnvD w) (hl:t.length≤4294967200) (hbad:(pAll t).2.2≠0):
  Calls prog 15 #[.string (strB t)] w fun e w'=>e=.returned (.tuple #[.agg cZ0,.int .i64 ((pAll t).2.1:Int),.int .i64 (pAll t).2.2])∧Bl w w':=by
 obtain ⟨W1,hW1⟩:=eN0 (w.alloc (.cells cZ0 29))
 have hbW1:=bN0 hW1
 have hnW1:=hN0 hW1
 have eW1:w.alloc (.cells cZ0 29)=W1:=by rw [hW1]
 clear hW1
 obtain ⟨W2,hW2⟩:=eN0 (W1.alloc (.cells #[.string ⟨#[]⟩,.int .i64 0,.bool false,.int .i64 0,.int .i64 0,.int .i64 0,.int .i64 0,.slice none 0 0,.slice none 0 0,.slice none 0 0,.slice none 0 0,.slice none 0 0,.slice none 0 0] 104))
 have hbW2:=bN0 hW2
 have hnW2:=hN0 hW2
 have eW2:W1.alloc (.cells #[.string ⟨#[]⟩,.int .i64 0,.bool false,.int .i64 0,.int .i64 0,.int .i64 0,.int .i64 0,.slice none 0 0,.slice none 0 0,.slice none 0 0,.slice none 0 0,.slice none 0 0,.slice none 0 0] 104)=W2:=by rw [hW2]
 clear hW2
 have HB1:=hI0 hbW1
 have HB2:Hid (Bl w W2):=hI0 (hbW1.trans (hbW2.mono hbW1.size))
 have hR2:=keepRow hbW2 hnW1
 have hlt:w.heap.size<W1.heap.size:=(Array.getElem?_eq_some_iff.1 hnW1).1
 have hl2:W1.heap.size<W2.heap.size:=(Array.getElem?_eq_some_iff.1 hnW2).1
 have HLT:=hI0 (And.intro hlt hl2)
 have HROW:Hid (∀V,Below W1.heap.size W2 V→V.heap[w.heap.size]? =some (.cells cZ0 29 (0,0))):=hI0 fun V hV=>(hV.block _ hlt).trans hR2
 have HE2:Hid (∀V,Below W1.heap.size W2 V→EnvP W1.heap.size V):=hI0 fun V hV=>⟨w,he,hbW1.size,HB2.out.trans (hV.mono (Nat.le_of_lt hlt))⟩
 have HP0:Hid (PrO t W1.heap.size W2 W2 t 0 1 (t.length+2) st0_ ⟨#[]⟩ 0 false):=hI0 ⟨hnW2,stO_zero _ _,Below.refl _ _,rfl,rfl,⟨Nat.zero_le _,Nat.zero_le _,Nat.zero_le _,Nat.zero_le _,Nat.zero_le _,Nat.zero_le _,(fun _ h=>by cases h)⟩,by omega⟩
 have HT:Hid (∀l:List UInt8,((strB l).toList==(strB wTitle).toList)=decide (l=wTitle)):=hI0 fun l=>by
  rw [ByteArray.toList_eq,ByteArray.toList_eq,bas_s,bas_s]
  by_cases h:l=wTitle
  ·rw [h,decide_eq_true rfl];simp
  ·rw [decide_eq_false h];simpa using h
 have hTW:(strB wTitle).toList=[98,105,116,101,109,112,111,114,97,108,32,100,117,109,112,32,49]:=by rw [ByteArray.toList_eq,bas_s];rfl
 have HTW:=hI0 hTW
 have HBAD:=hI0 hbad
 clear hbW1 hnW1 hbW2 hnW2 hlt hl2 hR2 he hTW hbad
 go_in
 go_wp2_with fail
 clear eW1 eW2
 go_loopw [0,6,7] (fun s p n wr=>∃(u:List UInt8) (a k f:Nat) (c:RSt) (S:ByteArray) (i:Nat) (d:Bool),s=.string (strB u)∧p=.int .i64 (a:Int)∧n=.int .i64 (k:Int)∧(1≤k∧k+u.length≤t.length+1∧a≤8∧u.length+2≤f∧(k≤2→a=0))∧Hid (PrO t W1.heap.size W2 wr u a k f c S i d)) (fun _ _ n _=>t.length+3-(intOf n).toNat)
 case atStart=>exact ⟨t,0,1,t.length+2,st0_,_,_,_,rfl,rfl,rfl,⟨by omega,by omega,by omega,by omega,fun _=>rfl⟩,HP0⟩
 obtain ⟨u,a,k,f,c,S,i,d,rfl,rfl,rfl,⟨hk1,hku,ha8,hfu,hk2⟩,HP⟩:=hrel
 obtain ⟨wi,rfl⟩:=eN0 wr
 obtain ⟨f,rfl⟩:∃g,f=g+1:=⟨f-1,by omega⟩
 by_cases h8:a=8
 ·subst h8
  have hE0:(pAll t).2=(if u=[] then (0,0) else (k,3):Nat×Int):=by
   rw [←HP.out.run]
   unfold pRun
   rw [if_pos rfl]
   split<;>rfl
  by_cases hu:u=[]
  ·rw [if_pos hu] at hE0
   exact absurd (by rw [hE0]) HBAD.out
  ·rw [if_neg hu] at hE0
   have HE:=hI0 hE0
   have hne:((strB u).toList==[])=false:=by rw [ByteArray.toList_eq,bas_s];cases u with|nil=>exact absurd rfl hu|cons x r=>rfl
   have hne2:(strB u).toList.isEmpty=false:=by rw [ByteArray.toList_eq,bas_s];cases u with|nil=>exact absurd rfl hu|cons x r=>rfl
   clear hE0
   have hR:=HROW.out wi (HP.out.bel)
   have g9:=cW1 9 hR rfl
   have f9:wi.frozen? ⟨w.heap.size,9,none⟩=false:=fW0 _ _ _ _ _ hR
   have g8:=cW1 8 hR rfl
   have f8:wi.frozen? ⟨w.heap.size,8,none⟩=false:=fW0 _ _ _ _ _ hR
   have g7:=cW1 7 hR rfl
   have f7:wi.frozen? ⟨w.heap.size,7,none⟩=false:=fW0 _ _ _ _ _ hR
   have g6:=cW1 6 hR rfl
   have f6:wi.frozen? ⟨w.heap.size,6,none⟩=false:=fW0 _ _ _ _ _ hR
   have g5:=cW1 5 hR rfl
   have f5:wi.frozen? ⟨w.heap.size,5,none⟩=false:=fW0 _ _ _ _ _ hR
   have g4:=cW1 4 hR rfl
   have f4:wi.frozen? ⟨w.heap.size,4,none⟩=false:=fW0 _ _ _ _ _ hR
   have g3:=cW1 3 hR rfl
   have f3:wi.frozen? ⟨w.heap.size,3,none⟩=false:=fW0 _ _ _ _ _ hR
   have g2:=cW1 2 hR rfl
   have f2:wi.frozen? ⟨w.heap.size,2,none⟩=false:=fW0 _ _ _ _ _ hR
   have g1:=cW1 1 hR rfl
   have f1:wi.frozen? ⟨w.heap.size,1,none⟩=false:=fW0 _ _ _ _ _ hR
   have g0:=cW1 0 hR rfl
   have f0:wi.frozen? ⟨w.heap.size,0,none⟩=false:=fW0 _ _ _ _ _ hR
   have HF:=hI0 (dten_set hR (.int .i64 0) (.int .i64 0) (.int .i64 0) (.int .i64 0) (.slice none 0 0) (.slice none 0 0) (.slice none 0 0) (.slice none 0 0) (.slice none 0 0) (.slice none 0 0))
   have HFB:Hid (Bl w ((((((((((wi.setCell ⟨w.heap.size,0,none⟩ (.int .i64 0)).setCell ⟨w.heap.size,1,none⟩ (.int .i64 0)).setCell ⟨w.heap.size,2,none⟩ (.int .i64 0)).setCell ⟨w.heap.size,3,none⟩ (.int .i64 0)).setCell ⟨w.heap.size,4,none⟩ (.slice none 0 0)).setCell ⟨w.heap.size,5,none⟩ (.slice none 0 0)).setCell ⟨w.heap.size,6,none⟩ (.slice none 0 0)).setCell ⟨w.heap.size,7,none⟩ (.slice none 0 0)).setCell ⟨w.heap.size,8,none⟩ (.slice none 0 0)).setCell ⟨w.heap.size,9,none⟩ (.slice none 0 0))):=hI0 ((HB2.out.trans (((HP.out.bel)).mono (by have:=HLT.out;omega))).trans ((dten_chg wi w.heap.size (.int .i64 0) (.int .i64 0) (.int .i64 0) (.int .i64 0) (.slice none 0 0) (.slice none 0 0) (.slice none 0 0) (.slice none 0 0) (.slice none 0 0) (.slice none 0 0)).below (B:=w.heap.size) (by have:=((HP.out.bel)).size;have:=HLT.out;omega) (fun i (hi:i=w.heap.size)=>by omega)))
   clear hR
   go_wp2_with fail
   generalize ((((((((((wi.setCell ⟨w.heap.size,0,none⟩ (.int .i64 0)).setCell ⟨w.heap.size,1,none⟩ (.int .i64 0)).setCell ⟨w.heap.size,2,none⟩ (.int .i64 0)).setCell ⟨w.heap.size,3,none⟩ (.int .i64 0)).setCell ⟨w.heap.size,4,none⟩ (.slice none 0 0)).setCell ⟨w.heap.size,5,none⟩ (.slice none 0 0)).setCell ⟨w.heap.size,6,none⟩ (.slice none 0 0)).setCell ⟨w.heap.size,7,none⟩ (.slice none 0 0)).setCell ⟨w.heap.size,8,none⟩ (.slice none 0 0)).setCell ⟨w.heap.size,9,none⟩ (.slice none 0 0))=Z at *
   obtain ⟨y0,y1,y2,y3,y4,y5,y6,y7,y8,y9⟩:=cX10 HF.out
   (try simp only [Exit.inBlock,Exit.then])
   exact bodyPost_ret (v:=.tuple #[.agg cZ0,.int .i64 (k:Int),.int .i64 3]) (by simp [results,results15,go_sem,y0,y1,y2,y3,y4,y5,y6,y7,y8,y9]) rfl ⟨by rw [HE.out];first|done|rfl,HFB.out⟩
 ·have e8:¬(a:Int)=8:=by omega
  have KC:=fun (l r:List UInt8) (q:Bool) (h:Lib.cut u [10]=(l,r,q))=>cutC u l r q wi (HE2.out wi HP.out.bel).now (by omega) h
  rcases hc:cutL u with _|⟨l,r⟩
  ·have hE0:(pAll t).2=(k,2):=by rw [←HP.out.run,pRun_none h8 hc]
   have HE:=hI0 hE0
   have KC2:=hI0 (KC u [] false (by rw [cut_L,hc]))
   clear KC hE0 hc
   go_wp2_with fail
   (with_reducible refine KC2.out.mono ?_)
   rintro _ w3 ⟨rfl,hb3⟩
   have HB3:=hI0 (HP.out.bel.trans (hb3.mono (Nat.le_of_lt HP.out.cur.lt)))
   clear KC2 hb3
   have hR:=HROW.out w3 HB3.out
   have g9:=cW1 9 hR rfl
   have f9:w3.frozen? ⟨w.heap.size,9,none⟩=false:=fW0 _ _ _ _ _ hR
   have g8:=cW1 8 hR rfl
   have f8:w3.frozen? ⟨w.heap.size,8,none⟩=false:=fW0 _ _ _ _ _ hR
   have g7:=cW1 7 hR rfl
   have f7:w3.frozen? ⟨w.heap.size,7,none⟩=false:=fW0 _ _ _ _ _ hR
   have g6:=cW1 6 hR rfl
   have f6:w3.frozen? ⟨w.heap.size,6,none⟩=false:=fW0 _ _ _ _ _ hR
   have g5:=cW1 5 hR rfl
   have f5:w3.frozen? ⟨w.heap.size,5,none⟩=false:=fW0 _ _ _ _ _ hR
   have g4:=cW1 4 hR rfl
   have f4:w3.frozen? ⟨w.heap.size,4,none⟩=false:=fW0 _ _ _ _ _ hR
   have g3:=cW1 3 hR rfl
   have f3:w3.frozen? ⟨w.heap.size,3,none⟩=false:=fW0 _ _ _ _ _ hR
   have g2:=cW1 2 hR rfl
   have f2:w3.frozen? ⟨w.heap.size,2,none⟩=false:=fW0 _ _ _ _ _ hR
   have g1:=cW1 1 hR rfl
   have f1:w3.frozen? ⟨w.heap.size,1,none⟩=false:=fW0 _ _ _ _ _ hR
   have g0:=cW1 0 hR rfl
   have f0:w3.frozen? ⟨w.heap.size,0,none⟩=false:=fW0 _ _ _ _ _ hR
   have HF:=hI0 (dten_set hR (.int .i64 0) (.int .i64 0) (.int .i64 0) (.int .i64 0) (.slice none 0 0) (.slice none 0 0) (.slice none 0 0) (.slice none 0 0) (.slice none 0 0) (.slice none 0 0))
   have HFB:Hid (Bl w ((((((((((w3.setCell ⟨w.heap.size,0,none⟩ (.int .i64 0)).setCell ⟨w.heap.size,1,none⟩ (.int .i64 0)).setCell ⟨w.heap.size,2,none⟩ (.int .i64 0)).setCell ⟨w.heap.size,3,none⟩ (.int .i64 0)).setCell ⟨w.heap.size,4,none⟩ (.slice none 0 0)).setCell ⟨w.heap.size,5,none⟩ (.slice none 0 0)).setCell ⟨w.heap.size,6,none⟩ (.slice none 0 0)).setCell ⟨w.heap.size,7,none⟩ (.slice none 0 0)).setCell ⟨w.heap.size,8,none⟩ (.slice none 0 0)).setCell ⟨w.heap.size,9,none⟩ (.slice none 0 0))):=hI0 ((HB2.out.trans ((HB3.out).mono (by have:=HLT.out;omega))).trans ((dten_chg w3 w.heap.size (.int .i64 0) (.int .i64 0) (.int .i64 0) (.int .i64 0) (.slice none 0 0) (.slice none 0 0) (.slice none 0 0) (.slice none 0 0) (.slice none 0 0) (.slice none 0 0)).below (B:=w.heap.size) (by have:=(HB3.out).size;have:=HLT.out;omega) (fun i (hi:i=w.heap.size)=>by omega)))
   clear hR
   go_wp2_with fail
   generalize ((((((((((w3.setCell ⟨w.heap.size,0,none⟩ (.int .i64 0)).setCell ⟨w.heap.size,1,none⟩ (.int .i64 0)).setCell ⟨w.heap.size,2,none⟩ (.int .i64 0)).setCell ⟨w.heap.size,3,none⟩ (.int .i64 0)).setCell ⟨w.heap.size,4,none⟩ (.slice none 0 0)).setCell ⟨w.heap.size,5,none⟩ (.slice none 0 0)).setCell ⟨w.heap.size,6,none⟩ (.slice none 0 0)).setCell ⟨w.heap.size,7,none⟩ (.slice none 0 0)).setCell ⟨w.heap.size,8,none⟩ (.slice none 0 0)).setCell ⟨w.heap.size,9,none⟩ (.slice none 0 0))=Z at *
   obtain ⟨y0,y1,y2,y3,y4,y5,y6,y7,y8,y9⟩:=cX10 HF.out
   (try simp only [Exit.inBlock,Exit.then])
   exact bodyPost_ret (v:=.tuple #[.agg cZ0,.int .i64 (k:Int),.int .i64 2]) (by simp [results,results15,go_sem,y0,y1,y2,y3,y4,y5,y6,y7,y8,y9]) rfl ⟨by rw [HE.out];first|done|rfl,HFB.out⟩
  ·have KC2:=hI0 (KC l r true (by rw [cut_L,hc]))
   have HC:=hI0 hc
   have hlr:=cutL_len hc
   clear KC hc
   go_wp2_with fail
   (with_reducible refine KC2.out.mono ?_)
   rintro _ w3 ⟨rfl,hb3⟩
   have hst:k=1∨k=2∨3≤k:=by omega
   rcases hst with rfl|rfl|h3
   ·-- the title
    obtain rfl:a=0:=hk2 (by omega)
    clear hk2
    have HB3:=hI0 (HP.out.bel.trans (hb3.mono (Nat.le_of_lt HP.out.cur.lt)))
    by_cases ht:l=wTitle
    ·have HP3:=hI0 (HP.out.go1 h8 HC.out ht hb3)
     subst ht
     clear KC2 hb3
     have hTW:=HTW.out
     go_wp2_with fail
     go_roundw
     case rel=>exact ⟨r,0,2,f,c,S,i,d,rfl,rfl,rfl,⟨by omega,by omega,ha8,by omega,fun _=>rfl⟩,HP3⟩
     case measure=>first|(simp [intOf];done)|(simp [intOf];omega)
    ·have HE:=hI0 (HP.out.bad h8 HC.out (by unfold stepL;rw [if_pos rfl,if_neg ht]))
     have hTW:=HTW.out
     have hne:=HT.out l
     rw [decide_eq_false ht,hTW] at hne
     clear KC2 hb3 hTW
     have hR:=HROW.out w3 HB3.out
     have g9:=cW1 9 hR rfl
     have f9:w3.frozen? ⟨w.heap.size,9,none⟩=false:=fW0 _ _ _ _ _ hR
     have g8:=cW1 8 hR rfl
     have f8:w3.frozen? ⟨w.heap.size,8,none⟩=false:=fW0 _ _ _ _ _ hR
     have g7:=cW1 7 hR rfl
     have f7:w3.frozen? ⟨w.heap.size,7,none⟩=false:=fW0 _ _ _ _ _ hR
     have g6:=cW1 6 hR rfl
     have f6:w3.frozen? ⟨w.heap.size,6,none⟩=false:=fW0 _ _ _ _ _ hR
     have g5:=cW1 5 hR rfl
     have f5:w3.frozen? ⟨w.heap.size,5,none⟩=false:=fW0 _ _ _ _ _ hR
     have g4:=cW1 4 hR rfl
     have f4:w3.frozen? ⟨w.heap.size,4,none⟩=false:=fW0 _ _ _ _ _ hR
     have g3:=cW1 3 hR rfl
     have f3:w3.frozen? ⟨w.heap.size,3,none⟩=false:=fW0 _ _ _ _ _ hR
     have g2:=cW1 2 hR rfl
     have f2:w3.frozen? ⟨w.heap.size,2,none⟩=false:=fW0 _ _ _ _ _ hR
     have g1:=cW1 1 hR rfl
     have f1:w3.frozen? ⟨w.heap.size,1,none⟩=false:=fW0 _ _ _ _ _ hR
     have g0:=cW1 0 hR rfl
     have f0:w3.frozen? ⟨w.heap.size,0,none⟩=false:=fW0 _ _ _ _ _ hR
     have HF:=hI0 (dten_set hR (.int .i64 0) (.int .i64 0) (.int .i64 0) (.int .i64 0) (.slice none 0 0) (.slice none 0 0) (.slice none 0 0) (.slice none 0 0) (.slice none 0 0) (.slice none 0 0))
     have HFB:Hid (Bl w ((((((((((w3.setCell ⟨w.heap.size,0,none⟩ (.int .i64 0)).setCell ⟨w.heap.size,1,none⟩ (.int .i64 0)).setCell ⟨w.heap.size,2,none⟩ (.int .i64 0)).setCell ⟨w.heap.size,3,none⟩ (.int .i64 0)).setCell ⟨w.heap.size,4,none⟩ (.slice none 0 0)).setCell ⟨w.heap.size,5,none⟩ (.slice none 0 0)).setCell ⟨w.heap.size,6,none⟩ (.slice none 0 0)).setCell ⟨w.heap.size,7,none⟩ (.slice none 0 0)).setCell ⟨w.heap.size,8,none⟩ (.slice none 0 0)).setCell ⟨w.heap.size,9,none⟩ (.slice none 0 0))):=hI0 ((HB2.out.trans ((HB3.out).mono (by have:=HLT.out;omega))).trans ((dten_chg w3 w.heap.size (.int .i64 0) (.int .i64 0) (.int .i64 0) (.int .i64 0) (.slice none 0 0) (.slice none 0 0) (.slice none 0 0) (.slice none 0 0) (.slice none 0 0) (.slice none 0 0)).below (B:=w.heap.size) (by have:=(HB3.out).size;have:=HLT.out;omega) (fun i (hi:i=w.heap.size)=>by omega)))
     clear hR
     go_wp2_with fail
     generalize ((((((((((w3.setCell ⟨w.heap.size,0,none⟩ (.int .i64 0)).setCell ⟨w.heap.size,1,none⟩ (.int .i64 0)).setCell ⟨w.heap.size,2,none⟩ (.int .i64 0)).setCell ⟨w.heap.size,3,none⟩ (.int .i64 0)).setCell ⟨w.heap.size,4,none⟩ (.slice none 0 0)).setCell ⟨w.heap.size,5,none⟩ (.slice none 0 0)).setCell ⟨w.heap.size,6,none⟩ (.slice none 0 0)).setCell ⟨w.heap.size,7,none⟩ (.slice none 0 0)).setCell ⟨w.heap.size,8,none⟩ (.slice none 0 0)).setCell ⟨w.heap.size,9,none⟩ (.slice none 0 0))=Z at *
     obtain ⟨y0,y1,y2,y3,y4,y5,y6,y7,y8,y9⟩:=cX10 HF.out
     (try simp only [Exit.inBlock,Exit.then])
     exact bodyPost_ret (v:=.tuple #[.agg cZ0,.int .i64 1,.int .i64 1]) (by simp [results,results15,go_sem,y0,y1,y2,y3,y4,y5,y6,y7,y8,y9]) rfl ⟨by rw [HE.out];first|done|rfl,HFB.out⟩
   ·-- the second line
    obtain rfl:a=0:=hk2 (by omega)
    clear hk2
    have HB3:=hI0 (HP.out.bel.trans (hb3.mono (Nat.le_of_lt HP.out.cur.lt)))
    have hll:l.length≤4294967281:=by omega
    have hcu:=HP.out.cur.below hb3
    rw [enc_cons] at hcu
    have KS:=hI0 (second_any W1.heap.size l S i d _ _ _ _ _ w3 (HE2.out w3 HB3.out) hcu hll)
    clear hcu
    have HX:Hid (∀x4,CurTo W1.heap.size (strB l) (sec4 l).2 (.int .i64 (sec1 l).1::.int .i64 (sec2 l).1::.int .i64 (sec3 l).1::.int .i64 (sec4 l).1::[.slice c.eA c.ents.length c.eC,.slice c.sA c.stms.length c.sC,.slice c.tA c.tabs.length c.tC,.slice c.pA c.pla.length c.pC,.slice c.qA c.pol.length c.qC,.slice c.hA c.hor.length c.hC]) w3 x4→Chg (·=W1.heap.size) wi x4∧CurAt x4 W1.heap.size (strB l) (sec4 l).2.1 (sec4 l).2.2 (secS l c).enc):=hI0 fun x4 hx=>⟨(Chg.of_below hb3 _).trans hx.2 (fun _ _ h=>h),by rw [secS_enc];exact hx.1⟩
    have HSZ:Hid (w3.heap.size≤w3.heap.size):=hI0 (Nat.le_refl _)
    clear KC2 hb3
    go_wp2_with fail
    (with_reducible refine KS.out.mono ?_)
    rintro _ w4 ⟨rfl,hx4⟩
    obtain ⟨hc4,hs4⟩:=HX.out w4 hx4
    have HB4:=hI0 (HP.out.bel.trans (hc4.below (Nat.le_of_lt HP.out.cur.lt) (fun _ e=>by omega)))
    cases hsb:secB l with
    |true=>
     have HP4:=hI0 (HP.out.go2 h8 HC.out hsb hs4 hc4)
     clear KS hx4 hc4 hs4 HX
     go_wp2_with fail
     go_roundw
     case rel=>exact ⟨r,0,3,f,secS l c,_,_,_,rfl,rfl,rfl,⟨by omega,by omega,ha8,by omega,fun h=>by omega⟩,HP4⟩
     case measure=>first|(simp [intOf];done)|(simp [intOf];omega)
    |false=>
     have HE:=hI0 (HP.out.bad h8 HC.out (by unfold stepL;rw [if_neg (by decide),if_pos rfl,hsb];rfl))
     clear KS hx4 hc4 hs4 HX
     have hR:=HROW.out w4 HB4.out
     have g9:=cW1 9 hR rfl
     have f9:w4.frozen? ⟨w.heap.size,9,none⟩=false:=fW0 _ _ _ _ _ hR
     have g8:=cW1 8 hR rfl
     have f8:w4.frozen? ⟨w.heap.size,8,none⟩=false:=fW0 _ _ _ _ _ hR
     have g7:=cW1 7 hR rfl
     have f7:w4.frozen? ⟨w.heap.size,7,none⟩=false:=fW0 _ _ _ _ _ hR
     have g6:=cW1 6 hR rfl
     have f6:w4.frozen? ⟨w.heap.size,6,none⟩=false:=fW0 _ _ _ _ _ hR
     have g5:=cW1 5 hR rfl
     have f5:w4.frozen? ⟨w.heap.size,5,none⟩=false:=fW0 _ _ _ _ _ hR
     have g4:=cW1 4 hR rfl
     have f4:w4.frozen? ⟨w.heap.size,4,none⟩=false:=fW0 _ _ _ _ _ hR
     have g3:=cW1 3 hR rfl
     have f3:w4.frozen? ⟨w.heap.size,3,none⟩=false:=fW0 _ _ _ _ _ hR
     have g2:=cW1 2 hR rfl
     have f2:w4.frozen? ⟨w.heap.size,2,none⟩=false:=fW0 _ _ _ _ _ hR
     have g1:=cW1 1 hR rfl
     have f1:w4.frozen? ⟨w.heap.size,1,none⟩=false:=fW0 _ _ _ _ _ hR
     have g0:=cW1 0 hR rfl
     have f0:w4.frozen? ⟨w.heap.size,0,none⟩=false:=fW0 _ _ _ _ _ hR
     have HF:=hI0 (dten_set hR (.int .i64 0) (.int .i64 0) (.int .i64 0) (.int .i64 0) (.slice none 0 0) (.slice none 0 0) (.slice none 0 0) (.slice none 0 0) (.slice none 0 0) (.slice none 0 0))
     have HFB:Hid (Bl w ((((((((((w4.setCell ⟨w.heap.size,0,none⟩ (.int .i64 0)).setCell ⟨w.heap.size,1,none⟩ (.int .i64 0)).setCell ⟨w.heap.size,2,none⟩ (.int .i64 0)).setCell ⟨w.heap.size,3,none⟩ (.int .i64 0)).setCell ⟨w.heap.size,4,none⟩ (.slice none 0 0)).setCell ⟨w.heap.size,5,none⟩ (.slice none 0 0)).setCell ⟨w.heap.size,6,none⟩ (.slice none 0 0)).setCell ⟨w.heap.size,7,none⟩ (.slice none 0 0)).setCell ⟨w.heap.size,8,none⟩ (.slice none 0 0)).setCell ⟨w.heap.size,9,none⟩ (.slice none 0 0))):=hI0 ((HB2.out.trans ((HB4.out).mono (by have:=HLT.out;omega))).trans ((dten_chg w4 w.heap.size (.int .i64 0) (.int .i64 0) (.int .i64 0) (.int .i64 0) (.slice none 0 0) (.slice none 0 0) (.slice none 0 0) (.slice none 0 0) (.slice none 0 0) (.slice none 0 0)).below (B:=w.heap.size) (by have:=(HB4.out).size;have:=HLT.out;omega) (fun i (hi:i=w.heap.size)=>by omega)))
     clear hR
     go_wp2_with fail
     generalize ((((((((((w4.setCell ⟨w.heap.size,0,none⟩ (.int .i64 0)).setCell ⟨w.heap.size,1,none⟩ (.int .i64 0)).setCell ⟨w.heap.size,2,none⟩ (.int .i64 0)).setCell ⟨w.heap.size,3,none⟩ (.int .i64 0)).setCell ⟨w.heap.size,4,none⟩ (.slice none 0 0)).setCell ⟨w.heap.size,5,none⟩ (.slice none 0 0)).setCell ⟨w.heap.size,6,none⟩ (.slice none 0 0)).setCell ⟨w.heap.size,7,none⟩ (.slice none 0 0)).setCell ⟨w.heap.size,8,none⟩ (.slice none 0 0)).setCell ⟨w.heap.size,9,none⟩ (.slice none 0 0))=Z at *
     obtain ⟨y0,y1,y2,y3,y4,y5,y6,y7,y8,y9⟩:=cX10 HF.out
     (try simp only [Exit.inBlock,Exit.then])
     exact bodyPost_ret (v:=.tuple #[.agg cZ0,.int .i64 2,.int .i64 1]) (by simp [results,results15,go_sem,y0,y1,y2,y3,y4,y5,y6,y7,y8,y9]) rfl ⟨by rw [HE.out];first|done|rfl,HFB.out⟩
   ·-- a line of the body
    clear hk2
    have HB3:=hI0 (HP.out.bel.trans (hb3.mono (Nat.le_of_lt HP.out.cur.lt)))
    have n1:¬(k:Int)=1:=by omega
    have n2:¬(k:Int)=2:=by omega
    have KS:=hI0 (bodyF_any W1.heap.size l a c S i d w3 (HE2.out w3 HB3.out) (HP.out.cur.below hb3) (HP.out.own.chg (Chg.of_below hb3 _)) (HP.out.cnt.mono (by omega)) (by omega) ha8 HP.out.tab)
    unfold BodyQ at KS
    have HB3w:=hI0 (hb3.mono (Nat.le_of_lt HP.out.cur.lt))
    clear KC2 hb3
    go_wp2_with fail
    (with_reducible refine KS.out.mono ?_)
    rintro _ w4 ⟨rfl,c',k',q',he4,hs4,ho4,hb4⟩
    have HB4:=hI0 (HB3.out.trans hb4)
    by_cases hr0:(pBody l a c).2=0
    ·have HE:=hI0 (HP.out.bad h8 HC.out (by unfold stepL;rw [if_neg (by omega),if_neg (by omega),if_pos hr0]))
     clear KS he4 hs4 ho4 hb4
     rw [hr0]
     have hR:=HROW.out w4 HB4.out
     have g9:=cW1 9 hR rfl
     have f9:w4.frozen? ⟨w.heap.size,9,none⟩=false:=fW0 _ _ _ _ _ hR
     have g8:=cW1 8 hR rfl
     have f8:w4.frozen? ⟨w.heap.size,8,none⟩=false:=fW0 _ _ _ _ _ hR
     have g7:=cW1 7 hR rfl
     have f7:w4.frozen? ⟨w.heap.size,7,none⟩=false:=fW0 _ _ _ _ _ hR
     have g6:=cW1 6 hR rfl
     have f6:w4.frozen? ⟨w.heap.size,6,none⟩=false:=fW0 _ _ _ _ _ hR
     have g5:=cW1 5 hR rfl
     have f5:w4.frozen? ⟨w.heap.size,5,none⟩=false:=fW0 _ _ _ _ _ hR
     have g4:=cW1 4 hR rfl
     have f4:w4.frozen? ⟨w.heap.size,4,none⟩=false:=fW0 _ _ _ _ _ hR
     have g3:=cW1 3 hR rfl
     have f3:w4.frozen? ⟨w.heap.size,3,none⟩=false:=fW0 _ _ _ _ _ hR
     have g2:=cW1 2 hR rfl
     have f2:w4.frozen? ⟨w.heap.size,2,none⟩=false:=fW0 _ _ _ _ _ hR
     have g1:=cW1 1 hR rfl
     have f1:w4.frozen? ⟨w.heap.size,1,none⟩=false:=fW0 _ _ _ _ _ hR
     have g0:=cW1 0 hR rfl
     have f0:w4.frozen? ⟨w.heap.size,0,none⟩=false:=fW0 _ _ _ _ _ hR
     have HF:=hI0 (dten_set hR (.int .i64 0) (.int .i64 0) (.int .i64 0) (.int .i64 0) (.slice none 0 0) (.slice none 0 0) (.slice none 0 0) (.slice none 0 0) (.slice none 0 0) (.slice none 0 0))
     have HFB:Hid (Bl w ((((((((((w4.setCell ⟨w.heap.size,0,none⟩ (.int .i64 0)).setCell ⟨w.heap.size,1,none⟩ (.int .i64 0)).setCell ⟨w.heap.size,2,none⟩ (.int .i64 0)).setCell ⟨w.heap.size,3,none⟩ (.int .i64 0)).setCell ⟨w.heap.size,4,none⟩ (.slice none 0 0)).setCell ⟨w.heap.size,5,none⟩ (.slice none 0 0)).setCell ⟨w.heap.size,6,none⟩ (.slice none 0 0)).setCell ⟨w.heap.size,7,none⟩ (.slice none 0 0)).setCell ⟨w.heap.size,8,none⟩ (.slice none 0 0)).setCell ⟨w.heap.size,9,none⟩ (.slice none 0 0))):=hI0 ((HB2.out.trans ((HB4.out).mono (by have:=HLT.out;omega))).trans ((dten_chg w4 w.heap.size (.int .i64 0) (.int .i64 0) (.int .i64 0) (.int .i64 0) (.slice none 0 0) (.slice none 0 0) (.slice none 0 0) (.slice none 0 0) (.slice none 0 0) (.slice none 0 0)).below (B:=w.heap.size) (by have:=(HB4.out).size;have:=HLT.out;omega) (fun i (hi:i=w.heap.size)=>by omega)))
     clear hR
     go_wp2_with fail
     generalize ((((((((((w4.setCell ⟨w.heap.size,0,none⟩ (.int .i64 0)).setCell ⟨w.heap.size,1,none⟩ (.int .i64 0)).setCell ⟨w.heap.size,2,none⟩ (.int .i64 0)).setCell ⟨w.heap.size,3,none⟩ (.int .i64 0)).setCell ⟨w.heap.size,4,none⟩ (.slice none 0 0)).setCell ⟨w.heap.size,5,none⟩ (.slice none 0 0)).setCell ⟨w.heap.size,6,none⟩ (.slice none 0 0)).setCell ⟨w.heap.size,7,none⟩ (.slice none 0 0)).setCell ⟨w.heap.size,8,none⟩ (.slice none 0 0)).setCell ⟨w.heap.size,9,none⟩ (.slice none 0 0))=Z at *
     obtain ⟨y0,y1,y2,y3,y4,y5,y6,y7,y8,y9⟩:=cX10 HF.out
     (try simp only [Exit.inBlock,Exit.then])
     exact bodyPost_ret (v:=.tuple #[.agg cZ0,.int .i64 (k:Int),.int .i64 1]) (by simp [results,results15,go_sem,y0,y1,y2,y3,y4,y5,y6,y7,y8,y9]) rfl ⟨by rw [HE.out];first|done|rfl,HFB.out⟩
    ·have HP4:=hI0 (HP.out.go h8 h3 HC.out hr0 he4 hs4 ho4 (HB3w.out.trans hb4))
     have hr9:(pBody l a c).2≤8:=by
      unfold pBody
      simp only
      split
      ·exact Nat.zero_le _
      ·split
       ·exact Nat.zero_le _
       ·exact rankV_le _
     obtain ⟨rr,hrr⟩:=eN0 ((pBody l a c).2)
     rw [←hrr] at HP4 hr0 hr9 ⊢
     have hgt:(0:Int)<(rr:Int):=by omega
     have hgt2:decide ((0:Int)<(rr:Int))=true:=decide_eq_true hgt
     have hgt3:0<rr:=by omega
     clear KS he4 hs4 ho4 hb4 hrr
     go_wp2_with fail
     go_roundw
     case rel=>exact ⟨r,rr,k+1,f,c',_,_,_,rfl,rfl,by go_num,⟨by omega,by omega,hr9,by omega,fun h=>by omega⟩,HP4⟩
     case measure=>first|(simp [intOf];done)|(simp [intOf];omega)
end Go.Proofs.YtgfhknnklapldaaGreatDoor
namespace Go.Proofs.YtgfhknnklapldaaGreatDoor
open Go.RowKit Go.Lib Go.IntWalk Go.Sort Go.Shelf
def lnI:List (List UInt8)→List UInt8
 |[]=>[]
 |w::its=>w++spc its
theorem lineB_lnI {l:List (List UInt8)} (h:l≠[]):lineB l=lnI l++[10]:=by
 cases l with
 |nil=>exact absurd rfl h
 |cons w its=>exact line_eq w its
def linesT (t:RTv):List (List UInt8):=lnI [wTable,qS t.table]::t.vers.map (fun p=>lnI (verI p.2))
def linesS (c:RSt):List (List UInt8):=[wTitle]++[lnI (stI c)]++c.ents.flatMap (fun x=>[lnI (entI x)])++c.stms.flatMap (fun x=>[lnI (stmI x)])++c.tabs.flatMap linesT++c.pla.flatMap (fun x=>[lnI (hldI x)])++c.pol.flatMap (fun x=>[lnI (polI x)])++c.hor.flatMap (fun x=>[lnI (horI x)])++[lnI [wEnd]]
theorem lnT_flat {α:Type} {f:α→List (List UInt8)} {g:α→List UInt8} (h:∀x,lnT (f x)=g x) (l:List α):lnT (l.flatMap f)=l.flatMap g:=by
 induction l with
 |nil=>rfl
 |cons a r ih=>rw [List.flatMap_cons,List.flatMap_cons,lnT_app,h,ih]
theorem lnT_one (l:List UInt8):lnT [l]=l++[10]:=by simp [lnT]
theorem lnT_tv (t:RTv):lnT (linesT t)=tvT t:=by
 unfold linesT tvT tabT
 rw [lnT_cons,lineB_lnI (by simp),List.append_assoc]
 congr 1
 rw [List.flatMap_map]
 unfold lnT
 rw [List.flatMap_map]
 rw [List.singleton_append]
 congr 1
 congr 1
 funext p
 exact (lineB_lnI (by simp [verI])).symm
theorem textS_eq (c:RSt):textS c=lnT (linesS c):=by
 unfold textS linesS
 simp only [lnT_app]
 rw [lnT_flat (g:=fun x=>lineB (entI x)) (fun x=>by rw [lnT_one,lineB_lnI (by simp [entI])]),lnT_flat (g:=fun x=>lineB (stmI x)) (fun x=>by rw [lnT_one,lineB_lnI (by simp [stmI])]),lnT_flat lnT_tv,
  lnT_flat (g:=fun x=>lineB (hldI x)) (fun x=>by rw [lnT_one,lineB_lnI (by simp [hldI])]),lnT_flat (g:=fun x=>lineB (polI x)) (fun x=>by rw [lnT_one,lineB_lnI (by simp [polI])]),lnT_flat (g:=fun x=>lineB (horI x)) (fun x=>by rw [lnT_one,lineB_lnI (by simp [horI])]),
  lnT_one,lnT_one,lnT_one,lineB_lnI (l:=[wTitle]) (by simp),lineB_lnI (l:=stI c) (by simp [stI]),lineB_lnI (l:=[wEnd]) (by simp)]
 rfl
structure okSt (c:RSt):Prop where
 nums:i64 c.tx∧i64 c.time∧i64 c.wall∧i64 c.next
 ents:∀x∈c.ents,okEn x
 stms:∀x∈c.stms,i64 x.time∧i64 x.wall
 tabs:∀t∈c.tabs,okS t.table∧t.A=none∧t.C=0∧∀p∈t.vers,p=rvP p.2∧okVe p.2
 pla:∀x∈c.pla,okH x
 pol:∀x∈c.pol,okS x.table∧i64 x.keep
 hor:∀x∈c.hor,okS x.table∧i64 x.time
def stN (c:RSt):RSt:=⟨c.tx,c.time,c.wall,c.next,none,0,c.ents,none,0,c.stms,none,0,c.tabs,none,0,c.pla,none,0,c.pol,none,0,c.hor⟩
theorem sec_put {c:RSt} (h1:i64 c.tx) (h2:i64 c.time) (h3:i64 c.wall) (h4:i64 c.next):secB (lnI (stI c))=true∧secS (lnI (stI c)) st0_= { st0_ with tx:=c.tx,time:=c.time,wall:=c.wall,next:=c.next }:=by
 obtain ⟨l,hl⟩:=eN0 (lnI (stI c))
 have e0:secT l=(wState,5,false):=by
  have h:itB l 0=wState:=by
   rw [hl]
   unfold itB
   rw [List.drop_zero]
   exact takeW_put (by decide) (by have:=nxt_spc (l:=[itoa c.tx,itoa c.time,itoa c.wall,itoa c.next]) (suf:=[]) (.inl rfl);simpa using this)
  unfold secT tokI spI
  rw [if_pos rfl]
  simp only [h]
  rfl
 have hb:=Bk.let4 bk_num bk_num bk_num bk_num (fun a b c d=>(a,b,c,d)) (fun p:Int×Int×Int×Int=>[itoa p.1,itoa p.2.1,itoa p.2.2.1,itoa p.2.2.2]) (fun p=>i64 p.1∧i64 p.2.1∧i64 p.2.2.1∧i64 p.2.2.2)
  (by rintro ⟨a,b,c,d⟩ ⟨h1,h2,h3,h4⟩;exact ⟨a,b,c,d,⟨h1,h2,h3,h4⟩,by simp [numI],rfl⟩)
  (by rintro a b c d ⟨h1,h2,h3,h4⟩;exact ⟨⟨h1,h2,h3,h4⟩,by simp [numI]⟩)
 have h:=hb.line (x:=(c.tx,c.time,c.wall,c.next)) ⟨h1,h2,h3,h4⟩ (w:=wState) (by decide)
 have hl2:l=wState++spc [itoa c.tx,itoa c.time,itoa c.wall,itoa c.next]:=hl
 simp only at h
 rw [←hl2] at h
 have h5:(wState.length,false)=(secT l).2:=by rw [e0];rfl
 rw [h5] at h
 rw [←hl]
 have h:(((sec1 l).1,(sec2 l).1,(sec3 l).1,(sec4 l).1),(sec4 l).2)=((c.tx,c.time,c.wall,c.next),l.length,false):=h
 simp only [Prod.mk.injEq] at h
 obtain ⟨⟨g1,g2,g3,g4⟩,g5⟩:=h
 constructor
 ·unfold secB
  rw [e0,g5]
  simp
 ·unfold secS
  rw [g1,g2,g3,g4]
theorem less_no {R a:Nat} (h:a≤R):lessR R a=false:=by
 unfold lessR
 rw [decide_eq_false (by omega)];rfl
theorem run_part {α:Type} {one:Rdr α} {it:α→List (List UInt8)} {ok:α→Prop} (h:Bk one it ok) {R n a:Nat} {w:List UInt8} {x:α} {c c':RSt} (hx:ok x) (hN:NL (it x)) (hn:3≤n) (h8:a≠8) (hw:w≠[]) (h32:∀y∈w,y≠32) (h10:∀y∈w,y≠10) (hR:rankV w=R) (h0:R≠0) (hl:lessR R a=false) (h4:R=4→a=3∨a=4)
  (hp:∀l st,(one l st).1=x→pPart l R c st=(c',(one l st).2)):okRun n [w++spc (it x)] a c R c':=by
 refine okRun_one hn h8 (nl_line h10 hN) h0 (body_put h32 hR hl h4 ?_)
 have k:=h.line hx hw
 rw [hp _ _ (by rw [k]),k]
theorem run_vers {tb:ByteArray} {ts:List RTv}:∀ {vs us:List VP} {n a:Nat} {c:RSt},(∀p∈vs,p=rvP p.2∧okVe p.2)→3≤n→a=3∨a=4→∃a',a'≤4∧okRun n (vs.map (fun p=>lnI (verI p.2))) a { c with tabs:=ts++[⟨tb,none,0,us⟩] } a' { c with tabs:=ts++[⟨tb,none,0,us++vs⟩] }
 |[],us,n,a,c,_,_,ha=>⟨a,by omega,rfl,by simp⟩
 |p::vs,us,n,a,c,h,hn,ha=>by
  have hp:=h p (List.mem_cons_self ..)
  obtain ⟨a2,ha2,h3⟩:=run_vers (tb:=tb) (ts:=ts) (vs:=vs) (us:=us++[p]) (n:=n+1) (a:=4) (c:=c) (fun q hq=>h q (List.mem_cons_of_mem _ hq)) (by omega) (.inr rfl)
  refine ⟨a2,ha2,?_⟩
  have ha:∀ts:List RTv,addVer p (ts++[⟨tb,none,0,us⟩])=ts++[⟨tb,none,0,us++[p]⟩]:=by
   intro ts
   induction ts with
   |nil=>rfl
   |cons x r ih=>
    cases r with
    |nil=>rfl
    |cons y r=>
     simp only [List.cons_append] at ih ⊢
     unfold addVer
     rw [ih]
  have h1:okRun n [wVersion++spc (verI p.2).tail] a { c with tabs:=ts++[⟨tb,none,0,us⟩] } 4 { c with tabs:=ts++[⟨tb,none,0,us++[p]⟩] }:=
   run_part bk_ver (R:=4) (w:=wVersion) hp.2 (nl_ver hp.2) hn (by omega) (by decide) (by decide) (by decide) (by decide) (by decide) (less_no (by omega)) (fun _=> ‹a=3∨a=4›) (fun l st e=>by
    unfold pPart
    simp only [if_neg (by decide:¬(4:Nat)=1),if_neg (by decide:¬(4:Nat)=2),if_neg (by decide:¬(4:Nat)=3),if_true]
    rw [e,←hp.1,ha])
  have h2:us++p::vs=(us++[p])++vs:=by simp
  rw [h2]
  exact okRun_app h1 h3
theorem put_lines {c:RSt} (h:okSt c):okRun 1 (linesS c) 0 st0_ 8 (stN c):=by
 obtain ⟨s1,s2⟩:=sec_put h.nums.1 h.nums.2.1 h.nums.2.2.1 h.nums.2.2.2
 have r1:okRun 1 [wTitle] 0 st0_ 0 st0_:=⟨by decide,by decide,0,st0_,by unfold stepL;rw [if_pos rfl,if_pos rfl],rfl,rfl⟩
 have hN2:∀x∈lnI (stI c),x≠10:=nl_line (w:=wState) (by decide) (NL.cons (nl_itoa _) (NL.cons (nl_itoa _) (NL.cons (nl_itoa _) (NL.one (nl_itoa _)))))
 have r2:okRun 2 [lnI (stI c)] 0 st0_ 0 { st0_ with tx:=c.tx,time:=c.time,wall:=c.wall,next:=c.next }:=⟨by decide,hN2,0,_,by unfold stepL;rw [if_neg (by decide),if_pos rfl,if_pos s1,s2],rfl,rfl⟩
 obtain ⟨n3,hn3⟩:=eN0 (1+([wTitle]++[lnI (stI c)]).length)
 obtain ⟨a3,l3,r3⟩:=okRun_list (ln:=fun x=>[lnI (entI x)]) (add:=fun c xs=> { c with ents:=c.ents++xs }) (B:=1) (fun c=>by simp) (fun c x xs=>by simp) (xs:=c.ents) (fun x hx n hn a ha c=>⟨1,by omega,
  run_part bk_ent (R:=1) (w:=wEntry) (h.ents x hx) (nl_ent (h.ents x hx)) hn (by omega) (by decide) (by decide) (by decide) (by decide) (by decide) (less_no ha) (by omega) (fun l st e=>by unfold pPart;rw [if_pos rfl,e])⟩) (n:=n3) (a:=0) (c:=(⟨c.tx,c.time,c.wall,c.next,none,0,[],none,0,[],none,0,[],none,0,[],none,0,[],none,0,[]⟩:RSt)) (by rw [hn3];simp only [List.length_append,List.length_cons,List.length_nil];omega) (by omega)
 obtain ⟨n4,hn4⟩:=eN0 (1+([wTitle]++[lnI (stI c)]++c.ents.flatMap (fun x=>[lnI (entI x)])).length)
 obtain ⟨a4,l4,r4⟩:=okRun_list (ln:=fun x=>[lnI (stmI x)]) (add:=fun c xs=> { c with stms:=c.stms++xs }) (B:=2) (fun c=>by simp) (fun c x xs=>by simp) (xs:=c.stms) (fun x hx n hn a ha c=>⟨2,by omega,
  run_part bk_stm (R:=2) (w:=wStamp) (h.stms x hx) (NL.cons (nl_itoa _) (NL.one (nl_itoa _))) hn (by omega) (by decide) (by decide) (by decide) (by decide) (by decide) (less_no ha) (by omega) (fun l st e=>by unfold pPart;rw [if_neg (by decide),if_pos rfl,e])⟩) (n:=n4) (a:=a3) (c:=(⟨c.tx,c.time,c.wall,c.next,none,0,c.ents,none,0,[],none,0,[],none,0,[],none,0,[],none,0,[]⟩:RSt)) (by rw [hn4];simp only [List.length_append,List.length_cons,List.length_nil];omega) (by omega)
 obtain ⟨n5,hn5⟩:=eN0 (1+([wTitle]++[lnI (stI c)]++c.ents.flatMap (fun x=>[lnI (entI x)])++c.stms.flatMap (fun x=>[lnI (stmI x)])).length)
 obtain ⟨a5,l5,r5⟩:=okRun_list (ln:=linesT) (add:=fun c xs=> { c with tabs:=c.tabs++xs }) (B:=4) (fun c=>by simp) (fun c x xs=>by simp) (xs:=c.tabs) (fun x hx n hn a ha c=>by
  obtain ⟨t1,t2,t3,t4⟩:=h.tabs x hx
  obtain ⟨tb,A,C,vs⟩:=x
  simp only at t1 t2 t3 t4
  subst t2 t3
  have q1:okRun n [wTable++spc [qS tb]] a c 3 { c with tabs:=c.tabs++[⟨tb,none,0,[]⟩] }:=run_part bk_text (R:=3) (w:=wTable) t1 (NL.one (nl_qS t1)) hn (by omega) (by decide) (by decide) (by decide) (by decide) (by decide) (by
   unfold lessR
   by_cases h4:a=4
   ·subst h4;rfl
   ·rw [decide_eq_false (by omega)];rfl) (by omega) (fun l st e=>by unfold pPart;rw [if_neg (by decide),if_neg (by decide),if_pos rfl,e])
  obtain ⟨a',la,q2⟩:=run_vers (tb:=tb) (ts:=c.tabs) (vs:=vs) (us:=[]) (n:=n+1) (a:=3) (c:=c) t4 (by omega) (.inl rfl)
  exact ⟨a',la,okRun_app q1 q2⟩) (n:=n5) (a:=a4) (c:=(⟨c.tx,c.time,c.wall,c.next,none,0,c.ents,none,0,c.stms,none,0,[],none,0,[],none,0,[],none,0,[]⟩:RSt)) (by rw [hn5];simp only [List.length_append,List.length_cons,List.length_nil];omega) (by omega)
 obtain ⟨n6,hn6⟩:=eN0 (1+([wTitle]++[lnI (stI c)]++c.ents.flatMap (fun x=>[lnI (entI x)])++c.stms.flatMap (fun x=>[lnI (stmI x)])++c.tabs.flatMap linesT).length)
 obtain ⟨a6,l6,r6⟩:=okRun_list (ln:=fun x=>[lnI (hldI x)]) (add:=fun c xs=> { c with pla:=c.pla++xs }) (B:=5) (fun c=>by simp) (fun c x xs=>by simp) (xs:=c.pla) (fun x hx n hn a ha c=>⟨5,by omega,
  run_part bk_hld (R:=5) (w:=wHold) (h.pla x hx) (nl_hld (h.pla x hx)) hn (by omega) (by decide) (by decide) (by decide) (by decide) (by decide) (less_no ha) (by omega) (fun l st e=>by unfold pPart;rw [if_neg (by decide),if_neg (by decide),if_neg (by decide),if_neg (by decide),if_pos rfl,e])⟩) (n:=n6) (a:=a5) (c:=(⟨c.tx,c.time,c.wall,c.next,none,0,c.ents,none,0,c.stms,none,0,c.tabs,none,0,[],none,0,[],none,0,[]⟩:RSt)) (by rw [hn6];simp only [List.length_append,List.length_cons,List.length_nil];omega) (by omega)
 obtain ⟨n7,hn7⟩:=eN0 (1+([wTitle]++[lnI (stI c)]++c.ents.flatMap (fun x=>[lnI (entI x)])++c.stms.flatMap (fun x=>[lnI (stmI x)])++c.tabs.flatMap linesT++c.pla.flatMap (fun x=>[lnI (hldI x)])).length)
 obtain ⟨a7,l7,r7⟩:=okRun_list (ln:=fun x=>[lnI (polI x)]) (add:=fun c xs=> { c with pol:=c.pol++xs }) (B:=6) (fun c=>by simp) (fun c x xs=>by simp) (xs:=c.pol) (fun x hx n hn a ha c=>⟨6,by omega,
  run_part bk_pol (R:=6) (w:=wPolicy) (h.pol x hx) (NL.cons (nl_qS (h.pol x hx).1) (NL.one (nl_itoa _))) hn (by omega) (by decide) (by decide) (by decide) (by decide) (by decide) (less_no ha) (by omega) (fun l st e=>by unfold pPart;rw [if_neg (by decide),if_neg (by decide),if_neg (by decide),if_neg (by decide),if_neg (by decide),if_pos rfl,e])⟩) (n:=n7) (a:=a6) (c:=(⟨c.tx,c.time,c.wall,c.next,none,0,c.ents,none,0,c.stms,none,0,c.tabs,none,0,c.pla,none,0,[],none,0,[]⟩:RSt)) (by rw [hn7];simp only [List.length_append,List.length_cons,List.length_nil];omega) (by omega)
 obtain ⟨n8,hn8⟩:=eN0 (1+([wTitle]++[lnI (stI c)]++c.ents.flatMap (fun x=>[lnI (entI x)])++c.stms.flatMap (fun x=>[lnI (stmI x)])++c.tabs.flatMap linesT++c.pla.flatMap (fun x=>[lnI (hldI x)])++c.pol.flatMap (fun x=>[lnI (polI x)])).length)
 obtain ⟨a8,l8,r8⟩:=okRun_list (ln:=fun x=>[lnI (horI x)]) (add:=fun c xs=> { c with hor:=c.hor++xs }) (B:=7) (fun c=>by simp) (fun c x xs=>by simp) (xs:=c.hor) (fun x hx n hn a ha c=>⟨7,by omega,
  run_part bk_hor (R:=7) (w:=wHorizon) (h.hor x hx) (NL.cons (nl_qS (h.hor x hx).1) (NL.one (nl_itoa _))) hn (by omega) (by decide) (by decide) (by decide) (by decide) (by decide) (less_no ha) (by omega) (fun l st e=>by unfold pPart;rw [if_neg (by decide),if_neg (by decide),if_neg (by decide),if_neg (by decide),if_neg (by decide),if_neg (by decide),if_pos rfl,e])⟩) (n:=n8) (a:=a7) (c:=(⟨c.tx,c.time,c.wall,c.next,none,0,c.ents,none,0,c.stms,none,0,c.tabs,none,0,c.pla,none,0,c.pol,none,0,[]⟩:RSt)) (by rw [hn8];simp only [List.length_append,List.length_cons,List.length_nil];omega) (by omega)
 unfold linesS
 have r9:∀(n:Nat) (c:RSt),3≤n→okRun n [lnI [wEnd]] a8 c 8 c:=fun n c hn=>okRun_one hn (by omega) (by decide) (by decide) (body_put (w:=wEnd) (its:=[]) (by decide) (by decide) (less_no (by omega)) (by omega) (by
  unfold pPart
  rw [if_neg (by decide),if_neg (by decide),if_neg (by decide),if_neg (by decide),if_neg (by decide),if_neg (by decide),if_neg (by decide)]
  rfl))
 rw [hn3] at r3
 rw [hn4] at r4
 rw [hn5] at r5
 rw [hn6] at r6
 rw [hn7] at r7
 rw [hn8] at r8
 exact okRun_app (okRun_app (okRun_app (okRun_app (okRun_app (okRun_app (okRun_app (okRun_app r1 r2) r3) r4) r5) r6) r7) r8) (r9 _ _ (by simp only [List.length_append,List.length_cons,List.length_nil];omega))
theorem torn_all {c:RSt} (h:okSt c) {p s:List UInt8} (he:p++s=textS c) (hs:s≠[]):pAll p=(st0_,p.count 10+1,2):=by
 unfold pAll
 rw [okRun_torn (put_lines h) (by rw [he,textS_eq]) hs (by have:=List.count_le_length (a:=(10:UInt8)) (l:=p);omega),Nat.add_comm]
end Go.Proofs.YtgfhknnklapldaaGreatDoor
namespace Go.Proofs.YtgfhknnklapldaaGreatDoor
open Go.RowKit Go.Lib Go.IntWalk Go.Sort Go.Shelf
theorem fm_congr {α β:Type} {f g:α→List β}:∀ {l:List α},(∀x∈l,f x=g x)→l.flatMap f=l.flatMap g
 |[],_=>rfl
 |x::l,h=>by rw [List.flatMap_cons,List.flatMap_cons,h x (List.mem_cons_self ..),fm_congr (l:=l) (fun y hy=>h y (List.mem_cons_of_mem _ hy))]
theorem okS_nm {s:ByteArray} (h:nmB s=true):okS s:=fun c hc=>by
 unfold nmB nmW at h
 simp only [Bool.and_eq_true,List.all_eq_true] at h
 have h1:=h.2 c hc
 unfold chW at h1
 unfold chP
 simp only [decide_eq_true_eq] at h1 ⊢
 omega
theorem ba_nil {s:ByteArray} (h:s.data.toList=[]):s=⟨#[]⟩:=by
 obtain ⟨⟨l⟩⟩:=s
 simp only at h
 rw [h]
theorem ba_emp {s:ByteArray} (h:s.toList.isEmpty=true):s=⟨#[]⟩:=by
 rw [ByteArray.toList_eq,List.isEmpty_iff] at h
 exact ba_nil h
theorem okS_nil:okS ⟨#[]⟩:=fun c hc=>by cases hc
theorem okS_em {s:ByteArray} (h:emW s=true):okS s:=by
 unfold emW at h
 rw [Bool.or_eq_true] at h
 rcases h with h|h
 ·rw [ba_emp h];exact okS_nil
 ·exact okS_nm h
theorem okVa_of {v:Val} (h:validV v=true):okVa v:=by
 obtain ⟨k,n,t⟩:=v
 unfold validV at h
 simp only at h
 split at h
 ·rename_i h1
  simp only [Bool.and_eq_true,beq_iff_eq] at h
  left
  rw [h1,h.1,ba_nil h.2];rfl
 ·split at h
  ·rename_i h1
   simp only [Bool.and_eq_true,beq_iff_eq,decide_eq_true_eq] at h
   right;left
   exact ⟨h1,by show i64 n;unfold i64;omega,ba_nil h.2⟩
  ·split at h
   ·rename_i h1
    simp only [Bool.and_eq_true,beq_iff_eq,decide_eq_true_eq] at h
    right;right;left
    refine ⟨h1,h.1.1,fun c hc=>?_⟩
    have h2:=h.2
    unfold printB at h2
    rw [List.all_eq_true] at h2
    have h3:=h2 c hc
    unfold chP
    simp only [Bool.and_eq_true,decide_eq_true_eq,UInt8.le_iff_toNat_le] at h3 ⊢
    exact ⟨by have:=h3.1;have e:(32:UInt8).toNat=32:=rfl;omega,by have:=h3.2;have e:(126:UInt8).toNat=126:=rfl;omega⟩
   ·split at h
    ·rename_i h1
     simp only [Bool.and_eq_true,Bool.or_eq_true,beq_iff_eq] at h
     right;right;right
     exact ⟨h1,h.1,ba_nil h.2⟩
    ·cases h
theorem okE_of:∀(d:Nat) (e:RE),okX d e=true→e.nodes≤1048576→okE d e.er:=by
 intro d
 induction d with
 |zero=>intro e h;simp [okX] at h
 |succ d ih=>
  intro e h hn
  obtain ⟨op,it,val,nm,A,c,args⟩:=e
  simp only [okX,Bool.and_eq_true,decide_eq_true_eq,List.all_eq_true] at h
  obtain ⟨h1,h2,hv,hm,hc,ha⟩:=h
  simp only [RE.nodes,nodesL_sum] at hn
  have hl:=szL_len (sz:=RE.nodes) RE.nodes_pos args
  unfold szL at hl
  rw [reErQ]
  refine ⟨by unfold i64;omega,by unfold i64;omega,okVa_of hv,hc,rfl,rfl,fun x hx=>?_,by rw [List.length_map];omega⟩
  obtain ⟨y,hy,rfl⟩:=List.mem_map.1 hx
  refine ih y (ha y hy) ?_
  have:=szL_mem (sz:=RE.nodes) hy
  unfold szL at this
  omega
theorem okC_of {x:RCol} (h:x.ok=true):okC x:=by
 unfold RCol.ok at h
 simp only [Bool.and_eq_true,decide_eq_true_eq] at h
 exact ⟨okS_nm h.1,by unfold i64;omega⟩
theorem okIx_of {l:List Int} (h:ixF l=true):okL i64 l:=by
 obtain ⟨h1,h2,_⟩:=ix_le h
 exact ⟨fun n hn=>by have:=h2 n hn;unfold i64;omega,by omega⟩
theorem okT_of {t:RTab} (h:t.ok=true) (hz:t.sz≤1048576):okT t.er:=by
 unfold RTab.ok at h
 simp only [Bool.and_eq_true,decide_eq_true_eq,List.all_eq_true] at h
 obtain ⟨h1,h2,h3,h4,h5,h6,h7,h8⟩:=h
 unfold RTab.sz at hz
 refine ⟨okS_nm h1,⟨fun x hx=>okC_of (h6 x hx),by show t.cols.length≤_;omega⟩,okIx_of h3,⟨fun x hx=>?_,by show (t.fors.map RFor.er).length≤_;rw [List.length_map];omega⟩,⟨fun x hx=>?_,by show (t.chks.map RE.er).length≤_;rw [List.length_map];omega⟩,rfl,rfl,rfl,rfl,rfl,rfl,rfl,rfl⟩
 ·obtain ⟨y,hy,rfl⟩:=List.mem_map.1 hx
  have k:=h7 y hy
  unfold RFor.ok at k
  rw [Bool.and_eq_true] at k
  exact ⟨okIx_of k.1,okS_nm k.2,rfl,rfl⟩
 ·obtain ⟨y,hy,rfl⟩:=List.mem_map.1 hx
  exact okE_of 24 y (h8 y hy) (by have:=szL_mem (sz:=RE.nodes) hy;omega)
theorem chn_zero {x:Chn} (h:x.zero=true):x=chn0:=by
 obtain ⟨a,b,c,d,e,f,g,i,j⟩:=x
 unfold Chn.zero at h
 simp only [Bool.and_eq_true,decide_eq_true_eq,Bool.not_eq_true'] at h
 obtain ⟨h1,h2,h3,h4,h5,h6,h7,h8,h9⟩:=h
 rw [h1,ba_emp h2,ba_emp h3,ba_emp h4,h5,h6,h7,h8,ba_emp h9]
 rfl
theorem tab_blank {t:RTab} (h:t.blank=true):t.er=tab0:=by
 unfold RTab.blank at h
 rw [Bool.and_eq_true,decide_eq_true_eq] at h
 obtain ⟨h1,h2⟩:=h
 have e1:=List.length_eq_zero_iff.1 (show t.cols.length=0 by omega)
 have e2:=List.length_eq_zero_iff.1 (show t.key.length=0 by omega)
 have e3:=List.length_eq_zero_iff.1 (show t.fors.length=0 by omega)
 have e4:=List.length_eq_zero_iff.1 (show t.chks.length=0 by omega)
 unfold RTab.er
 rw [e1,e2,e3,e4,ba_emp h1]
 rfl
theorem okEn_of {x:REn} (h:x.ok=true) (hz:x.sz≤1048576):okEn x.er:=by
 unfold REn.sz at hz
 unfold REn.ok instB at h
 rw [Bool.and_eq_true,Bool.and_eq_true,decide_eq_true_eq] at h
 obtain ⟨h1,h2,h3⟩:=h
 by_cases hk:x.change.kind=0
 ·rw [if_pos hk,Bool.and_eq_true,Bool.and_eq_true] at h3
  refine ⟨by show i64 x.time;unfold i64;omega,okS_nm h2,by show i64 x.change.kind;unfold i64;omega,?_⟩
  show okR x.change.kind (x.create.er,x.change)
  unfold okR
  rw [if_pos hk]
  exact ⟨okT_of h3.2.1 (by omega),chn_zero h3.1⟩
 ·rw [if_neg hk,Bool.and_eq_true] at h3
  have q:=chn_le h3.1
  have hc:=h3.1
  unfold Chn.ok at hc
  simp only [Bool.and_eq_true,decide_eq_true_eq] at hc
  obtain ⟨g1,g2,g3,g4,g5,g6⟩:=hc
  refine ⟨by show i64 x.time;unfold i64;omega,okS_nm h2,by show i64 x.change.kind;unfold i64;omega,?_⟩
  show okR x.change.kind (x.create.er,x.change)
  unfold okR
  rw [if_neg hk]
  exact ⟨tab_blank h3.2,rfl,okS_em g1,okS_em g2,⟨okS_em g3,by show i64 x.change.ckind;unfold i64;omega⟩,okVa_of g6⟩
theorem okSt_of {w0:World} {c:RSt} (h:stateF c=0) (hl:c.lim w0):okSt c.er:=by
 have D:=du_W h hl
 obtain ⟨_,_,_,g3,g4,g5,g6⟩:=st_ok h
 have hi:∀n:Int,0≤n→n≤1125899906842624→i64 n:=fun n h1 h2=>by unfold i64;omega
 refine ⟨⟨hi _ D.tx.1 D.tx.2,hi _ D.time.1 (by have:=D.time.2;show c.time≤_;omega),hi _ D.wall.1 (by have:=D.wall.2;show c.wall≤_;omega),hi _ (by have:=D.next.1;show 0≤c.next;omega) D.next.2⟩,fun x hx=>?_,fun x hx=>?_,fun t ht=>?_,fun x hx=>?_,fun x hx=>?_,fun x hx=>?_⟩
 ·obtain ⟨y,hy,rfl⟩:=List.mem_map.1 hx
  exact okEn_of (D.ents y hy).1 (D.ents y hy).2
 ·have k:=D.stms x hx
  exact ⟨hi _ k.1.1 (by omega),hi _ k.2.1 (by omega)⟩
 ·obtain ⟨y,hy,rfl⟩:=List.mem_map.1 ht
  refine ⟨okS_nm (g3 y hy).1,rfl,rfl,fun p hp=>?_⟩
  obtain ⟨q,hq,rfl⟩:=List.mem_map.1 hp
  obtain ⟨⟨b1,b2,b3,b4⟩,b5,b6,b7⟩:=ver_bd ((D.tabs y hy).2 q hq)
  refine ⟨rfl,hi _ (by show 0≤q.2.id;omega) (by show q.2.id≤_;omega),hi _ (by show 0≤q.2.sch;omega) (by show q.2.sch≤_;omega),⟨fun v hv=>okVa_of (b6 v hv),by show q.2.row.length≤_;omega⟩,⟨hi _ (by show 0≤q.2.vf;omega) (by show q.2.vf≤_;omega),hi _ (by show 0≤q.2.vt;omega) (by show q.2.vt≤_;omega)⟩,⟨hi _ (by show 0≤q.2.sf;omega) (by show q.2.sf≤_;omega),hi _ (by show 0≤q.2.st;omega) (by show q.2.st≤_;omega)⟩,hi _ (by show 0≤q.2.by_;omega) (by show q.2.by_≤_;omega),hi _ (by show 0≤q.2.un;omega) (by show q.2.un≤_;omega)⟩
 ·have k:=(D.pla x hx).2
  have hn:=g4 x hx
  unfold Hld.ok at hn
  rw [Bool.and_eq_true,Bool.and_eq_true] at hn
  exact ⟨okS_nm hn.1,okS_nm hn.2.1,⟨hi _ (by omega) (by omega),hi _ (by omega) (by omega)⟩,⟨hi _ (by omega) (by omega),hi _ (by omega) (by omega)⟩⟩
 ·have k:=(D.pol x hx).2
  have hn:=g5 x hx
  unfold Pol.ok at hn
  rw [Bool.and_eq_true] at hn
  exact ⟨okS_nm hn.1,hi _ (by omega) (by omega)⟩
 ·have k:=(D.hor x hx).2
  have hn:=g6 x hx
  unfold Hor.ok at hn
  rw [Bool.and_eq_true] at hn
  exact ⟨okS_nm hn.1,hi _ (by omega) (by omega)⟩
/-! addresses are not printed -/
theorem exI_er:∀e:RE,exI e.er=exI e:=by
 have h:∀(n:Nat) (e:RE),e.nodes≤n→exI e.er=exI e:=by
  intro n
  induction n with
  |zero=>intro e h;have:=e.nodes_pos;omega
  |succ n ih=>
   intro e h
   obtain ⟨op,it,val,nm,A,c,args⟩:=e
   rw [reErQ,exI_eq,exI_eq]
   congr 1
   unfold lstI
   rw [List.length_map,List.flatMap_map]
   congr 1
   refine fm_congr fun x hx=>ih x ?_
   have h2:=nodes_mem hx
   simp only [RE.nodes,nodesL_sum] at h
   omega
 exact fun e=>h e.nodes e (Nat.le_refl _)
theorem lstI_map {α:Type} {f:α→List (List UInt8)} {g:α→α} (h:∀x,f (g x)=f x) (l:List α):lstI f (l.map g)=lstI f l:=by
 unfold lstI
 rw [List.length_map,List.flatMap_map]
 congr 1
 exact fm_congr fun x _=>h x
theorem tabI_er (t:RTab):tabI t.er=tabI t:=by
 unfold tabI RTab.er
 simp only
 rw [lstI_map (f:=forI) (g:=RFor.er) (fun _=>rfl),lstI_map (f:=exI) exI_er]
theorem entI_er (x:REn):entI x.er=entI x:=by
 unfold entI REn.er
 simp only [tabI_er]
theorem textS_er (c:RSt):textS c.er=textS c:=by
 unfold textS RSt.er
 simp only [List.flatMap_map,entI_er]
 congr 1
 congr 1
 congr 1
 congr 1
 congr 1
 refine fm_congr fun t _=>?_
 unfold tvT RTv.er
 simp only [List.map_map]
 rfl
theorem torn_txt {w0:World} {c:RSt} (h:stateF c=0) (hl:c.lim w0) {p s:List UInt8} (he:p++s=textS c) (hs:s≠[]):pAll p=(st0_,p.count 10+1,2):=
 torn_all (okSt_of h hl) (by rw [textS_er];exact he) hs
end Go.Proofs.YtgfhknnklapldaaGreatDoor
namespace Go.Proofs.YtgfhknnklapldaaGreatDoor
open Go.Proofs.Tryz
set_option maxRecDepth 99999
set_option maxHeartbeats 0
open Go.RowKit Go.Lib Go.IntWalk Go.Sort Go.Shelf
theorem dset9 {w:World} {T:Nat} {a0 a1 a2 a3 a4 a5 a6 a7 a8:Value} {e:TypeId} (h:w.heap[T]? =some (.cells #[a0,a1,a2,a3,a4,a5,a6,a7,a8] e (0,0))) (c0 c1 c2 c3 c4 c5 c6 c7 c8:Value):(((((((((w.setCell ⟨T,0,none⟩ c0).setCell ⟨T,1,none⟩ c1).setCell ⟨T,2,none⟩ c2).setCell ⟨T,3,none⟩ c3).setCell ⟨T,4,none⟩ c4).setCell ⟨T,5,none⟩ c5).setCell ⟨T,6,none⟩ c6).setCell ⟨T,7,none⟩ c7).setCell ⟨T,8,none⟩ c8).heap[T]? =some (.cells #[c0,c1,c2,c3,c4,c5,c6,c7,c8] e (0,0)):=by
 have h0:=heap_setCell_same w T 0 _ _ c0 h
 have h1:=heap_setCell_same _ T 1 _ _ c1 h0
 have h2:=heap_setCell_same _ T 2 _ _ c2 h1
 have h3:=heap_setCell_same _ T 3 _ _ c3 h2
 have h4:=heap_setCell_same _ T 4 _ _ c4 h3
 have h5:=heap_setCell_same _ T 5 _ _ c5 h4
 have h6:=heap_setCell_same _ T 6 _ _ c6 h5
 have h7:=heap_setCell_same _ T 7 _ _ c7 h6
 have h8:=heap_setCell_same _ T 8 _ _ c8 h7
 simpa using h8
theorem dchg9 (w:World) (T:Nat) (c0 c1 c2 c3 c4 c5 c6 c7 c8:Value):Chg (·=T) w (((((((((w.setCell ⟨T,0,none⟩ c0).setCell ⟨T,1,none⟩ c1).setCell ⟨T,2,none⟩ c2).setCell ⟨T,3,none⟩ c3).setCell ⟨T,4,none⟩ c4).setCell ⟨T,5,none⟩ c5).setCell ⟨T,6,none⟩ c6).setCell ⟨T,7,none⟩ c7).setCell ⟨T,8,none⟩ c8):=((((((((((Chg.refl (·=T) w).setCell (p:=⟨T,0,none⟩) (.inl rfl) c0).setCell (p:=⟨T,1,none⟩) (.inl rfl) c1).setCell (p:=⟨T,2,none⟩) (.inl rfl) c2).setCell (p:=⟨T,3,none⟩) (.inl rfl) c3).setCell (p:=⟨T,4,none⟩) (.inl rfl) c4).setCell (p:=⟨T,5,none⟩) (.inl rfl) c5).setCell (p:=⟨T,6,none⟩) (.inl rfl) c6).setCell (p:=⟨T,7,none⟩) (.inl rfl) c7).setCell (p:=⟨T,8,none⟩) (.inl rfl) c8)
def rowQ:List Val:=[⟨1,1,⟨#[]⟩⟩,⟨2,0,⟨#[105,116,39,115]⟩⟩]
def verQ:Ver:=⟨7,0,rowQ,0,5,10,1099511627776,2,0⟩
def rvQ (A:Option Addr):RV:=⟨7,0,A,2,2,0,5,10,1099511627776,2,0⟩
def tvQ (A B:Option Addr):RTv:=⟨⟨#[116]⟩,B,1,[(rvQ A,verQ)]⟩
def tTab:List UInt8:=[116,97,98,108,101,32,39,116,39,10,118,101,114,115,105,111,110,32,55,32,48,32,50,32,49,32,39,105,116,39,39,115,39,32,48,32,53,32,49,48,32,49,48,57,57,53,49,49,54,50,55,55,55,54,32,50,32,48,10]
theorem txQ:txT sW0=tW0:=by
 unfold txT
 rw [if_pos sW0_f]
 kernel_rfl
theorem tabQ (A B:Option Addr):tabE (tvQ A B).table ((tvQ A B).vers.map (·.2))=0:=by kernel_rfl
theorem dtQ (A B:Option Addr):dtT (tvQ A B)=tTab:=by
 unfold dtT
 rw [if_pos (tabQ A B)]
 kernel_rfl
theorem works_any (w:World) (he:EnvD w):Calls prog 9 #[] w fun e w'=>e=.returned (.bool true)∧Bl w w':=by
 have HE:=hI0 he
 have KX:Hid (∀W,Bl w W→Calls prog 10 #[.agg #[.int .i64 0,.int .i64 0,.int .i64 0,.int .i64 1,.slice none 0 0,.slice none 0 0,.slice none 0 0,.slice none 0 0,.slice none 0 0,.slice none 0 0]] W fun e w'=>e=.returned (.tuple #[.string (strB tW0),.int .i64 0])∧Bl W w'):=hI0 (fun W hb=>by
  have k:=dtext_any sW0 W (he.below hb) (sW0_is _ _) (sW0_lim _)
  unfold TxOut at k
  rw [txQ,sW0_f] at k
  exact k)
 have hT0:(strB tW0).toList=[98,105,116,101,109,112,111,114,97,108,32,100,117,109,112,32,49,10,115,116,97,116,101,32,48,32,48,32,48,32,49,10,101,110,100,10]:=by rw [ByteArray.toList_eq,bas_s];rfl
 have hTT:(strB tTab).toList=[116,97,98,108,101,32,39,116,39,10,118,101,114,115,105,111,110,32,55,32,48,32,50,32,49,32,39,105,116,39,39,115,39,32,48,32,53,32,49,48,32,49,48,57,57,53,49,49,54,50,55,55,55,54,32,50,32,48,10]:=by rw [ByteArray.toList_eq,bas_s];rfl
 clear he
 go_in
 go_wp2_with fail
 (with_reducible refine (KX.out w (Below.refl _ _)).mono ?_)
 rintro _ w1 ⟨rfl,hb1⟩
 have HB1:=hI0 hb1
 have KP:=hI0 (parse0_any w1 (HE.out.below hb1))
 clear hb1 KX
 generalize strB tW0=S0 at *
 go_wp2_with fail
 (with_reducible refine KP.out.mono ?_)
 rintro _ w2 ⟨rfl,hb2⟩
 have HB2:=bT0 HB1 hb2
 clear hb2 KP HB1
 obtain ⟨W2,hW2⟩:=eN0 (w2.alloc (.cells cZ0 29))
 have hbW2:=bN0 hW2
 have hnW2:=hN0 hW2
 have eW2:w2.alloc (.cells cZ0 29)=W2:=by rw [hW2]
 clear hW2
 have g9:=cW1 9 hnW2 rfl
 have f9:W2.frozen? ⟨w2.heap.size,9,none⟩=false:=fW0 _ _ _ _ _ hnW2
 have g8:=cW1 8 hnW2 rfl
 have f8:W2.frozen? ⟨w2.heap.size,8,none⟩=false:=fW0 _ _ _ _ _ hnW2
 have g7:=cW1 7 hnW2 rfl
 have f7:W2.frozen? ⟨w2.heap.size,7,none⟩=false:=fW0 _ _ _ _ _ hnW2
 have g6:=cW1 6 hnW2 rfl
 have f6:W2.frozen? ⟨w2.heap.size,6,none⟩=false:=fW0 _ _ _ _ _ hnW2
 have g5:=cW1 5 hnW2 rfl
 have f5:W2.frozen? ⟨w2.heap.size,5,none⟩=false:=fW0 _ _ _ _ _ hnW2
 have g4:=cW1 4 hnW2 rfl
 have f4:W2.frozen? ⟨w2.heap.size,4,none⟩=false:=fW0 _ _ _ _ _ hnW2
 have g3:=cW1 3 hnW2 rfl
 have f3:W2.frozen? ⟨w2.heap.size,3,none⟩=false:=fW0 _ _ _ _ _ hnW2
 have g2:=cW1 2 hnW2 rfl
 have f2:W2.frozen? ⟨w2.heap.size,2,none⟩=false:=fW0 _ _ _ _ _ hnW2
 have g1:=cW1 1 hnW2 rfl
 have f1:W2.frozen? ⟨w2.heap.size,1,none⟩=false:=fW0 _ _ _ _ _ hnW2
 have g0:=cW1 0 hnW2 rfl
 have f0:W2.frozen? ⟨w2.heap.size,0,none⟩=false:=fW0 _ _ _ _ _ hnW2
 obtain ⟨W3,hW3⟩:=eN0 (((((((((((W2.setCell ⟨w2.heap.size,0,none⟩ (.int .i64 0)).setCell ⟨w2.heap.size,1,none⟩ (.int .i64 0)).setCell ⟨w2.heap.size,2,none⟩ (.int .i64 0)).setCell ⟨w2.heap.size,3,none⟩ (.int .i64 1)).setCell ⟨w2.heap.size,4,none⟩ (.slice none 0 0)).setCell ⟨w2.heap.size,5,none⟩ (.slice none 0 0)).setCell ⟨w2.heap.size,6,none⟩ (.slice none 0 0)).setCell ⟨w2.heap.size,7,none⟩ (.slice none 0 0)).setCell ⟨w2.heap.size,8,none⟩ (.slice none 0 0)).setCell ⟨w2.heap.size,9,none⟩ (.slice none 0 0)):World)
 have hnW3:W3.heap[w2.heap.size]? =some (.cells #[.int .i64 0,.int .i64 0,.int .i64 0,.int .i64 1,.slice none 0 0,.slice none 0 0,.slice none 0 0,.slice none 0 0,.slice none 0 0,.slice none 0 0] 29 (0,0)):=by rw [hW3];exact dten_set hnW2 (.int .i64 0) (.int .i64 0) (.int .i64 0) (.int .i64 1) (.slice none 0 0) (.slice none 0 0) (.slice none 0 0) (.slice none 0 0) (.slice none 0 0) (.slice none 0 0)
 have hbW3:Bl w2 W3:=by rw [hW3];exact hbW2.trans ((dten_chg W2 w2.heap.size (.int .i64 0) (.int .i64 0) (.int .i64 0) (.int .i64 1) (.slice none 0 0) (.slice none 0 0) (.slice none 0 0) (.slice none 0 0) (.slice none 0 0) (.slice none 0 0)).below (B:=w2.heap.size) hbW2.size (fun i (hi:i=w2.heap.size)=>by omega))
 have eW3:((((((((((W2.setCell ⟨w2.heap.size,0,none⟩ (.int .i64 0)).setCell ⟨w2.heap.size,1,none⟩ (.int .i64 0)).setCell ⟨w2.heap.size,2,none⟩ (.int .i64 0)).setCell ⟨w2.heap.size,3,none⟩ (.int .i64 1)).setCell ⟨w2.heap.size,4,none⟩ (.slice none 0 0)).setCell ⟨w2.heap.size,5,none⟩ (.slice none 0 0)).setCell ⟨w2.heap.size,6,none⟩ (.slice none 0 0)).setCell ⟨w2.heap.size,7,none⟩ (.slice none 0 0)).setCell ⟨w2.heap.size,8,none⟩ (.slice none 0 0)).setCell ⟨w2.heap.size,9,none⟩ (.slice none 0 0))=W3:=by rw [hW3]
 clear hW3
 obtain ⟨W4,hW4⟩:=eN0 (W3.alloc (.cells #[.int .i64 1,.int .i64 1,.string ⟨#[]⟩,.int .i64 2,.int .i64 0,.string ⟨#[105,116,39,115]⟩] 51))
 have hbW4:=bN0 hW4
 have hnW4:=hN0 hW4
 have eW4:W3.alloc (.cells #[.int .i64 1,.int .i64 1,.string ⟨#[]⟩,.int .i64 2,.int .i64 0,.string ⟨#[105,116,39,115]⟩] 51)=W4:=by rw [hW4]
 clear hW4
 obtain ⟨WZ,hWZ⟩:=eN0 (W4.alloc (.cells #[.int .i64 0,.int .i64 0,.slice none 0 0,.int .i64 0,.int .i64 0,.int .i64 0,.int .i64 0,.int .i64 0,.int .i64 0] 56))
 have hbWZ:=bN0 hWZ
 have hnWZ:=hN0 hWZ
 have eWZ:W4.alloc (.cells #[.int .i64 0,.int .i64 0,.slice none 0 0,.int .i64 0,.int .i64 0,.int .i64 0,.int .i64 0,.int .i64 0,.int .i64 0] 56)=WZ:=by rw [hWZ]
 clear hWZ
 have k8:=cW1 8 hnWZ rfl
 have q8:WZ.frozen? ⟨W4.heap.size,8,none⟩=false:=fW0 _ _ _ _ _ hnWZ
 have k7:=cW1 7 hnWZ rfl
 have q7:WZ.frozen? ⟨W4.heap.size,7,none⟩=false:=fW0 _ _ _ _ _ hnWZ
 have k6:=cW1 6 hnWZ rfl
 have q6:WZ.frozen? ⟨W4.heap.size,6,none⟩=false:=fW0 _ _ _ _ _ hnWZ
 have k5:=cW1 5 hnWZ rfl
 have q5:WZ.frozen? ⟨W4.heap.size,5,none⟩=false:=fW0 _ _ _ _ _ hnWZ
 have k4:=cW1 4 hnWZ rfl
 have q4:WZ.frozen? ⟨W4.heap.size,4,none⟩=false:=fW0 _ _ _ _ _ hnWZ
 have k3:=cW1 3 hnWZ rfl
 have q3:WZ.frozen? ⟨W4.heap.size,3,none⟩=false:=fW0 _ _ _ _ _ hnWZ
 have k2:=cW1 2 hnWZ rfl
 have q2:WZ.frozen? ⟨W4.heap.size,2,none⟩=false:=fW0 _ _ _ _ _ hnWZ
 have k1:=cW1 1 hnWZ rfl
 have q1:WZ.frozen? ⟨W4.heap.size,1,none⟩=false:=fW0 _ _ _ _ _ hnWZ
 have k0:=cW1 0 hnWZ rfl
 have q0:WZ.frozen? ⟨W4.heap.size,0,none⟩=false:=fW0 _ _ _ _ _ hnWZ
 obtain ⟨W5,hW5⟩:=eN0 ((((((((((WZ.setCell ⟨W4.heap.size,0,none⟩ (.int .i64 7)).setCell ⟨W4.heap.size,1,none⟩ (.int .i64 0)).setCell ⟨W4.heap.size,2,none⟩ (.slice (some ⟨W3.heap.size,0,none⟩) 2 2)).setCell ⟨W4.heap.size,3,none⟩ (.int .i64 0)).setCell ⟨W4.heap.size,4,none⟩ (.int .i64 5)).setCell ⟨W4.heap.size,5,none⟩ (.int .i64 10)).setCell ⟨W4.heap.size,6,none⟩ (.int .i64 1099511627776)).setCell ⟨W4.heap.size,7,none⟩ (.int .i64 2)).setCell ⟨W4.heap.size,8,none⟩ (.int .i64 0)):World)
 have hnW5:W5.heap[W4.heap.size]? =some (.cells #[.int .i64 7,.int .i64 0,.slice (some ⟨W3.heap.size,0,none⟩) 2 2,.int .i64 0,.int .i64 5,.int .i64 10,.int .i64 1099511627776,.int .i64 2,.int .i64 0] 56 (0,0)):=by rw [hW5];exact dset9 hnWZ (.int .i64 7) (.int .i64 0) (.slice (some ⟨W3.heap.size,0,none⟩) 2 2) (.int .i64 0) (.int .i64 5) (.int .i64 10) (.int .i64 1099511627776) (.int .i64 2) (.int .i64 0)
 have hbW5:Bl W4 W5:=by rw [hW5];exact hbWZ.trans ((dchg9 WZ W4.heap.size (.int .i64 7) (.int .i64 0) (.slice (some ⟨W3.heap.size,0,none⟩) 2 2) (.int .i64 0) (.int .i64 5) (.int .i64 10) (.int .i64 1099511627776) (.int .i64 2) (.int .i64 0)).below (B:=W4.heap.size) hbWZ.size (fun i (hi:i=W4.heap.size)=>by omega))
 have eW5:(((((((((WZ.setCell ⟨W4.heap.size,0,none⟩ (.int .i64 7)).setCell ⟨W4.heap.size,1,none⟩ (.int .i64 0)).setCell ⟨W4.heap.size,2,none⟩ (.slice (some ⟨W3.heap.size,0,none⟩) 2 2)).setCell ⟨W4.heap.size,3,none⟩ (.int .i64 0)).setCell ⟨W4.heap.size,4,none⟩ (.int .i64 5)).setCell ⟨W4.heap.size,5,none⟩ (.int .i64 10)).setCell ⟨W4.heap.size,6,none⟩ (.int .i64 1099511627776)).setCell ⟨W4.heap.size,7,none⟩ (.int .i64 2)).setCell ⟨W4.heap.size,8,none⟩ (.int .i64 0))=W5:=by rw [hW5]
 clear hW5
 obtain ⟨W6,hW6⟩:=eN0 (W5.alloc (.cells #[.int .i64 7,.int .i64 0,.slice (some ⟨W3.heap.size,0,none⟩) 2 2,.int .i64 0,.int .i64 5,.int .i64 10,.int .i64 1099511627776,.int .i64 2,.int .i64 0] 56))
 have hbW6:=bN0 hW6
 have hnW6:=hN0 hW6
 have eW6:W5.alloc (.cells #[.int .i64 7,.int .i64 0,.slice (some ⟨W3.heap.size,0,none⟩) 2 2,.int .i64 0,.int .i64 5,.int .i64 10,.int .i64 1099511627776,.int .i64 2,.int .i64 0] 56)=W6:=by rw [hW6]
 clear hW6
 have HB4:Hid (Bl w W4):=hI0 ((bU0 HB2 hbW3).trans (hbW4.mono (Nat.le_trans HB2.out.size hbW3.size)))
 have HB5:=bT0 HB4 hbW5
 have HB6:=bT0 HB5 hbW6
 have HK3:=hI0 (keepRow hbW6 (keepRow hbW5 (keepRow hbW4 hnW3)))
 have c8:=cW1 8 hnW5 rfl
 have c7:=cW1 7 hnW5 rfl
 have c6:=cW1 6 hnW5 rfl
 have c5:=cW1 5 hnW5 rfl
 have c4:=cW1 4 hnW5 rfl
 have c3:=cW1 3 hnW5 rfl
 have c2:=cW1 2 hnW5 rfl
 have c1:=cW1 1 hnW5 rfl
 have c0:=cW1 0 hnW5 rfl
 have hrow:Rd W6 (ltw W6) 3 (.slice (some ⟨W3.heap.size,0,none⟩) 2 2) 2 [.int .i64 1,.int .i64 1,.string ⟨#[]⟩,.int .i64 2,.int .i64 0,.string ⟨#[105,116,39,115]⟩]:=by
  refine ⟨rfl,_,2,rfl,Nat.le_refl _,by simp only [maxLen];omega,fun h=>(Option.some_ne_none _ h).elim,fun _=>⟨_,rfl,?_,fun j u hu=>?_⟩⟩
  ·show W3.heap.size<W6.heap.size
   have h1:=(Array.getElem?_eq_some_iff.1 hnW4).1
   have h2:=hbW5.size
   have h3:=hbW6.size
   omega
  ·have hadd:(⟨W3.heap.size,0,none⟩:Addr).add j=⟨W3.heap.size,j,none⟩:=by unfold Addr.add;split<;>simp_all
   rw [hadd,cW0 W6 W3.heap.size j _ _ (0,0) (keepRow hbW6 (keepRow hbW5 hnW4))]
   simpa using hu
 have hver:Rd W6 (ltw W6) 9 (.slice (some ⟨W5.heap.size,0,none⟩) 1 1) 1 [.int .i64 7,.int .i64 0,.slice (some ⟨W3.heap.size,0,none⟩) 2 2,.int .i64 0,.int .i64 5,.int .i64 10,.int .i64 1099511627776,.int .i64 2,.int .i64 0]:=by
  refine ⟨rfl,_,1,rfl,Nat.le_refl _,by simp only [maxLen];omega,fun h=>(Option.some_ne_none _ h).elim,fun _=>⟨_,rfl,?_,fun j u hu=>?_⟩⟩
  ·exact (Array.getElem?_eq_some_iff.1 hnW6).1
  ·have hadd:(⟨W5.heap.size,0,none⟩:Addr).add j=⟨W5.heap.size,j,none⟩:=by unfold Addr.add;split<;>simp_all
   rw [hadd,cW0 W6 W5.heap.size j _ _ (0,0) hnW6]
   simpa using hu
 have his:(tvQ (some ⟨W3.heap.size,0,none⟩) (some ⟨W5.heap.size,0,none⟩)).is W6 (ltw W6):=by
  refine ⟨hver,fun p hp=>?_⟩
  obtain rfl:=List.mem_singleton.1 hp
  refine ⟨rfl,rfl,rfl,rfl,rfl,rfl,rfl,rfl,hrow,fun v hv=>?_⟩
  simp only [verQ,rowQ,List.mem_cons,List.not_mem_nil,or_false] at hv
  rcases hv with rfl|rfl<;>exact ⟨by decide,by decide,by decide⟩
 have KD:Hid (Calls prog 13 #[.agg #[.string ⟨#[116]⟩,.slice (some ⟨W5.heap.size,0,none⟩) 1 1]] W6 fun e w'=>e=.returned (.tuple #[.string (strB tTab),.int .i64 0])∧Bl W6 w'):=hI0 (by
  have k:=dtable_any _ W6 (HE.out.below HB6.out) his (Nat.le_of_ble_eq_true rfl)
  unfold DtOut at k
  rw [dtQ,tabQ] at k
  exact k)
 clear hrow hver his hbW2 hnW2 hbWZ hnWZ hbW3 hnW3 hbW4 hnW4 hbW5 hnW5 hbW6 hnW6
 go_wp2_with fail
 clear c0 c1 c2 c3 c4 c5 c6 c7 c8 g0 g1 g2 g3 g4 g5 g6 g7 g8 g9 f0 f1 f2 f3 f4 f5 f6 f7 f8 f9 k0 k1 k2 k3 k4 k5 k6 k7 k8 q0 q1 q2 q3 q4 q5 q6 q7 q8
 (with_reducible refine KD.out.mono ?_)
 rintro _ w7 ⟨rfl,hb7⟩
 have HB7:=bT0 HB6 hb7
 have k3:=keepRow hb7 HK3.out
 have c3:=cW1 3 k3 rfl
 clear k3 hb7 KD
 generalize strB tTab=S7 at *
 go_wp2_with fail
 go_ret
 exact ⟨rfl,HB7.out⟩
end Go.Proofs.YtgfhknnklapldaaGreatDoor
namespace Go.Proofs.YtgfhknnklapldaaGreatDoor
open Go.Proofs.Tryz
set_option maxRecDepth 99999
set_option maxHeartbeats 0
open Go.RowKit Go.Lib Go.IntWalk Go.Sort Go.Shelf
def VsOut (n:Nat) (w0:World) (e:Ending) (w:World):Prop:=(∃q:Bool,e=.returned (.bool q)∧(q=true→n≤60))∧Bl w0 w
theorem versions_any (A:Option Addr) (c:Nat) (ps:List VP) (w:World) (hv:RdVs w (ltw w) (.slice A ps.length c) ps):
  Calls prog 12 #[.slice A ps.length c] w (VsOut ps.length w):=by
 obtain ⟨A0,C0,hAc,z1,z2,_⟩:=hv.1.open_
 simp only [Value.slice.injEq] at hAc
 obtain ⟨rfl,-,rfl⟩:=hAc
 unfold maxLen at z2
 have HV:=hI0 hv
 clear hv
 go_in
 go_wp2_with fail
 go_loopw [3] (fun i wr=>∃k:Nat,i=.int .i64 (k:Int)∧k≤ps.length∧Hid (Bl w wr)) (fun i _=>ps.length-(intOf i).toNat)
 case atStart=>exact ⟨0,rfl,Nat.zero_le _,hI0 (Below.refl _ _)⟩
 obtain ⟨k,rfl,hk,HB⟩:=hrel
 obtain ⟨wi,rfl⟩:=eN0 wr
 by_cases hlt:k<ps.length
 case neg=>
  have hke:k=ps.length:=by omega
  by_cases h60:ps.length≤60
  case pos=>
   have q1:(ps.length:Int)≤60:=by omega
   have HL:=hI0 h60
   clear hke
   go_wp2_with fail
   go_ret
   exact ⟨⟨_,rfl,fun _=>HL.out⟩,HB.out⟩
  have q1:¬(ps.length:Int)≤60:=by omega
  have q2:¬ps.length≤60:=h60
  clear hke
  go_wp2_with fail
  go_ret
  exact ⟨⟨_,rfl,fun h=>absurd h (by decide)⟩,HB.out⟩
 by_cases h60:k<60
 case neg=>
  have q2:¬(k:Int)<60:=by omega
  by_cases h61:ps.length≤60
  case pos=>omega
  have q1:¬(ps.length:Int)≤60:=by omega
  go_wp2_with fail
  go_ret
  exact ⟨⟨_,rfl,fun h=>absurd h (by decide)⟩,HB.out⟩
 have q2:(k:Int)<60:=by omega
 obtain ⟨b2,off,rfl,hF,hcl,hx⟩:=RdVs.at_ (HV.out.below HB.out) hlt
 generalize ps[k]=p at *
 obtain ⟨⟨x1,x2,xA,xn,xc,x3,x4,x5,x6,x7,x8⟩,x⟩:=p
 simp only at hcl hx
 have g2:wi.cell? ⟨b2,off+k*9+2,none⟩=some (.slice xA xn xc):=hcl 2 _ (by decide) rfl
 clear hcl hx
 by_cases h20:xn≤20
 case pos=>
  have q3:¬(20:Int)<(xn:Int):=by omega
  have q4:¬ 20<xn:=by omega
  go_wp2_with fail
  go_roundw
  case rel=>exact ⟨k+1,by go_num,by omega,HB⟩
  case measure=>simp [intOf];omega
 have q3:(20:Int)<(xn:Int):=by omega
 have q4:20<xn:=by omega
 go_wp2_with fail
 go_ret
 exact ⟨⟨_,rfl,fun h=>absurd h (by decide)⟩,HB.out⟩
end Go.Proofs.YtgfhknnklapldaaGreatDoor
namespace Go.Proofs.YtgfhknnklapldaaGreatDoor
open Go.Proofs.Tryz
set_option maxRecDepth 99999
set_option maxHeartbeats 0
open Go.RowKit Go.Lib Go.IntWalk Go.Sort Go.Shelf
def BetNY (b:Int) (w:World) (e:Ending) (w':World):Prop:=∃n:Int,e=.returned (.int .i64 n)∧1≤n∧n≤b∧Bl w w'
def BoOY (w:World) (e:Ending) (w':World):Prop:=∃b:Bool,e=.returned (.bool b)∧Bl w w'
theorem exBelowY {w w':World} {e:RE} (h:exAll w (ltw w) e) (hb:Bl w w'):exAll w' (ltw w') e:=fun d=>exIs_below hb d e (h d)
theorem exArgsY {w:World} {F:Nat→Prop} {op it:Int} {v:Val} {nm:ByteArray} {A:Option Addr} {c:Nat} {args:List RE} (h:exAll w F (.mk op it v nm A c args)):RdE 7 RE.enc w F (.slice A args.length c) args∧∀a∈args,exAll w F a:=
 ⟨(h 1).1,fun a ha d=>(h (d+1)).2.2.2 a ha⟩
theorem lsize_anyY:∀(most:Nat) (e:RE) (mi:Int) (w:World),mi=most→most≤40→exAll w (ltw w) e→Calls prog 45 #[.agg e.enc.toArray,.int .i64 mi] w (BetNY (1000+300*most) w):=by
 intro most
 induction most with
 |zero=>
  intro e mi w hmi _ _
  obtain ⟨op,it,⟨vk,vi,vs⟩,nm,A,c,args⟩:=e
  obtain rfl:mi=0:=hmi
  show Calls prog 45 #[.agg #[.int .i64 op,.int .i64 it,.int .i64 vk,.int .i64 vi,.string vs,.string nm,.slice A args.length c],.int .i64 0] w _
  go_in
  go_wp2_with fail
  go_ret
  exact ⟨1000,rfl,by omega,by omega,Below.of_alloc _⟩
 |succ most ih=>
  intro e mi w hmi h40 he
  obtain ⟨op,it,⟨vk,vi,vs⟩,nm,A,c,args⟩:=e
  have HAL:=hI0 (exArgsY he)
  have IH:=hI0 ih
  obtain ⟨n1,n2⟩:=RdE.bd HAL.out.1
  show Calls prog 45 #[.agg #[.int .i64 op,.int .i64 it,.int .i64 vk,.int .i64 vi,.string vs,.string nm,.slice A args.length c],.int .i64 mi] w _
  have hm0:(mi==0)=false:=by rw [beq_eq_false_iff_ne];omega
  have hm1:mi-1≤9223372036854775807:=by omega
  have hm2: -9223372036854775808≤mi-1:=by omega
  have HMI:=hI0 hmi
  have H40:=hI0 h40
  have HX0:Hid ((w.alloc (.cells #[.int .i64 op,.int .i64 it,.int .i64 vk,.int .i64 vi,.string vs,.string nm,.slice A args.length c] 117)).heap[w.heap.size]? =some (.cells #[.int .i64 op,.int .i64 it,.int .i64 vk,.int .i64 vi,.string vs,.string nm,.slice A args.length c] 117 (0,0))):=hI0 (heap_alloc_new w _)
  have HB0:Hid (Bl w (w.alloc (.cells #[.int .i64 op,.int .i64 it,.int .i64 vk,.int .i64 vi,.string vs,.string nm,.slice A args.length c] 117))):=hI0 (Below.of_alloc _)
  clear ih he hmi h40
  go_in
  go_wp2_with fail
  go_loopw [5,6] (fun n i wr=>∃(m:Int) (k:Nat),n=.int .i64 m∧i=.int .i64 (k:Int)∧k≤args.length∧(1≤m∧m≤1000+300*((most:Int)+1))∧Hid (Bl w wr)∧Hid (wr.heap[w.heap.size]? =some (.cells #[.int .i64 op,.int .i64 it,.int .i64 vk,.int .i64 vi,.string vs,.string nm,.slice A args.length c] 117 (0,0)))) (fun _ i _=>args.length-(intOf i).toNat)
  case atStart=>exact ⟨1,0,rfl,rfl,Nat.zero_le _,by omega,HB0,HX0⟩
  obtain ⟨m,k,rfl,rfl,hk,⟨hm3,hm4⟩,HW,HX⟩:=hrel
  obtain ⟨wi,rfl⟩:=eN0 wr
  have h40:=H40.out
  have c6:=cW1 6 HX.out rfl
  by_cases hlt:k<args.length
  case neg=>
   have hn:¬(k:Int)<(args.length:Int):=by omega
   go_wp2_with fail
   go_ret
   exact ⟨m,rfl,by omega,by push_cast;omega,HW.out⟩
  have hlt2:(k:Int)<(args.length:Int):=by omega
  by_cases h300:m≤300
  case neg=>
   go_wp2_with fail
   go_ret
   exact ⟨m,rfl,by omega,by push_cast;omega,HW.out⟩
  obtain ⟨b2,off,hA,hF,hc⟩:=RdE.at_ (K:=7) (enc:=RE.enc) RE.enc_length (by omega) (HAL.out.1.keep (Keeps.below HW.out)) hlt
  have hq:=hc k hlt
  have hmem:=List.getElem_mem hlt
  clear hc
  subst hA
  generalize args[k]=x at *
  have KX:=IH.out x (mi-1) wi (by have:=HMI.out;omega) (by omega) (exBelowY (HAL.out.2 _ hmem) HW.out)
  obtain ⟨op2,it2,⟨vk2,vi2,vs2⟩,nm2,A2,c2,args2⟩:=x
  obtain ⟨g0,g1,g2,g3,g4,g5,g6⟩:=cK7 hq (show _=[.int .i64 op2,.int .i64 it2,.int .i64 vk2,.int .i64 vi2,.string vs2,.string nm2,.slice A2 args2.length c2] from rfl)
  clear hq hmem
  have KX2:Hid (Calls prog 45 #[.agg #[.int .i64 op2,.int .i64 it2,.int .i64 vk2,.int .i64 vi2,.string vs2,.string nm2,.slice A2 args2.length c2],.int .i64 (mi-1)] wi (BetNY (1000+300*most) wi)):=hI0 KX
  clear KX
  go_wp2_with fail
  clear g0 g1 g2 g3 g4 g5 g6 c6
  (with_reducible refine KX2.out.mono ?_)
  rintro _ w2 ⟨r,rfl,hr1,hr2,hb2⟩
  have HX2:=hI0 (keepRow hb2 HX.out)
  have HW2:=bT0 HW hb2
  have hov:m+r≤9223372036854775807:=by omega
  have hov2: -9223372036854775808≤m+r:=by omega
  clear hb2 KX2
  go_wp2_with fail
  go_roundw
  case rel=>exact ⟨_,k+1,rfl,by go_num,by omega,by omega,HW2,HX2⟩
  case measure=>simp [intOf];omega
theorem lentries_anyY (v:Value) (l:List REn) (w:World) (hv:RdE 16 REn.enc w (ltw w) v l) (hi:∀x∈l,x.create.is w (ltw w)) (hx:∀x∈l,∀e∈x.create.chks,exAll w (ltw w) e):Calls prog 19 #[v] w (BoOY w):=by
 obtain ⟨A,c,rfl,hc1,hc2,hc3⟩:=Rd.open_ (show Rd w _ 16 v l.length (l.flatMap REn.enc) from hv)
 unfold maxLen at hc2
 have HV:=hI0 hv
 have HI:=hI0 hi
 have HXX:=hI0 hx
 clear hv hi hx hc3
 go_in
 go_wp2_with fail
 go_loopw [3] (fun i wr=>∃k:Nat,i=.int .i64 (k:Int)∧k≤l.length∧Hid (Bl w wr)) (fun i _=>l.length-(intOf i).toNat)
 case atStart=>exact ⟨0,rfl,Nat.zero_le _,hI0 (Below.refl _ _)⟩
 obtain ⟨k,rfl,hk,HW⟩:=hrel
 obtain ⟨wi,rfl⟩:=eN0 wr
 by_cases hlt:k<l.length
 case neg=>
  have hlt2:¬(k:Int)<(l.length:Int):=by omega
  go_wp2_with fail
  go_ret
  exact ⟨_,rfl,HW.out⟩
 have hlt2:(k:Int)<(l.length:Int):=by omega
 by_cases h20:k<20
 case neg=>
  have h21:¬(k:Int)<20:=by omega
  go_wp2_with fail
  go_ret
  exact ⟨_,rfl,HW.out⟩
 have h21:(k:Int)<20:=by omega
 obtain ⟨b2,off,hA,hF,hc⟩:=RdE.at_ (K:=16) (enc:=REn.enc) (fun _=>rfl) (by omega) (HV.out.keep (Keeps.below HW.out)) hlt
 have hq:=hc k hlt
 have hmem:=List.getElem_mem hlt
 have hti:=HI.out _ hmem
 have htx:=HXX.out _ hmem
 clear hc hmem
 subst hA
 generalize l[k]=x at *
 obtain ⟨tm,tb,⟨tn,tcA,tcC,tcols,tkA,tkC,tkey,tfA,tfC,tfors,thA,thC,tchks⟩,⟨ck,cn,cto,cc,cq,cb,⟨dk,di,ds⟩⟩⟩:=x
 simp only at hti htx
 have HCK:Hid (RdE 7 RE.enc w (ltw w) (.slice thA tchks.length thC) tchks):=hI0 hti.chks
 have HCX:=hI0 htx
 obtain ⟨a1,a2⟩:=RdE.bd hti.cols
 obtain ⟨b1,b2'⟩:=RdE.bd hti.key
 obtain ⟨d1,d2⟩:=RdE.bd hti.fors
 obtain ⟨f1,f2⟩:=RdE.bd hti.chks
 simp only at a1 a2 b1 b2' d1 d2 f1 f2
 have g0:wi.cell? ⟨b2,off+k*16+2,none⟩=some (.string tn):=by have:=hq 2 (.string tn) (by decide) rfl;simpa [Nat.add_assoc] using this
 have g1:wi.cell? ⟨b2,off+k*16+2+1,none⟩=some (.slice tcA tcols.length tcC):=by have:=hq 3 (.slice tcA tcols.length tcC) (by decide) rfl;simpa [Nat.add_assoc] using this
 have g2:wi.cell? ⟨b2,off+k*16+2+2,none⟩=some (.slice tkA tkey.length tkC):=by have:=hq 4 (.slice tkA tkey.length tkC) (by decide) rfl;simpa [Nat.add_assoc] using this
 have g3:wi.cell? ⟨b2,off+k*16+2+3,none⟩=some (.slice tfA tfors.length tfC):=by have:=hq 5 (.slice tfA tfors.length tfC) (by decide) rfl;simpa [Nat.add_assoc] using this
 have g4:wi.cell? ⟨b2,off+k*16+2+4,none⟩=some (.slice thA tchks.length thC):=by have:=hq 6 (.slice thA tchks.length thC) (by decide) rfl;simpa [Nat.add_assoc] using this
 clear hq hti htx
 obtain ⟨W1,hW1⟩:=eN0 (wi.alloc (.cells #[.string tn,.slice tcA tcols.length tcC,.slice tkA tkey.length tkC,.slice tfA tfors.length tfC,.slice thA tchks.length thC] 73))
 have hbW1:=bN0 hW1
 have hnW1:=hN0 hW1
 have eW1:wi.alloc (.cells #[.string tn,.slice tcA tcols.length tcC,.slice tkA tkey.length tkC,.slice tfA tfors.length tfC,.slice thA tchks.length thC] 73)=W1:=by rw [hW1]
 clear hW1
 have HX1:=hI0 hnW1
 have HW1:=bT0 HW hbW1
 have t1:=cW1 1 hnW1 rfl
 have t2:=cW1 2 hnW1 rfl
 have t3:=cW1 3 hnW1 rfl
 have t4:=cW1 4 hnW1 rfl
 clear hbW1 hnW1
 by_cases u0:(20:Int)<(tcols.length:Int)
 case pos=>
  have v0:20<tcols.length:=by omega
  go_wp2_with fail
  go_ret
  exact ⟨_,rfl,HW1.out⟩
 have v0:¬ 20<tcols.length:=by omega
 by_cases u1:(20:Int)<(tkey.length:Int)
 case pos=>
  have v1:20<tkey.length:=by omega
  go_wp2_with fail
  go_ret
  exact ⟨_,rfl,HW1.out⟩
 have v1:¬ 20<tkey.length:=by omega
 by_cases u2:(10:Int)<(tfors.length:Int)
 case pos=>
  have v2:10<tfors.length:=by omega
  go_wp2_with fail
  go_ret
  exact ⟨_,rfl,HW1.out⟩
 have v2:¬ 10<tfors.length:=by omega
 by_cases u3:(10:Int)<(tchks.length:Int)
 case pos=>
  have v3:10<tchks.length:=by omega
  go_wp2_with fail
  go_ret
  exact ⟨_,rfl,HW1.out⟩
 have v3:¬ 10<tchks.length:=by omega
 go_wp2_with fail
 clear t1 t2 t3 t4 u0 u1 u2 u3 v0 v1 v2 v3 eW1 g0 g1 g2 g3 g4
 have HLK:=hI0 hlt
 have HKK:=hI0 hk
 go_loopw [47] (fun i wr=>∃j:Nat,i=.int .i64 (j:Int)∧j≤tchks.length∧Hid (Bl w wr)) (fun i _=>tchks.length-(intOf i).toNat)
 case atStart=>exact ⟨0,rfl,Nat.zero_le _,HW1⟩
 clear hlt hk
 obtain ⟨j,rfl,hj,HBj⟩:=hrel
 obtain ⟨wj,rfl⟩:=eN0 wr
 by_cases hlt:j<tchks.length
 case neg=>
  have hlt2:¬(j:Int)<(tchks.length:Int):=by omega
  have hkl:=HLK.out
  have hkl2:(k:Int)+1≤9223372036854775807:=by omega
  go_wp2_with fail
  go_roundw
  case rel=>exact ⟨k+1,by go_num,by have:=HLK.out;omega,HBj⟩
  case measure=>have:=HLK.out;simp [intOf];omega
 have hlt2:(j:Int)<(tchks.length:Int):=by omega
 obtain ⟨b3,off3,hA,hF,hc⟩:=RdE.at_ (K:=7) (enc:=RE.enc) RE.enc_length (by omega) (HCK.out.keep (Keeps.below HBj.out)) hlt
 have hq:=hc j hlt
 have hmem:=List.getElem_mem hlt
 clear hc
 subst hA
 generalize tchks[j]=x at *
 have KX:=fun (V:World) (hV:Bl w V)=>lsize_anyY 40 x 40 V rfl (by omega) (exBelowY (HCX.out _ hmem) hV)
 obtain ⟨op2,it2,⟨vk2,vi2,vs2⟩,nm2,A2,c2,args2⟩:=x
 obtain ⟨g0,g1,g2,g3,g4,g5,g6⟩:=cK7 hq (show _=[.int .i64 op2,.int .i64 it2,.int .i64 vk2,.int .i64 vi2,.string vs2,.string nm2,.slice A2 args2.length c2] from rfl)
 clear hq hmem
 obtain ⟨W3,hW3⟩:=eN0 (wj.alloc (.cells #[.int .i64 op2,.int .i64 it2,.int .i64 vk2,.int .i64 vi2,.string vs2,.string nm2,.slice A2 args2.length c2] 117))
 have hbW3:=bN0 hW3
 have hnW3:=hN0 hW3
 have eW3:wj.alloc (.cells #[.int .i64 op2,.int .i64 it2,.int .i64 vk2,.int .i64 vi2,.string vs2,.string nm2,.slice A2 args2.length c2] 117)=W3:=by rw [hW3]
 clear hW3
 have HW3:=bT0 HBj hbW3
 have HX3:=hI0 hnW3
 have KX2:Hid (Calls prog 45 #[.agg #[.int .i64 op2,.int .i64 it2,.int .i64 vk2,.int .i64 vi2,.string vs2,.string nm2,.slice A2 args2.length c2],.int .i64 40] W3 (BetNY (1000+300*((40:Nat):Int)) W3)):=hI0 (KX W3 HW3.out)
 obtain ⟨q0,q1,q2,q3,q4,q5,q6⟩:=cX7 hnW3
 clear hbW3 hnW3 KX
 go_wp2_with fail
 clear eW3 g0 g1 g2 g3 g4 g5 g6 q0 q1 q2 q3 q4 q5 q6
 (with_reducible refine KX2.out.mono ?_)
 rintro _ w4 ⟨r,rfl,hr1,hr2,hb4⟩
 have HB4:=bT0 HW3 hb4
 clear hb4 KX2 hr1 hr2
 by_cases hr:300<r
 case pos=>
  go_wp2_with fail
  go_ret
  exact ⟨_,rfl,HB4.out⟩
 go_wp2_with fail
 go_roundw
 case rel=>exact ⟨j+1,by go_num,hlt,HB4⟩
 case measure=>simp [intOf];omega
theorem lsmall_anyY (c:RSt) (w:World) (hc:c.is w (ltw w)) (hlm:c.lim w):Calls prog 8 #[.agg c.enc.toArray] w (BoOY w):=by
 have HE:Hid (∀W,Bl w W→Calls prog 19 #[.slice c.eA c.ents.length c.eC] W (BoOY W)):=hI0 fun W hW=>lentries_anyY _ c.ents W (hc.ents.below hW) (fun x hx=>((hc.entI x hx).below hW).create) (fun x hx e he=>exBelowY (hlm.exps x hx e he).1 hW)
 have HT:=hI0 hc.tabs
 have HTI:=hI0 hc.tabI
 have n1:=hlm.ents
 have n2:=hlm.stms
 have n3:=hlm.tabs
 have n4:=hlm.pla
 have n5:=hlm.pol
 have n6:=hlm.hor
 clear hc hlm
 obtain ⟨ctx,ctm,cwl,cnx,ceA,ceC,cents,csA,csC,cstms,ctA,ctC,ctabs,cpA,cpC,cpla,cqA,cqC,cpol,chA,chC,chor⟩:=c
 simp only at HE HT HTI n1 n2 n3 n4 n5 n6
 show Calls prog 8 #[.agg #[.int .i64 ctx,.int .i64 ctm,.int .i64 cwl,.int .i64 cnx,.slice ceA cents.length ceC,.slice csA cstms.length csC,.slice ctA ctabs.length ctC,.slice cpA cpla.length cpC,.slice cqA cpol.length cqC,.slice chA chor.length chC]] w _
 obtain ⟨W,hW⟩:=eN0 (w.alloc (.cells #[.int .i64 ctx,.int .i64 ctm,.int .i64 cwl,.int .i64 cnx,.slice ceA cents.length ceC,.slice csA cstms.length csC,.slice ctA ctabs.length ctC,.slice cpA cpla.length cpC,.slice cqA cpol.length cqC,.slice chA chor.length chC] 29))
 have hbW:=bN0 hW
 have hnW:=hN0 hW
 have eW:w.alloc (.cells #[.int .i64 ctx,.int .i64 ctm,.int .i64 cwl,.int .i64 cnx,.slice ceA cents.length ceC,.slice csA cstms.length csC,.slice ctA ctabs.length ctC,.slice cpA cpla.length cpC,.slice cqA cpol.length cqC,.slice chA chor.length chC] 29)=W:=by rw [hW]
 clear hW
 have HB0:=hI0 hbW
 have HX0:=hI0 hnW
 have c5:=cW1 5 hnW rfl
 have c6:=cW1 6 hnW rfl
 have c7:=cW1 7 hnW rfl
 have c8:=cW1 8 hnW rfl
 have c9:=cW1 9 hnW rfl
 have i1:(cstms.length:Int)+(ctabs.length:Int)≤9223372036854775807:=by omega
 have i2:(cstms.length:Int)+(ctabs.length:Int)+(cpla.length:Int)≤9223372036854775807:=by omega
 have i3:(cstms.length:Int)+(ctabs.length:Int)+(cpla.length:Int)+(cpol.length:Int)≤9223372036854775807:=by omega
 have i4:(cstms.length:Int)+(ctabs.length:Int)+(cpla.length:Int)+(cpol.length:Int)+(chor.length:Int)≤9223372036854775807:=by omega
 clear hbW hnW
 go_in
 go_wp2_with fail
 clear eW i1 i2 i3 i4 c5 c6 c7 c8 c9
 generalize (cstms.length:Int)+(ctabs.length:Int)+(cpla.length:Int)+(cpol.length:Int)+(chor.length:Int)=nn at *
 go_loopw [4] (fun i wr=>∃k:Nat,i=.int .i64 (k:Int)∧k≤ctabs.length∧Hid (Bl w wr)∧Hid (wr.heap[w.heap.size]? =some (.cells #[.int .i64 ctx,.int .i64 ctm,.int .i64 cwl,.int .i64 cnx,.slice ceA cents.length ceC,.slice csA cstms.length csC,.slice ctA ctabs.length ctC,.slice cpA cpla.length cpC,.slice cqA cpol.length cqC,.slice chA chor.length chC] 29 (0,0)))) (fun i _=>ctabs.length-(intOf i).toNat)
 case atStart=>exact ⟨0,rfl,Nat.zero_le _,HB0,HX0⟩
 obtain ⟨k,rfl,hk,HW,HX⟩:=hrel
 obtain ⟨wi,rfl⟩:=eN0 wr
 have c6:=cW1 6 HX.out rfl
 have c4:=cW1 4 HX.out rfl
 have KE:=hI0 (HE.out wi HW.out)
 by_cases h100:nn≤100
 case neg=>
  by_cases hlt:k<ctabs.length
  case neg=>
   have hlt2:¬(k:Int)<(ctabs.length:Int):=by omega
   go_wp2_with fail
   go_ret
   exact ⟨_,rfl,HW.out⟩
  have hlt2:(k:Int)<(ctabs.length:Int):=by omega
  go_wp2_with fail
  go_ret
  exact ⟨_,rfl,HW.out⟩
 by_cases hlt:k<ctabs.length
 case neg=>
  have hlt2:¬(k:Int)<(ctabs.length:Int):=by omega
  go_wp2_with fail
  clear c4 c6
  (with_reducible refine KE.out.mono ?_)
  rintro _ w2 ⟨r,rfl,hb2⟩
  have HB2:=bT0 HW hb2
  clear hb2 KE
  go_wp2_with fail
  go_ret
  exact ⟨_,rfl,HB2.out⟩
 have hlt2:(k:Int)<(ctabs.length:Int):=by omega
 clear KE c4
 obtain ⟨b2,off,hA,hF,hc⟩:=RdE.at_ (K:=2) (enc:=RTv.enc) (fun _=>rfl) (by omega) (HT.out.keep (Keeps.below HW.out)) hlt
 have hq:=hc k hlt
 have hti:=(HTI.out _ (List.getElem_mem hlt)).below HW.out
 clear hc
 subst hA
 generalize ctabs[k]=x at *
 obtain ⟨xn,xA,xC,xvs⟩:=x
 have g1:wi.cell? ⟨b2,off+k*2+1,none⟩=some (.slice xA xvs.length xC):=hq 1 _ (by decide) rfl
 have KV:=hI0 (versions_any xA xC xvs wi hti)
 clear hq hti
 go_wp2_with fail
 clear g1 c6
 (with_reducible refine KV.out.mono ?_)
 rintro _ w2 ⟨⟨q,rfl,-⟩,hb2⟩
 have HB2:=bT0 HW hb2
 have HX2:=hI0 (keepRow hb2 HX.out)
 clear hb2 KV
 cases q
 case false=>
  go_wp2_with fail
  go_ret
  exact ⟨_,rfl,HB2.out⟩
 go_wp2_with fail
 go_roundw
 case rel=>exact ⟨k+1,by go_num,by omega,HB2,HX2⟩
 case measure=>simp [intOf];omega
end Go.Proofs.YtgfhknnklapldaaGreatDoor
namespace Go.Proofs.YtgfhknnklapldaaGreatDoor
open Go.Proofs.Tryz
set_option maxRecDepth 99999
set_option maxHeartbeats 0
open Go.RowKit Go.Lib Go.IntWalk Go.Sort Go.Shelf
theorem llines_any (s:List UInt8) (w:World) (hl:s.length≤4294967281):Calls prog 18 #[.string (strB s)] w fun e w'=>e=.returned (.int .i64 (s.count 10:Int))∧Bl w w':=by
 have hsz:=strB_size s
 have HIX:=hI0 (run_index_str (strB s) s rfl)
 obtain ⟨S,hS⟩:=eN0 (strB s)
 rw [←hS] at hsz HIX ⊢
 have hcl:=List.count_le_length (a:=(10:UInt8)) (l:=s)
 clear hS
 go_in
 go_wp2_with fail
 go_loopw [3,4] (fun n i wr=>∃k:Nat,n=.int .i64 ((s.take k).count 10:Int)∧i=.int .i64 (k:Int)∧k≤s.length∧Hid (Bl w wr)) (fun _ i _=>s.length-(intOf i).toNat)
 case atStart=>exact ⟨0,rfl,rfl,Nat.zero_le _,hI0 (Below.refl _ _)⟩
 obtain ⟨k,rfl,rfl,hk,HB⟩:=hrel
 obtain ⟨wi,rfl⟩:=eN0 wr
 by_cases hlt:k<s.length
 case neg=>
  have q0:¬(k:Int)<(S.size:Int):=by omega
  have hke:k=s.length:=by omega
  subst hke
  go_wp2_with fail
  go_ret
  exact ⟨rfl,HB.out⟩
 have q0:(k:Int)<(S.size:Int):=by omega
 have hix:=HIX.out k hlt
 have hcn:(s.take (k+1)).count 10=(s.take k).count 10+if s[k]=10 then 1 else 0:=by
  rw [List.take_succ_eq_append_getElem hlt,List.count_append]
  congr 1
  by_cases h:s[k]=10
  ·rw [h];rfl
  ·rw [if_neg h,List.count_eq_zero.2 (fun hm=>h (List.mem_singleton.1 hm).symm)]
 have hcb:(s.take k).count 10≤s.length:=Nat.le_trans List.count_le_length (by rw [List.length_take];omega)
 by_cases h10:s[k]=10
 ·rw [if_pos h10] at hcn
  have hch:((s[k]).toNat:Int)=10:=by rw [h10];rfl
  rw [hch] at hix
  generalize (s.take k).count 10=m at *
  clear h10 hch
  go_wp2_with fail
  go_roundw
  case rel=>exact ⟨k+1,by rw [hcn];go_num,by go_num,by omega,HB⟩
  case measure=>simp [intOf];omega
 ·rw [if_neg h10] at hcn
  have hch:¬((s[k]).toNat:Int)=10:=fun h=>h10 (UInt8.toNat_inj.1 (by have e:(10:UInt8).toNat=10:=rfl;omega))
  generalize (s.take k).count 10=m at *
  generalize ((s[k]).toNat:Int)=ch at *
  clear h10
  go_wp2_with fail
  go_roundw
  case rel=>exact ⟨k+1,by rw [hcn];go_num,by go_num,by omega,HB⟩
  case measure=>simp [intOf];omega
theorem lawTorn_any (c:RSt) (m:Int) (w:World) (he:EnvD w) (hc:c.is w (ltw w)) (hl:c.lim w) (hm:0≤m∧m≤65535):
  Calls prog 7 #[.agg c.enc.toArray,.int .u16 m] w fun e w'=>e=.returned (.bool true)∧Bl w w':=by
 have KW:Hid (∀W,Bl w W→Calls prog 9 #[] W fun e w'=>e=.returned (.bool true)∧Bl W w'):=hI0 (fun W hb=>works_any W (he.below hb))
 have KS:Hid (∀W,Bl w W→Calls prog 8 #[.agg c.enc.toArray] W (BoOY W)):=hI0 (fun W hb=>lsmall_anyY c W (hc.below hb) (hl.below hb))
 have KD:Hid (∀W,Bl w W→Calls prog 10 #[.agg c.enc.toArray] W (TxOut c W)):=hI0 (fun W hb=>dtext_any c W (he.below hb) (hc.below hb) (hl.below hb))
 have KP:Hid (∀W,Bl w W→stateF c=0→∀p s,p++s=textS c→s≠[]→Calls prog 15 #[.string (strB p)] W fun e w'=>e=.returned (.tuple #[.agg cZ0,.int .i64 ((p.count 10+1:Nat):Int),.int .i64 2])∧Bl W w'):=hI0 (fun W hb h0 p s hps hs=>by
  have ht:=torn_txt h0 hl hps hs
  have hlen:p.length≤4294967200:=by
   have h1:=congrArg List.length hps
   rw [List.length_append] at h1
   have:=(du_W h0 hl).len
   omega
  have k:=parseT_any p W (he.below hb) hlen (by rw [ht];exact (by decide:(2:Int)≠0))
  rw [ht] at k
  exact k)
 have KL:Hid (∀W p s,stateF c=0→p++s=textS c→Calls prog 18 #[.string (strB p)] W fun e w'=>e=.returned (.int .i64 (p.count 10:Int))∧Bl W w'):=hI0 (fun W p s h0 hps=>llines_any p W (by
  have h1:=congrArg List.length hps
  rw [List.length_append] at h1
  have:=(du_W h0 hl).len
  omega))
 have HTX:Hid (txT c=if stateF c=0 then textS c else []):=hI0 rfl
 have HTL:Hid (stateF c=0→(textS c).length≤4000000000∧textS c≠[]):=hI0 (fun h0=>⟨(du_W h0 hl).len,by unfold textS lineB;simp⟩)
 unfold TxOut at KD
 generalize txT c=tx at *
 generalize textS c=tS at *
 generalize stateF c=er at *
 clear he hc hl
 obtain ⟨ctx,ctm,cwl,cnx,ceA,ceC,cents,csA,csC,cstms,ctA,ctC,ctabs,cpA,cpC,cpla,cqA,cqC,cpol,chA,chC,chor⟩:=c
 have KS':Hid (∀W,Bl w W→Calls prog 8 #[.agg #[.int .i64 ctx,.int .i64 ctm,.int .i64 cwl,.int .i64 cnx,.slice ceA cents.length ceC,.slice csA cstms.length csC,.slice ctA ctabs.length ctC,.slice cpA cpla.length cpC,.slice cqA cpol.length cqC,.slice chA chor.length chC]] W (BoOY W)):=KS
 have KD':Hid (∀W,Bl w W→Calls prog 10 #[.agg #[.int .i64 ctx,.int .i64 ctm,.int .i64 cwl,.int .i64 cnx,.slice ceA cents.length ceC,.slice csA cstms.length csC,.slice ctA ctabs.length ctC,.slice cpA cpla.length cpC,.slice cqA cpol.length cqC,.slice chA chor.length chC]] W (fun e w'=>e=.returned (.tuple #[.string (strB tx),.int .i64 er])∧Bl W w')):=KD
 clear KS KD
 show Calls prog 7 #[.agg #[.int .i64 ctx,.int .i64 ctm,.int .i64 cwl,.int .i64 cnx,.slice ceA cents.length ceC,.slice csA cstms.length csC,.slice ctA ctabs.length ctC,.slice cpA cpla.length cpC,.slice cqA cpol.length cqC,.slice chA chor.length chC],.int .u16 m] w _
 obtain ⟨W1,hW1⟩:=eN0 (w.alloc (.cells #[.int .i64 ctx,.int .i64 ctm,.int .i64 cwl,.int .i64 cnx,.slice ceA cents.length ceC,.slice csA cstms.length csC,.slice ctA ctabs.length ctC,.slice cpA cpla.length cpC,.slice cqA cpol.length cqC,.slice chA chor.length chC] 29))
 have hbW1:=bN0 hW1
 have hnW1:=hN0 hW1
 have eW1:w.alloc (.cells #[.int .i64 ctx,.int .i64 ctm,.int .i64 cwl,.int .i64 cnx,.slice ceA cents.length ceC,.slice csA cstms.length csC,.slice ctA ctabs.length ctC,.slice cpA cpla.length cpC,.slice cqA cpol.length cqC,.slice chA chor.length chC] 29)=W1:=by rw [hW1]
 clear hW1
 have HB1:=hI0 hbW1
 have HX1:=hI0 hnW1
 have K1:=hI0 (KS'.out W1 HB1.out)
 obtain ⟨a0,a1,a2,a3,a4,a5,a6,a7,a8,a9⟩:=cX10 hnW1
 clear hbW1 hnW1
 go_in
 go_wp2_with fail
 clear eW1
 clear a0 a1 a2 a3 a4 a5 a6 a7 a8 a9
 (with_reducible refine K1.out.mono ?_)
 rintro _ w2 ⟨q,rfl,hb2⟩
 have HB2:=bT0 HB1 hb2
 have HX2:=hI0 (keepRow hb2 HX1.out)
 clear hb2 K1
 cases q
 case false=>
  go_wp2_with fail
  (with_reducible refine (KW.out w2 HB2.out).mono ?_)
  rintro _ w9 ⟨rfl,hb9⟩
  have HB9:=bT0 HB2 hb9
  clear hb9
  go_wp2_with fail
  go_ret
  exact ⟨rfl,HB9.out⟩
 have K2:=hI0 (KD'.out w2 HB2.out)
 obtain ⟨a0,a1,a2,a3,a4,a5,a6,a7,a8,a9⟩:=cX10 HX2.out
 go_wp2_with fail
 clear a0 a1 a2 a3 a4 a5 a6 a7 a8 a9
 (with_reducible refine K2.out.mono ?_)
 rintro _ w3 ⟨rfl,hb3⟩
 have HB3:=bT0 HB2 hb3
 clear hb3 K2
 by_cases h0:er=0
 ·subst h0
  have htx:=HTX.out
  rw [if_pos rfl] at htx
  have htx:=htx.symm
  subst htx
  obtain ⟨hlen,hne⟩:=HTL.out rfl
  have hpos:0<tS.length:=List.length_pos_iff.2 hne
  obtain ⟨M,rfl⟩:∃M:Nat,m=(M:Int):=⟨m.toNat,by omega⟩
  obtain ⟨k,hk⟩:=eN0 (M % tS.length)
  have hkl:k<tS.length:=by rw [hk];exact Nat.mod_lt _ hpos
  have hps:tS.take k++tS.drop k=tS:=List.take_append_drop k tS
  have hdr:tS.drop k≠[]:=fun e=>by
   have:=congrArg List.length e
   rw [List.length_drop,List.length_nil] at this
   omega
  have hcb:(tS.take k).count 10≤tS.length:=Nat.le_trans List.count_le_length (by rw [List.length_take];omega)
  have KP3:=hI0 (KP.out w3 HB3.out rfl _ _ hps hdr)
  have KL3:=hI0 (fun W=>KL.out W _ _ rfl hps)
  have hsz:=strB_size tS
  have hne1:((strB tS).toList==[])=false:=by rw [ByteArray.toList_eq,bas_s];cases tS with|nil=>exact absurd rfl hne|cons x r=>rfl
  have hne2:(strB tS).toList.isEmpty=false:=by rw [ByteArray.toList_eq,bas_s];cases tS with|nil=>exact absurd rfl hne|cons x r=>rfl
  have hext:(strB tS).extract 0 k=strB (tS.take k):=by
   apply bas_eq
   rw [bas_s]
   simp [strB,ByteArray.extract,ByteArray.copySlice]
  have hext2:(strB tS).extract 0 (M % tS.length)=strB (tS.take k):=by rw [←hk];exact hext
  have hmk:M % tS.length≤tS.length:=by omega
  have hmod:((M:Int).tmod ((strB tS).size:Int))=(k:Int):=by
   rw [hsz,hk,Int.tmod_eq_emod_of_nonneg (by omega)]
   omega
  have hnz:¬((strB tS).size:Int)=0:=by omega
  have hkz:(k:Int)≤((strB tS).size:Int):=by omega
  have hkz2:k≤(strB tS).size:=by omega
  have hcn:(((tS.take k).count 10:Nat):Int)+1≤9223372036854775807:=by omega
  have hcn0: -9223372036854775808≤(((tS.take k).count 10:Nat):Int)+1:=by omega
  have hcn2:((((tS.take k).count 10+1:Nat):Int))=(((tS.take k).count 10:Nat):Int)+1:=by omega
  clear KP KL HTX HTL hk hps hdr hlen hne hpos
  rw [hcn2] at KP3
  clear hcn2 hcb
  generalize strB (tS.take k)=SP at *
  generalize (tS.take k).count 10=cn at *
  generalize strB tS=SS at *
  go_wp2_with fail
  (with_reducible refine KP3.out.mono ?_)
  rintro _ w4 ⟨rfl,hb4⟩
  have HB4:=bT0 HB3 hb4
  (try rw [hext2])
  clear hb4 KP3
  obtain ⟨X5,hX5⟩:=eN0 (w4.alloc (.cells cZ0 29))
  have hbX5:=bN0 hX5
  have hnX5:=hN0 hX5
  have eX5:w4.alloc (.cells cZ0 29)=X5:=by rw [hX5]
  clear hX5
  have g9:=cW1 9 hnX5 rfl
  have f9:X5.frozen? ⟨w4.heap.size,9,none⟩=false:=fW0 _ _ _ _ _ hnX5
  have g8:=cW1 8 hnX5 rfl
  have f8:X5.frozen? ⟨w4.heap.size,8,none⟩=false:=fW0 _ _ _ _ _ hnX5
  have g7:=cW1 7 hnX5 rfl
  have f7:X5.frozen? ⟨w4.heap.size,7,none⟩=false:=fW0 _ _ _ _ _ hnX5
  have g6:=cW1 6 hnX5 rfl
  have f6:X5.frozen? ⟨w4.heap.size,6,none⟩=false:=fW0 _ _ _ _ _ hnX5
  have g5:=cW1 5 hnX5 rfl
  have f5:X5.frozen? ⟨w4.heap.size,5,none⟩=false:=fW0 _ _ _ _ _ hnX5
  have g4:=cW1 4 hnX5 rfl
  have f4:X5.frozen? ⟨w4.heap.size,4,none⟩=false:=fW0 _ _ _ _ _ hnX5
  have g3:=cW1 3 hnX5 rfl
  have f3:X5.frozen? ⟨w4.heap.size,3,none⟩=false:=fW0 _ _ _ _ _ hnX5
  have g2:=cW1 2 hnX5 rfl
  have f2:X5.frozen? ⟨w4.heap.size,2,none⟩=false:=fW0 _ _ _ _ _ hnX5
  have g1:=cW1 1 hnX5 rfl
  have f1:X5.frozen? ⟨w4.heap.size,1,none⟩=false:=fW0 _ _ _ _ _ hnX5
  have g0:=cW1 0 hnX5 rfl
  have f0:X5.frozen? ⟨w4.heap.size,0,none⟩=false:=fW0 _ _ _ _ _ hnX5
  obtain ⟨W5,hW5⟩:=eN0 (((((((((((X5.setCell ⟨w4.heap.size,0,none⟩ (.int .i64 0)).setCell ⟨w4.heap.size,1,none⟩ (.int .i64 0)).setCell ⟨w4.heap.size,2,none⟩ (.int .i64 0)).setCell ⟨w4.heap.size,3,none⟩ (.int .i64 0)).setCell ⟨w4.heap.size,4,none⟩ (.slice none 0 0)).setCell ⟨w4.heap.size,5,none⟩ (.slice none 0 0)).setCell ⟨w4.heap.size,6,none⟩ (.slice none 0 0)).setCell ⟨w4.heap.size,7,none⟩ (.slice none 0 0)).setCell ⟨w4.heap.size,8,none⟩ (.slice none 0 0)).setCell ⟨w4.heap.size,9,none⟩ (.slice none 0 0)):World)
  have hnW5:W5.heap[w4.heap.size]? =some (.cells cZ0 29 (0,0)):=by rw [hW5];exact dten_set hnX5 (.int .i64 0) (.int .i64 0) (.int .i64 0) (.int .i64 0) (.slice none 0 0) (.slice none 0 0) (.slice none 0 0) (.slice none 0 0) (.slice none 0 0) (.slice none 0 0)
  have hbW5:Bl w4 W5:=by rw [hW5];exact hbX5.trans ((dten_chg X5 w4.heap.size (.int .i64 0) (.int .i64 0) (.int .i64 0) (.int .i64 0) (.slice none 0 0) (.slice none 0 0) (.slice none 0 0) (.slice none 0 0) (.slice none 0 0) (.slice none 0 0)).below (B:=w4.heap.size) hbX5.size (fun i (hi:i=w4.heap.size)=>by omega))
  have eW5:((((((((((X5.setCell ⟨w4.heap.size,0,none⟩ (.int .i64 0)).setCell ⟨w4.heap.size,1,none⟩ (.int .i64 0)).setCell ⟨w4.heap.size,2,none⟩ (.int .i64 0)).setCell ⟨w4.heap.size,3,none⟩ (.int .i64 0)).setCell ⟨w4.heap.size,4,none⟩ (.slice none 0 0)).setCell ⟨w4.heap.size,5,none⟩ (.slice none 0 0)).setCell ⟨w4.heap.size,6,none⟩ (.slice none 0 0)).setCell ⟨w4.heap.size,7,none⟩ (.slice none 0 0)).setCell ⟨w4.heap.size,8,none⟩ (.slice none 0 0)).setCell ⟨w4.heap.size,9,none⟩ (.slice none 0 0))=W5:=by rw [hW5]
  clear hW5
  have HB5:=bT0 HB4 hbW5
  clear hext hmod hnz hkz hkz2 hmk hne1 hne2 hsz hkl
  clear hbX5 hnX5 hnW5 hbW5
  go_wp2_with fail
  (with_reducible refine (KL3.out W5).mono ?_)
  rintro _ w6 ⟨rfl,hb6⟩
  have HB6:=bT0 HB5 hb6
  clear hb6 KL3 eX5 eW5
  go_wp2_with fail
  (with_reducible refine (KW.out w6 HB6.out).mono ?_)
  rintro _ w9 ⟨rfl,hb9⟩
  have HB9:=bT0 HB6 hb9
  clear hb9
  go_wp2_with fail
  go_ret
  exact ⟨rfl,HB9.out⟩
 ·have htx:=HTX.out
  rw [if_neg h0] at htx
  subst htx
  have e1:(er != 0)=true:=by simpa using h0
  have e2:decide (er≠0)=true:=decide_eq_true h0
  have hS0:strB []=⟨#[]⟩:=rfl
  rw [hS0]
  have KW3:=KW.out w3 HB3.out
  clear KP KL HTX HTL
  go_wp2_with fail
  (with_reducible refine (KW.out w3 HB3.out).mono ?_)
  rintro _ w9 ⟨rfl,hb9⟩
  have HB9:=bT0 HB3 hb9
  clear hb9
  go_wp2_with fail
  go_ret
  exact ⟨rfl,HB9.out⟩
end Go.Proofs.YtgfhknnklapldaaGreatDoor
