/-
 PdA
-/
import Derived.Test.YtgfhknnklapldaaGreatDoorBPaB
import Derived.Test.YtgfhknnklapldaaGreatDoorBDuP
import Derived.Test.YtgfhknnklapldaaGreatDoorBDuB
import Derived.Test.YtgfhknnklapldaaGreatDoorBPbF
import Derived.Test.YtgfhknnklapldaaGreatDoorBPcD
namespace Go.Proofs.YtgfhknnklapldaaGreatDoor
open Go.RowKit Go.Lib Go.IntWalk Go.Sort Go.Shelf
def stepL (n:Nat) (l:List UInt8) (a:Nat) (c:RSt):Option (Nat×RSt):=
 if n=1 then (if l=wTitle then some (a,c) else none)
 else if n=2 then (if secB l=true then some (a,secS l c) else none)
 else if (pBody l a c).2=0 then none else some ((pBody l a c).2,(pBody l a c).1)
def nxtL (f n:Nat) (r:List UInt8):Option (Nat×RSt)→RSt×Nat×Int
 |none=>(st0_,n,1)
 |some p=>pRun f r (n+1) p.1 p.2
theorem pRun_none {f n a:Nat} {t:List UInt8} {c:RSt} (h8:a≠8) (h:cutL t=none):pRun (f+1) t n a c=(st0_,n,2):=by
 unfold pRun
 rw [if_neg h8,h]
theorem pRun_step {f n a:Nat} {t l r:List UInt8} {c:RSt} (h8:a≠8) (h:cutL t=some (l,r)):pRun (f+1) t n a c=nxtL f n r (stepL n l a c):=by
 unfold pRun stepL
 rw [if_neg h8,h]
 simp only
 by_cases h1:n=1
 ·subst h1
  simp only [if_true]
  split<;>rfl
 ·rw [if_neg h1,if_neg h1]
  by_cases h2:n=2
  ·subst h2
   simp only [if_true]
   split<;>rfl
  ·rw [if_neg h2,if_neg h2]
   split<;>rfl
theorem cutL_put {l r:List UInt8} (h:∀x∈l,x≠10):cutL (l++10::r)=some (l,r):=by
 induction l with
 |nil=>rfl
 |cons a l ih=>
  rw [List.cons_append]
  unfold cutL
  rw [if_neg (h a (List.mem_cons_self ..)),ih (fun x hx=>h x (List.mem_cons_of_mem _ hx))]
  rfl
def lnT (ls:List (List UInt8)):List UInt8:=ls.flatMap (·++[10])
theorem lnT_app (a b:List (List UInt8)):lnT (a++b)=lnT a++lnT b:=by simp [lnT]
theorem lnT_cons (a:List UInt8) (b:List (List UInt8)):lnT (a::b)=a++10::lnT b:=by simp [lnT]
def okRun:Nat→List (List UInt8)→Nat→RSt→Nat→RSt→Prop
 |_,[],a,c,a',c'=>a'=a∧c'=c
 |n,l::r,a,c,a',c'=>a≠8∧(∀x∈l,x≠10)∧∃a1 c1,stepL n l a c=some (a1,c1)∧okRun (n+1) r a1 c1 a' c'
theorem okRun_app {ls ms:List (List UInt8)} {a a1 a2:Nat} {c c1 c2:RSt}:∀ {n:Nat},okRun n ls a c a1 c1→okRun (n+ls.length) ms a1 c1 a2 c2→okRun n (ls++ms) a c a2 c2:=by
 induction ls generalizing a c with
 |nil=>
  intro n h k
  obtain ⟨rfl,rfl⟩:=h
  exact k
 |cons l r ih=>
  intro n h k
  obtain ⟨h8,h10,a3,c3,e,h⟩:=h
  refine ⟨h8,h10,a3,c3,e,ih h ?_⟩
  rw [List.length_cons] at k
  rw [show n+1+r.length=n+(r.length+1) by omega]
  exact k
theorem okRun_run {ls:List (List UInt8)} {t:List UInt8} {a a1:Nat} {c c1:RSt}:∀ {f n:Nat},okRun n ls a c a1 c1→pRun (f+ls.length) (lnT ls++t) n a c=pRun f t (n+ls.length) a1 c1:=by
 induction ls generalizing a c with
 |nil=>
  intro f n h
  obtain ⟨rfl,rfl⟩:=h
  rfl
 |cons l r ih=>
  intro f n h
  obtain ⟨h8,h10,a3,c3,e,h⟩:=h
  rw [lnT_cons,List.append_assoc,List.cons_append,List.length_cons,←Nat.add_assoc,pRun_step h8 (cutL_put h10),e]
  show pRun (f+r.length) (lnT r++t) (n+1) a3 c3=_
  rw [ih h]
  rw [show n+1+r.length=n+(r.length+1) by omega]
theorem line_eq (w:List UInt8) (its:List (List UInt8)):lineB (w::its)=(w++spc its)++[10]:=by
 unfold lineB
 have h:=join_app (l:=[w]) (by simp) its
 have h1:join [w] [32]=w:=by rw [join_cons];simp [joinTail]
 rw [h1] at h
 rw [←List.singleton_append,h]
 rfl
theorem body_put {R a:Nat} {w:List UInt8} {its:List (List UInt8)} {c c':RSt} (h32:∀x∈w,x≠32) (hR:rankV w=R) (hl:lessR R a=false) (h4:R=4→a=3∨a=4)
  (hp:pPart (w++spc its) R c (w.length,false)=(c',(w++spc its).length,false)):pBody (w++spc its) a c=(c',R):=by
 have ht:tokI (w++spc its) (0,false)=(w,w.length,false):=by
  have h2:itB (w++spc its) 0=w:=by
   unfold itB
   rw [List.drop_zero]
   refine takeW_put h32 ?_
   have:=nxt_spc (l:=its) (suf:=[]) (.inl rfl)
   simpa using this
  unfold tokI spI
  rw [if_pos rfl]
  simp only [h2]
  rw [Nat.zero_add]
 unfold pBody
 simp only [ht,hR]
 rw [if_neg (by
  rintro ⟨h1,h2,h3⟩
  rcases h4 h1 with h|h
  ·exact h2 h
  ·exact h3 h),hp]
 simp [hl]
theorem Bk.line {α:Type} {one:Rdr α} {it:α→List (List UInt8)} {ok:α→Prop} (h:Bk one it ok) {x:α} (hx:ok x) {w:List UInt8} (hw:w≠[]):one (w++spc (it x)) (w.length,false)=(x,(w++spc (it x)).length,false):=by
 have:=h.put x hx w [] hw (.inl rfl)
 rw [List.append_nil] at this
 rw [this,List.length_append]
theorem okRun_one {n a R:Nat} {l:List UInt8} {c c':RSt} (hn:3≤n) (h8:a≠8) (h10:∀x∈l,x≠10) (h0:R≠0) (hb:pBody l a c=(c',R)):okRun n [l] a c R c':=by
 refine ⟨h8,h10,R,c',?_,rfl,rfl⟩
 unfold stepL
 rw [if_neg (by omega),if_neg (by omega),hb]
 rw [if_neg h0]
theorem okRun_list {α:Type} {ln:α→List (List UInt8)} {add:RSt→List α→RSt} (h0:∀c,add c []=c) (h1:∀c x xs,add (add c [x]) xs=add c (x::xs)) {B:Nat}:∀ {xs:List α} (_:∀x∈xs,∀n,3≤n→∀a,a≤B→∀c,∃a',a'≤B∧okRun n (ln x) a c a' (add c [x])) {n a:Nat} {c:RSt},3≤n→a≤B→∃a',a'≤B∧okRun n (xs.flatMap ln) a c a' (add c xs)
 |[],_,n,a,c,_,ha=>⟨a,ha,rfl,h0 c⟩
 |x::xs,h,n,a,c,hn,ha=>by
  obtain ⟨a1,ha1,h2⟩:=h x (List.mem_cons_self ..) n hn a ha c
  obtain ⟨a2,ha2,h3⟩:=okRun_list h0 h1 (xs:=xs) (fun y hy=>h y (List.mem_cons_of_mem _ hy)) (n:=n+(ln x).length) (a:=a1) (c:=add c [x]) (by omega) ha1
  refine ⟨a2,ha2,?_⟩
  rw [List.flatMap_cons,←h1]
  exact okRun_app h2 h3
/-! no line feed -/
def NL (l:List (List UInt8)):Prop:=∀i∈l,∀c∈i,c≠10
theorem NL.nil:NL []:=fun _ h=>by cases h
theorem NL.cons {i:List UInt8} {l:List (List UInt8)} (h:∀c∈i,c≠10) (k:NL l):NL (i::l):=fun j hj=>by
 rcases List.mem_cons.1 hj with rfl|hj
 ·exact h
 ·exact k j hj
theorem NL.app {l k:List (List UInt8)} (h:NL l) (g:NL k):NL (l++k):=fun j hj=>by
 rcases List.mem_append.1 hj with hj|hj
 ·exact h j hj
 ·exact g j hj
theorem nl_itoa (n:Int):∀c∈itoa n,c≠10:=fun c hc=>by
 rcases itoa_char hc with rfl|h
 ·decide
 ·rintro rfl;simp at h
theorem nl_qB {s:List UInt8} (h:∀c∈s,chP c=true):∀c∈qB s,c≠10:=fun c hc=>by
 unfold qB at hc
 obtain ⟨x,hx,hc⟩:=List.mem_flatMap.1 hc
 have h1:=h x hx
 have h10:x≠10:=by rintro rfl;revert h1;decide
 split at hc
 ·simp at hc;rw [hc];decide
 ·simp at hc;rw [hc];exact h10
theorem nl_qS {s:ByteArray} (h:okS s):∀c∈qS s,c≠10:=fun c hc=>by
 unfold qS quoteB at hc
 rcases List.mem_cons.1 hc with rfl|hc
 ·decide
 ·rcases List.mem_append.1 hc with hc|hc
  ·exact nl_qB h c hc
  ·simp at hc;rw [hc];decide
theorem nl_flag (b:Bool):∀c∈flagB b,c≠10:=by cases b<;>decide
theorem nl_val {v:Val} (h:okVa v):∀c∈valB v,c≠10:=by
 rcases h with rfl|⟨h1,_,_⟩|⟨h1,_,h3⟩|⟨h1,h2,_⟩
 ·decide
 ·unfold valB litB;simp only [h1];exact nl_itoa _
 ·unfold valB litB;simp only [h1];exact nl_qS h3
 ·unfold valB litB
  rw [h1]
  rcases h2 with h2|h2<;>(rw [h2,if_neg (by decide),if_neg (by decide),if_pos rfl];decide)
theorem NL.lst {α:Type} {f:α→List (List UInt8)} {xs:List α} (h:∀x∈xs,NL (f x)):NL (lstI f xs):=NL.cons (nl_itoa _) fun i hi=>by
 obtain ⟨x,hx,hi⟩:=List.mem_flatMap.1 hi
 exact h x hx i hi
theorem NL.one {i:List UInt8} (h:∀c∈i,c≠10):NL [i]:=NL.cons h NL.nil
theorem nl_exp:∀(d:Nat) (x:RE),okE d x→NL (exI x)
 |0,_,h=>h.elim
 |d+1,.mk op it v nm A c args,h=>by
  obtain ⟨_,_,h3,h4,_,_,h7⟩:=h
  rw [exI_eq]
  exact NL.app (NL.cons (nl_itoa _) (NL.cons (nl_itoa _) (NL.cons (nl_val h3) (NL.one (nl_qS h4))))) (NL.lst fun x hx=>nl_exp d x (h7.1 x hx))
theorem nl_col {x:RCol} (h:okC x):NL (colI x):=NL.cons (nl_qS h.1) (NL.cons (nl_itoa _) (NL.one (nl_flag _)))
theorem nl_num (n:Int):NL (numI n):=NL.one (nl_itoa n)
theorem nl_tab {t:RTab} (h:okT t):NL (tabI t):=
 NL.app (NL.app (NL.app (NL.app (NL.one (nl_qS h.name)) (NL.lst fun x hx=>nl_col (h.cols.1 x hx))) (NL.lst fun x _=>nl_num x)) (NL.lst fun x hx=>NL.app (NL.lst fun x _=>nl_num x) (NL.one (nl_qS (h.fors.1 x hx).2.1)))) (NL.lst fun x hx=>nl_exp 24 x (h.chks.1 x hx))
theorem nl_chn {k:Int} {x:Chn} (h:okCh k x):NL (chnI x):=NL.app (NL.app (NL.cons (nl_qS h.name) (NL.one (nl_qS h.to))) (nl_col h.col)) (NL.one (nl_val h.def_))
theorem nl_ent {x:REn} (h:okEn x):NL (entI x).tail:=by
 have hr:=h.rest
 unfold okR at hr
 unfold entI
 refine NL.cons (nl_itoa _) (NL.cons (nl_qS h.table) (NL.cons (nl_itoa _) ?_))
 show NL (if x.change.kind=0 then tabI x.create else chnI x.change)
 split
 ·rename_i h0
  rw [if_pos h0] at hr
  exact nl_tab hr.1
 ·rename_i h0
  rw [if_neg h0] at hr
  exact nl_chn hr.2
theorem nl_ver {x:Ver} (h:okVe x):NL (verI x).tail:=NL.cons (nl_itoa _) (NL.cons (nl_itoa _) (NL.app (NL.lst fun v hv=>NL.one (nl_val (h.row.1 v hv)))
 (NL.cons (nl_itoa _) (NL.cons (nl_itoa _) (NL.cons (nl_itoa _) (NL.cons (nl_itoa _) (NL.cons (nl_itoa _) (NL.one (nl_itoa _)))))))))
theorem nl_hld {x:Hld} (h:okH x):NL (hldI x).tail:=NL.cons (nl_qS h.name) (NL.cons (nl_qS h.table) (NL.cons (nl_itoa _) (NL.cons (nl_itoa _) (NL.cons (nl_itoa _) (NL.one (nl_itoa _))))))
theorem nl_line {w:List UInt8} {its:List (List UInt8)} (h:∀c∈w,c≠10) (k:NL its):∀x∈w++spc its,x≠10:=fun x hx=>by
 rcases List.mem_append.1 hx with hx|hx
 ·exact h x hx
 ·unfold spc at hx
  obtain ⟨i,hi,hx⟩:=List.mem_flatMap.1 hx
  rcases List.mem_cons.1 hx with rfl|hx
  ·decide
  ·exact k i hi x hx
end Go.Proofs.YtgfhknnklapldaaGreatDoor
namespace Go.Proofs.YtgfhknnklapldaaGreatDoor
open Go.RowKit Go.Lib Go.IntWalk Go.Sort Go.Shelf
def lnI:List (List UInt8)→List UInt8
 |[]=>[]
 |w::its=>w++spc its
theorem lineB_lnI {l:List (List UInt8)} (h:l≠[]):lineB l=lnI l++[10]:=by
 cases l with
 |nil=>exact absurd rfl h
 |cons w its=>exact line_eq w its
def linesT (t:RTv):List (List UInt8):=lnI [wTable,qS t.table]::t.vers.map (fun p=>lnI (verI p.2))
def linesS (c:RSt):List (List UInt8):=[wTitle]++[lnI (stI c)]++c.ents.flatMap (fun x=>[lnI (entI x)])++c.stms.flatMap (fun x=>[lnI (stmI x)])++c.tabs.flatMap linesT++c.pla.flatMap (fun x=>[lnI (hldI x)])++c.pol.flatMap (fun x=>[lnI (polI x)])++c.hor.flatMap (fun x=>[lnI (horI x)])++[lnI [wEnd]]
theorem lnT_flat {α:Type} {f:α→List (List UInt8)} {g:α→List UInt8} (h:∀x,lnT (f x)=g x) (l:List α):lnT (l.flatMap f)=l.flatMap g:=by
 induction l with
 |nil=>rfl
 |cons a r ih=>rw [List.flatMap_cons,List.flatMap_cons,lnT_app,h,ih]
theorem lnT_one (l:List UInt8):lnT [l]=l++[10]:=by simp [lnT]
theorem lnT_tv (t:RTv):lnT (linesT t)=tvT t:=by
 unfold linesT tvT tabT
 rw [lnT_cons,lineB_lnI (by simp),List.append_assoc]
 congr 1
 rw [List.flatMap_map]
 unfold lnT
 rw [List.flatMap_map]
 rw [List.singleton_append]
 congr 1
 congr 1
 funext p
 exact (lineB_lnI (by simp [verI])).symm
theorem textS_eq (c:RSt):textS c=lnT (linesS c):=by
 unfold textS linesS
 simp only [lnT_app]
 rw [lnT_flat (g:=fun x=>lineB (entI x)) (fun x=>by rw [lnT_one,lineB_lnI (by simp [entI])]),lnT_flat (g:=fun x=>lineB (stmI x)) (fun x=>by rw [lnT_one,lineB_lnI (by simp [stmI])]),lnT_flat lnT_tv,
  lnT_flat (g:=fun x=>lineB (hldI x)) (fun x=>by rw [lnT_one,lineB_lnI (by simp [hldI])]),lnT_flat (g:=fun x=>lineB (polI x)) (fun x=>by rw [lnT_one,lineB_lnI (by simp [polI])]),lnT_flat (g:=fun x=>lineB (horI x)) (fun x=>by rw [lnT_one,lineB_lnI (by simp [horI])]),
  lnT_one,lnT_one,lnT_one,lineB_lnI (l:=[wTitle]) (by simp),lineB_lnI (l:=stI c) (by simp [stI]),lineB_lnI (l:=[wEnd]) (by simp)]
 rfl
structure okSt (c:RSt):Prop where
 nums:i64 c.tx∧i64 c.time∧i64 c.wall∧i64 c.next
 ents:∀x∈c.ents,okEn x
 stms:∀x∈c.stms,i64 x.time∧i64 x.wall
 tabs:∀t∈c.tabs,okS t.table∧t.A=none∧t.C=0∧∀p∈t.vers,p=rvP p.2∧okVe p.2
 pla:∀x∈c.pla,okH x
 pol:∀x∈c.pol,okS x.table∧i64 x.keep
 hor:∀x∈c.hor,okS x.table∧i64 x.time
def stN (c:RSt):RSt:=⟨c.tx,c.time,c.wall,c.next,none,0,c.ents,none,0,c.stms,none,0,c.tabs,none,0,c.pla,none,0,c.pol,none,0,c.hor⟩
theorem sec_put {c:RSt} (h1:i64 c.tx) (h2:i64 c.time) (h3:i64 c.wall) (h4:i64 c.next):secB (lnI (stI c))=true∧secS (lnI (stI c)) st0_= { st0_ with tx:=c.tx,time:=c.time,wall:=c.wall,next:=c.next }:=by
 obtain ⟨l,hl⟩:=eN0 (lnI (stI c))
 have e0:secT l=(wState,5,false):=by
  have h:itB l 0=wState:=by
   rw [hl]
   unfold itB
   rw [List.drop_zero]
   exact takeW_put (by decide) (by have:=nxt_spc (l:=[itoa c.tx,itoa c.time,itoa c.wall,itoa c.next]) (suf:=[]) (.inl rfl);simpa using this)
  unfold secT tokI spI
  rw [if_pos rfl]
  simp only [h]
  rfl
 have hb:=Bk.let4 bk_num bk_num bk_num bk_num (fun a b c d=>(a,b,c,d)) (fun p:Int×Int×Int×Int=>[itoa p.1,itoa p.2.1,itoa p.2.2.1,itoa p.2.2.2]) (fun p=>i64 p.1∧i64 p.2.1∧i64 p.2.2.1∧i64 p.2.2.2)
  (by rintro ⟨a,b,c,d⟩ ⟨h1,h2,h3,h4⟩;exact ⟨a,b,c,d,⟨h1,h2,h3,h4⟩,by simp [numI],rfl⟩)
  (by rintro a b c d ⟨h1,h2,h3,h4⟩;exact ⟨⟨h1,h2,h3,h4⟩,by simp [numI]⟩)
 have h:=hb.line (x:=(c.tx,c.time,c.wall,c.next)) ⟨h1,h2,h3,h4⟩ (w:=wState) (by decide)
 have hl2:l=wState++spc [itoa c.tx,itoa c.time,itoa c.wall,itoa c.next]:=hl
 simp only at h
 rw [←hl2] at h
 have h5:(wState.length,false)=(secT l).2:=by rw [e0];rfl
 rw [h5] at h
 rw [←hl]
 have h:(((sec1 l).1,(sec2 l).1,(sec3 l).1,(sec4 l).1),(sec4 l).2)=((c.tx,c.time,c.wall,c.next),l.length,false):=h
 simp only [Prod.mk.injEq] at h
 obtain ⟨⟨g1,g2,g3,g4⟩,g5⟩:=h
 constructor
 ·unfold secB
  rw [e0,g5]
  simp
 ·unfold secS
  rw [g1,g2,g3,g4]
theorem less_no {R a:Nat} (h:a≤R):lessR R a=false:=by
 unfold lessR
 rw [decide_eq_false (by omega)];rfl
theorem run_part {α:Type} {one:Rdr α} {it:α→List (List UInt8)} {ok:α→Prop} (h:Bk one it ok) {R n a:Nat} {w:List UInt8} {x:α} {c c':RSt} (hx:ok x) (hN:NL (it x)) (hn:3≤n) (h8:a≠8) (hw:w≠[]) (h32:∀y∈w,y≠32) (h10:∀y∈w,y≠10) (hR:rankV w=R) (h0:R≠0) (hl:lessR R a=false) (h4:R=4→a=3∨a=4)
  (hp:∀l st,(one l st).1=x→pPart l R c st=(c',(one l st).2)):okRun n [w++spc (it x)] a c R c':=by
 refine okRun_one hn h8 (nl_line h10 hN) h0 (body_put h32 hR hl h4 ?_)
 have k:=h.line hx hw
 rw [hp _ _ (by rw [k]),k]
theorem run_vers {tb:ByteArray} {ts:List RTv}:∀ {vs us:List VP} {n a:Nat} {c:RSt},(∀p∈vs,p=rvP p.2∧okVe p.2)→3≤n→a=3∨a=4→∃a',a'≤4∧okRun n (vs.map (fun p=>lnI (verI p.2))) a { c with tabs:=ts++[⟨tb,none,0,us⟩] } a' { c with tabs:=ts++[⟨tb,none,0,us++vs⟩] }
 |[],us,n,a,c,_,_,ha=>⟨a,by omega,rfl,by simp⟩
 |p::vs,us,n,a,c,h,hn,ha=>by
  have hp:=h p (List.mem_cons_self ..)
  obtain ⟨a2,ha2,h3⟩:=run_vers (tb:=tb) (ts:=ts) (vs:=vs) (us:=us++[p]) (n:=n+1) (a:=4) (c:=c) (fun q hq=>h q (List.mem_cons_of_mem _ hq)) (by omega) (.inr rfl)
  refine ⟨a2,ha2,?_⟩
  have ha:∀ts:List RTv,addVer p (ts++[⟨tb,none,0,us⟩])=ts++[⟨tb,none,0,us++[p]⟩]:=by
   intro ts
   induction ts with
   |nil=>rfl
   |cons x r ih=>
    cases r with
    |nil=>rfl
    |cons y r=>
     simp only [List.cons_append] at ih ⊢
     unfold addVer
     rw [ih]
  have h1:okRun n [wVersion++spc (verI p.2).tail] a { c with tabs:=ts++[⟨tb,none,0,us⟩] } 4 { c with tabs:=ts++[⟨tb,none,0,us++[p]⟩] }:=
   run_part bk_ver (R:=4) (w:=wVersion) hp.2 (nl_ver hp.2) hn (by omega) (by decide) (by decide) (by decide) (by decide) (by decide) (less_no (by omega)) (fun _=> ‹a=3∨a=4›) (fun l st e=>by
    unfold pPart
    simp only [if_neg (by decide:¬(4:Nat)=1),if_neg (by decide:¬(4:Nat)=2),if_neg (by decide:¬(4:Nat)=3),if_true]
    rw [e,←hp.1,ha])
  have h2:us++p::vs=(us++[p])++vs:=by simp
  rw [h2]
  exact okRun_app h1 h3
theorem put_lines {c:RSt} (h:okSt c):okRun 1 (linesS c) 0 st0_ 8 (stN c):=by
 obtain ⟨s1,s2⟩:=sec_put h.nums.1 h.nums.2.1 h.nums.2.2.1 h.nums.2.2.2
 have r1:okRun 1 [wTitle] 0 st0_ 0 st0_:=⟨by decide,by decide,0,st0_,by unfold stepL;rw [if_pos rfl,if_pos rfl],rfl,rfl⟩
 have hN2:∀x∈lnI (stI c),x≠10:=nl_line (w:=wState) (by decide) (NL.cons (nl_itoa _) (NL.cons (nl_itoa _) (NL.cons (nl_itoa _) (NL.one (nl_itoa _)))))
 have r2:okRun 2 [lnI (stI c)] 0 st0_ 0 { st0_ with tx:=c.tx,time:=c.time,wall:=c.wall,next:=c.next }:=⟨by decide,hN2,0,_,by unfold stepL;rw [if_neg (by decide),if_pos rfl,if_pos s1,s2],rfl,rfl⟩
 obtain ⟨n3,hn3⟩:=eN0 (1+([wTitle]++[lnI (stI c)]).length)
 obtain ⟨a3,l3,r3⟩:=okRun_list (ln:=fun x=>[lnI (entI x)]) (add:=fun c xs=> { c with ents:=c.ents++xs }) (B:=1) (fun c=>by simp) (fun c x xs=>by simp) (xs:=c.ents) (fun x hx n hn a ha c=>⟨1,by omega,
  run_part bk_ent (R:=1) (w:=wEntry) (h.ents x hx) (nl_ent (h.ents x hx)) hn (by omega) (by decide) (by decide) (by decide) (by decide) (by decide) (less_no ha) (by omega) (fun l st e=>by unfold pPart;rw [if_pos rfl,e])⟩) (n:=n3) (a:=0) (c:=(⟨c.tx,c.time,c.wall,c.next,none,0,[],none,0,[],none,0,[],none,0,[],none,0,[],none,0,[]⟩:RSt)) (by rw [hn3];simp only [List.length_append,List.length_cons,List.length_nil];omega) (by omega)
 obtain ⟨n4,hn4⟩:=eN0 (1+([wTitle]++[lnI (stI c)]++c.ents.flatMap (fun x=>[lnI (entI x)])).length)
 obtain ⟨a4,l4,r4⟩:=okRun_list (ln:=fun x=>[lnI (stmI x)]) (add:=fun c xs=> { c with stms:=c.stms++xs }) (B:=2) (fun c=>by simp) (fun c x xs=>by simp) (xs:=c.stms) (fun x hx n hn a ha c=>⟨2,by omega,
  run_part bk_stm (R:=2) (w:=wStamp) (h.stms x hx) (NL.cons (nl_itoa _) (NL.one (nl_itoa _))) hn (by omega) (by decide) (by decide) (by decide) (by decide) (by decide) (less_no ha) (by omega) (fun l st e=>by unfold pPart;rw [if_neg (by decide),if_pos rfl,e])⟩) (n:=n4) (a:=a3) (c:=(⟨c.tx,c.time,c.wall,c.next,none,0,c.ents,none,0,[],none,0,[],none,0,[],none,0,[],none,0,[]⟩:RSt)) (by rw [hn4];simp only [List.length_append,List.length_cons,List.length_nil];omega) (by omega)
 obtain ⟨n5,hn5⟩:=eN0 (1+([wTitle]++[lnI (stI c)]++c.ents.flatMap (fun x=>[lnI (entI x)])++c.stms.flatMap (fun x=>[lnI (stmI x)])).length)
 obtain ⟨a5,l5,r5⟩:=okRun_list (ln:=linesT) (add:=fun c xs=> { c with tabs:=c.tabs++xs }) (B:=4) (fun c=>by simp) (fun c x xs=>by simp) (xs:=c.tabs) (fun x hx n hn a ha c=>by
  obtain ⟨t1,t2,t3,t4⟩:=h.tabs x hx
  obtain ⟨tb,A,C,vs⟩:=x
  simp only at t1 t2 t3 t4
  subst t2 t3
  have q1:okRun n [wTable++spc [qS tb]] a c 3 { c with tabs:=c.tabs++[⟨tb,none,0,[]⟩] }:=run_part bk_text (R:=3) (w:=wTable) t1 (NL.one (nl_qS t1)) hn (by omega) (by decide) (by decide) (by decide) (by decide) (by decide) (by
   unfold lessR
   by_cases h4:a=4
   ·subst h4;rfl
   ·rw [decide_eq_false (by omega)];rfl) (by omega) (fun l st e=>by unfold pPart;rw [if_neg (by decide),if_neg (by decide),if_pos rfl,e])
  obtain ⟨a',la,q2⟩:=run_vers (tb:=tb) (ts:=c.tabs) (vs:=vs) (us:=[]) (n:=n+1) (a:=3) (c:=c) t4 (by omega) (.inl rfl)
  exact ⟨a',la,okRun_app q1 q2⟩) (n:=n5) (a:=a4) (c:=(⟨c.tx,c.time,c.wall,c.next,none,0,c.ents,none,0,c.stms,none,0,[],none,0,[],none,0,[],none,0,[]⟩:RSt)) (by rw [hn5];simp only [List.length_append,List.length_cons,List.length_nil];omega) (by omega)
 obtain ⟨n6,hn6⟩:=eN0 (1+([wTitle]++[lnI (stI c)]++c.ents.flatMap (fun x=>[lnI (entI x)])++c.stms.flatMap (fun x=>[lnI (stmI x)])++c.tabs.flatMap linesT).length)
 obtain ⟨a6,l6,r6⟩:=okRun_list (ln:=fun x=>[lnI (hldI x)]) (add:=fun c xs=> { c with pla:=c.pla++xs }) (B:=5) (fun c=>by simp) (fun c x xs=>by simp) (xs:=c.pla) (fun x hx n hn a ha c=>⟨5,by omega,
  run_part bk_hld (R:=5) (w:=wHold) (h.pla x hx) (nl_hld (h.pla x hx)) hn (by omega) (by decide) (by decide) (by decide) (by decide) (by decide) (less_no ha) (by omega) (fun l st e=>by unfold pPart;rw [if_neg (by decide),if_neg (by decide),if_neg (by decide),if_neg (by decide),if_pos rfl,e])⟩) (n:=n6) (a:=a5) (c:=(⟨c.tx,c.time,c.wall,c.next,none,0,c.ents,none,0,c.stms,none,0,c.tabs,none,0,[],none,0,[],none,0,[]⟩:RSt)) (by rw [hn6];simp only [List.length_append,List.length_cons,List.length_nil];omega) (by omega)
 obtain ⟨n7,hn7⟩:=eN0 (1+([wTitle]++[lnI (stI c)]++c.ents.flatMap (fun x=>[lnI (entI x)])++c.stms.flatMap (fun x=>[lnI (stmI x)])++c.tabs.flatMap linesT++c.pla.flatMap (fun x=>[lnI (hldI x)])).length)
 obtain ⟨a7,l7,r7⟩:=okRun_list (ln:=fun x=>[lnI (polI x)]) (add:=fun c xs=> { c with pol:=c.pol++xs }) (B:=6) (fun c=>by simp) (fun c x xs=>by simp) (xs:=c.pol) (fun x hx n hn a ha c=>⟨6,by omega,
  run_part bk_pol (R:=6) (w:=wPolicy) (h.pol x hx) (NL.cons (nl_qS (h.pol x hx).1) (NL.one (nl_itoa _))) hn (by omega) (by decide) (by decide) (by decide) (by decide) (by decide) (less_no ha) (by omega) (fun l st e=>by unfold pPart;rw [if_neg (by decide),if_neg (by decide),if_neg (by decide),if_neg (by decide),if_neg (by decide),if_pos rfl,e])⟩) (n:=n7) (a:=a6) (c:=(⟨c.tx,c.time,c.wall,c.next,none,0,c.ents,none,0,c.stms,none,0,c.tabs,none,0,c.pla,none,0,[],none,0,[]⟩:RSt)) (by rw [hn7];simp only [List.length_append,List.length_cons,List.length_nil];omega) (by omega)
 obtain ⟨n8,hn8⟩:=eN0 (1+([wTitle]++[lnI (stI c)]++c.ents.flatMap (fun x=>[lnI (entI x)])++c.stms.flatMap (fun x=>[lnI (stmI x)])++c.tabs.flatMap linesT++c.pla.flatMap (fun x=>[lnI (hldI x)])++c.pol.flatMap (fun x=>[lnI (polI x)])).length)
 obtain ⟨a8,l8,r8⟩:=okRun_list (ln:=fun x=>[lnI (horI x)]) (add:=fun c xs=> { c with hor:=c.hor++xs }) (B:=7) (fun c=>by simp) (fun c x xs=>by simp) (xs:=c.hor) (fun x hx n hn a ha c=>⟨7,by omega,
  run_part bk_hor (R:=7) (w:=wHorizon) (h.hor x hx) (NL.cons (nl_qS (h.hor x hx).1) (NL.one (nl_itoa _))) hn (by omega) (by decide) (by decide) (by decide) (by decide) (by decide) (less_no ha) (by omega) (fun l st e=>by unfold pPart;rw [if_neg (by decide),if_neg (by decide),if_neg (by decide),if_neg (by decide),if_neg (by decide),if_neg (by decide),if_pos rfl,e])⟩) (n:=n8) (a:=a7) (c:=(⟨c.tx,c.time,c.wall,c.next,none,0,c.ents,none,0,c.stms,none,0,c.tabs,none,0,c.pla,none,0,c.pol,none,0,[]⟩:RSt)) (by rw [hn8];simp only [List.length_append,List.length_cons,List.length_nil];omega) (by omega)
 unfold linesS
 have r9:∀(n:Nat) (c:RSt),3≤n→okRun n [lnI [wEnd]] a8 c 8 c:=fun n c hn=>okRun_one hn (by omega) (by decide) (by decide) (body_put (w:=wEnd) (its:=[]) (by decide) (by decide) (less_no (by omega)) (by omega) (by
  unfold pPart
  rw [if_neg (by decide),if_neg (by decide),if_neg (by decide),if_neg (by decide),if_neg (by decide),if_neg (by decide),if_neg (by decide)]
  rfl))
 rw [hn3] at r3
 rw [hn4] at r4
 rw [hn5] at r5
 rw [hn6] at r6
 rw [hn7] at r7
 rw [hn8] at r8
 exact okRun_app (okRun_app (okRun_app (okRun_app (okRun_app (okRun_app (okRun_app (okRun_app r1 r2) r3) r4) r5) r6) r7) r8) (r9 _ _ (by simp only [List.length_append,List.length_cons,List.length_nil];omega))
theorem put_all {c:RSt} (h:okSt c):pAll (textS c)=(stN c,0,0):=by
 unfold pAll
 have hl:(linesS c).length≤(textS c).length:=by
  rw [textS_eq]
  unfold lnT
  induction linesS c with
  |nil=>exact Nat.zero_le _
  |cons a r ih=>rw [List.flatMap_cons,List.length_append,List.length_append,List.length_cons];simp only [List.length_cons,List.length_nil];omega
 obtain ⟨f,hf⟩:∃f,(textS c).length+2=f+1+(linesS c).length:=⟨(textS c).length+1-(linesS c).length,by omega⟩
 have k:=okRun_run (t:=[]) (f:=f+1) (put_lines h)
 rw [List.append_nil,←textS_eq] at k
 rw [hf,k]
 unfold pRun
 rw [if_pos rfl,if_pos rfl]
end Go.Proofs.YtgfhknnklapldaaGreatDoor
namespace Go.Proofs.YtgfhknnklapldaaGreatDoor
open Go.RowKit Go.Lib Go.IntWalk Go.Sort Go.Shelf
theorem fm_congr {α β:Type} {f g:α→List β}:∀ {l:List α},(∀x∈l,f x=g x)→l.flatMap f=l.flatMap g
 |[],_=>rfl
 |x::l,h=>by rw [List.flatMap_cons,List.flatMap_cons,h x (List.mem_cons_self ..),fm_congr (l:=l) (fun y hy=>h y (List.mem_cons_of_mem _ hy))]
theorem okS_nm {s:ByteArray} (h:nmB s=true):okS s:=fun c hc=>by
 unfold nmB nmW at h
 simp only [Bool.and_eq_true,List.all_eq_true] at h
 have h1:=h.2 c hc
 unfold chW at h1
 unfold chP
 simp only [decide_eq_true_eq] at h1 ⊢
 omega
theorem ba_nil {s:ByteArray} (h:s.data.toList=[]):s=⟨#[]⟩:=by
 obtain ⟨⟨l⟩⟩:=s
 simp only at h
 rw [h]
theorem ba_emp {s:ByteArray} (h:s.toList.isEmpty=true):s=⟨#[]⟩:=by
 rw [ByteArray.toList_eq,List.isEmpty_iff] at h
 exact ba_nil h
theorem okS_nil:okS ⟨#[]⟩:=fun c hc=>by cases hc
theorem okS_em {s:ByteArray} (h:emW s=true):okS s:=by
 unfold emW at h
 rw [Bool.or_eq_true] at h
 rcases h with h|h
 ·rw [ba_emp h];exact okS_nil
 ·exact okS_nm h
theorem okVa_of {v:Val} (h:validV v=true):okVa v:=by
 obtain ⟨k,n,t⟩:=v
 unfold validV at h
 simp only at h
 split at h
 ·rename_i h1
  simp only [Bool.and_eq_true,beq_iff_eq] at h
  left
  rw [h1,h.1,ba_nil h.2];rfl
 ·split at h
  ·rename_i h1
   simp only [Bool.and_eq_true,beq_iff_eq,decide_eq_true_eq] at h
   right;left
   exact ⟨h1,by show i64 n;unfold i64;omega,ba_nil h.2⟩
  ·split at h
   ·rename_i h1
    simp only [Bool.and_eq_true,beq_iff_eq,decide_eq_true_eq] at h
    right;right;left
    refine ⟨h1,h.1.1,fun c hc=>?_⟩
    have h2:=h.2
    unfold printB at h2
    rw [List.all_eq_true] at h2
    have h3:=h2 c hc
    unfold chP
    simp only [Bool.and_eq_true,decide_eq_true_eq,UInt8.le_iff_toNat_le] at h3 ⊢
    exact ⟨by have:=h3.1;have e:(32:UInt8).toNat=32:=rfl;omega,by have:=h3.2;have e:(126:UInt8).toNat=126:=rfl;omega⟩
   ·split at h
    ·rename_i h1
     simp only [Bool.and_eq_true,Bool.or_eq_true,beq_iff_eq] at h
     right;right;right
     exact ⟨h1,h.1,ba_nil h.2⟩
    ·cases h
theorem okE_of:∀(d:Nat) (e:RE),okX d e=true→e.nodes≤1048576→okE d e.er:=by
 intro d
 induction d with
 |zero=>intro e h;simp [okX] at h
 |succ d ih=>
  intro e h hn
  obtain ⟨op,it,val,nm,A,c,args⟩:=e
  simp only [okX,Bool.and_eq_true,decide_eq_true_eq,List.all_eq_true] at h
  obtain ⟨h1,h2,hv,hm,hc,ha⟩:=h
  simp only [RE.nodes,nodesL_sum] at hn
  have hl:=szL_len (sz:=RE.nodes) RE.nodes_pos args
  unfold szL at hl
  rw [reErQ]
  refine ⟨by unfold i64;omega,by unfold i64;omega,okVa_of hv,hc,rfl,rfl,fun x hx=>?_,by rw [List.length_map];omega⟩
  obtain ⟨y,hy,rfl⟩:=List.mem_map.1 hx
  refine ih y (ha y hy) ?_
  have:=szL_mem (sz:=RE.nodes) hy
  unfold szL at this
  omega
theorem okC_of {x:RCol} (h:x.ok=true):okC x:=by
 unfold RCol.ok at h
 simp only [Bool.and_eq_true,decide_eq_true_eq] at h
 exact ⟨okS_nm h.1,by unfold i64;omega⟩
theorem okIx_of {l:List Int} (h:ixF l=true):okL i64 l:=by
 obtain ⟨h1,h2,_⟩:=ix_le h
 exact ⟨fun n hn=>by have:=h2 n hn;unfold i64;omega,by omega⟩
theorem okT_of {t:RTab} (h:t.ok=true) (hz:t.sz≤1048576):okT t.er:=by
 unfold RTab.ok at h
 simp only [Bool.and_eq_true,decide_eq_true_eq,List.all_eq_true] at h
 obtain ⟨h1,h2,h3,h4,h5,h6,h7,h8⟩:=h
 unfold RTab.sz at hz
 refine ⟨okS_nm h1,⟨fun x hx=>okC_of (h6 x hx),by show t.cols.length≤_;omega⟩,okIx_of h3,⟨fun x hx=>?_,by show (t.fors.map RFor.er).length≤_;rw [List.length_map];omega⟩,⟨fun x hx=>?_,by show (t.chks.map RE.er).length≤_;rw [List.length_map];omega⟩,rfl,rfl,rfl,rfl,rfl,rfl,rfl,rfl⟩
 ·obtain ⟨y,hy,rfl⟩:=List.mem_map.1 hx
  have k:=h7 y hy
  unfold RFor.ok at k
  rw [Bool.and_eq_true] at k
  exact ⟨okIx_of k.1,okS_nm k.2,rfl,rfl⟩
 ·obtain ⟨y,hy,rfl⟩:=List.mem_map.1 hx
  exact okE_of 24 y (h8 y hy) (by have:=szL_mem (sz:=RE.nodes) hy;omega)
theorem chn_zero {x:Chn} (h:x.zero=true):x=chn0:=by
 obtain ⟨a,b,c,d,e,f,g,i,j⟩:=x
 unfold Chn.zero at h
 simp only [Bool.and_eq_true,decide_eq_true_eq,Bool.not_eq_true'] at h
 obtain ⟨h1,h2,h3,h4,h5,h6,h7,h8,h9⟩:=h
 rw [h1,ba_emp h2,ba_emp h3,ba_emp h4,h5,h6,h7,h8,ba_emp h9]
 rfl
theorem tab_blank {t:RTab} (h:t.blank=true):t.er=tab0:=by
 unfold RTab.blank at h
 rw [Bool.and_eq_true,decide_eq_true_eq] at h
 obtain ⟨h1,h2⟩:=h
 have e1:=List.length_eq_zero_iff.1 (show t.cols.length=0 by omega)
 have e2:=List.length_eq_zero_iff.1 (show t.key.length=0 by omega)
 have e3:=List.length_eq_zero_iff.1 (show t.fors.length=0 by omega)
 have e4:=List.length_eq_zero_iff.1 (show t.chks.length=0 by omega)
 unfold RTab.er
 rw [e1,e2,e3,e4,ba_emp h1]
 rfl
theorem okEn_of {x:REn} (h:x.ok=true) (hz:x.sz≤1048576):okEn x.er:=by
 unfold REn.sz at hz
 unfold REn.ok instB at h
 rw [Bool.and_eq_true,Bool.and_eq_true,decide_eq_true_eq] at h
 obtain ⟨h1,h2,h3⟩:=h
 by_cases hk:x.change.kind=0
 ·rw [if_pos hk,Bool.and_eq_true,Bool.and_eq_true] at h3
  refine ⟨by show i64 x.time;unfold i64;omega,okS_nm h2,by show i64 x.change.kind;unfold i64;omega,?_⟩
  show okR x.change.kind (x.create.er,x.change)
  unfold okR
  rw [if_pos hk]
  exact ⟨okT_of h3.2.1 (by omega),chn_zero h3.1⟩
 ·rw [if_neg hk,Bool.and_eq_true] at h3
  have q:=chn_le h3.1
  have hc:=h3.1
  unfold Chn.ok at hc
  simp only [Bool.and_eq_true,decide_eq_true_eq] at hc
  obtain ⟨g1,g2,g3,g4,g5,g6⟩:=hc
  refine ⟨by show i64 x.time;unfold i64;omega,okS_nm h2,by show i64 x.change.kind;unfold i64;omega,?_⟩
  show okR x.change.kind (x.create.er,x.change)
  unfold okR
  rw [if_neg hk]
  exact ⟨tab_blank h3.2,rfl,okS_em g1,okS_em g2,⟨okS_em g3,by show i64 x.change.ckind;unfold i64;omega⟩,okVa_of g6⟩
theorem okSt_of {w0:World} {c:RSt} (h:stateF c=0) (hl:c.lim w0):okSt c.er:=by
 have D:=du_W h hl
 obtain ⟨_,_,_,g3,g4,g5,g6⟩:=st_ok h
 have hi:∀n:Int,0≤n→n≤1125899906842624→i64 n:=fun n h1 h2=>by unfold i64;omega
 refine ⟨⟨hi _ D.tx.1 D.tx.2,hi _ D.time.1 (by have:=D.time.2;show c.time≤_;omega),hi _ D.wall.1 (by have:=D.wall.2;show c.wall≤_;omega),hi _ (by have:=D.next.1;show 0≤c.next;omega) D.next.2⟩,fun x hx=>?_,fun x hx=>?_,fun t ht=>?_,fun x hx=>?_,fun x hx=>?_,fun x hx=>?_⟩
 ·obtain ⟨y,hy,rfl⟩:=List.mem_map.1 hx
  exact okEn_of (D.ents y hy).1 (D.ents y hy).2
 ·have k:=D.stms x hx
  exact ⟨hi _ k.1.1 (by omega),hi _ k.2.1 (by omega)⟩
 ·obtain ⟨y,hy,rfl⟩:=List.mem_map.1 ht
  refine ⟨okS_nm (g3 y hy).1,rfl,rfl,fun p hp=>?_⟩
  obtain ⟨q,hq,rfl⟩:=List.mem_map.1 hp
  obtain ⟨⟨b1,b2,b3,b4⟩,b5,b6,b7⟩:=ver_bd ((D.tabs y hy).2 q hq)
  refine ⟨rfl,hi _ (by show 0≤q.2.id;omega) (by show q.2.id≤_;omega),hi _ (by show 0≤q.2.sch;omega) (by show q.2.sch≤_;omega),⟨fun v hv=>okVa_of (b6 v hv),by show q.2.row.length≤_;omega⟩,⟨hi _ (by show 0≤q.2.vf;omega) (by show q.2.vf≤_;omega),hi _ (by show 0≤q.2.vt;omega) (by show q.2.vt≤_;omega)⟩,⟨hi _ (by show 0≤q.2.sf;omega) (by show q.2.sf≤_;omega),hi _ (by show 0≤q.2.st;omega) (by show q.2.st≤_;omega)⟩,hi _ (by show 0≤q.2.by_;omega) (by show q.2.by_≤_;omega),hi _ (by show 0≤q.2.un;omega) (by show q.2.un≤_;omega)⟩
 ·have k:=(D.pla x hx).2
  have hn:=g4 x hx
  unfold Hld.ok at hn
  rw [Bool.and_eq_true,Bool.and_eq_true] at hn
  exact ⟨okS_nm hn.1,okS_nm hn.2.1,⟨hi _ (by omega) (by omega),hi _ (by omega) (by omega)⟩,⟨hi _ (by omega) (by omega),hi _ (by omega) (by omega)⟩⟩
 ·have k:=(D.pol x hx).2
  have hn:=g5 x hx
  unfold Pol.ok at hn
  rw [Bool.and_eq_true] at hn
  exact ⟨okS_nm hn.1,hi _ (by omega) (by omega)⟩
 ·have k:=(D.hor x hx).2
  have hn:=g6 x hx
  unfold Hor.ok at hn
  rw [Bool.and_eq_true] at hn
  exact ⟨okS_nm hn.1,hi _ (by omega) (by omega)⟩
/-! addresses are not printed -/
theorem exI_er:∀e:RE,exI e.er=exI e:=by
 have h:∀(n:Nat) (e:RE),e.nodes≤n→exI e.er=exI e:=by
  intro n
  induction n with
  |zero=>intro e h;have:=e.nodes_pos;omega
  |succ n ih=>
   intro e h
   obtain ⟨op,it,val,nm,A,c,args⟩:=e
   rw [reErQ,exI_eq,exI_eq]
   congr 1
   unfold lstI
   rw [List.length_map,List.flatMap_map]
   congr 1
   refine fm_congr fun x hx=>ih x ?_
   have h2:=nodes_mem hx
   simp only [RE.nodes,nodesL_sum] at h
   omega
 exact fun e=>h e.nodes e (Nat.le_refl _)
theorem lstI_map {α:Type} {f:α→List (List UInt8)} {g:α→α} (h:∀x,f (g x)=f x) (l:List α):lstI f (l.map g)=lstI f l:=by
 unfold lstI
 rw [List.length_map,List.flatMap_map]
 congr 1
 exact fm_congr fun x _=>h x
theorem tabI_er (t:RTab):tabI t.er=tabI t:=by
 unfold tabI RTab.er
 simp only
 rw [lstI_map (f:=forI) (g:=RFor.er) (fun _=>rfl),lstI_map (f:=exI) exI_er]
theorem entI_er (x:REn):entI x.er=entI x:=by
 unfold entI REn.er
 simp only [tabI_er]
theorem textS_er (c:RSt):textS c.er=textS c:=by
 unfold textS RSt.er
 simp only [List.flatMap_map,entI_er]
 congr 1
 congr 1
 congr 1
 congr 1
 congr 1
 refine fm_congr fun t _=>?_
 unfold tvT RTv.er
 simp only [List.map_map]
 rfl
end Go.Proofs.YtgfhknnklapldaaGreatDoor
namespace Go.Proofs.YtgfhknnklapldaaGreatDoor
set_option maxRecDepth 99999
set_option maxHeartbeats 0
open Go.RowKit Go.Lib Go.IntWalk Go.Sort Go.Shelf
theorem cutL_got {t l r:List UInt8} (h:cutL t=some (l,r)):t=l++10::r:=by
 induction t generalizing l with
 |nil=>cases h
 |cons x t ih=>
  unfold cutL at h
  split at h
  ·rename_i hx
   injection h with h
   injection h with h1 h2
   subst h1 h2 hx
   rfl
  ·cases hc:cutL t with
   |none=>rw [hc] at h;cases h
   |some p=>
    rw [hc] at h
    injection h with h
    injection h with h1 h2
    subst h1 h2
    rw [ih (l:=p.1) hc]
    rfl
theorem tok0 (l:List UInt8):tokI l (0,false)=(itB l 0,(itB l 0).length,false):=by
 unfold tokI spI
 rw [if_pos rfl]
 simp only
 rw [Nat.zero_add]
theorem tok0_app (l:List UInt8):l=itB l 0++l.drop (itB l 0).length:=by
 have:=itB_drop l 0
 rw [List.drop_zero,Nat.zero_add] at this
 exact this
theorem part_got {α:Type} {one:Rdr α} {it:α→List (List UInt8)} {ok:α→Prop} (h:Bk one it ok) {l:List UInt8} (h0:itB l 0≠[]) (hf:(one l ((itB l 0).length,false)).2.2=false) (he:¬(one l ((itB l 0).length,false)).2.1<l.length):
  ok (one l ((itB l 0).length,false)).1∧l=itB l 0++spc (it (one l ((itB l 0).length,false)).1):=by
 have hle:(itB l 0).length≤l.length:=by
  have:=congrArg List.length (tok0_app l)
  rw [List.length_append] at this
  omega
 obtain ⟨a1,_,a3,a4⟩:=h.got l ((itB l 0).length,false) (List.length_pos_iff.2 h0) hle hf
 refine ⟨a1,?_⟩
 have hd:l.drop (one l ((itB l 0).length,false)).2.1=[]:=List.drop_of_length_le (by omega)
 rw [hd,List.append_nil] at a4
 simp only at a4
 rw [←a4]
 exact tok0_app l
theorem rank_inv {t:List UInt8} {k:Nat} (h:rankV t=k+1):rkW[k]? =some t:=by
 unfold rankV at h
 split at h
 ·rename_i hlt
  have e:k=rkW.findIdx (·==t):=by omega
  have hl:rkW.findIdx (·==t)<rkW.length:=hlt
  have:=List.findIdx_getElem (w:=hl)
  rw [e,List.getElem?_eq_getElem hl]
  simp only [beq_iff_eq] at this
  rw [this]
 ·omega
def textP (c:RSt):List UInt8:=lineB [wTitle]++lineB (stI c)++c.ents.flatMap (fun x=>lineB (entI x))++c.stms.flatMap (fun x=>lineB (stmI x))++c.tabs.flatMap tvT++c.pla.flatMap (fun x=>lineB (hldI x))++c.pol.flatMap (fun x=>lineB (polI x))++c.hor.flatMap (fun x=>lineB (horI x))
structure GotS (pre:List UInt8) (a:Nat) (c:RSt):Prop where
 txt:pre=textP c++(if a=8 then lineB [wEnd] else [])
 ok:okSt c
 er:stN c=c
 tab:a=3∨a=4→c.tabs≠[]
 l1:a≤1→c.stms=[]
 l2:a≤2→c.tabs=[]
 l4:a≤4→c.pla=[]
 l5:a≤5→c.pol=[]
 l6:a≤6→c.hor=[]
theorem addVer_app (p:VP) (t:RTv):∀ts:List RTv,addVer p (ts++[t])=ts++[⟨t.table,t.A,t.C,t.vers++[p]⟩]
 |[]=>rfl
 |[x]=>rfl
 |x::y::r=>by
  have ih:=addVer_app p t (y::r)
  simp only [List.cons_append] at ih ⊢
  unfold addVer
  rw [ih]
theorem lessR_le {R a:Nat} (h:lessR R a=false):a≤R∨(R=3∧a=4):=by
 unfold lessR at h
 by_cases h1:R<a
 ·right
  rw [decide_eq_true h1,Bool.true_and,Bool.not_eq_false',Bool.and_eq_true,decide_eq_true_eq,decide_eq_true_eq] at h
  exact h
 ·left;omega
theorem body_got {l pre:List UInt8} {a:Nat} {c:RSt} (h:GotS pre a c) (h8:a≠8) (hr:(pBody l a c).2≠0):GotS (pre++(l++[10])) (pBody l a c).2 (pBody l a c).1:=by
 obtain ⟨R,hR⟩:=eN0 (rankV (itB l 0))
 have hR8:R≤8:=by
  rw [hR]
  unfold rankV
  split<;>omega
 have e:pBody l a c=if R=4∧a≠3∧a≠4 then (c,0) else ((pPart l R c ((itB l 0).length,false)).1,if ((pPart l R c ((itB l 0).length,false)).2.2||(decide ((pPart l R c ((itB l 0).length,false)).2.1<l.length)||lessR R a))=true then 0 else R):=by
  unfold pBody
  simp only [tok0,←hR]
 rw [e] at hr ⊢
 by_cases h4:R=4∧a≠3∧a≠4
 ·rw [if_pos h4] at hr
  exact absurd rfl hr
 ·rw [if_neg h4] at hr ⊢
  simp only at hr ⊢
  split at hr
  ·exact absurd rfl hr
  ·rename_i hb
   rw [if_neg hb]
   rw [Bool.not_eq_true,Bool.or_eq_false_iff,Bool.or_eq_false_iff,decide_eq_false_iff_not] at hb
   obtain ⟨b1,b2,b3⟩:=hb
   have hw:rkW[R-1]? =some (itB l 0):=rank_inv (by omega)
   have hle:=lessR_le b3
   obtain ⟨h1,ho,h2,h3,g1,g2,g4,g5,g6⟩:=h
   rw [if_neg h8,List.append_nil] at h1
   obtain ⟨o1,o2,o3,o4,o5,o6,o7⟩:=ho
   have hst:∀c':RSt,c'.tx=c.tx→c'.time=c.time→c'.wall=c.wall→c'.next=c.next→stI c'=stI c:=fun c' e1 e2 e3 e4=>by unfold stI;rw [e1,e2,e3,e4]
   have hRc:R=1∨R=2∨R=3∨R=4∨R=5∨R=6∨R=7∨R=8:=by omega
   have hne:itB l 0≠[]:=fun h0=>by
    rw [h0] at hw
    rcases hRc with h|h|h|h|h|h|h|h<;>(rw [h] at hw;exact absurd hw (by decide))
   rcases hRc with h|h|h|h|h|h|h|h
   all_goals
    rw [h] at hw b1 b2 ⊢
    clear hR e hr
    have hwe:=(Option.some.inj hw).symm
   ·unfold pPart at b1 b2 ⊢
    rw [if_pos rfl] at b1 b2 ⊢
    dsimp only at b1 b2 ⊢
    obtain ⟨k1,k2⟩:=part_got (one:=pEnt) bk_ent hne b1 b2
    obtain ⟨x,hx⟩:=eN0 ((pEnt l ((itB l 0).length,false)).1)
    rw [←hx] at k1 k2 ⊢
    clear hx b1 b2
    rw [hwe] at k2
    have hl:l++[10]=lineB (entI x):=by rw [k2];exact (line_eq wEntry (entI x).tail).symm
    have q1:=g1 (by omega)
    have q2:=g2 (by omega)
    have q4:=g4 (by omega)
    have q5:=g5 (by omega)
    have q6:=g6 (by omega)
    refine ⟨?_,⟨o1,?_,o3,o4,o5,o6,o7⟩,?_,by omega,fun _=>q1,fun _=>q2,fun _=>q4,fun _=>q5,fun _=>q6⟩
    ·rw [if_neg (by decide),List.append_nil,hl,h1]
     simp only [textP,stI,q1,q2,q4,q5,q6,List.flatMap_append,List.flatMap_cons,List.flatMap_nil,List.append_nil,List.append_assoc]
    ·intro y hy
     rcases List.mem_append.1 hy with hy|hy
     ·exact o2 y hy
     ·rw [List.mem_singleton] at hy;subst hy;exact k1
    ·rw [←h2];rfl
   ·unfold pPart at b1 b2 ⊢
    rw [if_neg (by decide),if_pos rfl] at b1 b2 ⊢
    dsimp only at b1 b2 ⊢
    obtain ⟨k1,k2⟩:=part_got (one:=pStm) bk_stm hne b1 b2
    obtain ⟨x,hx⟩:=eN0 ((pStm l ((itB l 0).length,false)).1)
    rw [←hx] at k1 k2 ⊢
    clear hx b1 b2
    rw [hwe] at k2
    have hl:l++[10]=lineB (stmI x):=by rw [k2];exact (line_eq wStamp (stmI x).tail).symm
    have q2:=g2 (by omega)
    have q4:=g4 (by omega)
    have q5:=g5 (by omega)
    have q6:=g6 (by omega)
    refine ⟨?_,⟨o1,o2,?_,o4,o5,o6,o7⟩,?_,by omega,(by omega),fun _=>q2,fun _=>q4,fun _=>q5,fun _=>q6⟩
    ·rw [if_neg (by decide),List.append_nil,hl,h1]
     simp only [textP,stI,q2,q4,q5,q6,List.flatMap_append,List.flatMap_cons,List.flatMap_nil,List.append_nil,List.append_assoc]
    ·intro y hy
     rcases List.mem_append.1 hy with hy|hy
     ·exact o3 y hy
     ·rw [List.mem_singleton] at hy;subst hy;exact k1
    ·rw [←h2];rfl
   ·unfold pPart at b1 b2 ⊢
    rw [if_neg (by decide),if_neg (by decide),if_pos rfl] at b1 b2 ⊢
    dsimp only at b1 b2 ⊢
    obtain ⟨k1,k2⟩:=part_got (one:=pText) bk_text hne b1 b2
    (try dsimp only at k2)
    obtain ⟨x,hx⟩:=eN0 ((pText l ((itB l 0).length,false)).1)
    rw [←hx] at k1 k2 ⊢
    clear hx b1 b2
    rw [hwe] at k2
    have hl:l++[10]=lineB [wTable,qS x]:=by rw [k2];exact (line_eq wTable [qS x]).symm
    have q4:=g4 (by omega)
    have q5:=g5 (by omega)
    have q6:=g6 (by omega)
    refine ⟨?_,⟨o1,o2,o3,?_,o5,o6,o7⟩,?_,fun _=>by simp,(by omega),(by omega),fun _=>q4,fun _=>q5,fun _=>q6⟩
    ·rw [if_neg (by decide),List.append_nil,hl,h1]
     simp only [textP,stI,q4,q5,q6,tvT,tabT,List.map_nil,List.flatMap_append,List.flatMap_cons,List.flatMap_nil,List.append_nil,List.append_assoc]
    ·intro y hy
     rcases List.mem_append.1 hy with hy|hy
     ·exact o4 y hy
     ·rw [List.mem_singleton] at hy;subst hy;exact ⟨k1,rfl,rfl,fun p hp=>by cases hp⟩
    ·rw [←h2];rfl
   ·unfold pPart at b1 b2 ⊢
    rw [if_neg (by decide),if_neg (by decide),if_neg (by decide),if_pos rfl] at b1 b2 ⊢
    dsimp only at b1 b2 ⊢
    obtain ⟨k1,k2⟩:=part_got (one:=pVer) bk_ver hne b1 b2
    obtain ⟨x,hx⟩:=eN0 ((pVer l ((itB l 0).length,false)).1)
    rw [←hx] at k1 k2 ⊢
    clear hx b1 b2
    rw [hwe] at k2
    have hl:l++[10]=lineB (verI x):=by rw [k2];exact (line_eq wVersion (verI x).tail).symm
    have ha:a=3∨a=4:=by omega
    have q4:=g4 (by omega)
    have q5:=g5 (by omega)
    have q6:=g6 (by omega)
    have hts:=List.dropLast_concat_getLast (h3 ha)
    obtain ⟨ts,t,ht⟩:∃ts t,c.tabs=ts++[t]:=⟨_,_,hts.symm⟩
    have hadd:addVer (rvP x) c.tabs=ts++[⟨t.table,t.A,t.C,t.vers++[rvP x]⟩]:=by rw [ht];exact addVer_app _ _ _
    rw [hadd]
    clear hadd
    refine ⟨?_,⟨o1,o2,o3,?_,o5,o6,o7⟩,?_,fun _=>(by simp),(by omega),(by omega),fun _=>q4,fun _=>q5,fun _=>q6⟩
    ·rw [if_neg (by decide),List.append_nil,hl,h1]
     have ev:(rvP x).2=x:=rfl
     simp only [textP,stI,ht,q4,q5,q6,tvT,tabT,ev,List.map_append,List.map_cons,List.map_nil,List.flatMap_append,List.flatMap_cons,List.flatMap_nil,List.append_nil,List.append_assoc]
    ·intro y hy
     rcases List.mem_append.1 hy with hy|hy
     ·exact o4 y (by rw [ht];exact List.mem_append_left _ hy)
     ·rw [List.mem_singleton] at hy
      subst hy
      obtain ⟨m1,m2,m3,m4⟩:=o4 t (by rw [ht];simp)
      refine ⟨m1,m2,m3,fun p hp=>?_⟩
      rcases List.mem_append.1 hp with hp|hp
      ·exact m4 p hp
      ·rw [List.mem_singleton] at hp;subst hp;exact ⟨rfl,k1⟩
    ·rw [←h2];rfl
   ·unfold pPart at b1 b2 ⊢
    rw [if_neg (by decide),if_neg (by decide),if_neg (by decide),if_neg (by decide),if_pos rfl] at b1 b2 ⊢
    dsimp only at b1 b2 ⊢
    obtain ⟨k1,k2⟩:=part_got (one:=pHld) bk_hld hne b1 b2
    obtain ⟨x,hx⟩:=eN0 ((pHld l ((itB l 0).length,false)).1)
    rw [←hx] at k1 k2 ⊢
    clear hx b1 b2
    rw [hwe] at k2
    have hl:l++[10]=lineB (hldI x):=by rw [k2];exact (line_eq wHold (hldI x).tail).symm
    have q5:=g5 (by omega)
    have q6:=g6 (by omega)
    refine ⟨?_,⟨o1,o2,o3,o4,?_,o6,o7⟩,?_,by omega,(by omega),(by omega),(by omega),fun _=>q5,fun _=>q6⟩
    ·rw [if_neg (by decide),List.append_nil,hl,h1]
     simp only [textP,stI,q5,q6,List.flatMap_append,List.flatMap_cons,List.flatMap_nil,List.append_nil,List.append_assoc]
    ·intro y hy
     rcases List.mem_append.1 hy with hy|hy
     ·exact o5 y hy
     ·rw [List.mem_singleton] at hy;subst hy;exact k1
    ·rw [←h2];rfl
   ·unfold pPart at b1 b2 ⊢
    rw [if_neg (by decide),if_neg (by decide),if_neg (by decide),if_neg (by decide),if_neg (by decide),if_pos rfl] at b1 b2 ⊢
    dsimp only at b1 b2 ⊢
    obtain ⟨k1,k2⟩:=part_got (one:=pPol) bk_pol hne b1 b2
    obtain ⟨x,hx⟩:=eN0 ((pPol l ((itB l 0).length,false)).1)
    rw [←hx] at k1 k2 ⊢
    clear hx b1 b2
    rw [hwe] at k2
    have hl:l++[10]=lineB (polI x):=by rw [k2];exact (line_eq wPolicy (polI x).tail).symm
    have q6:=g6 (by omega)
    refine ⟨?_,⟨o1,o2,o3,o4,o5,?_,o7⟩,?_,by omega,(by omega),(by omega),(by omega),(by omega),fun _=>q6⟩
    ·rw [if_neg (by decide),List.append_nil,hl,h1]
     simp only [textP,stI,q6,List.flatMap_append,List.flatMap_cons,List.flatMap_nil,List.append_nil,List.append_assoc]
    ·intro y hy
     rcases List.mem_append.1 hy with hy|hy
     ·exact o6 y hy
     ·rw [List.mem_singleton] at hy;subst hy;exact k1
    ·rw [←h2];rfl
   ·unfold pPart at b1 b2 ⊢
    rw [if_neg (by decide),if_neg (by decide),if_neg (by decide),if_neg (by decide),if_neg (by decide),if_neg (by decide),if_pos rfl] at b1 b2 ⊢
    dsimp only at b1 b2 ⊢
    obtain ⟨k1,k2⟩:=part_got (one:=pHor) bk_hor hne b1 b2
    obtain ⟨x,hx⟩:=eN0 ((pHor l ((itB l 0).length,false)).1)
    rw [←hx] at k1 k2 ⊢
    clear hx b1 b2
    rw [hwe] at k2
    have hl:l++[10]=lineB (horI x):=by rw [k2];exact (line_eq wHorizon (horI x).tail).symm
    refine ⟨?_,⟨o1,o2,o3,o4,o5,o6,?_⟩,?_,by omega,(by omega),(by omega),(by omega),(by omega),(by omega)⟩
    ·rw [if_neg (by decide),List.append_nil,hl,h1]
     simp only [textP,stI,List.flatMap_append,List.flatMap_cons,List.flatMap_nil,List.append_nil,List.append_assoc]
    ·intro y hy
     rcases List.mem_append.1 hy with hy|hy
     ·exact o7 y hy
     ·rw [List.mem_singleton] at hy;subst hy;exact k1
    ·rw [←h2];rfl
   ·unfold pPart at b1 b2 ⊢
    rw [if_neg (by decide),if_neg (by decide),if_neg (by decide),if_neg (by decide),if_neg (by decide),if_neg (by decide),if_neg (by decide)] at b1 b2 ⊢
    simp only at b1 b2 ⊢
    have hl:l=wEnd:=by
     have:=tok0_app l
     rw [List.drop_of_length_le (by omega),List.append_nil] at this
     rw [this];exact hwe
    refine ⟨?_,⟨o1,o2,o3,o4,o5,o6,o7⟩,h2,by omega,(by omega),(by omega),(by omega),(by omega),(by omega)⟩
    rw [if_pos rfl,h1,hl]
    rfl
def sec4R:Rdr (Int×Int×Int×Int):=fun l st=>(((cnumI l st).1,(cnumI l (cnumI l st).2).1,(cnumI l (cnumI l (cnumI l st).2).2).1,(cnumI l (cnumI l (cnumI l (cnumI l st).2).2).2).1),(cnumI l (cnumI l (cnumI l (cnumI l st).2).2).2).2)
theorem sec4R_eq (l:List UInt8):sec4R l (secT l).2=(((sec1 l).1,(sec2 l).1,(sec3 l).1,(sec4 l).1),(sec4 l).2):=by
 simp only [sec4R,sec4,sec3,sec2,sec1]
theorem bk_sec:Bk sec4R (fun p:Int×Int×Int×Int=>[itoa p.1,itoa p.2.1,itoa p.2.2.1,itoa p.2.2.2]) (fun p=>i64 p.1∧i64 p.2.1∧i64 p.2.2.1∧i64 p.2.2.2):=
 Bk.let4 bk_num bk_num bk_num bk_num (fun a b c d=>(a,b,c,d)) _ _
  (by rintro ⟨a,b,c,d⟩ ⟨h1,h2,h3,h4⟩;exact ⟨a,b,c,d,⟨h1,h2,h3,h4⟩,by simp [numI],rfl⟩)
  (by rintro a b c d ⟨h1,h2,h3,h4⟩;exact ⟨⟨h1,h2,h3,h4⟩,by simp [numI]⟩)
theorem secB_got {l:List UInt8} (h:secB l=true):l=lnI (stI (secS l st0_))∧i64 (sec1 l).1∧i64 (sec2 l).1∧i64 (sec3 l).1∧i64 (sec4 l).1:=by
 unfold secB at h
 rw [Bool.and_eq_true,Bool.and_eq_true,Bool.not_eq_true',decide_eq_true_eq,decide_eq_true_eq] at h
 obtain ⟨h1,h2,h3⟩:=h
 have e0:secT l=(itB l 0,(itB l 0).length,false):=by
  unfold secT
  exact tok0 l
 have hw:itB l 0=wState:=by rw [e0] at h1;exact h1
 have e2:((itB l 0).length,false)=(secT l).2:=by rw [e0]
 have e3:=sec4R_eq l
 rw [←e2] at e3
 have e4:lnI (stI (secS l st0_))=wState++spc [itoa (sec1 l).1,itoa (sec2 l).1,itoa (sec3 l).1,itoa (sec4 l).1]:=by simp only [stI,secS,lnI]
 rw [e4]
 clear e4 e0 e2 h1
 obtain ⟨n1,hn1⟩:=eN0 ((sec1 l).1)
 obtain ⟨n2,hn2⟩:=eN0 ((sec2 l).1)
 obtain ⟨n3,hn3⟩:=eN0 ((sec3 l).1)
 obtain ⟨n4,hn4⟩:=eN0 ((sec4 l).1)
 obtain ⟨q,hq⟩:=eN0 ((sec4 l).2)
 rw [←hn1,←hn2,←hn3,←hn4] at e3 ⊢
 rw [←hq] at e3 h2 h3
 clear hn1 hn2 hn3 hn4 hq
 obtain ⟨k1,k2⟩:=part_got (one:=sec4R) bk_sec (l:=l) (by rw [hw];decide) (by rw [e3];exact h2) (by rw [e3];show ¬q.1<l.length;omega)
 rw [e3] at k1 k2
 rw [hw] at k2
 exact ⟨k2,k1⟩
theorem run_got:∀(f:Nat) {t pre:List UInt8} {n a:Nat} {c c':RSt},3≤n→GotS pre a c→pRun f t n a c=(c',0,0)→pre++t=textS c'∧okSt c'∧stN c'=c':=by
 intro f
 induction f with
 |zero=>
  intro t pre n a c c' _ _ h
  unfold pRun at h
  simp at h
 |succ f ih=>
  intro t pre n a c c' hn hg h
  by_cases h8:a=8
  ·unfold pRun at h
   rw [if_pos h8] at h
   split at h
   ·rename_i ht
    injection h with h1 h2
    subst h1 ht
    refine ⟨?_,hg.ok,hg.er⟩
    rw [List.append_nil,hg.txt,if_pos h8]
    rfl
   ·simp at h
  ·rcases hc:cutL t with _|⟨l,r⟩
   ·rw [pRun_none h8 hc] at h
    simp at h
   ·rw [pRun_step h8 hc] at h
    unfold stepL at h
    rw [if_neg (by omega),if_neg (by omega)] at h
    by_cases hr:(pBody l a c).2=0
    ·rw [if_pos hr] at h
     simp [nxtL] at h
    ·rw [if_neg hr] at h
     simp only [nxtL] at h
     have hb:=body_got hg h8 hr
     obtain ⟨a2,ha2⟩:=eN0 ((pBody l a c).2)
     obtain ⟨c2,hc2⟩:=eN0 ((pBody l a c).1)
     rw [←ha2,←hc2] at h hb
     clear ha2 hc2
     have k:=ih (by omega) hb h
     rw [cutL_got hc]
     refine ⟨?_,k.2⟩
     rw [←k.1]
     simp
theorem secS_lit (l:List UInt8):secS l st0_=⟨(sec1 l).1,(sec2 l).1,(sec3 l).1,(sec4 l).1,none,0,[],none,0,[],none,0,[],none,0,[],none,0,[],none,0,[]⟩:=by
 simp only [secS,st0_]
theorem got0 {l l2:List UInt8} {n1 n2 n3 n4:Int} (hl:l=wTitle) (k1:l2=lnI (stI ⟨n1,n2,n3,n4,none,0,[],none,0,[],none,0,[],none,0,[],none,0,[],none,0,[]⟩)) (k2:i64 n1) (k3:i64 n2) (k4:i64 n3) (k5:i64 n4):GotS (l++10::(l2++[10])) 0 ⟨n1,n2,n3,n4,none,0,[],none,0,[],none,0,[],none,0,[],none,0,[],none,0,[]⟩:=by
 refine ⟨?_,⟨⟨k2,k3,k4,k5⟩,(fun x hx=>by cases hx),(fun x hx=>by cases hx),(fun x hx=>by cases hx),(fun x hx=>by cases hx),(fun x hx=>by cases hx),(fun x hx=>by cases hx)⟩,rfl,by omega,fun _=>rfl,fun _=>rfl,fun _=>rfl,fun _=>rfl,fun _=>rfl⟩
 rw [if_neg (by decide),List.append_nil,hl,k1]
 have e1:lineB [wTitle]=wTitle++[10]:=by rw [lineB_lnI (by simp)];simp [lnI,spc]
 unfold textP
 rw [e1,lineB_lnI (by simp [stI])]
 simp
theorem got_all {t:List UInt8} {c:RSt} (h:pAll t=(c,0,0)):t=textS c∧okSt c∧stN c=c:=by
 unfold pAll at h
 obtain ⟨g,hg⟩:∃g,t.length+2=g+1+1:=⟨t.length,rfl⟩
 rw [hg] at h
 rcases hc:cutL t with _|⟨l,r⟩
 ·rw [pRun_none (show (0:Nat)≠8 by decide) hc] at h
  simp at h
 ·rw [pRun_step (show (0:Nat)≠8 by decide) hc] at h
  unfold stepL at h
  rw [if_pos rfl] at h
  by_cases hl:l=wTitle
  ·rw [if_pos hl] at h
   simp only [nxtL] at h
   rcases hc2:cutL r with _|⟨l2,r2⟩
   ·rw [pRun_none (show (0:Nat)≠8 by decide) hc2] at h
    simp at h
   ·rw [pRun_step (show (0:Nat)≠8 by decide) hc2] at h
    unfold stepL at h
    rw [if_neg (by decide),if_pos rfl] at h
    cases hs:secB l2 with
    |false=>rw [hs,if_neg (by decide)] at h;simp [nxtL] at h
    |true=>
     rw [hs,if_pos rfl] at h
     simp only [nxtL] at h
     obtain ⟨k1,k2,k3,k4,k5⟩:=secB_got hs
     rw [secS_lit] at h k1
     obtain ⟨n1,hn1⟩:=eN0 ((sec1 l2).1)
     obtain ⟨n2,hn2⟩:=eN0 ((sec2 l2).1)
     obtain ⟨n3,hn3⟩:=eN0 ((sec3 l2).1)
     obtain ⟨n4,hn4⟩:=eN0 ((sec4 l2).1)
     rw [←hn1,←hn2,←hn3,←hn4] at h k1
     rw [←hn1] at k2
     rw [←hn2] at k3
     rw [←hn3] at k4
     rw [←hn4] at k5
     clear hn1 hn2 hn3 hn4 hs
     have k:=run_got g (Nat.le_refl 3) (got0 hl k1 k2 k3 k4 k5) h
     rw [cutL_got hc,cutL_got hc2]
     refine ⟨?_,k.2⟩
     rw [←k.1]
     simp
  ·rw [if_neg hl] at h
   simp [nxtL] at h
end Go.Proofs.YtgfhknnklapldaaGreatDoor
