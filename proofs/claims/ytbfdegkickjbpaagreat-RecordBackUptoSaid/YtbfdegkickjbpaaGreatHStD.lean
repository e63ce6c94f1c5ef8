/-
 StD
-/
import Derived.Test.YtbfdegkickjbpaaGreatHTn1
import Derived.Test.YtbfdegkickjbpaaGreatHStB
import Derived.Test.YtbfdegkickjbpaaGreatHStC
namespace Go.Proofs.YtbfdegkickjbpaaGreat
open Go.RowKit Go.Lib Go.IntWalk Go.Sort Go.Shelf
theorem put_Stm {x:Stm} (h:stmE x=0):Put rdStm (encStm x) x:=by
 have q:=stm_ok h
 show Put (sq rdI (fun a=>mp (fun b=>(⟨a,b⟩:Stm)) rdI)) _ _
 exact (put_I (by omega) (by omega)).sq ((put_I (by omega) (by omega)).mp (fun b=>(⟨x.time,b⟩:Stm)))
theorem put_Ver {x:Ver} (h:validVer x=true):Put rdVer (encVer x) x:=by
 have e:encVer x=encI x.id++(encI x.sch++(encR x.row++((encI x.vf++encI x.vt)++((encI x.sf++encI x.st)++(encI x.by_++encI x.un))))):=by unfold encVer;simp only [List.append_assoc]
 rw [e]
 unfold validVer in50 in64 num50 validRowF at h
 simp only [Bool.and_eq_true,decide_eq_true_eq] at h
 obtain ⟨h1,h2,h3,⟨h4,h5⟩,h6,h7,h8⟩:=h
 show Put (sq rdI (fun a=>sq rdI (fun b=>sq rdR (fun c=>sq rdP (fun d=>sq rdP (fun e=>sq rdI (fun f=>mp (fun g=>(⟨a,b,c,d.1,d.2,e.1,e.2,f,g⟩:Ver)) rdI))))))) _ _
 exact (put_I (by omega) (by omega)).sq ((put_I (by omega) (by omega)).sq ((put_R h4 h5).sq ((put_Per h6).sq ((put_Per h7).sq ((put_I (by omega) (by omega)).sq ((put_I (by omega) (by omega)).mp (fun g=>(⟨x.id,x.sch,x.row,x.vf,x.vt,x.sf,x.st,x.by_,g⟩:Ver))))))))
theorem encVsB_map (l:List VP):encVsB (l.map (·.2))=encI l.length++l.flatMap (fun p=>encVer p.2):=by
 unfold encVsB encVers
 rw [List.length_map,List.flatMap_map]
theorem put_Tv {x:RTv} (h:nmB x.table=true∧chkFrom none (x.vers.map (·.2))=0):Put rdTv (encTv x) x.er:=by
 have k:=put_L (rd:=rdVerP) (enc:=fun p:VP=>encVer p.2) (er:=verEr) x.vers (fun p hp=>(put_Ver (chkFrom_valid h.2 _ (List.mem_map.2 ⟨p,hp,rfl⟩))).mp rvP) (fun _=>mon_VerP)
 rw [←encVsB_map] at k
 show Put (sq rdT (fun a=>mp (fun b=>(⟨a,none,0,b⟩:RTv)) (fun l=>rdL l (rdVerP l)))) _ _
 exact (put_N h.1).sq (k.mp (fun b=>(⟨x.table,none,0,b⟩:RTv)))
theorem put_St {c:RSt} (h:stateF c=0):Put rdSt (encSt c) c.er:=by
 obtain ⟨⟨b1,b2,b3,b4⟩,g1,g2,g3,g4,g5,g6⟩:=st_ok h
 have e:encSt c=encI c.tx++(encI c.time++(encI c.wall++(encI c.next++(encE c.ents++(encM c.stms++(encTT c.tabs++(encH c.pla++(encP c.pol++encZ c.hor)))))))):=by unfold encSt;simp only [List.append_assoc]
 rw [e]
 show Put (sq rdI (fun a=>sq rdI (fun b=>sq rdI (fun c=>sq rdI (fun d=>sq (fun l=>rdL l (rdEnt l)) (fun e=>sq (fun l=>rdL l (rdStm l)) (fun f=>sq (fun l=>rdL l (rdTv l)) (fun g=>sq (fun l=>rdL l (rdHld l)) (fun h=>sq (fun l=>rdL l (rdPol l)) (fun i=>mp (fun j=>
  (⟨a,b,c,d,none,0,e,none,0,f,none,0,g,none,0,h,none,0,i,none,0,j⟩:RSt)) (fun l=>rdL l (rdHor l)))))))))))) _ _
 exact (put_I (by omega) (by omega)).sq ((put_I (by omega) (by omega)).sq ((put_I (by omega) (by omega)).sq ((put_I (by omega) (by omega)).sq
  ((put_L (rd:=rdEnt) c.ents (fun x hx=>put_Ent (g1 x hx)) (fun _=>mon_Ent)).sq ((put_L0 (rd:=rdStm) c.stms (fun x hx=>put_Stm (g2 x hx)) (fun _=>mon_Stm)).sq
  ((put_L (rd:=rdTv) c.tabs (fun x hx=>put_Tv (g3 x hx)) (fun _=>mon_Tv)).sq ((put_L0 (rd:=rdHld) c.pla (fun x hx=>put_Hld (g4 x hx)) (fun _=>mon_Hld)).sq
  ((put_L0 (rd:=rdPol) c.pol (fun x hx=>put_Pol (g5 x hx)) (fun _=>mon_Pol)).sq ((put_L0 (rd:=rdHor) c.hor (fun x hx=>put_Hor (g6 x hx)) (fun _=>mon_Hor)).mp
  (fun j=>(⟨c.tx,c.time,c.wall,c.next,none,0,c.ents.map REn.er,none,0,c.stms,none,0,c.tabs.map RTv.er,none,0,c.pla,none,0,c.pol,none,0,j⟩:RSt)))))))))))
theorem decSt_enc {c:RSt} (h:stateF c=0) (hl:(encSt c).length≤10000000000):decSt (encSt c)=(c.er,0):=by
 have k:=put_St h (by omega) [] []
 have k2:rdSt (encSt c) (0,0)=(c.er,((encSt c).length:Int),0):=by simpa using k
 exact decSt_ok k2 (by unfold endE;rw [if_neg (by simp)]) (by rw [stateF_er];exact h)
end Go.Proofs.YtbfdegkickjbpaaGreat
