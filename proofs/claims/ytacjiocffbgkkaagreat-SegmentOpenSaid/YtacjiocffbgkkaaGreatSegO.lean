/-
  A built file is opened again: the plain law.
-/
import Derived.Test.YtacjiocffbgkkaaGreatNextPure7
namespace Go.Proofs.YtacjiocffbgkkaaGreat
open Go.RowKit Go.Lib Go.IntWalk Go.Sort Go.Shelf

theorem decP_put (a r : List UInt8) (f t : Int) (h : validP f t = true) : decP (a ++ ((encI f ++ encI t) ++ r)) (a.length : Int) = ((f, t), ((a ++ (encI f ++ encI t)).length : Int), 0) := by
  have hv := h
  unfold validP at hv
  simp only [Bool.and_eq_true, decide_eq_true_eq] at hv
  have e1 : decI (a ++ ((encI f ++ encI t) ++ r)) (a.length : Int) = (f, ((a ++ encI f).length : Int), 0) := by
    have := decI_put a (encI t ++ r) f (by omega) (by omega)
    rw [List.append_assoc] ; exact this
  have e2 : decI (a ++ ((encI f ++ encI t) ++ r)) ((a ++ encI f).length : Int) = (t, ((a ++ (encI f ++ encI t)).length : Int), 0) := by
    have := decI_put (a ++ encI f) r t (by omega) (by omega)
    rw [show a ++ ((encI f ++ encI t) ++ r) = (a ++ encI f) ++ (encI t ++ r) by simp, show a ++ (encI f ++ encI t) = (a ++ encI f) ++ encI t by simp]
    exact this
  unfold decP
  rw [e1]
  simp only
  rw [e2]
  simp only
  rw [if_neg (by simp), if_neg (by simp), if_neg (by rw [h]; simp)]
theorem rdS_put {α : Type} {dec : Int → α × Int × Int} {z a : α} {k m : Int} (h : dec k = (a, m, 0)) : rdS dec z (k, 0) = (a, m, 0) := by
  rw [rdS_go h, if_pos rfl]
theorem rdVer_put (a r : List UInt8) (x : Ver) (h : validVer x = true) : rdVer (a ++ (encVer x ++ r)) ((a.length : Int), 0) = (x, ((a ++ encVer x).length : Int), 0) := by
  obtain ⟨⟨b1, b1'⟩, ⟨b2, b2'⟩, _, _, _, _, ⟨b7, b7'⟩, ⟨b8, b8'⟩⟩ := valid_bds h
  obtain ⟨hp1, hp2⟩ := valid_per h
  have hrow : validRowF x.row = true := by
    unfold validVer at h
    simp only [Bool.and_eq_true] at h
    exact h.2.2.2.1
  unfold validRowF at hrow
  rw [Bool.and_eq_true, decide_eq_true_eq] at hrow
  have L : ∀ q, a ++ (encVer x ++ r) = q → q = a ++ (encVer x ++ r) := fun q h => h.symm
  obtain ⟨l, hl⟩ : ∃ l, l = a ++ (encVer x ++ r) := ⟨_, rfl⟩
  rw [← hl]
  have hl2 : l = a ++ (encI x.id ++ (encI x.sch ++ (encR x.row ++ ((encI x.vf ++ encI x.vt) ++ ((encI x.sf ++ encI x.st) ++ (encI x.by_ ++ (encI x.un ++ r))))))) := by rw [hl, encVer]; simp
  have e1 : rdI l ((a.length : Int), 0) = (x.id, ((a ++ encI x.id).length : Int), 0) := rdS_put (by rw [hl2]; exact decI_put a _ x.id b1 b1')
  have e2 : rdI l (((a ++ encI x.id).length : Int), 0) = (x.sch, (((a ++ encI x.id) ++ encI x.sch).length : Int), 0) := rdS_put (by
    rw [hl2, ← List.append_assoc]; exact decI_put _ _ x.sch b2 b2')
  have e3 : rdR l ((((a ++ encI x.id) ++ encI x.sch).length : Int), 0) = (x.row, ((((a ++ encI x.id) ++ encI x.sch) ++ encR x.row).length : Int), 0) := rdS_put (by
    rw [hl2, ← List.append_assoc, ← List.append_assoc]; exact decR_put _ _ x.row hrow.1 hrow.2)
  have e4 : rdP l (((((a ++ encI x.id) ++ encI x.sch) ++ encR x.row).length : Int), 0) = ((x.vf, x.vt), (((((a ++ encI x.id) ++ encI x.sch) ++ encR x.row) ++ (encI x.vf ++ encI x.vt)).length : Int), 0) := rdS_put (by
    rw [hl2, ← List.append_assoc, ← List.append_assoc, ← List.append_assoc]; exact decP_put _ _ _ _ hp1)
  have e5 : rdP l ((((((a ++ encI x.id) ++ encI x.sch) ++ encR x.row) ++ (encI x.vf ++ encI x.vt)).length : Int), 0) = ((x.sf, x.st), ((((((a ++ encI x.id) ++ encI x.sch) ++ encR x.row) ++ (encI x.vf ++ encI x.vt)) ++ (encI x.sf ++ encI x.st)).length : Int), 0) := rdS_put (by
    rw [hl2, ← List.append_assoc, ← List.append_assoc, ← List.append_assoc, ← List.append_assoc]; exact decP_put _ _ _ _ hp2)
  have e6 : rdI l (((((((a ++ encI x.id) ++ encI x.sch) ++ encR x.row) ++ (encI x.vf ++ encI x.vt)) ++ (encI x.sf ++ encI x.st)).length : Int), 0) = (x.by_, (((((((a ++ encI x.id) ++ encI x.sch) ++ encR x.row) ++ (encI x.vf ++ encI x.vt)) ++ (encI x.sf ++ encI x.st)) ++ encI x.by_).length : Int), 0) := rdS_put (by
    rw [hl2, ← List.append_assoc, ← List.append_assoc, ← List.append_assoc, ← List.append_assoc, ← List.append_assoc]; exact decI_put _ _ x.by_ b7 b7')
  have e7 : rdI l ((((((((a ++ encI x.id) ++ encI x.sch) ++ encR x.row) ++ (encI x.vf ++ encI x.vt)) ++ (encI x.sf ++ encI x.st)) ++ encI x.by_).length : Int), 0) = (x.un, ((((((((a ++ encI x.id) ++ encI x.sch) ++ encR x.row) ++ (encI x.vf ++ encI x.vt)) ++ (encI x.sf ++ encI x.st)) ++ encI x.by_) ++ encI x.un).length : Int), 0) := rdS_put (by
    rw [hl2, ← List.append_assoc, ← List.append_assoc, ← List.append_assoc, ← List.append_assoc, ← List.append_assoc, ← List.append_assoc]; exact decI_put _ _ x.un b8 b8')
  unfold rdVer
  simp only [e1, e2, e3, e4, e5, e6, e7]
  rw [show a ++ encVer x = (((((((a ++ encI x.id) ++ encI x.sch) ++ encR x.row) ++ (encI x.vf ++ encI x.vt)) ++ (encI x.sf ++ encI x.st)) ++ encI x.by_) ++ encI x.un) by rw [encVer]; simp]
theorem getS_put (r : List UInt8) : ∀ (xs : List Ver) (a : List UInt8), (∀ x ∈ xs, validVer x = true) → getS (rdVer (a ++ (encVers xs ++ r))) xs.length ((a.length : Int), 0) = (xs, ((a ++ encVers xs).length : Int), 0) := by
  intro xs
  induction xs with
  | nil => intro a _; simp [getS, encVers]
  | cons x q ih =>
    intro a h
    have e0 : a ++ (encVers (x :: q) ++ r) = a ++ (encVer x ++ (encVers q ++ r)) := by simp [encVers]
    have e1 := rdVer_put a (encVers q ++ r) x (h x (List.mem_cons_self ..))
    rw [e0, List.length_cons, getS_step rfl e1]
    have e2 := ih (a ++ encVer x) (fun y hy => h y (List.mem_cons_of_mem _ hy))
    rw [show (a ++ encVer x) ++ (encVers q ++ r) = a ++ (encVer x ++ (encVers q ++ r)) by simp] at e2
    rw [e2]
    simp [encVers]
theorem decVersions_put (c : List Ver) (h : encVsE c = 0) : decVersions (encVsB c) = (c, 0) := by
  have hlen := encVsB_le h
  have h2 := h
  unfold encVsE at h2
  by_cases h4 : 4096 < c.length
  · rw [if_pos h4] at h2; cases h2
  rw [if_neg h4] at h2
  have hchk : chkFrom none c = 0 := by
    by_cases hc : chkFrom none c = 0
    · exact hc
    · rw [if_pos hc] at h2; exact absurd h2 hc
  have hval := chkFrom_valid hchk
  have e1 : rdI (encVsB c) (0, 0) = ((c.length : Int), ((encI c.length).length : Int), 0) := rdS_put (by
    have := decI_put [] (encVers c) (c.length : Int) (by omega) (by omega)
    simpa [encVsB] using this)
  have e2 := getS_put [] c (encI c.length) hval
  have e3 : rdVs (encVsB c) (0, 0) = (c, ((encVsB c).length : Int), 0) := by
    unfold rdVs
    rw [e1]
    simp only
    rw [if_neg (by omega), Int.toNat_natCast]
    rw [List.append_nil] at e2
    exact e2
  unfold decVersions
  rw [if_neg (by omega), e3]
  simp only [endE]
  rw [if_neg (by simp), if_neg h4, if_neg (by simpa using hchk)]
theorem skipP_put (r : List UInt8) : ∀ (rs : List Rec) (a : List UInt8), (∀ q ∈ rs, validR q = true) → skipP (a ++ (hdRs rs ++ r)) rs.length (a.length : Int) = (((a ++ hdRs rs).length : Int), 0) := by
  intro rs
  induction rs with
  | nil => intro a _; simp [skipP, hdRs]
  | cons q rs ih =>
    intro a h
    have hq := h q (List.mem_cons_self ..)
    unfold validR at hq
    rw [Bool.and_eq_true] at hq
    have e0 : a ++ (hdRs (q :: rs) ++ r) = a ++ ((encI q.vf ++ encI q.vt) ++ ((encI q.sf ++ encI q.st) ++ (hdRs rs ++ r))) := by simp [hdRs, hdR]
    have e1 := decP_put a ((encI q.sf ++ encI q.st) ++ (hdRs rs ++ r)) q.vf q.vt hq.1
    have e2 := decP_put (a ++ (encI q.vf ++ encI q.vt)) (hdRs rs ++ r) q.sf q.st hq.2
    rw [show (a ++ (encI q.vf ++ encI q.vt)) ++ ((encI q.sf ++ encI q.st) ++ (hdRs rs ++ r)) = a ++ ((encI q.vf ++ encI q.vt) ++ ((encI q.sf ++ encI q.st) ++ (hdRs rs ++ r))) by simp] at e2
    have e3 := ih (a ++ hdR q) (fun y hy => h y (List.mem_cons_of_mem _ hy))
    rw [show (a ++ hdR q) ++ (hdRs rs ++ r) = a ++ ((encI q.vf ++ encI q.vt) ++ ((encI q.sf ++ encI q.st) ++ (hdRs rs ++ r))) by simp [hdR]] at e3
    rw [e0, List.length_cons, skipP, e1]
    simp only
    rw [e2]
    simp only
    rw [if_neg (by simp), if_neg (by simp), show (a ++ (encI q.vf ++ encI q.vt)) ++ (encI q.sf ++ encI q.st) = a ++ hdR q by simp [hdR], e3]
    simp [hdRs]
theorem prsF_put (t : List UInt8) (n : Nat) (rs : List Rec) (ht : t.length ≤ 200) (hn : n ≤ 1099511627776) (hr : ∀ q ∈ rs, validR q = true) (hl : rs.length ≤ 1099511627776) : prsF (headB t n rs) = (t, (rs.length : Int), 0) := by
  have e1 : decT (headB t n rs) 0 200 = (t, ((encI (t.length : Nat) ++ t).length : Int), 0) := by
    have := decT_put [] (encI (n : Nat) ++ (encI (rs.length : Nat) ++ hdRs rs)) t 200 (by omega) (by omega)
    simp only [List.nil_append, List.length_nil] at this
    rw [show headB t n rs = encI (t.length : Nat) ++ (t ++ (encI (n : Nat) ++ (encI (rs.length : Nat) ++ hdRs rs))) by simp [headB, hdPre]]
    exact this
  have e2 : decI (headB t n rs) ((encI (t.length : Nat) ++ t).length : Int) = ((n : Int), ((encI (t.length : Nat) ++ t ++ encI (n : Nat)).length : Int), 0) := by
    have := decI_put (encI (t.length : Nat) ++ t) (encI (rs.length : Nat) ++ hdRs rs) (n : Int) (by omega) (by omega)
    rw [show headB t n rs = (encI (t.length : Nat) ++ t) ++ (encI (n : Nat) ++ (encI (rs.length : Nat) ++ hdRs rs)) by simp [headB, hdPre]]
    exact this
  have e3 : decI (headB t n rs) ((encI (t.length : Nat) ++ t ++ encI (n : Nat)).length : Int) = ((rs.length : Int), ((hdPre t n rs.length).length : Int), 0) := by
    have := decI_put (encI (t.length : Nat) ++ t ++ encI (n : Nat)) (hdRs rs) (rs.length : Int) (by omega) (by omega)
    rw [show headB t n rs = (encI (t.length : Nat) ++ t ++ encI (n : Nat)) ++ (encI (rs.length : Nat) ++ hdRs rs) by simp [headB, hdPre]]
    exact this
  have e4 : skipP (headB t n rs) rs.length ((hdPre t n rs.length).length : Int) = (((headB t n rs).length : Int), 0) := by
    have := skipP_put [] rs (hdPre t n rs.length) hr
    rw [List.append_nil] at this
    exact this
  unfold prsF
  simp only [e1, e2, e3, e4, Int.toNat_natCast]
  rw [if_neg (by simp), if_neg (by simp), if_neg (by omega), if_neg (by simp), if_neg (by omega), if_neg (by simp), if_neg (by simp)]
theorem bnd_valid {xs : List Ver} (h : ∀ x ∈ xs, validVer x = true) (hne : 0 < xs.length) : validR (bndF xs) = true := by
  have key : ∀ (q : List Ver) (r : Rec), (∀ x ∈ q, validVer x = true) → validR r = true → validR (q.foldl (fun a v => joinR a (recOf v)) r) = true := by
    intro q
    induction q with
    | nil => intro r _ hr; exact hr
    | cons x q ih =>
      intro r hq hr
      rw [List.foldl_cons]
      refine ih _ (fun y hy => hq y (List.mem_cons_of_mem _ hy)) ?_
      obtain ⟨p1, p2⟩ := valid_per (hq x (List.mem_cons_self ..))
      unfold validR validP at hr ⊢
      unfold validP at p1 p2
      unfold joinR recOf
      simp only [Bool.and_eq_true, decide_eq_true_eq] at *
      omega
  cases xs with
  | nil => simp at hne
  | cons x q =>
    refine key (x :: q) (recOf x) h ?_
    obtain ⟨p1, p2⟩ := valid_per (h x (List.mem_cons_self ..))
    unfold validR recOf
    rw [Bool.and_eq_true]
    exact ⟨p1, p2⟩

/-- the frames of blocks -/
def frsB (cs : List (List Ver)) : List UInt8 := cs.flatMap fun c => frm (encVsB c)
theorem bldB_ok : ∀ (cs : List (List Ver)) (acc b : List UInt8), bldB acc cs = (b, 0) → b = acc ++ frsB cs ∧ ∀ c ∈ cs, encVsE c = 0 := by
  intro cs
  induction cs with
  | nil => intro acc b h; simp only [bldB, Prod.mk.injEq, and_true] at h; subst h; exact ⟨by simp [frsB], fun c hc => by cases hc⟩
  | cons c q ih =>
    intro acc b h
    rw [bldB] at h
    by_cases he : encVsE c = 0
    · rw [if_neg (by simpa using he)] at h
      obtain ⟨h1, h2⟩ := ih _ _ h
      refine ⟨by rw [h1]; simp [frsB], fun d hd => ?_⟩
      rcases List.mem_cons.1 hd with rfl | hd
      · exact he
      · exact h2 d hd
    · rw [if_pos he] at h
      simp only [Prod.mk.injEq] at h
      exact absurd h.2 he
theorem opnL_put : ∀ (cs : List (List Ver)) (a : List UInt8), (∀ c ∈ cs, encVsE c = 0) → opnL (a ++ frsB cs) cs.length (a.length : Int) = (cs, ((a ++ frsB cs).length : Int), 0) := by
  intro cs
  induction cs with
  | nil => intro a _; simp [opnL, frsB]
  | cons c q ih =>
    intro a h
    have hc := h c (List.mem_cons_self ..)
    have e0 : a ++ frsB (c :: q) = a ++ (frm (encVsB c) ++ frsB q) := by simp [frsB]
    have e1 := next_frame a (encVsB c) (frsB q) (encVsB_le hc)
    have e2 : (a.length : Int) + 8 + ((encVsB c).length : Nat) = ((a ++ frm (encVsB c)).length : Int) := by rw [List.length_append, frm_length]; omega
    rw [e2] at e1
    have e3 := ih (a ++ frm (encVsB c)) (fun d hd => h d (List.mem_cons_of_mem _ hd))
    rw [show (a ++ frm (encVsB c)) ++ frsB q = a ++ (frm (encVsB c) ++ frsB q) by simp] at e3
    rw [e0, List.length_cons, opnL, e1]
    simp only
    rw [decVersions_put c hc]
    simp only
    rw [if_neg (by simp), if_neg (by simp), e3]
theorem chunks_one {α : Type} {n : Nat} (hn : 1 ≤ n) {l : List α} (h0 : 0 < l.length) (h : l.length ≤ n) : chunks n l = [l] := by
  rw [chunks_cons hn h0, List.take_of_length_le h, List.drop_of_length_le h, chunks_nil]
theorem szF_chunks {n : Nat} (hn : 1 ≤ n) (vs : List Ver) : szF (chunks n vs) = (if vs.length = 0 then 1 else min n vs.length) ∧ chunks (szF (chunks n vs)) vs = chunks n vs := by
  by_cases h0 : vs.length = 0
  · have : vs = [] := List.eq_nil_of_length_eq_zero h0
    subst this
    exact ⟨rfl, rfl⟩
  · have hp : 0 < vs.length := by omega
    have e : szF (chunks n vs) = min n vs.length := by
      rw [chunks_cons hn hp, szF, List.length_take]
      omega
    refine ⟨by rw [if_neg h0]; exact e, ?_⟩
    rw [e]
    by_cases h1 : n ≤ vs.length
    · rw [Nat.min_eq_left h1]
    · rw [Nat.min_eq_right (by omega), chunks_one (by omega) hp (Nat.le_refl _), chunks_one hn hp (by omega)]
theorem bldF_parts {t b : List UInt8} {vs : List Ver} {n : Int} (h : bldF t vs n = (b, 0)) : nmW t = true ∧ 1 ≤ n ∧ n ≤ 4096 ∧ segChk none vs = 0 ∧ ¬ 1048576 < (headB t vs.length ((chunks n.toNat vs).map bndF)).length ∧ bldB (frm (headB t vs.length ((chunks n.toNat vs).map bndF))) (chunks n.toNat vs) = (b, 0) := by
  unfold bldF at h
  by_cases h1 : nmW t = false
  · rw [if_pos h1] at h; simp at h
  rw [if_neg h1] at h
  by_cases h2 : n < 1 ∨ 4096 < n
  · rw [if_pos h2] at h; simp at h
  rw [if_neg h2] at h
  by_cases h3 : segChk none vs = 0
  · rw [if_neg (by simpa using h3)] at h
    by_cases h4 : 1048576 < (headB t vs.length ((chunks n.toNat vs).map bndF)).length
    · rw [if_pos h4] at h; simp at h
    · rw [if_neg h4] at h
      exact ⟨by simpa using h1, by omega, by omega, h3, h4, h⟩
  · rw [if_pos h3] at h
    simp only [Prod.mk.injEq] at h
    exact absurd h.2 h3
theorem bldF_of {t b : List UInt8} {vs : List Ver} {n m : Int} (h : bldF t vs n = (b, 0)) (h1 : 1 ≤ m) (h2 : m ≤ 4096) (he : chunks m.toNat vs = chunks n.toNat vs) : bldF t vs m = (b, 0) := by
  obtain ⟨p1, _, _, p4, p5, p6⟩ := bldF_parts h
  unfold bldF
  rw [if_neg (by rw [p1]; simp), if_neg (by omega), if_neg (by simpa using p4), he, if_neg p5]
  exact p6
theorem opn_bld {t b : List UInt8} {vs : List Ver} {n : Int} (h : bldF t vs n = (b, 0)) (hl : vs.length ≤ 1048576) : opnF b = ((t, chunks n.toNat vs), 0) := by
  obtain ⟨p1, p2, p3, p4, p5, p6⟩ := bldF_parts h
  have hn1 : 1 ≤ n.toNat := by omega
  obtain ⟨hb, henc⟩ := bldB_ok _ _ _ p6
  have ht : t.length ≤ 24 := by
    unfold nmW at p1
    simp only [Bool.and_eq_true, decide_eq_true_eq] at p1
    exact p1.1.1.2
  have hval : ∀ c ∈ chunks n.toNat vs, validR (bndF c) = true := fun c hc => by
    obtain ⟨q1, _, q3⟩ := chunks_mem hn1 vs.length vs (Nat.le_refl _) c hc
    exact bnd_valid (fun x hx => closed_valid (segChk_closed p4 x (q3 x hx))) q1
  have hcl := chunks_len n.toNat hn1 vs.length vs (Nat.le_refl _)
  obtain ⟨H, hH⟩ : ∃ H, H = headB t vs.length ((chunks n.toNat vs).map bndF) := ⟨_, rfl⟩
  rw [← hH] at hb p5
  have e1 : nextF b 0 = (H, ((frm H).length : Int), 0) := by
    have := next_frame [] H (frsB (chunks n.toNat vs)) (by omega)
    simp only [List.nil_append, List.length_nil] at this
    rw [hb, frm_length]
    rw [show ((0 : Nat) : Int) = 0 from rfl] at this
    rw [this]
    simp only [Prod.mk.injEq, and_true, true_and]
    omega
  have e2 : prsF H = (t, ((chunks n.toNat vs).length : Int), 0) := by
    rw [hH, prsF_put t vs.length _ (by omega) (by omega) (fun q hq => by
      obtain ⟨c, hc, rfl⟩ := List.mem_map.1 hq
      exact hval c hc) (by rw [List.length_map]; omega), List.length_map]
  have e3 : opnL b (chunks n.toNat vs).length ((frm H).length : Int) = (chunks n.toNat vs, (b.length : Int), 0) := by
    rw [hb]; exact opnL_put _ _ henc
  obtain ⟨z1, z2⟩ := szF_chunks hn1 vs
  have hz : 1 ≤ szF (chunks n.toNat vs) ∧ szF (chunks n.toNat vs) ≤ 4096 := by
    rw [z1]; split <;> omega
  have e4 : bldF t (chunks n.toNat vs).flatten (szF (chunks n.toNat vs) : Nat) = (b, 0) := by
    rw [chunks_flat n.toNat hn1 vs.length vs (Nat.le_refl _)]
    exact bldF_of h (by omega) (by omega) (by rw [Int.toNat_natCast]; exact z2)
  unfold opnF
  simp only [e1, e2, Int.toNat_natCast, e3, e4]
  rw [if_neg (by simp), if_neg (by simp), if_neg (by simp), if_neg (by simp), if_neg (by simp)]
end Go.Proofs.YtacjiocffbgkkaaGreat
