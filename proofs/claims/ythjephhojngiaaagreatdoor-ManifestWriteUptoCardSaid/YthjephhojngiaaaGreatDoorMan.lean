/-
  What frames read as: plain laws.
  Manifests: plain definitions and laws.
-/
import Derived.Test.YthjephhojngiaaaGreatDoorFrame
import Derived.Test.YthjephhojngiaaaGreatDoorCodec
namespace Go.Proofs.YthjephhojngiaaaGreatDoor
section
set_option maxRecDepth 100000
open Go.RowKit Go.Lib

theorem frm_length (l : List UInt8) : (frm l).length = l.length + 8 := by simp [frm, be4_length]; omega
theorem getD_mid (a b c : List UInt8) (k : Nat) (h : k < b.length) : (a ++ (b ++ c)).getD (a.length + k) 0 = b.getD k 0 := by
  simp only [List.getD_eq_getElem?_getD]
  rw [List.getElem?_append_right (by omega), show a.length + k - a.length = k by omega, List.getElem?_append_left h]
theorem num4_mid (a c : List UInt8) (x : Nat) (h : x < 4294967296) : num4L (a ++ (be4 x ++ c)) a.length = x := by
  have hx := num4_be4 x h
  unfold num4L at hx ⊢
  have h0 := getD_mid a (be4 x) c 0 (by rw [be4_length]; omega)
  have h1 := getD_mid a (be4 x) c 1 (by rw [be4_length]; omega)
  have h2 := getD_mid a (be4 x) c 2 (by rw [be4_length]; omega)
  have h3 := getD_mid a (be4 x) c 3 (by rw [be4_length]; omega)
  rw [Nat.add_zero] at h0
  rw [h0, h1, h2, h3]
  exact hx
theorem crcSum_lt' (a b : List UInt8) : crcSum a b < 4294967296 := by unfold crcSum; omega
theorem next_frame (a x c : List UInt8) (hx : x.length ≤ 1048576) : nextF (a ++ (frm x ++ c)) (a.length : Int) = (x, (a.length : Int) + 8 + (x.length : Nat), 0) := by
  have hl : (a ++ (frm x ++ c)).length = a.length + (x.length + 8) + c.length := by simp only [List.length_append, frm_length]; omega
  have e : frm x ++ c = be4 x.length ++ (be4 (crcSum (be4 x.length) x) ++ (x ++ c)) := by simp [frm]
  have n1 : num4L (a ++ (frm x ++ c)) a.length = x.length := by rw [e]; exact num4_mid a _ _ (by omega)
  have n2 : num4L (a ++ (frm x ++ c)) (a.length + 4) = crcSum (be4 x.length) x := by
    have := num4_mid (a ++ be4 x.length) (x ++ c) _ (crcSum_lt' (be4 x.length) x)
    rw [List.length_append, be4_length] at this
    rw [e]
    simpa [List.append_assoc] using this
  have d1 : ((a ++ (frm x ++ c)).drop a.length).take 4 = be4 x.length := by
    rw [List.drop_left, e]
    exact List.take_left' (be4_length _)
  have d2 : ((a ++ (frm x ++ c)).drop (a.length + 8)).take x.length = x := by
    have : a ++ (frm x ++ c) = (a ++ be4 x.length ++ be4 (crcSum (be4 x.length) x)) ++ (x ++ c) := by rw [e]; simp
    rw [this, List.drop_left' (by simp [be4_length])]
    exact List.take_left' rfl
  unfold nextF
  rw [Int.toNat_natCast, n1, n2, d1, d2, if_neg (by rw [hl]; omega), if_neg (by rw [hl]; omega), if_neg (by omega), if_neg (by rw [hl]; omega), if_neg (by simp)]
theorem be4_num4 (c0 c1 c2 c3 : UInt8) : be4 (num4 c0 c1 c2 c3) = [c0, c1, c2, c3] := by
  have h0 := c0.toNat_lt; have h1 := c1.toNat_lt; have h2 := c2.toNat_lt; have h3 := c3.toNat_lt
  simp only [be4, num4, List.map_cons, List.map_nil, List.cons.injEq, and_true]
  refine ⟨?_, ?_, ?_, ?_⟩ <;> apply UInt8.toNat_inj.1 <;> rw [UInt8.toNat_ofNat'] <;> omega
theorem take4 {l : List UInt8} {k : Nat} (h : k + 4 ≤ l.length) : (l.drop k).take 4 = be4 (num4L l k) := by
  unfold num4L
  rw [be4_num4]
  apply List.ext_getElem?
  intro i
  rw [List.getElem?_take]
  by_cases hi : i < 4
  · rw [if_pos hi, List.getElem?_drop, List.getElem?_eq_getElem (by omega)]
    have hc : i = 0 ∨ i = 1 ∨ i = 2 ∨ i = 3 := by omega
    have h0 := List.getElem?_eq_getElem (l := l) (i := k) (by omega)
    have h1 := List.getElem?_eq_getElem (l := l) (i := k + 1) (by omega)
    have h2 := List.getElem?_eq_getElem (l := l) (i := k + 2) (by omega)
    have h3 := List.getElem?_eq_getElem (l := l) (i := k + 3) (by omega)
    rcases hc with rfl | rfl | rfl | rfl <;> simp [List.getD, h0, h1, h2, h3]
  · rw [if_neg hi, List.getElem?_eq_none (by simp; omega)]
theorem next_frm {l : List UInt8} {k : Nat} (h : (nextF l (k : Int)).2.2 = 0) : (l.drop k).take ((nextF l (k : Int)).1.length + 8) = frm (nextF l (k : Int)).1 ∧ (nextF l (k : Int)).2.1 = (k : Int) + 8 + ((nextF l (k : Int)).1.length : Nat) := by
  unfold nextF at h ⊢
  rw [Int.toNat_natCast] at h ⊢
  split at h
  · simp at h
  split at h
  · simp at h
  split at h
  · simp at h
  split at h
  · simp at h
  split at h
  · simp at h
  rename_i q1 q2 q3 q4 q5
  rw [if_neg q1, if_neg q2, if_neg q3, if_neg q4, if_neg q5]
  have hlen : ((l.drop (k + 8)).take (num4L l k)).length = num4L l k := by rw [List.length_take, List.length_drop]; omega
  have q5' := Classical.not_not.1 q5
  refine ⟨?_, by rw [hlen]⟩
  simp only
  unfold frm
  rw [hlen]
  have t1 := take4 (l := l) (k := k) (by omega)
  have t2 := take4 (l := l) (k := k + 4) (by omega)
  rw [← t1, ← q5', ← t2]
  apply List.ext_getElem?
  intro i
  rw [List.getElem?_take]
  by_cases h4 : i < 4
  · rw [if_pos (by omega), List.getElem?_append_left (by rw [List.length_take, List.length_drop]; omega), List.getElem?_take, if_pos h4]
  · rw [List.getElem?_append_right (by rw [List.length_take, List.length_drop]; omega), List.length_take, List.length_drop]
    by_cases h8 : i < 8
    · rw [if_pos (by omega), List.getElem?_append_left (by rw [List.length_take, List.length_drop]; omega), List.getElem?_take, if_pos (by omega), List.getElem?_drop, List.getElem?_drop]
      congr 1; omega
    · rw [List.getElem?_append_right (by rw [List.length_take, List.length_drop]; omega), List.length_take, List.length_drop, List.getElem?_take]
      by_cases hn : i < num4L l k + 8
      · rw [if_pos hn, if_pos (by omega), List.getElem?_drop, List.getElem?_drop]
        congr 1; omega
      · rw [if_neg hn, if_neg (by omega)]
end

section
set_option maxRecDepth 100000
open Go.RowKit Go.Lib

/-- a manifest -/
structure Man where
  base : List UInt8
  segs : List (List UInt8)
  log : List UInt8
  tx : Int
  nx : Int
def Man.zero : Man := ⟨[], [], [], 0, 0⟩
def digV : List UInt8 → Int → Option Int
  | [], n => some n
  | c :: r, n => if 48 ≤ c.toNat ∧ c.toNat ≤ 57 then digV r (10 * n + ((c.toNat : Int) - 48)) else none
/-- the number of a file's name, or 0 -/
def numF (s : List UInt8) : Int := if s.length = 7 ∧ s[0]? = some 102 then (digV s.tail 0).getD 0 else 0
def okNm (nx : Int) (s : List UInt8) : Bool := decide (1 ≤ numF s ∧ numF s < nx)
def nmsF (m : Man) : List (List UInt8) := (if m.base = [] then [] else [m.base]) ++ m.segs ++ [m.log]
def chkL (nx : Int) : List (List UInt8) → List (List UInt8) → Int
  | [], _ => 0
  | s :: r, seen => if okNm nx s = false then 8 else if s ∈ seen then 10 else chkL nx r (seen ++ [s])
def chkF (m : Man) : Int := if 0 ≤ m.tx ∧ m.tx ≤ 1125899906842624 ∧ 1 ≤ m.nx ∧ m.nx ≤ 1000000 then chkL m.nx (nmsF m) [] else 6
def txE (s : List UInt8) : List UInt8 := encI s.length ++ s
def bodyM (m : Man) : List UInt8 := txE m.base ++ (encI m.segs.length ++ (m.segs.flatMap txE ++ (txE m.log ++ (encI m.tx ++ encI m.nx))))
def encM (m : Man) : List UInt8 × Int := if chkF m = 0 then (frm (bodyM m), 0) else ([], chkF m)
def decSegs (body : List UInt8) : Nat → Int → List (List UInt8) → List (List UInt8) × Int × Int
  | 0, k, acc => (acc, k, 0)
  | n + 1, k, acc => if (decT body k 200).2.2 = 0 then decSegs body n (decT body k 200).2.1 (acc ++ [(decT body k 200).1]) else (acc, k, (decT body k 200).2.2)
def decB (body : List UInt8) : Man × Int :=
  let a := decT body 0 200
  if a.2.2 ≠ 0 then (.zero, a.2.2) else
  let b := decI body a.2.1
  if b.2.2 ≠ 0 then (.zero, b.2.2) else
  if b.1 < 0 then (.zero, 1) else
  let c := decSegs body b.1.toNat b.2.1 []
  if c.2.2 ≠ 0 then (.zero, c.2.2) else
  let d := decT body c.2.1 200
  if d.2.2 ≠ 0 then (.zero, d.2.2) else
  let t := decI body d.2.1
  if t.2.2 ≠ 0 then (.zero, t.2.2) else
  let x := decI body t.2.1
  if x.2.2 ≠ 0 then (.zero, x.2.2) else
  if x.2.1 < body.length then (.zero, 3) else
  let m : Man := ⟨a.1, c.1, d.1, t.1, x.1⟩
  if chkF m = 0 then (m, 0) else (.zero, chkF m)
def decM (b : List UInt8) : Man × Int :=
  let f := nextF b 0
  if f.2.2 ≠ 0 then (.zero, f.2.2) else
  if f.2.1 < b.length then (.zero, 3) else
  decB f.1
theorem app_split {α : Type} {a r a' r' : List α} (h : a ++ r = a' ++ r') (hl : (a.length : Int) = (a'.length : Int)) : a = a' ∧ r = r' := List.append_inj h (by omega)
theorem eta3 {α : Type} {x : α × Int × Int} (h : x.2.2 = 0) : x = (x.1, x.2.1, 0) := by rw [← h]
theorem decSegs_got {body : List UInt8} : ∀ (n : Nat) (k : Int) (acc sg : List (List UInt8)) (m : Int), decSegs body n k acc = (sg, m, 0) → ∀ a r, body = a ++ r → k = (a.length : Int) →
    ∃ ss r', sg = acc ++ ss ∧ ss.length = n ∧ body = a ++ (ss.flatMap txE ++ r') ∧ m = ((a ++ ss.flatMap txE).length : Int)
  | 0, k, acc, sg, m, h, a, r, hb, hk => by
    simp only [decSegs, Prod.mk.injEq, and_true] at h
    obtain ⟨rfl, rfl⟩ := h
    exact ⟨[], r, by simp, rfl, by simpa using hb, by simpa using hk⟩
  | n + 1, k, acc, sg, m, h, a, r, hb, hk => by
    rw [decSegs] at h
    by_cases he : (decT body k 200).2.2 = 0
    · rw [if_pos he] at h
      obtain ⟨a', r', hl, hk', hm, _⟩ := decT_got (eta3 he)
      obtain ⟨rfl, _⟩ := app_split (hb.symm.trans hl) (hk.symm.trans hk')
      generalize (decT body k 200).1 = s at *
      generalize (decT body k 200).2.1 = j at *
      obtain ⟨ss, r2, h1, h2, h3, h4⟩ := decSegs_got n j _ sg m h (a ++ (encI s.length ++ s)) r' (by rw [hl]; simp) hm
      refine ⟨s :: ss, r2, by rw [h1]; simp, by simp [h2], ?_, ?_⟩
      · rw [h3]; simp [txE]
      · rw [h4]; simp [txE]
    · rw [if_neg he] at h
      simp only [Prod.mk.injEq] at h
      exact absurd h.2.2 he
theorem decB_got {body : List UInt8} {m : Man} (h : decB body = (m, 0)) : chkF m = 0 ∧ body = bodyM m := by
  unfold decB at h
  simp only at h
  by_cases e1 : (decT body 0 200).2.2 = 0
  case neg => rw [if_pos e1] at h; simp only [Prod.mk.injEq] at h; exact absurd h.2 e1
  rw [if_neg (by simpa using e1)] at h
  obtain ⟨a1, r1, g1, g2, g3, _⟩ := decT_got (eta3 e1)
  generalize (decT body 0 200).1 = s1 at *
  generalize (decT body 0 200).2.1 = k1 at *
  obtain rfl : a1 = [] := List.eq_nil_of_length_eq_zero (by omega)
  clear e1 g2
  by_cases e2 : (decI body k1).2.2 = 0
  case neg => rw [if_pos e2] at h; simp only [Prod.mk.injEq] at h; exact absurd h.2 e2
  rw [if_neg (by simpa using e2)] at h
  obtain ⟨a2, r2, f1, f2, f3⟩ := decI_got (eta3 e2)
  generalize (decI body k1).1 = n2 at *
  generalize (decI body k1).2.1 = k2 at *
  clear e2
  by_cases hn : n2 < 0
  · rw [if_pos hn] at h; simp at h
  rw [if_neg hn] at h
  by_cases e3 : (decSegs body n2.toNat k2 []).2.2 = 0
  case neg => rw [if_pos e3] at h; simp only [Prod.mk.injEq] at h; exact absurd h.2 e3
  rw [if_neg (by simpa using e3)] at h
  obtain ⟨ss, r3, u1, u2, u3, u4⟩ := decSegs_got _ _ _ _ _ (eta3 e3) (a2 ++ encI n2) r2 (by rw [f1]; simp) f3
  generalize (decSegs body n2.toNat k2 []).1 = sg at *
  generalize (decSegs body n2.toNat k2 []).2.1 = k3 at *
  clear e3
  by_cases e4 : (decT body k3 200).2.2 = 0
  case neg => rw [if_pos e4] at h; simp only [Prod.mk.injEq] at h; exact absurd h.2 e4
  rw [if_neg (by simpa using e4)] at h
  obtain ⟨a4, r4, v1, v2, v3, _⟩ := decT_got (eta3 e4)
  generalize (decT body k3 200).1 = lg at *
  generalize (decT body k3 200).2.1 = k4 at *
  clear e4
  by_cases e5 : (decI body k4).2.2 = 0
  case neg => rw [if_pos e5] at h; simp only [Prod.mk.injEq] at h; exact absurd h.2 e5
  rw [if_neg (by simpa using e5)] at h
  obtain ⟨a5, r5, x1, x2, x3⟩ := decI_got (eta3 e5)
  generalize (decI body k4).1 = tx at *
  generalize (decI body k4).2.1 = k5 at *
  clear e5
  by_cases e6 : (decI body k5).2.2 = 0
  case neg => rw [if_pos e6] at h; simp only [Prod.mk.injEq] at h; exact absurd h.2 e6
  rw [if_neg (by simpa using e6)] at h
  obtain ⟨a6, r6, y1, y2, y3⟩ := decI_got (eta3 e6)
  generalize (decI body k5).1 = nx at *
  generalize (decI body k5).2.1 = k6 at *
  clear e6
  by_cases e7 : k6 < body.length
  · rw [if_pos e7] at h; simp at h
  rw [if_neg e7] at h
  by_cases e8 : chkF ⟨s1, sg, lg, tx, nx⟩ = 0
  case neg => rw [if_neg e8] at h; simp only [Prod.mk.injEq] at h; exact absurd h.2 e8
  rw [if_pos e8] at h
  simp only [Prod.mk.injEq, and_true] at h
  subst h
  refine ⟨e8, ?_⟩
  rw [List.nil_append] at g1 u1
  rw [List.nil_append] at g3
  subst u1
  obtain ⟨rfl, q2⟩ := app_split (g1.symm.trans f1) (g3.symm.trans f2)
  have z3 : body = ((encI s1.length ++ s1) ++ encI n2 ++ sg.flatMap txE) ++ r3 := by rw [u3]; simp
  obtain ⟨rfl, q4⟩ := app_split (z3.symm.trans v1) (by rw [← v2, u4])
  obtain ⟨rfl, q5⟩ := app_split (a := (encI s1.length ++ s1) ++ encI n2 ++ sg.flatMap txE ++ (encI lg.length ++ lg)) (r := r4) ((show _ = body by rw [v1]; simp).trans x1) (by rw [← x2, v3])
  obtain ⟨rfl, q6⟩ := app_split (a := (encI s1.length ++ s1) ++ encI n2 ++ sg.flatMap txE ++ (encI lg.length ++ lg) ++ encI tx) (r := r5) ((show _ = body by rw [x1]; simp).trans y1) (by rw [← y2, x3])
  have hr6 : r6 = [] := by
    have hl := congrArg List.length y1
    rw [y3] at e7
    simp only [List.length_append] at hl e7
    exact List.eq_nil_of_length_eq_zero (by omega)
  subst hr6
  have hn2 : n2 = (sg.length : Int) := by omega
  rw [y1, hn2]
  simp [bodyM, txE]
theorem decM_got {b : List UInt8} {m : Man} (h : decM b = (m, 0)) : chkF m = 0 ∧ b = frm (bodyM m) := by
  unfold decM at h
  simp only at h
  by_cases e1 : (nextF b 0).2.2 = 0
  case neg => rw [if_pos e1] at h; simp only [Prod.mk.injEq] at h; exact absurd h.2 e1
  rw [if_neg (by simpa using e1)] at h
  obtain ⟨g1, g2⟩ := next_frm (l := b) (k := 0) e1
  rw [show ((0 : Nat) : Int) = 0 from rfl] at g1 g2
  by_cases e2 : (nextF b 0).2.1 < (b.length : Int)
  · rw [if_pos e2] at h; simp at h
  rw [if_neg e2] at h
  obtain ⟨h1, h2⟩ := decB_got h
  refine ⟨h1, ?_⟩
  rw [← h2, ← g1, List.drop_zero, List.take_of_length_le (by omega)]
/-- a good name has seven letters -/
theorem ok_len {nx : Int} {s : List UInt8} (h : okNm nx s = true) : s.length = 7 := by
  have h1 := (of_decide_eq_true h).1
  unfold numF at h1
  split at h1
  · rename_i h2; exact h2.1
  · omega
theorem chkL_ok {nx : Int} : ∀ {l seen : List (List UInt8)}, chkL nx l seen = 0 → ∀ s ∈ l, okNm nx s = true
  | [], _, _, s, hs => by cases hs
  | x :: l, seen, h, s, hs => by
    rw [chkL] at h
    by_cases h1 : okNm nx x = false
    · rw [if_pos h1] at h; simp at h
    rw [if_neg h1] at h
    by_cases h2 : x ∈ seen
    · rw [if_pos h2] at h; simp at h
    rw [if_neg h2] at h
    rcases List.mem_cons.1 hs with rfl | hs
    · simpa using h1
    · exact chkL_ok h s hs
theorem decSegs_put (b r : List UInt8) : ∀ (ss : List (List UInt8)) (a : List UInt8) (acc : List (List UInt8)), (∀ s ∈ ss, s.length ≤ 200) → b = a ++ (ss.flatMap txE ++ r) →
    decSegs b ss.length (a.length : Int) acc = (acc ++ ss, ((a ++ ss.flatMap txE).length : Int), 0)
  | [], a, acc, _, hb => by simp [decSegs]
  | s :: ss, a, acc, hs, hb => by
    have hsl := hs s (List.mem_cons_self ..)
    have e : decT b (a.length : Int) 200 = (s, ((a ++ (encI s.length ++ s)).length : Int), 0) := by
      rw [hb]
      have := decT_put a (ss.flatMap txE ++ r) s 200 (by omega) (by omega)
      simpa [txE] using this
    rw [List.length_cons, decSegs, e]
    simp only
    rw [if_pos trivial, decSegs_put b r ss (a ++ (encI s.length ++ s)) _ (fun s hs' => hs s (List.mem_cons_of_mem _ hs')) (by rw [hb]; simp [txE])]
    simp [txE]
theorem decB_put {m : Man} (h : chkF m = 0) (hs : (m.segs.length : Int) ≤ 9223372036854775807) : decB (bodyM m) = (m, 0) := by
  have hc := h
  unfold chkF at hc
  by_cases hr : 0 ≤ m.tx ∧ m.tx ≤ 1125899906842624 ∧ 1 ≤ m.nx ∧ m.nx ≤ 1000000
  case neg => rw [if_neg hr] at hc; simp at hc
  rw [if_pos hr] at hc
  have hok := chkL_ok hc
  have hb0 : m.base.length ≤ 200 := by
    by_cases hb : m.base = []
    · rw [hb]; simp
    · have := ok_len (hok m.base (by simp [nmsF, hb])); omega
  have hlg : m.log.length ≤ 200 := by have := ok_len (hok m.log (by simp [nmsF])); omega
  have hsg : ∀ s ∈ m.segs, s.length ≤ 200 := fun s hs => by have := ok_len (hok s (by simp [nmsF, hs])); omega
  obtain ⟨base, segs, log, tx, nx⟩ := m
  dsimp only at *
  obtain ⟨body, hbody⟩ : ∃ body, body = bodyM ⟨base, segs, log, tx, nx⟩ := ⟨_, rfl⟩
  rw [← hbody]
  unfold bodyM at hbody
  dsimp only at hbody
  have e1 : decT body 0 200 = (base, ((txE base).length : Int), 0) := by
    have := decT_put [] (encI segs.length ++ (segs.flatMap txE ++ (txE log ++ (encI tx ++ encI nx)))) base 200 (by omega) (by omega)
    rw [hbody]; simpa [txE] using this
  have e2 : decI body ((txE base).length : Int) = ((segs.length : Int), ((txE base ++ encI segs.length).length : Int), 0) := by
    have := decI_put (txE base) (segs.flatMap txE ++ (txE log ++ (encI tx ++ encI nx))) (segs.length : Int) (by omega) hs
    rw [hbody]; simpa using this
  have e3 := decSegs_put body (txE log ++ (encI tx ++ encI nx)) segs (txE base ++ encI segs.length) [] hsg (by rw [hbody]; simp)
  have e4 : decT body ((txE base ++ encI segs.length ++ segs.flatMap txE).length : Int) 200 = (log, ((txE base ++ encI segs.length ++ segs.flatMap txE ++ txE log).length : Int), 0) := by
    have := decT_put (txE base ++ encI segs.length ++ segs.flatMap txE) (encI tx ++ encI nx) log 200 (by omega) (by omega)
    rw [hbody]; simpa [txE] using this
  have e5 : decI body ((txE base ++ encI segs.length ++ segs.flatMap txE ++ txE log).length : Int) = (tx, ((txE base ++ encI segs.length ++ segs.flatMap txE ++ txE log ++ encI tx).length : Int), 0) := by
    have := decI_put (txE base ++ encI segs.length ++ segs.flatMap txE ++ txE log) (encI nx) tx (by omega) (by omega)
    rw [hbody]; simpa using this
  have e6 : decI body ((txE base ++ encI segs.length ++ segs.flatMap txE ++ txE log ++ encI tx).length : Int) = (nx, ((txE base ++ encI segs.length ++ segs.flatMap txE ++ txE log ++ encI tx ++ encI nx).length : Int), 0) := by
    have := decI_put (txE base ++ encI segs.length ++ segs.flatMap txE ++ txE log ++ encI tx) [] nx (by omega) (by omega)
    rw [hbody]; simpa using this
  unfold decB
  simp only [e1, e2]
  rw [if_neg (by simp), if_neg (by simp), if_neg (by omega), Int.toNat_natCast]
  simp only [e3]
  rw [if_neg (by simp)]
  simp only [e4]
  rw [if_neg (by simp)]
  simp only [e5]
  rw [if_neg (by simp)]
  simp only [e6]
  rw [if_neg (by simp), if_neg (by rw [hbody]; simp), List.nil_append, if_pos h]
theorem decM_put {m : Man} (h : chkF m = 0) (hs : (bodyM m).length ≤ 1048576) : decM (frm (bodyM m)) = (m, 0) := by
  have hn := next_frame [] (bodyM m) [] hs
  simp only [List.nil_append, List.append_nil, List.length_nil] at hn
  rw [show ((0 : Nat) : Int) = 0 from rfl] at hn
  unfold decM
  simp only [hn]
  rw [if_neg (by simp), if_neg (by rw [frm_length]; omega)]
  refine decB_put h ?_
  have : m.segs.length ≤ (m.segs.flatMap txE).length := by
    induction m.segs with
    | nil => simp
    | cons s r ih =>
      rw [List.flatMap_cons, List.length_append, List.length_cons]
      have : 1 ≤ (txE s).length := by
        unfold txE; rw [List.length_append]
        have : 1 ≤ (encI s.length).length := by unfold encI; rw [vl]; split <;> simp
        omega
      omega
  have h2 : (m.segs.flatMap txE).length ≤ (bodyM m).length := by unfold bodyM; simp only [List.length_append]; omega
  omega
end
end Go.Proofs.YthjephhojngiaaaGreatDoor
