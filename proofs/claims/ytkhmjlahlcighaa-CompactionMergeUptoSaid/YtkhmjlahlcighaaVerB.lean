/-
  Versions: which are valid, and their order.
-/
import Derived.Test.YtkhmjlahlcighaaVerA
namespace Go.Proofs.Ytkhmjlahlcighaa
open Go.RowKit Go.Lib Go.IntWalk Go.Sort Go.Shelf

/-- what a version says -/
structure Ver where
  id : Int
  sch : Int
  row : List Val
  vf : Int
  vt : Int
  sf : Int
  st : Int
  by_ : Int
  un : Int
deriving Inhabited
def validRowF (xs : List Val) : Bool := xs.all validV && decide (xs.length ≤ 12)
def num50 (n : Int) : Bool := decide (0 ≤ n ∧ n ≤ 1125899906842624)
def in50 (n : Int) : Bool := decide (1 ≤ n ∧ n ≤ 1125899906842624)
def in64 (n : Int) : Bool := decide (0 ≤ n ∧ n ≤ 64)
def validVer (x : Ver) : Bool := in50 x.id && (in50 x.by_ && (in64 x.sch && (validRowF x.row && (validP x.vf x.vt && (validP x.sf x.st && num50 x.un)))))
theorem validVer_ref (x : Ver) : validVer x = (decide (1 ≤ x.id) && (num50 x.id && (decide (1 ≤ x.by_) && (num50 x.by_ && (num50 x.un && (decide (0 ≤ x.sch) && (decide (x.sch ≤ 64) && (validRowF x.row && (validP x.vf x.vt && validP x.sf x.st))))))))) := by
  unfold validVer in50 in64 num50
  cases validRowF x.row <;> cases validP x.vf x.vt <;> cases validP x.sf x.st <;> (rw [Bool.eq_iff_iff]; simp) <;> omega
/-- the cells r say x -/
structure VerIs (w : World) (F : Nat → Prop) (r : RV) (x : Ver) : Prop where
  id : r.id = x.id
  sch : r.sch = x.sch
  vf : r.vf = x.vf
  vt : r.vt = x.vt
  sf : r.sf = x.sf
  st : r.st = x.st
  by_ : r.by_ = x.by_
  un : r.un = x.un
  row : RdV w F (.slice r.rA r.rn r.rc) x.row
  ok : ∀ v ∈ x.row, goV v
theorem VerIs.keep {w w' : World} {F : Nat → Prop} {r : RV} {x : Ver} (h : VerIs w F r x) (hk : Keeps F w w') : VerIs w' F r x := ⟨h.id, h.sch, h.vf, h.vt, h.sf, h.st, h.by_, h.un, Rd.keep h.row hk, h.ok⟩
theorem VerIs.wide {w : World} {F G : Nat → Prop} {r : RV} {x : Ver} (h : VerIs w F r x) (hk : ∀ b, F b → G b) : VerIs w G r x := ⟨h.id, h.sch, h.vf, h.vt, h.sf, h.st, h.by_, h.un, Rd.wide h.row hk, h.ok⟩

theorem within_any (n a b : Int) (w : World) : Calls Try.prog 43 #[.int .i64 n, .int .i64 a, .int .i64 b] w fun e w' => e = .returned (.bool (decide (a ≤ n ∧ n ≤ b))) ∧ w' = w := by
  go_enter Try.func43, Try.ntmps43
  go_wp2
  all_goals
    go_ret
    refine ⟨ret_bool (by first | (symm; rw [decide_eq_false_iff_not]; omega) | (symm; rw [decide_eq_true_eq]; omega) | (rw [Bool.eq_iff_iff]; simp; omega)), rfl⟩
theorem number_any (n : Int) (w : World) : Calls Try.prog 26 #[.int .i64 n] w fun e w' => e = .returned (.bool (num50 n)) ∧ w' = w := by
  unfold num50
  go_enter Try.func26, Try.ntmps26
  go_wp2
  all_goals
    go_ret
    refine ⟨ret_bool (by first | (symm; rw [decide_eq_false_iff_not]; omega) | (symm; rw [decide_eq_true_eq]; omega) | (rw [Bool.eq_iff_iff]; simp; omega)), rfl⟩
theorem refPeriodValid_any (f t : Int) (w : World) :
    Calls Try.prog 28 #[.agg #[.int .i64 f, .int .i64 t]] w fun e w' => e = .returned (.bool (validP f t)) ∧ w.alloc (.cells #[.int .i64 f, .int .i64 t] 36) = w' := by
  go_enter Try.func28, Try.ntmps28
  go_wp2
  all_goals go_ret
  all_goals refine ⟨ret_bool ?_, by first | rfl | (simp_all; done)⟩
  all_goals simp_all [validP]
  all_goals omega
theorem inv1_any (k i : Int) (s : ByteArray) (w : World) (hs : s.size ≤ maxLen) :
    Calls Try.prog 51 #[.agg #[.int .i64 k, .int .i64 i, .string s]] w fun e w' => e = .returned (.bool (!validV ⟨k, i, s⟩)) ∧ Below w.heap.size w w' := by
  go_enter Try.func51, Try.ntmps51
  go_wp2_with fail
  (with_reducible refine (validValue_any k i s _ hs).mono ?_)
  rintro _ _ ⟨rfl, rfl⟩
  go_wp2_with fail
  go_ret
  exact ⟨rfl, (Below.of_alloc _).alloc (by simp) _⟩
set_option maxHeartbeats 2000000 in
theorem index_any (v : Value) (xs : List Val) (w : World) (hv : RdV w (· < w.heap.size) v xs) (hok : ∀ x ∈ xs, goV x) :
    Calls Try.prog 56 #[v, .func (.func 51) #[] #[]] w fun e w' => ∃ m : Int, e = .returned (.int .i64 m) ∧ (decide (0 ≤ m)) = (!xs.all validV) ∧ Below w.heap.size w w' := by
  obtain ⟨A, c, rfl, hc1, hc2, hc3⟩ := hv.open_
  unfold maxLen at hc2
  have HO := Lib.hid hok
  clear hok
  go_enter Try.func56, Try.ntmps56
  go_wp2_with fail
  go_loopw [8] (fun i wr => AllRel w xs i wr) (fun i _ => xs.length - (intOf i).toNat)
  case atStart => exact ⟨0, Nat.zero_le _, rfl, rfl, Below.refl _ _⟩
  case round =>
    obtain ⟨k, hk, rfl, hall, hB⟩ := hrel
    obtain ⟨wo, rfl⟩ : ∃ wo : World, wo = wr := ⟨_, rfl⟩
    have HA := Lib.hid hall
    clear hall
    have hsz := hB.size
    by_cases hlt : k < xs.length
    · obtain ⟨bb, off, rfl, hF, g0, g1, g2⟩ := RdV.at_ (Rd.below hv hB) hlt
      have hx := HO.out xs[k] (List.getElem_mem hlt)
      have hs := all_snoc hlt
      have hn := all_no hlt
      generalize xs[k] = x at *
      obtain ⟨kd, n, s⟩ := x
      obtain ⟨_, _, x3⟩ := hx
      simp only at g0 g1 g2 x3
      have HS := Lib.hid hs
      have HN := Lib.hid hn
      clear hs hn
      go_wp2_with fail
      have hc := inv1_any kd n s wo x3
      cases hval : validV ⟨kd, n, s⟩
      · rw [hval] at hc
        have HV := Lib.hid hval
        clear hval
        (with_reducible refine hc.mono ?_)
        rintro e w2 ⟨rfl, hb2⟩
        go_wp2_with fail
        go_ret
        exact ⟨k, rfl, by rw [HN.out HV.out]; simp, hB.trans (hb2.mono hsz)⟩
      · rw [hval] at hc
        have HV := Lib.hid hval
        clear hval
        (with_reducible refine hc.mono ?_)
        rintro e w2 ⟨rfl, hb2⟩
        go_wp2_with fail
        go_roundw
        case rel => exact ⟨k + 1, by omega, by go_num, by rw [HS.out, HA.out, HV.out]; rfl, hB.trans (hb2.mono hsz)⟩
        case measure => simp [intOf]; omega
    · have hke : k = xs.length := by omega
      subst hke
      go_wp2_with fail
      go_ret
      have h := HA.out
      rw [List.take_length] at h
      exact ⟨-1, rfl, by rw [h]; rfl, hB⟩
theorem containsV_any (v : Value) (xs : List Val) (w : World) (hv : RdV w (· < w.heap.size) v xs) (hok : ∀ x ∈ xs, goV x) :
    Calls Try.prog 50 #[v, .func (.func 51) #[] #[]] w fun e w' => e = .returned (.bool (!xs.all validV)) ∧ Below w.heap.size w w' := by
  go_enter Try.func50, Try.ntmps50
  go_wp2_with fail
  (with_reducible refine (index_any v xs _ hv hok).mono ?_)
  rintro _ w2 ⟨m, rfl, hm, hb⟩
  have HM := Lib.hid hm
  clear hm
  go_wp2_with fail
  all_goals
    go_ret
    exact ⟨ret_bool (by rw [← HM.out]), hb⟩
theorem validRow_any (v : Value) (xs : List Val) (w : World) (hv : RdV w (· < w.heap.size) v xs) (hok : ∀ x ∈ xs, goV x) :
    Calls Try.prog 44 #[v] w fun e w' => e = .returned (.bool (validRowF xs)) ∧ Below w.heap.size w w' := by
  obtain ⟨A, c, rfl, hc1, hc2, hc3⟩ := hv.open_
  have hc := containsV_any _ xs w hv hok
  have HE : Hid (validRowF xs = (xs.all validV && decide (xs.length ≤ 12))) := Lib.hid rfl
  generalize validRowF xs = r at *
  generalize xs.all validV = b at *
  by_cases h : xs.length ≤ 12
  · have hz : (xs.length : Int) ≤ 12 := by omega
    have HR : Hid (r = b) := Lib.hid (by rw [HE.out]; simp [h])
    clear HE
    go_enter Try.func44, Try.ntmps44
    go_wp2_with fail
    (with_reducible refine hc.mono ?_)
    rintro _ w2 ⟨rfl, hb⟩
    cases b
    · go_wp2_with fail
      go_ret
      exact ⟨ret_bool HR.out.symm, hb⟩
    · go_wp2_with fail
      go_ret
      exact ⟨ret_bool HR.out.symm, hb⟩
  · have hz : ¬ (xs.length : Int) ≤ 12 := by omega
    have HR : Hid (r = false) := Lib.hid (by rw [HE.out]; simp [h])
    clear HE
    go_enter Try.func44, Try.ntmps44
    go_wp2_with fail
    go_ret
    exact ⟨ret_bool HR.out.symm, Below.refl _ _⟩
set_option maxRecDepth 1000000 in
set_option maxHeartbeats 4000000 in
theorem follows_any (x y : RV) (w : World) : Calls Try.prog 37 #[.agg x.enc.toArray, .agg y.enc.toArray] w fun e w' => e = .returned (.bool (ltOf cmpV x y)) ∧ Below w.heap.size w w' := by
  obtain ⟨x1, x2, xA, xn, xc, x3, x4, x5, x6, x7, x8⟩ := x
  obtain ⟨y1, y2, yA, yn, yc, y3, y4, y5, y6, y7, y8⟩ := y
  obtain ⟨r, hr⟩ : ∃ r, r = ltOf cmpV (⟨x1, x2, xA, xn, xc, x3, x4, x5, x6, x7, x8⟩ : RV) ⟨y1, y2, yA, yn, yc, y3, y4, y5, y6, y7, y8⟩ := ⟨_, rfl⟩
  rw [← hr]
  have HR : Hid (r = decide (x1 < y1 ∨ (x1 = y1 ∧ (x5 < y5 ∨ (x5 = y5 ∧ x3 < y3))))) := Lib.hid (by rw [hr, Bool.eq_iff_iff, ltOf_cmpV]; simp [lexV])
  clear hr
  show Calls Try.prog 37 #[.agg #[.int .i64 x1, .int .i64 x2, .slice xA xn xc, .int .i64 x3, .int .i64 x4, .int .i64 x5, .int .i64 x6, .int .i64 x7, .int .i64 x8], .agg #[.int .i64 y1, .int .i64 y2, .slice yA yn yc, .int .i64 y3, .int .i64 y4, .int .i64 y5, .int .i64 y6, .int .i64 y7, .int .i64 y8]] w _
  go_enter Try.func37, Try.ntmps37
  go_wp2_with fail
  all_goals
    go_ret
    refine ⟨ret_bool (by rw [HR.out]; first | (symm; rw [decide_eq_false_iff_not]; simp_all; omega) | (symm; rw [decide_eq_true_eq]; simp_all; omega) | (rw [Bool.eq_iff_iff]; simp_all) | (rw [Bool.eq_iff_iff]; simp_all; omega)), (Below.of_alloc _).alloc (by simp) _⟩
set_option maxRecDepth 1000000 in
set_option maxHeartbeats 4000000 in
theorem before_any (x y : RV) (w : World) : Calls Try.prog 20 #[.agg x.enc.toArray, .agg y.enc.toArray] w fun e w' => e = .returned (.bool (ltOf cmpV x y)) ∧ Below w.heap.size w w' := by
  obtain ⟨x1, x2, xA, xn, xc, x3, x4, x5, x6, x7, x8⟩ := x
  obtain ⟨y1, y2, yA, yn, yc, y3, y4, y5, y6, y7, y8⟩ := y
  obtain ⟨r, hr⟩ : ∃ r, r = ltOf cmpV (⟨x1, x2, xA, xn, xc, x3, x4, x5, x6, x7, x8⟩ : RV) ⟨y1, y2, yA, yn, yc, y3, y4, y5, y6, y7, y8⟩ := ⟨_, rfl⟩
  rw [← hr]
  have HR : Hid (r = decide (x1 < y1 ∨ (x1 = y1 ∧ (x5 < y5 ∨ (x5 = y5 ∧ x3 < y3))))) := Lib.hid (by rw [hr, Bool.eq_iff_iff, ltOf_cmpV]; simp [lexV])
  clear hr
  show Calls Try.prog 20 #[.agg #[.int .i64 x1, .int .i64 x2, .slice xA xn xc, .int .i64 x3, .int .i64 x4, .int .i64 x5, .int .i64 x6, .int .i64 x7, .int .i64 x8], .agg #[.int .i64 y1, .int .i64 y2, .slice yA yn yc, .int .i64 y3, .int .i64 y4, .int .i64 y5, .int .i64 y6, .int .i64 y7, .int .i64 y8]] w _
  go_enter Try.func20, Try.ntmps20
  go_wp2_with fail
  all_goals
    go_ret
    refine ⟨ret_bool (by rw [HR.out]; first | (symm; rw [decide_eq_false_iff_not]; simp_all; omega) | (symm; rw [decide_eq_true_eq]; simp_all; omega) | (rw [Bool.eq_iff_iff]; simp_all) | (rw [Bool.eq_iff_iff]; simp_all; omega)), (Below.of_alloc _).alloc (by simp) _⟩
set_option maxRecDepth 1000000 in
set_option maxHeartbeats 4000000 in
theorem validVersion_any (r : RV) (x : Ver) (w : World) (h : VerIs w (· < w.heap.size) r x) : Calls Try.prog 36 #[.agg r.enc.toArray] w fun e w' => e = .returned (.bool (validVer x)) ∧ Below w.heap.size w w' := by
  obtain ⟨x1, x2, xA, xn, xc, x3, x4, x5, x6, x7, x8⟩ := r
  obtain ⟨z1, z2, xs, z3, z4, z5, z6, z7, z8⟩ := x
  obtain ⟨h1, h2, h3, h4, h5, h6, h7, h8, hv, hok⟩ := h
  simp only at h1 h2 h3 h4 h5 h6 h7 h8 hv hok
  subst h1; subst h2; subst h3; subst h4; subst h5; subst h6; subst h7; subst h8
  show Calls Try.prog 36 #[.agg #[.int .i64 x1, .int .i64 x2, .slice xA xn xc, .int .i64 x3, .int .i64 x4, .int .i64 x5, .int .i64 x6, .int .i64 x7, .int .i64 x8]] w _
  obtain ⟨W, hW⟩ : ∃ W, W = (w.alloc (.cells #[.int .i64 x1, .int .i64 x2, .slice xA xn xc, .int .i64 x3, .int .i64 x4, .int .i64 x5, .int .i64 x6, .int .i64 x7, .int .i64 x8] 38)) := ⟨_, rfl⟩
  have hs : W.heap.size = w.heap.size + 1 := by subst hW; simp
  have hbW : Below w.heap.size w W := by subst hW; exact Below.of_alloc _
  have CX : Hid (∀ w', Below (w.heap.size + 1) W w' → ∀ j u, [.int .i64 x1, .int .i64 x2, .slice xA xn xc, .int .i64 x3, .int .i64 x4, .int .i64 x5, .int .i64 x6, .int .i64 x7, .int .i64 x8][j]? = some u → w'.cell? ⟨w.heap.size, j, none⟩ = some u) := Lib.hid (fun w' h j u hj => boxCell (cs := [.int .i64 x1, .int .i64 x2, .slice xA xn xc, .int .i64 x3, .int .i64 x4, .int .i64 x5, .int .i64 x6, .int .i64 x7, .int .i64 x8]) (e := 38) (W := W) (by subst hW; exact Below.refl _ _) (by omega) (by rw [hs]; exact h) j u hj)
  have HW := Lib.hid hW
  simp only [validVer, in50, in64, num50]
  have K0 := fun W => within_any x1 1 1125899906842624 W
  have K1 := fun W => within_any x7 1 1125899906842624 W
  have K2 := fun W => within_any x2 0 64 W
  have K3 := fun W (hb : Below w.heap.size w W) => validRow_any _ xs W (RdV.below hv hb) hok
  have K4 := fun W => periodValid_any x3 x4 W
  have K5 := fun W => periodValid_any x5 x6 W
  have K6 := fun W => within_any x8 0 1125899906842624 W
  obtain ⟨b0, hb0⟩ : ∃ b, b = decide (1 ≤ x1 ∧ x1 ≤ 1125899906842624) := ⟨_, rfl⟩
  simp only [← hb0] at K0 ⊢
  clear hb0
  obtain ⟨b1, hb1⟩ : ∃ b, b = decide (1 ≤ x7 ∧ x7 ≤ 1125899906842624) := ⟨_, rfl⟩
  simp only [← hb1] at K1 ⊢
  clear hb1
  obtain ⟨b2, hb2⟩ : ∃ b, b = decide (0 ≤ x2 ∧ x2 ≤ 64) := ⟨_, rfl⟩
  simp only [← hb2] at K2 ⊢
  clear hb2
  obtain ⟨b3, hb3⟩ : ∃ b, b = validRowF xs := ⟨_, rfl⟩
  simp only [← hb3] at K3 ⊢
  clear hb3
  obtain ⟨b4, hb4⟩ : ∃ b, b = validP x3 x4 := ⟨_, rfl⟩
  simp only [← hb4] at K4 ⊢
  clear hb4
  obtain ⟨b5, hb5⟩ : ∃ b, b = validP x5 x6 := ⟨_, rfl⟩
  simp only [← hb5] at K5 ⊢
  clear hb5
  obtain ⟨b6, hb6⟩ : ∃ b, b = decide (0 ≤ x8 ∧ x8 ≤ 1125899906842624) := ⟨_, rfl⟩
  simp only [← hb6] at K6 ⊢
  clear hb6
  clear hW
  have hB : Below (w.heap.size + 1) W W := Below.refl _ _
  go_enter Try.func36, Try.ntmps36
  go_wp2_with fail
  try rw [← HW.out]
  have q0 := CX.out W hB 0 _ rfl
  have q1 := CX.out W hB 1 _ rfl
  have q2 := CX.out W hB 2 _ rfl
  have q3 := CX.out W hB 3 _ rfl
  have q4 := CX.out W hB 4 _ rfl
  have q5 := CX.out W hB 5 _ rfl
  have q6 := CX.out W hB 6 _ rfl
  have q7 := CX.out W hB 7 _ rfl
  have q8 := CX.out W hB 8 _ rfl
  (with_reducible refine (K0 W).mono ?_)
  rintro _ w9 ⟨rfl, hw9⟩
  rw [hw9]
  clear hw9 w9
  cases b0
  case false =>
    go_wp2_with fail
    all_goals go_ret
    all_goals exact ⟨ret_bool (by first | (simp; done) | (simp; intros; omega)), hbW.trans (hB.mono (by omega))⟩
  case true =>
    go_wp2_with fail
    (with_reducible refine (K1 W).mono ?_)
    rintro _ w9 ⟨rfl, hw9⟩
    rw [hw9]
    clear hw9 w9
    cases b1
    case false =>
      go_wp2_with fail
      all_goals go_ret
      all_goals exact ⟨ret_bool (by first | (simp; done) | (simp; intros; omega)), hbW.trans (hB.mono (by omega))⟩
    case true =>
      go_wp2_with fail
      (with_reducible refine (K2 W).mono ?_)
      rintro _ w9 ⟨rfl, hw9⟩
      rw [hw9]
      clear hw9 w9
      cases b2
      case false =>
        go_wp2_with fail
        all_goals go_ret
        all_goals exact ⟨ret_bool (by first | (simp; done) | (simp; intros; omega)), hbW.trans (hB.mono (by omega))⟩
      case true =>
        go_wp2_with fail
        (with_reducible refine (K3 W (hbW.trans (hB.mono (by omega)))).mono ?_)
        rintro _ w3 ⟨rfl, hb3⟩
        have hB' : Below (w.heap.size + 1) W w3 := hB.trans (hb3.mono (by have := hB.size; omega))
        clear hB
        have hB := hB'
        clear hB'
        have q0 := CX.out w3 hB 0 _ rfl
        have q1 := CX.out w3 hB 1 _ rfl
        have q2 := CX.out w3 hB 2 _ rfl
        have q3 := CX.out w3 hB 3 _ rfl
        have q4 := CX.out w3 hB 4 _ rfl
        have q5 := CX.out w3 hB 5 _ rfl
        have q6 := CX.out w3 hB 6 _ rfl
        have q7 := CX.out w3 hB 7 _ rfl
        have q8 := CX.out w3 hB 8 _ rfl
        cases b3
        case false =>
          go_wp2_with fail
          all_goals go_ret
          all_goals exact ⟨ret_bool (by first | (simp; done) | (simp; intros; omega)), hbW.trans (hB.mono (by omega))⟩
        case true =>
          go_wp2_with fail
          (with_reducible refine (K4 _).mono ?_)
          rintro _ w4 ⟨rfl, ha4⟩
          have hB' : Below (w.heap.size + 1) W w4 := by rw [← ha4]; exact hB.alloc (by have := hB.size; omega) _
          clear hB
          have hB := hB'
          clear hB' ha4
          have q0 := CX.out w4 hB 0 _ rfl
          have q1 := CX.out w4 hB 1 _ rfl
          have q2 := CX.out w4 hB 2 _ rfl
          have q3 := CX.out w4 hB 3 _ rfl
          have q4 := CX.out w4 hB 4 _ rfl
          have q5 := CX.out w4 hB 5 _ rfl
          have q6 := CX.out w4 hB 6 _ rfl
          have q7 := CX.out w4 hB 7 _ rfl
          have q8 := CX.out w4 hB 8 _ rfl
          cases b4
          case false =>
            go_wp2_with fail
            all_goals go_ret
            all_goals exact ⟨ret_bool (by first | (simp; done) | (simp; intros; omega)), hbW.trans (hB.mono (by omega))⟩
          case true =>
            go_wp2_with fail
            (with_reducible refine (K5 _).mono ?_)
            rintro _ w5 ⟨rfl, ha5⟩
            have hB' : Below (w.heap.size + 1) W w5 := by rw [← ha5]; exact hB.alloc (by have := hB.size; omega) _
            clear hB
            have hB := hB'
            clear hB' ha5
            have q0 := CX.out w5 hB 0 _ rfl
            have q1 := CX.out w5 hB 1 _ rfl
            have q2 := CX.out w5 hB 2 _ rfl
            have q3 := CX.out w5 hB 3 _ rfl
            have q4 := CX.out w5 hB 4 _ rfl
            have q5 := CX.out w5 hB 5 _ rfl
            have q6 := CX.out w5 hB 6 _ rfl
            have q7 := CX.out w5 hB 7 _ rfl
            have q8 := CX.out w5 hB 8 _ rfl
            cases b5
            case false =>
              go_wp2_with fail
              all_goals go_ret
              all_goals exact ⟨ret_bool (by first | (simp; done) | (simp; intros; omega)), hbW.trans (hB.mono (by omega))⟩
            case true =>
              go_wp2_with fail
              (with_reducible refine (K6 w5).mono ?_)
              rintro _ w9 ⟨rfl, hw9⟩
              rw [hw9]
              clear hw9 w9
              cases b6
              case false =>
                go_wp2_with fail
                all_goals go_ret
                all_goals exact ⟨ret_bool (by first | (simp; done) | (simp; intros; omega)), hbW.trans (hB.mono (by omega))⟩
              case true =>
                go_wp2_with fail
                all_goals go_ret
                all_goals exact ⟨ret_bool (by first | (simp; done) | (simp; intros; omega)), hbW.trans (hB.mono (by omega))⟩
set_option maxRecDepth 1000000 in
set_option maxHeartbeats 4000000 in
theorem refVersion_any (r : RV) (x : Ver) (w : World) (h : VerIs w (· < w.heap.size) r x) : Calls Try.prog 19 #[.agg r.enc.toArray] w fun e w' => e = .returned (.bool (validVer x)) ∧ Below w.heap.size w w' := by
  obtain ⟨x1, x2, xA, xn, xc, x3, x4, x5, x6, x7, x8⟩ := r
  obtain ⟨z1, z2, xs, z3, z4, z5, z6, z7, z8⟩ := x
  obtain ⟨h1, h2, h3, h4, h5, h6, h7, h8, hv, hok⟩ := h
  simp only at h1 h2 h3 h4 h5 h6 h7 h8 hv hok
  subst h1; subst h2; subst h3; subst h4; subst h5; subst h6; subst h7; subst h8
  show Calls Try.prog 19 #[.agg #[.int .i64 x1, .int .i64 x2, .slice xA xn xc, .int .i64 x3, .int .i64 x4, .int .i64 x5, .int .i64 x6, .int .i64 x7, .int .i64 x8]] w _
  obtain ⟨W, hW⟩ : ∃ W, W = (w.alloc (.cells #[.int .i64 x1, .int .i64 x2, .slice xA xn xc, .int .i64 x3, .int .i64 x4, .int .i64 x5, .int .i64 x6, .int .i64 x7, .int .i64 x8] 38)) := ⟨_, rfl⟩
  have hs : W.heap.size = w.heap.size + 1 := by subst hW; simp
  have hbW : Below w.heap.size w W := by subst hW; exact Below.of_alloc _
  have CX : Hid (∀ w', Below (w.heap.size + 1) W w' → ∀ j u, [.int .i64 x1, .int .i64 x2, .slice xA xn xc, .int .i64 x3, .int .i64 x4, .int .i64 x5, .int .i64 x6, .int .i64 x7, .int .i64 x8][j]? = some u → w'.cell? ⟨w.heap.size, j, none⟩ = some u) := Lib.hid (fun w' h j u hj => boxCell (cs := [.int .i64 x1, .int .i64 x2, .slice xA xn xc, .int .i64 x3, .int .i64 x4, .int .i64 x5, .int .i64 x6, .int .i64 x7, .int .i64 x8]) (e := 38) (W := W) (by subst hW; exact Below.refl _ _) (by omega) (by rw [hs]; exact h) j u hj)
  have HW := Lib.hid hW
  simp only [validVer_ref]
  have hvr : ∀ W, Below w.heap.size w W → Calls Try.prog 27 #[.slice xA xn xc] W fun e w' => e = .returned (.bool (validRowF xs)) ∧ Below W.heap.size W w' := fun W hb => refValidRow_any _ xs W (RdV.below hv hb) hok
  have K1 := fun W => number_any x1 W
  have K3 := fun W => number_any x7 W
  have K4 := fun W => number_any x8 W
  have K7 := hvr
  have K8 := fun W => refPeriodValid_any x3 x4 W
  have K9 := fun W => refPeriodValid_any x5 x6 W
  obtain ⟨b1, hb1⟩ : ∃ b, b = num50 x1 := ⟨_, rfl⟩
  simp only [← hb1] at K1 ⊢
  clear hb1
  obtain ⟨b3, hb3⟩ : ∃ b, b = num50 x7 := ⟨_, rfl⟩
  simp only [← hb3] at K3 ⊢
  clear hb3
  obtain ⟨b4, hb4⟩ : ∃ b, b = num50 x8 := ⟨_, rfl⟩
  simp only [← hb4] at K4 ⊢
  clear hb4
  obtain ⟨b7, hb7⟩ : ∃ b, b = validRowF xs := ⟨_, rfl⟩
  simp only [← hb7] at K7 ⊢
  clear hb7
  obtain ⟨b8, hb8⟩ : ∃ b, b = validP x3 x4 := ⟨_, rfl⟩
  simp only [← hb8] at K8 ⊢
  clear hb8
  obtain ⟨b9, hb9⟩ : ∃ b, b = validP x5 x6 := ⟨_, rfl⟩
  simp only [← hb9] at K9 ⊢
  clear hb9
  clear hW
  by_cases g0 : 1 ≤ x1
  case neg =>
    have G0 := Lib.hid g0
    have hB : Below (w.heap.size + 1) W W := Below.refl _ _
    go_enter Try.func19, Try.ntmps19
    go_wp2_with fail
    try rw [← HW.out]
    all_goals go_ret
    all_goals exact ⟨ret_bool (by first | (simp; done) | (simp; intros; omega)), by first | exact hbW | (rw [← HW.out]; exact hbW)⟩
  case pos =>
    have G0 := Lib.hid g0
    have hB : Below (w.heap.size + 1) W W := Below.refl _ _
    go_enter Try.func19, Try.ntmps19
    go_wp2_with fail
    try rw [← HW.out]
    have q0 := CX.out W hB 0 _ rfl
    have q1 := CX.out W hB 1 _ rfl
    have q2 := CX.out W hB 2 _ rfl
    have q3 := CX.out W hB 3 _ rfl
    have q4 := CX.out W hB 4 _ rfl
    have q5 := CX.out W hB 5 _ rfl
    have q6 := CX.out W hB 6 _ rfl
    have q7 := CX.out W hB 7 _ rfl
    have q8 := CX.out W hB 8 _ rfl
    (with_reducible refine (K1 W).mono ?_)
    rintro _ w9 ⟨rfl, hw9⟩
    rw [hw9]
    clear hw9 w9
    cases b1
    case false =>
      go_wp2_with fail
      all_goals go_ret
      all_goals exact ⟨ret_bool (by first | (simp; done) | (simp; intros; omega)), hbW.trans (hB.mono (by omega))⟩
    case true =>
      by_cases g2 : 1 ≤ x7
      case neg =>
        have G2 := Lib.hid g2
        go_wp2_with fail
        all_goals go_ret
        all_goals exact ⟨ret_bool (by first | (simp; done) | (simp; intros; omega)), hbW.trans (hB.mono (by omega))⟩
      case pos =>
        have G2 := Lib.hid g2
        go_wp2_with fail
        (with_reducible refine (K3 W).mono ?_)
        rintro _ w9 ⟨rfl, hw9⟩
        rw [hw9]
        clear hw9 w9
        cases b3
        case false =>
          go_wp2_with fail
          all_goals go_ret
          all_goals exact ⟨ret_bool (by first | (simp; done) | (simp; intros; omega)), hbW.trans (hB.mono (by omega))⟩
        case true =>
          go_wp2_with fail
          (with_reducible refine (K4 W).mono ?_)
          rintro _ w9 ⟨rfl, hw9⟩
          rw [hw9]
          clear hw9 w9
          cases b4
          case false =>
            go_wp2_with fail
            all_goals go_ret
            all_goals exact ⟨ret_bool (by first | (simp; done) | (simp; intros; omega)), hbW.trans (hB.mono (by omega))⟩
          case true =>
            by_cases g5 : 0 ≤ x2
            case neg =>
              have G5 := Lib.hid g5
              go_wp2_with fail
              all_goals go_ret
              all_goals exact ⟨ret_bool (by first | (simp; done) | (simp; intros; omega)), hbW.trans (hB.mono (by omega))⟩
            case pos =>
              have G5 := Lib.hid g5
              by_cases g6 : x2 ≤ 64
              case neg =>
                have G6 := Lib.hid g6
                go_wp2_with fail
                all_goals go_ret
                all_goals exact ⟨ret_bool (by first | (simp; done) | (simp; intros; omega)), hbW.trans (hB.mono (by omega))⟩
              case pos =>
                have G6 := Lib.hid g6
                go_wp2_with fail
                (with_reducible refine (K7 W (hbW.trans (hB.mono (by omega)))).mono ?_)
                rintro _ w7 ⟨rfl, hb7⟩
                have hB' : Below (w.heap.size + 1) W w7 := hB.trans (hb7.mono (by have := hB.size; omega))
                clear hB
                have hB := hB'
                clear hB'
                have q0 := CX.out w7 hB 0 _ rfl
                have q1 := CX.out w7 hB 1 _ rfl
                have q2 := CX.out w7 hB 2 _ rfl
                have q3 := CX.out w7 hB 3 _ rfl
                have q4 := CX.out w7 hB 4 _ rfl
                have q5 := CX.out w7 hB 5 _ rfl
                have q6 := CX.out w7 hB 6 _ rfl
                have q7 := CX.out w7 hB 7 _ rfl
                have q8 := CX.out w7 hB 8 _ rfl
                cases b7
                case false =>
                  go_wp2_with fail
                  all_goals go_ret
                  all_goals exact ⟨ret_bool (by first | (simp; done) | (simp; intros; omega)), hbW.trans (hB.mono (by omega))⟩
                case true =>
                  go_wp2_with fail
                  (with_reducible refine (K8 _).mono ?_)
                  rintro _ w8 ⟨rfl, ha8⟩
                  have hB' : Below (w.heap.size + 1) W w8 := by rw [← ha8]; exact hB.alloc (by have := hB.size; omega) _
                  clear hB
                  have hB := hB'
                  clear hB' ha8
                  have q0 := CX.out w8 hB 0 _ rfl
                  have q1 := CX.out w8 hB 1 _ rfl
                  have q2 := CX.out w8 hB 2 _ rfl
                  have q3 := CX.out w8 hB 3 _ rfl
                  have q4 := CX.out w8 hB 4 _ rfl
                  have q5 := CX.out w8 hB 5 _ rfl
                  have q6 := CX.out w8 hB 6 _ rfl
                  have q7 := CX.out w8 hB 7 _ rfl
                  have q8 := CX.out w8 hB 8 _ rfl
                  cases b8
                  case false =>
                    go_wp2_with fail
                    all_goals go_ret
                    all_goals exact ⟨ret_bool (by first | (simp; done) | (simp; intros; omega)), hbW.trans (hB.mono (by omega))⟩
                  case true =>
                    go_wp2_with fail
                    (with_reducible refine (K9 _).mono ?_)
                    rintro _ w9 ⟨rfl, ha9⟩
                    have hB' : Below (w.heap.size + 1) W w9 := by rw [← ha9]; exact hB.alloc (by have := hB.size; omega) _
                    clear hB
                    have hB := hB'
                    clear hB' ha9
                    have q0 := CX.out w9 hB 0 _ rfl
                    have q1 := CX.out w9 hB 1 _ rfl
                    have q2 := CX.out w9 hB 2 _ rfl
                    have q3 := CX.out w9 hB 3 _ rfl
                    have q4 := CX.out w9 hB 4 _ rfl
                    have q5 := CX.out w9 hB 5 _ rfl
                    have q6 := CX.out w9 hB 6 _ rfl
                    have q7 := CX.out w9 hB 7 _ rfl
                    have q8 := CX.out w9 hB 8 _ rfl
                    cases b9
                    case false =>
                      go_wp2_with fail
                      all_goals go_ret
                      all_goals exact ⟨ret_bool (by first | (simp; done) | (simp; intros; omega)), hbW.trans (hB.mono (by omega))⟩
                    case true =>
                      go_wp2_with fail
                      all_goals go_ret
                      all_goals exact ⟨ret_bool (by first | (simp; done) | (simp; intros; omega)), hbW.trans (hB.mono (by omega))⟩
end Go.Proofs.Ytkhmjlahlcighaa
