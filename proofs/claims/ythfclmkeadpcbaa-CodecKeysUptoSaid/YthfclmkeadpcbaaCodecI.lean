/-
  Keys.
-/
import Derived.Test.YthfclmkeadpcbaaCodecH
namespace Go.Proofs.Ythfclmkeadpcbaa
open Go.RowKit Go.Lib

/-- the cells of a row of values -/
def cv (xs : List Val) : List Value := xs.flatMap Val.cells
theorem cv_length (xs : List Val) : (cv xs).length = xs.length * 3 := by
  induction xs with
  | nil => rfl
  | cons x xs ih => simp only [cv, List.flatMap_cons, List.length_append, List.length_cons] at *; rw [ih]; simp [Val.cells]; omega
theorem cv_get {xs : List Val} {k j : Nat} (hk : k < xs.length) (hj : j < 3) : (cv xs)[k * 3 + j]? = (xs[k].cells)[j]? := by
  induction xs generalizing k with
  | nil => simp at hk
  | cons x xs ih =>
    rw [cv, List.flatMap_cons]
    have hl : x.cells.length = 3 := rfl
    cases k with
    | zero => rw [List.getElem?_append_left (by omega)]; simp
    | succ k =>
      rw [List.getElem?_append_right (by omega), hl, show (k + 1) * 3 + j - 3 = k * 3 + j by omega]
      exact ih (by simpa using hk)
theorem cv_append (a b : List Val) : cv (a ++ b) = cv a ++ cv b := by simp [cv]
theorem cv_one (xs : List Val) : ∀ u ∈ cv xs, u.oneCell' = true := by
  intro u hu
  simp only [cv, List.mem_flatMap, Val.cells] at hu
  obtain ⟨x, _, h⟩ := hu
  simp at h
  rcases h with rfl | rfl | rfl <;> rfl
def RdV (w : World) (F : Nat → Prop) (v : Value) (xs : List Val) : Prop := Rd w F 3 v xs.length (cv xs)
/-- every value is of Go's types -/
def okV (x : Val) : Prop := -9223372036854775808 ≤ x.int ∧ x.int ≤ 9223372036854775807 ∧ x.text.size ≤ 1048576
/-- element k of a row -/
theorem RdV.at_ {w : World} {F : Nat → Prop} {A : Option Addr} {c : Nat} {xs : List Val} (h : RdV w F (.slice A xs.length c) xs) {k : Nat} (hk : k < xs.length) :
    ∃ b off, A = some ⟨b, off, none⟩ ∧ F b ∧ w.cell? ⟨b, off + k * 3, none⟩ = some (.int .i64 xs[k].kind) ∧ w.cell? ⟨b, off + k * 3 + 1, none⟩ = some (.int .i64 xs[k].int) ∧ w.cell? ⟨b, off + k * 3 + 2, none⟩ = some (.string xs[k].text) := by
  obtain ⟨b, off, rfl, hF, hc⟩ := Rd.plain h (by omega) (by omega)
  exact ⟨b, off, rfl, hF, hc (k * 3) _ (by have := cv_get hk (j := 0) (by omega); simpa [Val.cells] using this), hc (k * 3 + 1) _ (by rw [cv_get hk (by omega)]; rfl), hc (k * 3 + 2) _ (by rw [cv_get hk (by omega)]; rfl)⟩

def be8 (u : Nat) : List UInt8 := [56, 48, 40, 32, 24, 16, 8, 0].map fun s => UInt8.ofNat (u / 2 ^ s % 256)
def keyV (x : Val) : List UInt8 :=
  if x.kind = 1 then 2 :: be8 (x.int + 9223372036854775808).toNat
  else if x.kind = 2 then 3 :: (x.text.data.toList ++ [0])
  else if x.kind = 3 then [4, UInt8.ofNat (x.int % 256).toNat]
  else [1]
def keyR (xs : List Val) : List UInt8 := xs.flatMap keyV

theorem key_snoc {xs : List Val} {k : Nat} (hk : k < xs.length) : keyR (xs.take (k + 1)) = keyR (xs.take k) ++ keyV xs[k] := by
  unfold keyR
  rw [List.take_succ_eq_append_getElem hk, List.flatMap_append, List.flatMap_singleton]
theorem key_le (xs : List Val) (k : Nat) : (keyR (xs.take k)).length ≤ (keyR xs).length := by
  have h : keyR xs = keyR (xs.take k) ++ keyR (xs.drop k) := by unfold keyR; rw [← List.flatMap_append, List.take_append_drop]
  rw [h, List.length_append]
  omega

def KeyRel (w0 : World) (xs : List Val) (b i : Value) (w : World) : Prop :=
  ∃ k : Nat, k ≤ xs.length ∧ i = .int .i64 k ∧ OwnB w w0.heap.size b (keyR (xs.take k)) ∧ Below w0.heap.size w0 w

def BeRel (base : Nat) (w0 : World) (l : List UInt8) (U : Nat) (b sh : Value) (w : World) : Prop :=
  ∃ j : Nat, j ≤ 8 ∧ sh = .int .i64 (56 - 8 * (j : Int)) ∧ OwnB w base b (l ++ (be8 U).take j) ∧ Below base w0 w
theorem key_word {n : Int} (h1 : -9223372036854775808 ≤ n) (h2 : n ≤ 9223372036854775807) : IntKind.u64.wrap (IntKind.u64.wrap n + 9223372036854775808) = ((n + 9223372036854775808).toNat : Int) := by
  rw [wrap_u64, wrap_u64]; omega
theorem be8_take (U j : Nat) : ((be8 U).take j).length ≤ 8 := by rw [List.length_take]; simp [be8]; omega

theorem be8_snoc (U : Nat) {j : Nat} (hj : j < 8) : (be8 U).take (j + 1) = (be8 U).take j ++ [UInt8.ofNat (U / 2 ^ (56 - 8 * j) % 256)] := by
  have h : j = 0 ∨ j = 1 ∨ j = 2 ∨ j = 3 ∨ j = 4 ∨ j = 5 ∨ j = 6 ∨ j = 7 := by omega
  rcases h with rfl | rfl | rfl | rfl | rfl | rfl | rfl | rfl <;> rfl
theorem rdB_byte (w : World) (H : Nat) (hH : w.heap.size = H) (x : UInt8) (y : Int) (hy : y = (x.toNat : Int)) : RdB (w.alloc (.cells #[.int .u8 y] 5)) (· = H) (.slice (some ⟨H, 0, none⟩) 1 1) [x] := by
  subst hy
  exact rdB_new w H hH [x] 1 rfl (by omega)
theorem be_byte (U e : Nat) : ((U : Int) / 2 ^ e % 256) = ((UInt8.ofNat (U / 2 ^ e % 256)).toNat : Int) := by
  rw [← byte_of (by omega)]
  simp
theorem rdB_two (w : World) (H : Nat) (hH : w.heap.size = H) (x x' : UInt8) (y y' : Int) (hy : y = (x.toNat : Int)) (hy' : y' = (x'.toNat : Int)) : RdB (w.alloc (.cells #[.int .u8 y, .int .u8 y'] 5)) (· = H) (.slice (some ⟨H, 0, none⟩) 2 2) [x, x'] := by
  subst hy
  subst hy'
  exact rdB_new w H hH [x, x'] 2 rfl (by omega)
theorem mod_byte (n : Int) : n % 256 = ((UInt8.ofNat (n % 256).toNat).toNat : Int) := by
  rw [← byte_of (by omega)]
  omega
theorem be8_all (U : Nat) : (be8 U).take 8 = be8 U := rfl

set_option maxRecDepth 100000 in
set_option maxHeartbeats 800000 in
theorem key_any (v : Value) (xs : List Val) (w : World) (hv : RdV w (· < w.heap.size) v xs) (hok : ∀ x ∈ xs, okV x) (hl : (keyR xs).length ≤ 140737488354000) :
    Calls Try.prog 18 #[v] w (NewB w (keyR xs)) := by
  obtain ⟨i0, hi, hz0, hz1, hz2⟩ := info_parts infoB
  obtain ⟨A, c, rfl, hc1, hc2, hc3⟩ := hv.open_
  unfold maxLen at hc2
  have HO := Lib.hid hok
  clear hok
  go_enter Try.func18, Try.ntmps18
  go_wp2
  go_loopw [3, 10] (fun b i wr => KeyRel w xs b i wr) (fun _ i _ => xs.length - (intOf i).toNat)
  case atStart => exact ⟨0, Nat.zero_le _, rfl, World.ownsRow_nil w _ _ _, Below.refl _ _⟩
  case round =>
    obtain ⟨k, hk, rfl, hO, hB⟩ := hrel
    obtain ⟨wo, rfl⟩ : ∃ wo : World, wo = wr := ⟨_, rfl⟩
    by_cases hlt : k < xs.length
    · obtain ⟨bb, off, rfl, hF, g0, g1, g2⟩ := RdV.at_ (Rd.below hv hB) hlt
      have hx := HO.out xs[k] (List.getElem_mem hlt)
      have hkey : (keyR (xs.take k)).length + (keyV xs[k]).length ≤ 140737488354000 := by have := key_le xs (k + 1); rw [key_snoc hlt, List.length_append] at this; omega
      have hend : ∀ v' w', OwnB w' w.heap.size v' (keyR (xs.take k) ++ keyV xs[k]) → Below w.heap.size w w' → KeyRel w xs v' (.int .i64 ((k : Int) + 1)) w' := fun v' w' h1 h2 => ⟨k + 1, by omega, by go_num, by rw [key_snoc hlt]; exact h1, h2⟩
      generalize xs[k] = x at *
      obtain ⟨kd, n, s⟩ := x
      simp only at g0 g1 g2
      have hne := own_ne_new hO
      have hsz := hB.size
      have HE := Lib.hid hend
      clear hend
      generalize keyR (xs.take k) = l at *
      by_cases k2 : kd = 2
      · subst k2
        have hl2 : (keyV ⟨2, n, s⟩).length = s.size + 2 := by simp [keyV]
        have hl3 : l.length + s.size + 2 ≤ 140737488354000 := by omega
        clear hl2 hkey
        go_wp2_with (first
          | (at_builtin; refine wpList_append_b rfl (.tmp 41) (.tmp 42) rfl w.heap.size u3 l rfl (by exact (hO.alloc _).alloc _) _ _ [3] rfl (by exact rdB_new _ (wo.heap.size + 1) (by simp) [3] 1 rfl (by omega)) (by simp; omega) (by simp; omega) ?_; intro v1 w1 hO1 hb1 hg1 ha1; have hq1 := keepBox hg1 hne (by simp; omega); have hs1 := hb1.size; rw [World.size_alloc, World.size_alloc] at hs1)
          | (at_builtin; refine wpList_append_bs rfl (.tmp 44) (.tmp 46) rfl w.heap.size v1 (l ++ [3]) rfl hO1 s rfl (by simp; omega) (by omega) ?_; intro v2 w2 hO2 hb2 hg2; have hs2 := hb2.size)
          | (at_builtin; refine wpList_append_b rfl (.tmp 48) (.tmp 49) rfl w.heap.size v2 (l ++ [3] ++ s.data.toList) rfl (by exact hO2.alloc _) _ _ [0] rfl (by exact rdB_new _ w2.heap.size rfl [0] 1 rfl (by omega)) (by rw [List.length_append, str_len]; simp; omega) (by simp; omega) ?_; intro v3 w3 hO3 hb3 hg3 ha3))
        go_roundw
        case rel => exact HE.out v3 w3 (by have h : l ++ [3] ++ s.data.toList ++ [0] = l ++ keyV ⟨2, n, s⟩ := (by simp [keyV]); rw [← h]; exact hO3) (hB.trans (((((Below.refl _ _).alloc hsz _).alloc (by simp; omega) _).trans hb1).trans (hb2.trans (((Below.refl _ _).alloc (by omega) _).trans hb3))))
        case measure => simp [intOf]; omega
      · by_cases k1 : kd = 1
        · subst k1
          have hl2 : (keyV ⟨1, n, s⟩).length = 9 := by simp [keyV, be8]
          have hl3 : l.length + 9 ≤ 140737488354000 := by omega
          obtain ⟨n1, n2, _⟩ := hx
          clear hl2 hkey k2
          go_wp2_with (at_builtin; refine wpList_append_b rfl (.tmp 25) (.tmp 26) rfl w.heap.size u3 l rfl (by exact (hO.alloc _).alloc _) _ _ [2] rfl (by exact rdB_new _ (wo.heap.size + 1) (by simp) [2] 1 rfl (by omega)) (by simp; omega) (by simp; omega) ?_; intro v1 w1 hO1 hb1 hg1 ha1; have hs1 := hb1.size; rw [World.size_alloc, World.size_alloc] at hs1)
          rw [key_word n1 n2]
          have hU : (n + 9223372036854775808).toNat < 18446744073709551616 := by omega
          have hkv : keyV ⟨1, n, s⟩ = [2] ++ be8 (n + 9223372036854775808).toNat := by simp [keyV]
          rw [hkv] at HE
          clear hkv
          generalize (n + 9223372036854775808).toNat = U at *
          go_loopw [3, 7] (fun b sh wi => BeRel w.heap.size w1 (l ++ [2]) U b sh wi) (fun _ sh _ => (intOf sh + 8).toNat)
          case atStart => exact ⟨0, by omega, rfl, by simpa using hO1, Below.refl _ _⟩
          case round =>
            obtain ⟨j, hj, rfl, hOj, hBj⟩ := hrel
            by_cases hj8 : j < 8
            · have hsh : (0 : Int) ≤ 56 - 8 * (j : Int) := by omega
              have hlj := be8_take U j
              have hsj := hBj.size
              go_wp2_with (at_builtin; refine wpList_append_b rfl (.tmp 32) (.tmp 37) rfl w.heap.size u3 _ rfl (by exact hOj.alloc _) _ _ [UInt8.ofNat (U / 2 ^ (56 - 8 * j) % 256)] rfl (by exact rdB_byte _ wr.heap.size rfl _ _ (be_byte U _)) (by simp; omega) (by simp; omega) ?_; intro v2 w2 hO2 hb2 hg2 ha2)
              go_roundw
              case rel => exact ⟨j + 1, by omega, by go_num, by rw [be8_snoc U hj8, ← List.append_assoc]; exact hO2, hBj.trans (((Below.refl _ _).alloc (by omega) _).trans hb2)⟩
              case measure => simp [intOf]; omega
            · have hsh : (56 : Int) - 8 * (j : Int) < 0 := by omega
              go_wp2
              go_roundw
              case rel => exact HE.out u3 _ (by obtain rfl : j = 8 := (by omega); rw [be8_all, List.append_assoc] at hOj; exact hOj) (hB.trans (((((Below.refl _ _).alloc hsz _).alloc (by simp; omega) _).trans hb1).trans hBj))
              case measure => simp [intOf]; omega
        · by_cases k3 : kd = 3
          · subst k3
            have hl2 : (keyV ⟨3, n, s⟩).length = 2 := by simp [keyV]
            have hl3 : l.length + 2 ≤ 140737488354000 := by omega
            clear hl2 hkey k1 k2
            go_wp2_with (at_builtin; refine wpList_append_b rfl (.tmp 53) (.tmp 57) rfl w.heap.size u3 l rfl (by exact (hO.alloc _).alloc _) _ _ [4, UInt8.ofNat (n % 256).toNat] rfl (by exact rdB_two _ (wo.heap.size + 1) (by simp) _ _ _ _ rfl (mod_byte n)) (by simp; omega) (by simp; omega) ?_; intro v1 w1 hO1 hb1 hg1 ha1)
            go_roundw
            case rel => exact HE.out v1 w1 (by have h : keyV ⟨3, n, s⟩ = [4, UInt8.ofNat (n % 256).toNat] := (by simp [keyV]); rw [h]; exact hO1) (hB.trans ((((Below.refl _ _).alloc hsz _).alloc (by simp; omega) _).trans hb1))
            case measure => simp [intOf]; omega
          · have hl2 : (keyV ⟨kd, n, s⟩).length = 1 := by simp [keyV, k1, k2, k3]
            have hkv : keyV ⟨kd, n, s⟩ = [1] := by simp [keyV, k1, k2, k3]
            have hl3 : l.length + 1 ≤ 140737488354000 := by omega
            rw [hkv] at HE
            have b1 : (kd == 1) = false := by simpa using k1
            have b2 : (kd == 2) = false := by simpa using k2
            have b3 : (kd == 3) = false := by simpa using k3
            clear hl2 hkey k1 k2 k3 hkv
            go_wp2_with (at_builtin; refine wpList_append_b rfl (.tmp 16) (.tmp 17) rfl w.heap.size u3 l rfl (by exact (hO.alloc _).alloc _) _ _ [1] rfl (by exact rdB_new _ (wo.heap.size + 1) (by simp) [1] 1 rfl (by omega)) (by simp; omega) (by simp; omega) ?_; intro v1 w1 hO1 hb1 hg1 ha1)
            go_roundw
            case rel => exact HE.out v1 w1 hO1 (hB.trans ((((Below.refl _ _).alloc hsz _).alloc (by simp; omega) _).trans hb1))
            case measure => simp [intOf]; omega
    · go_wp2
      go_ret
      have hke : k = xs.length := by omega
      subst hke
      rw [List.take_length] at hO
      exact ⟨_, rfl, hO, hB⟩
end Go.Proofs.Ythfclmkeadpcbaa
