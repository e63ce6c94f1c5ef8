/-
  The reference's keys; comparisons.
-/
import Derived.Test.YthfclmkeadpcbaaKeysPure
import Derived.Test.YthfclmkeadpcbaaCodecR
import Derived.RegionTactic
namespace Go.Proofs.Ythfclmkeadpcbaa
open Go.RowKit Go.Lib

theorem compare_any (va vb : Value) (la lb : List UInt8) (F G : Nat → Prop) (w : World) (ha : RdB w F va la) (hb : RdB w G vb lb) :
    Calls Try.prog 20 #[va, vb] w fun e w' => e = .returned (.int .i64 (cmpB la lb)) ∧ w = w' := by
  have h1 := run_bytes_str ha
  have h2 := run_bytes_str hb
  by_cases hlt : Op.bytesLess la lb = true
  · have hlt' : Op.bytesLess (strB la).toList (strB lb).toList = true := by rw [strB_toList, strB_toList]; exact hlt
    rw [cmpB_lt hlt]
    clear hlt
    go_enter Try.func20, Try.ntmps20
    go_wp2
    go_ret
    exact ⟨rfl, rfl⟩
  · have hlt' : Op.bytesLess (strB la).toList (strB lb).toList = false := by rw [strB_toList, strB_toList]; simpa using hlt
    by_cases he : la = lb
    · subst he
      have hc : cmpB la la = 0 := by unfold cmpB; rw [if_neg hlt, if_pos rfl]
      rw [hc]
      clear hlt hc
      go_enter Try.func20, Try.ntmps20
      go_wp2
      go_ret
      exact ⟨rfl, rfl⟩
    · have hc : cmpB la lb = 1 := by unfold cmpB; rw [if_neg hlt, if_neg he]
      rw [hc]
      have he' : ((strB la).toList == (strB lb).toList) = false := by rw [strB_toList, strB_toList]; simpa using he
      clear hlt hc he
      go_enter Try.func20, Try.ntmps20
      go_wp2
      go_ret
      exact ⟨rfl, rfl⟩
theorem bool_byte {n : Int} (h : n = 0 ∨ n = 1) : n.tmod 2 % 256 = ((UInt8.ofNat (n % 256).toNat).toNat : Int) := by
  rcases h with rfl | rfl <;> decide
theorem be_lit (U d : Nat) : ((U : Int) / (d : Int) % 256) = ((UInt8.ofNat (U / d % 256)).toNat : Int) := by
  rw [← byte_of (by omega)]
  simp
theorem be_one (U : Nat) : ((U : Int) % 256) = ((UInt8.ofNat (U / 1 % 256)).toNat : Int) := by
  rw [← byte_of (by omega)]
  simp
theorem be8_snoc' (U : Nat) {j d : Nat} (hj : j < 8) (hd : 2 ^ (56 - 8 * j) = d) : (be8 U).take (j + 1) = (be8 U).take j ++ [UInt8.ofNat (U / d % 256)] := by
  rw [be8_snoc U hj, hd]
def BeRef (base : Nat) (w0 : World) (l : List UInt8) (U : Nat) (b un : Value) (w : World) : Prop :=
  ∃ j : Nat, ((j = 0 ∧ un = .int .u64 72057594037927936) ∨ (j = 1 ∧ un = .int .u64 281474976710656) ∨ (j = 2 ∧ un = .int .u64 1099511627776) ∨ (j = 3 ∧ un = .int .u64 4294967296) ∨ (j = 4 ∧ un = .int .u64 16777216) ∨ (j = 5 ∧ un = .int .u64 65536) ∨ (j = 6 ∧ un = .int .u64 256) ∨ (j = 7 ∧ un = .int .u64 1) ∨ (j = 8 ∧ un = .int .u64 0)) ∧ OwnB w base b (l ++ (be8 U).take j) ∧ Below base w0 w

set_option maxRecDepth 100000 in
set_option maxHeartbeats 800000 in
theorem refKey_any (v : Value) (xs : List Val) (w : World) (hv : RdV w (· < w.heap.size) v xs) (hok : ∀ x ∈ xs, okV x) (hbo : ∀ x ∈ xs, x.kind = 3 → x.int = 0 ∨ x.int = 1) (hl : (keyR xs).length ≤ 140737488354000) :
    Calls Try.prog 19 #[v] w (NewB w (keyR xs)) := by
  obtain ⟨i0, hi, hz0, hz1, hz2⟩ := info_parts infoB
  obtain ⟨A, c, rfl, hc1, hc2, hc3⟩ := hv.open_
  unfold maxLen at hc2
  have HO := Lib.hid hok
  have HBO := Lib.hid hbo
  clear hok hbo
  go_enter Try.func19, Try.ntmps19
  go_wp2
  go_loopw [3, 10] (fun b i wr => KeyRel w xs b i wr) (fun _ i _ => xs.length - (intOf i).toNat)
  case atStart => exact ⟨0, Nat.zero_le _, rfl, World.ownsRow_nil w _ _ _, Below.refl _ _⟩
  case round =>
    obtain ⟨k, hk, rfl, hO, hB⟩ := hrel
    obtain ⟨wo, rfl⟩ : ∃ wo : World, wo = wr := ⟨_, rfl⟩
    by_cases hlt : k < xs.length
    · obtain ⟨bb, off, rfl, hF, g0, g1, g2⟩ := RdV.at_ (Rd.below hv hB) hlt
      have hx := HO.out xs[k] (List.getElem_mem hlt)
      have hbo := HBO.out xs[k] (List.getElem_mem hlt)
      have hkey : (keyR (xs.take k)).length + (keyV xs[k]).length ≤ 140737488354000 := by have := key_le xs (k + 1); rw [key_snoc hlt, List.length_append] at this; omega
      have hend : ∀ v' w', OwnB w' w.heap.size v' (keyR (xs.take k) ++ keyV xs[k]) → Below w.heap.size w w' → KeyRel w xs v' (.int .i64 ((k : Int) + 1)) w' := fun v' w' h1 h2 => ⟨k + 1, by omega, by go_num, by rw [key_snoc hlt]; exact h1, h2⟩
      generalize xs[k] = x at *
      obtain ⟨kd, n, s⟩ := x
      simp only at g0 g1 g2
      have hne := own_ne_new hO
      have hsz := hB.size
      have HE := Lib.hid hend
      clear hend
      generalize keyR (xs.take k) = l at *
      by_cases k2 : kd = 2
      · subst k2
        have hl2 : (keyV ⟨2, n, s⟩).length = s.size + 2 := by simp [keyV]
        have hl3 : l.length + s.size + 2 ≤ 140737488354000 := by omega
        clear hl2 hkey
        go_wp2_with (first
          | (at_builtin; refine wpList_append_b rfl (.tmp 42) (.tmp 43) rfl w.heap.size u3 l rfl (by exact (hO.alloc _).alloc _) _ _ [3] rfl (by exact rdB_new _ (wo.heap.size + 1) (by simp) [3] 1 rfl (by omega)) (by simp; omega) (by simp; omega) ?_; intro v1 w1 hO1 hb1 hg1 ha1; have hq1 := keepBox hg1 hne (by simp; omega); have hs1 := hb1.size; rw [World.size_alloc, World.size_alloc] at hs1; obtain ⟨x, W1, hcv, hx2, hbw⟩ := conv_sb w1 s (by omega); have hsw := hbw.size; have hO1' : OwnB W1 w.heap.size v1 (l ++ [3]) := hO1.kept (row := none) ⟨hbw.os, hbw.tape, hbw.output, hbw.size, fun k hk _ => hbw.block k hk⟩ (by cases v1.ownBlock <;> simp))
          | (at_builtin; refine wpList_append_b rfl (.tmp 45) (.tmp 48) rfl w.heap.size v1 (l ++ [3]) rfl hO1' _ x s.data.toList rfl hx2 (by rw [str_len]; simp; omega) (by omega) ?_; intro v2 w2 hO2 hb2 hg2 ha2; have hs2 := hb2.size)
          | (at_builtin; refine wpList_append_b rfl (.tmp 50) (.tmp 51) rfl w.heap.size v2 (l ++ [3] ++ s.data.toList) rfl (by exact hO2.alloc _) _ _ [0] rfl (by exact rdB_new _ w2.heap.size rfl [0] 1 rfl (by omega)) (by rw [List.length_append, str_len]; simp; omega) (by simp; omega) ?_; intro v3 w3 hO3 hb3 hg3 ha3))
        go_roundw
        case rel => exact HE.out v3 w3 (by have h : l ++ [3] ++ s.data.toList ++ [0] = l ++ keyV ⟨2, n, s⟩ := (by simp [keyV]); rw [← h]; exact hO3) (hB.trans (((((Below.refl _ _).alloc hsz _).alloc (by simp; omega) _).trans hb1).trans ((hbw.mono (by omega)).trans (hb2.trans (((Below.refl _ _).alloc (by omega) _).trans hb3)))))
        case measure => simp [intOf]; omega
      · by_cases k1 : kd = 1
        · subst k1
          have hl2 : (keyV ⟨1, n, s⟩).length = 9 := by simp [keyV, be8]
          have hl3 : l.length + 9 ≤ 140737488354000 := by omega
          obtain ⟨n1, n2, _⟩ := hx
          clear hl2 hkey k2
          go_wp2_with (at_builtin; refine wpList_append_b rfl (.tmp 21) (.tmp 22) rfl w.heap.size u3 l rfl (by exact (hO.alloc _).alloc _) _ _ [2] rfl (by exact rdB_new _ (wo.heap.size + 1) (by simp) [2] 1 rfl (by omega)) (by simp; omega) (by simp; omega) ?_; intro v1 w1 hO1 hb1 hg1 ha1; have hq1 := keepBox hg1 hne (by simp; omega); have hs1 := hb1.size; rw [World.size_alloc, World.size_alloc] at hs1)
          rw [key_word n1 n2]
          have hU : (n + 9223372036854775808).toNat < 18446744073709551616 := by omega
          have hkv : keyV ⟨1, n, s⟩ = [2] ++ be8 (n + 9223372036854775808).toNat := by simp [keyV]
          rw [hkv] at HE
          clear hkv
          generalize (n + 9223372036854775808).toNat = U at *
          go_loopw [3, 7] (fun b un wi => BeRef w.heap.size w1 (l ++ [2]) U b un wi) (fun _ un _ => (intOf un).toNat)
          case atStart => exact ⟨0, .inl ⟨rfl, rfl⟩, by simpa using hO1, Below.refl _ _⟩
          case round =>
            obtain ⟨j, hj, hOj, hBj⟩ := hrel
            have hlj := be8_take U j
            have hsj := hBj.size
            rcases hj with ⟨rfl, rfl⟩ | ⟨rfl, rfl⟩ | ⟨rfl, rfl⟩ | ⟨rfl, rfl⟩ | ⟨rfl, rfl⟩ | ⟨rfl, rfl⟩ | ⟨rfl, rfl⟩ | ⟨rfl, rfl⟩ | ⟨rfl, rfl⟩
            · go_wp2_with (at_builtin; refine wpList_append_b rfl (.tmp 32) (.tmp 38) rfl w.heap.size u3 _ rfl (by exact hOj.alloc _) _ _ [UInt8.ofNat (U / 72057594037927936 % 256)] rfl (by exact rdB_byte _ wr.heap.size rfl _ _ (be_lit U 72057594037927936)) (by simp; omega) (by simp; omega) ?_; intro v2 w2 hO2 hb2 hg2 ha2)
              go_roundw
              case rel => exact ⟨1, .inr (.inl ⟨rfl, rfl⟩), by rw [be8_snoc' U (j := 0) (d := 72057594037927936) (by omega) rfl, ← List.append_assoc]; exact hO2, hBj.trans (((Below.refl _ _).alloc (by omega) _).trans hb2)⟩
              case measure => simp [intOf]
            · go_wp2_with (at_builtin; refine wpList_append_b rfl (.tmp 32) (.tmp 38) rfl w.heap.size u3 _ rfl (by exact hOj.alloc _) _ _ [UInt8.ofNat (U / 281474976710656 % 256)] rfl (by exact rdB_byte _ wr.heap.size rfl _ _ (be_lit U 281474976710656)) (by simp; omega) (by simp; omega) ?_; intro v2 w2 hO2 hb2 hg2 ha2)
              go_roundw
              case rel => exact ⟨2, .inr (.inr (.inl ⟨rfl, rfl⟩)), by rw [be8_snoc' U (j := 1) (d := 281474976710656) (by omega) rfl, ← List.append_assoc]; exact hO2, hBj.trans (((Below.refl _ _).alloc (by omega) _).trans hb2)⟩
              case measure => simp [intOf]
            · go_wp2_with (at_builtin; refine wpList_append_b rfl (.tmp 32) (.tmp 38) rfl w.heap.size u3 _ rfl (by exact hOj.alloc _) _ _ [UInt8.ofNat (U / 1099511627776 % 256)] rfl (by exact rdB_byte _ wr.heap.size rfl _ _ (be_lit U 1099511627776)) (by simp; omega) (by simp; omega) ?_; intro v2 w2 hO2 hb2 hg2 ha2)
              go_roundw
              case rel => exact ⟨3, .inr (.inr (.inr (.inl ⟨rfl, rfl⟩))), by rw [be8_snoc' U (j := 2) (d := 1099511627776) (by omega) rfl, ← List.append_assoc]; exact hO2, hBj.trans (((Below.refl _ _).alloc (by omega) _).trans hb2)⟩
              case measure => simp [intOf]
            · go_wp2_with (at_builtin; refine wpList_append_b rfl (.tmp 32) (.tmp 38) rfl w.heap.size u3 _ rfl (by exact hOj.alloc _) _ _ [UInt8.ofNat (U / 4294967296 % 256)] rfl (by exact rdB_byte _ wr.heap.size rfl _ _ (be_lit U 4294967296)) (by simp; omega) (by simp; omega) ?_; intro v2 w2 hO2 hb2 hg2 ha2)
              go_roundw
              case rel => exact ⟨4, .inr (.inr (.inr (.inr (.inl ⟨rfl, rfl⟩)))), by rw [be8_snoc' U (j := 3) (d := 4294967296) (by omega) rfl, ← List.append_assoc]; exact hO2, hBj.trans (((Below.refl _ _).alloc (by omega) _).trans hb2)⟩
              case measure => simp [intOf]
            · go_wp2_with (at_builtin; refine wpList_append_b rfl (.tmp 32) (.tmp 38) rfl w.heap.size u3 _ rfl (by exact hOj.alloc _) _ _ [UInt8.ofNat (U / 16777216 % 256)] rfl (by exact rdB_byte _ wr.heap.size rfl _ _ (be_lit U 16777216)) (by simp; omega) (by simp; omega) ?_; intro v2 w2 hO2 hb2 hg2 ha2)
              go_roundw
              case rel => exact ⟨5, .inr (.inr (.inr (.inr (.inr (.inl ⟨rfl, rfl⟩))))), by rw [be8_snoc' U (j := 4) (d := 16777216) (by omega) rfl, ← List.append_assoc]; exact hO2, hBj.trans (((Below.refl _ _).alloc (by omega) _).trans hb2)⟩
              case measure => simp [intOf]
            · go_wp2_with (at_builtin; refine wpList_append_b rfl (.tmp 32) (.tmp 38) rfl w.heap.size u3 _ rfl (by exact hOj.alloc _) _ _ [UInt8.ofNat (U / 65536 % 256)] rfl (by exact rdB_byte _ wr.heap.size rfl _ _ (be_lit U 65536)) (by simp; omega) (by simp; omega) ?_; intro v2 w2 hO2 hb2 hg2 ha2)
              go_roundw
              case rel => exact ⟨6, .inr (.inr (.inr (.inr (.inr (.inr (.inl ⟨rfl, rfl⟩)))))), by rw [be8_snoc' U (j := 5) (d := 65536) (by omega) rfl, ← List.append_assoc]; exact hO2, hBj.trans (((Below.refl _ _).alloc (by omega) _).trans hb2)⟩
              case measure => simp [intOf]
            · go_wp2_with (at_builtin; refine wpList_append_b rfl (.tmp 32) (.tmp 38) rfl w.heap.size u3 _ rfl (by exact hOj.alloc _) _ _ [UInt8.ofNat (U / 256 % 256)] rfl (by exact rdB_byte _ wr.heap.size rfl _ _ (be_lit U 256)) (by simp; omega) (by simp; omega) ?_; intro v2 w2 hO2 hb2 hg2 ha2)
              go_roundw
              case rel => exact ⟨7, .inr (.inr (.inr (.inr (.inr (.inr (.inr (.inl ⟨rfl, rfl⟩))))))), by rw [be8_snoc' U (j := 6) (d := 256) (by omega) rfl, ← List.append_assoc]; exact hO2, hBj.trans (((Below.refl _ _).alloc (by omega) _).trans hb2)⟩
              case measure => simp [intOf]
            · go_wp2_with (at_builtin; refine wpList_append_b rfl (.tmp 32) (.tmp 38) rfl w.heap.size u3 _ rfl (by exact hOj.alloc _) _ _ [UInt8.ofNat (U / 1 % 256)] rfl (by exact rdB_byte _ wr.heap.size rfl _ _ (be_one U)) (by simp; omega) (by simp; omega) ?_; intro v2 w2 hO2 hb2 hg2 ha2)
              go_roundw
              case rel => exact ⟨8, .inr (.inr (.inr (.inr (.inr (.inr (.inr (.inr (⟨rfl, rfl⟩)))))))), by rw [be8_snoc' U (j := 7) (d := 1) (by omega) rfl, ← List.append_assoc]; exact hO2, hBj.trans (((Below.refl _ _).alloc (by omega) _).trans hb2)⟩
              case measure => simp [intOf]
            · go_wp2
              go_roundw
              case rel => exact HE.out u3 _ (by rw [be8_all, List.append_assoc] at hOj; exact hOj) (hB.trans (((((Below.refl _ _).alloc hsz _).alloc (by simp; omega) _).trans hb1).trans hBj))
              case measure => simp [intOf]; omega
        · by_cases k3 : kd = 3
          · subst k3
            have hl2 : (keyV ⟨3, n, s⟩).length = 2 := by simp [keyV]
            have hl3 : l.length + 2 ≤ 140737488354000 := by omega
            have hn := hbo rfl
            clear hl2 hkey k1 k2 hbo
            go_wp2_with (at_builtin; refine wpList_append_b rfl (.tmp 55) (.tmp 60) rfl w.heap.size u3 l rfl (by exact (hO.alloc _).alloc _) _ _ [4, UInt8.ofNat (n % 256).toNat] rfl (by exact rdB_two _ (wo.heap.size + 1) (by simp) _ _ _ _ rfl (bool_byte hn)) (by simp; omega) (by simp; omega) ?_; intro v1 w1 hO1 hb1 hg1 ha1)
            go_roundw
            case rel => exact HE.out v1 w1 (by have h : keyV ⟨3, n, s⟩ = [4, UInt8.ofNat (n % 256).toNat] := (by simp [keyV]); rw [h]; exact hO1) (hB.trans ((((Below.refl _ _).alloc hsz _).alloc (by simp; omega) _).trans hb1))
            case measure => simp [intOf]; omega
          · have hl2 : (keyV ⟨kd, n, s⟩).length = 1 := by simp [keyV, k1, k2, k3]
            have hkv : keyV ⟨kd, n, s⟩ = [1] := by simp [keyV, k1, k2, k3]
            have hl3 : l.length + 1 ≤ 140737488354000 := by omega
            rw [hkv] at HE
            have b1 : (kd == 1) = false := by simpa using k1
            have b2 : (kd == 2) = false := by simpa using k2
            have b3 : (kd == 3) = false := by simpa using k3
            clear hl2 hkey k1 k2 k3 hkv
            go_wp2_with (at_builtin; refine wpList_append_b rfl (.tmp 16) (.tmp 17) rfl w.heap.size u3 l rfl (by exact (hO.alloc _).alloc _) _ _ [1] rfl (by exact rdB_new _ (wo.heap.size + 1) (by simp) [1] 1 rfl (by omega)) (by simp; omega) (by simp; omega) ?_; intro v1 w1 hO1 hb1 hg1 ha1)
            go_roundw
            case rel => exact HE.out v1 w1 hO1 (hB.trans ((((Below.refl _ _).alloc hsz _).alloc (by simp; omega) _).trans hb1))
            case measure => simp [intOf]; omega
    · go_wp2
      go_ret
      have hke : k = xs.length := by omega
      subst hke
      rw [List.take_length] at hO
      exact ⟨_, rfl, hO, hB⟩
end Go.Proofs.Ythfclmkeadpcbaa
