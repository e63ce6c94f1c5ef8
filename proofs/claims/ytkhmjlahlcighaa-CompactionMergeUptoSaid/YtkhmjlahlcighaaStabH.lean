/-
  The stable sort.
-/
import Derived.Test.YtkhmjlahlcighaaStabG
namespace Go.Proofs.Ytkhmjlahlcighaa
open Go.RowKit Go.Lib Go.IntWalk Go.Sort Go.Shelf

theorem wrapS (n : Int) (h1 : -9223372036854775808 ≤ n) (h2 : n < 9223372036854775808) : IntKind.i64.wrap n = n := by
  rw [IntKind.wrap_i64]; omega
theorem wrapB (b bs : Nat) (h : b + 2 * bs < 9223372036854775808) : IntKind.i64.wrap ((b : Int) + IntKind.i64.wrap (2 * (bs : Int))) = ((b + 2 * bs : Nat) : Int) := by
  rw [wrapS (2 * (bs : Int)) (by omega) (by omega), wrapS _ (by omega) (by omega)]; omega
theorem HiB.at0 {α : Type} [Inhabited α] {lt : α → α → Bool} {bs a n : Nat} {d : Array α} (h : HiB lt bs a n d) (h0 : a < n) : SortedIn lt a (min (a + bs) n) d := by
  have := h 0 (by omega)
  simpa using this
theorem HiB.at1 {α : Type} [Inhabited α] {lt : α → α → Bool} {bs a n : Nat} {d : Array α} (h : HiB lt bs a n d) (h0 : a + bs < n) : SortedIn lt (a + bs) (min (a + bs + bs) n) d := by
  have := h 1 (by omega)
  simpa using this
set_option maxRecDepth 1000000 in
set_option maxHeartbeats 8000000 in
theorem stable_any {α : Type} [Inhabited α] (enc : α → List Value) (k : Nat) (aE : ∀ w, (isAgg 38).run Try.prog w = .ok true w) (zE : ∀ w, (Go.sizeOf 38).run Try.prog w = .ok k w) (hk : ∀ x, (enc x).length = k) (h1 : ∀ x, ∀ v ∈ enc x, v.oneCell' = true) (cf : α → α → Int) (hcmp : CmpB enc cf) (S : SWO (ltOf cf))
    (blk off cap sz : Nat) (d : Array α) (hz : d.size = sz) (w : World) (hH : HoldsK enc k w blk off d) (hblk : blk < w.heap.size) (hsz : d.size < 1152921504606846976) :
    Calls Try.prog 23 #[.slice (some ⟨blk, off, none⟩) sz cap, .int .i64 sz, .func (.func 17) #[] #[]] w (SymOut (ltOf cf) enc k blk off 0 sz d w) := by
  have HH : Hid (HoldsK enc k w blk off d) := hH
  have HK : Hid (∀ x, (enc x).length = k) := hk
  have H1 : Hid (∀ x, ∀ v ∈ enc x, v.oneCell' = true) := h1
  have HC : Hid (CmpB enc cf) := hcmp
  have AE : Hid (∀ w, (isAgg 38).run Try.prog w = .ok true w) := aE
  have ZE : Hid (∀ w, (Go.sizeOf 38).run Try.prog w = .ok k w) := zE
  clear hH hk h1 hcmp aE zE
  go_enter Try.func23, Try.ntmps23
  go_wp2_with fail
  go_loopw [7, 8] (fun va vb wr => ∃ (t : Nat) (dk : Array α), va = .int .i64 ((t * 20 : Nat) : Int) ∧ vb = .int .i64 ((t * 20 + 20 : Nat) : Int) ∧ t * 20 ≤ sz ∧ dk.size = sz ∧ Hid (HoldsK enc k wr blk off dk) ∧ Hid (PermIn 0 sz d dk) ∧ Hid (LoB (ltOf cf) 20 (t * 20) dk) ∧ Chg (· = blk) w wr) (fun _ vb _ => sz + 20 - (RowKit.intOf vb).toNat)
  case atStart => exact ⟨0, d, rfl, rfl, by omega, hz, HH, Lib.hid (permIn_refl _ _ _), Lib.hid (by simpa using LoB.zero _ _ _), Chg.refl _ _⟩
  case round =>
    obtain ⟨t, dk, rfl, rfl, hts, hsk, HR, HP, HL, hC⟩ := hrel
    have hsr := hC.size
    obtain ⟨a, ha⟩ : ∃ a, a = t * 20 := ⟨_, rfl⟩
    have HA := Lib.hid ha
    obtain ⟨b, hb⟩ : ∃ b, b = t * 20 + 20 := ⟨_, rfl⟩
    have hab : b = a + 20 := by omega
    rw [← ha] at hts HL
    rw [← hb, ← ha]
    clear ha hb
    have HAB := Lib.hid hab
    by_cases hlt : b ≤ sz
    case pos =>
      have hlz : (b : Int) ≤ (sz : Int) := by omega
      have hi := insert_any enc k AE.out ZE.out HK.out H1.out cf HC.out blk off cap a b sz dk hsk wr HR.out (by omega) (by omega) (by omega) (by omega)
      have hba : b ≤ sz := hlt
      clear hab
      go_wp2_with fail
      (with_reducible refine hi.mono ?_)
      rintro _ w2 ⟨rfl, hH2, hC2⟩
      obtain ⟨p1, p2⟩ := insertionSort_holds (lt := ltOf cf) S dk a b (by have := HAB.out; omega) (by omega)
      generalize Sort.insertionSort (ltOf cf) dk a b = d2 at *
      have hs2 : d2.size = sz := by have := p1.1; omega
      have HL2 : Hid (LoB (ltOf cf) 20 ((t + 1) * 20) d2) := Lib.hid (LoB.step (b := b) (by rw [← HA.out]; exact HL.out) (by rw [← HA.out]; exact p1) (by rw [← HA.out]; exact HAB.out) (by rw [← HA.out]; exact p2))
      have HP2 : Hid (PermIn 0 sz d d2) := Lib.hid (permIn_trans _ _ _ _ _ HP.out (permIn_mono _ _ _ _ _ _ (by omega) hlt (by have := HAB.out; omega) p1))
      have e1 : ((t + 1) * 20 : Nat) = b := by have := HA.out; have := HAB.out; omega
      have E1 := Lib.hid e1
      clear p1 p2 e1
      go_wp2_with fail
      go_roundw
      case rel => exact ⟨t + 1, d2, by rw [E1.out], by rw [E1.out]; first | rfl | go_num, by rw [E1.out]; exact hlt, hs2, Lib.hid hH2, HP2, HL2, hC.trans hC2 (fun _ _ h => h)⟩
      case measure => have := HAB.out; simp [RowKit.intOf]; omega
    case neg =>
      have hlz : ¬ (b : Int) ≤ (sz : Int) := by omega
      clear hab
      have hi := insert_any enc k AE.out ZE.out HK.out H1.out cf HC.out blk off cap a sz sz dk hsk wr HR.out (by omega) (by omega) (by omega) (by omega)
      go_wp2_with fail
      (with_reducible refine hi.mono ?_)
      rintro _ w2 ⟨rfl, hH2, hC2⟩
      obtain ⟨p1, p2⟩ := insertionSort_holds (lt := ltOf cf) S dk a sz (by omega) (by omega)
      generalize Sort.insertionSort (ltOf cf) dk a sz = d2 at *
      have hs2 : d2.size = sz := by have := p1.1; omega
      have HI2 : Hid (HiB (ltOf cf) 20 0 sz d2) := Lib.hid (HiB.of (t := t) (by rw [← HA.out]; exact HL.out) (by rw [← HA.out]; exact p1) (by rw [← HA.out]; have := HAB.out; omega) (by rw [← HA.out]; exact p2))
      have HP2 : Hid (PermIn 0 sz d d2) := Lib.hid (permIn_trans _ _ _ _ _ HP.out (permIn_mono _ _ _ _ _ _ (by omega) (by omega) (by omega) p1))
      have hC0 : Chg (· = blk) w w2 := hC.trans hC2 (fun _ _ h => h)
      have HC0 := Lib.hid hC0
      have hsz2 := hC0.size
      clear p1 p2 HL HA hlz hi HR HP hC hC2 hC0
      go_wp2_with fail
      go_loopw [6] (fun vs wr2 => ∃ (bs : Nat) (dk2 : Array α), vs = .int .i64 (bs : Int) ∧ 0 < bs ∧ bs ≤ 2 * sz + 20 ∧ dk2.size = sz ∧ Hid (HoldsK enc k wr2 blk off dk2) ∧ Hid (PermIn 0 sz d dk2) ∧ Hid (HiB (ltOf cf) bs 0 sz dk2) ∧ Chg (· = blk) w wr2) (fun vs _ => sz + 1 - (RowKit.intOf vs).toNat)
      case atStart => exact ⟨20, d2, rfl, by omega, by omega, hs2, Lib.hid hH2, HP2, HI2, HC0.out⟩
      case round =>
        obtain ⟨bs, dk2, rfl, hb0, hb1, hsk2, HR, HP, HI, hC⟩ := hrel
        have hsr2 := hC.size
        by_cases hlt2 : bs < sz
        case pos =>
          go_wp2_with fail
          go_loopw [7, 8] (fun va vb wr3 => ∃ (t : Nat) (dk3 : Array α), va = .int .i64 ((t * (2 * bs) : Nat) : Int) ∧ vb = .int .i64 ((t * (2 * bs) + 2 * bs : Nat) : Int) ∧ t * (2 * bs) ≤ sz ∧ dk3.size = sz ∧ Hid (HoldsK enc k wr3 blk off dk3) ∧ Hid (PermIn 0 sz d dk3) ∧ Hid (LoB (ltOf cf) (2 * bs) (t * (2 * bs)) dk3) ∧ Hid (HiB (ltOf cf) bs (t * (2 * bs)) sz dk3) ∧ Chg (· = blk) w wr3) (fun _ vb _ => sz + 2 * bs - (RowKit.intOf vb).toNat)
          case atStart => exact ⟨0, dk2, by simp, by simp, by omega, hsk2, HR, HP, Lib.hid (by simpa using LoB.zero _ _ _), by simpa using HI, hC⟩
          case round =>
            obtain ⟨t, dk3, rfl, rfl, hts, hsk3, HR, HP, HL, HI, hC⟩ := hrel
            have hsr3 := hC.size
            obtain ⟨a, ha⟩ : ∃ a, a = t * (2 * bs) := ⟨_, rfl⟩
            have HA := Lib.hid ha
            obtain ⟨b, hb⟩ : ∃ b, b = a + 2 * bs := ⟨_, rfl⟩
            obtain ⟨m, hm⟩ : ∃ m, m = a + bs := ⟨_, rfl⟩
            rw [← ha] at hts HL HI ⊢
            rw [← hb]
            clear ha
            have HB := Lib.hid hb
            have HM := Lib.hid hm
            have hmz : (a : Int) + (bs : Int) = (m : Int) := by omega
            by_cases hlt3 : b ≤ sz
            case pos =>
              have hlz : (b : Int) ≤ (sz : Int) := by omega
              have s1 : SortedIn (ltOf cf) a m dk3 := SortedIn.sub (HI.out.at0 (by omega)) (Nat.le_refl _) (by omega)
              have s2 : SortedIn (ltOf cf) m b dk3 := SortedIn.sub (HI.out.at1 (by omega)) (by omega) (by omega)
              have hi := sym_any enc k AE.out ZE.out HK.out H1.out cf HC.out S blk off cap sz (by omega) (b - a + 1) a m b dk3 hsk3 wr HR.out (by omega) (by omega) (by omega) (by omega) s1 s2 (by omega)
              rw [← hmz] at hi
              have e1 : IntKind.i64.wrap ((b : Int) + IntKind.i64.wrap (2 * (bs : Int))) = ((b + 2 * bs : Nat) : Int) := wrapB b bs (by omega)
              have hb2 : b ≤ sz := hlt3
              clear s1 s2 hb hm hmz
              go_wp2_with fail
              (with_reducible refine hi.mono ?_)
              rintro _ w2 ⟨rfl, dk4, p1, p2, hH2, hC2⟩
              have hs4 : dk4.size = sz := by have := p1.1; omega
              have HL2 : Hid (LoB (ltOf cf) (2 * bs) ((t + 1) * (2 * bs)) dk4) := Lib.hid (LoB.step (b := b) (by rw [← HA.out]; exact HL.out) (by rw [← HA.out]; exact p1) (by rw [← HA.out]; exact HB.out) (by rw [← HA.out]; exact p2))
              have HP2 : Hid (PermIn 0 sz d dk4) := Lib.hid (permIn_trans _ _ _ _ _ HP.out (permIn_mono _ _ _ _ _ _ (by omega) (by omega) (by have := HB.out; omega) p1))
              have HI2 : Hid (HiB (ltOf cf) bs b sz dk4) := Lib.hid (HI.out.next HB.out p1)
              have e2 : ((t + 1) * (2 * bs) : Nat) = b := by rw [Nat.succ_mul, ← HA.out]; exact HB.out.symm
              have E2 := Lib.hid e2
              clear p1 p2 e2 hi
              go_wp2_with fail
              go_roundw
              case rel => exact ⟨t + 1, dk4, by rw [E2.out], by rw [E2.out]; first | rfl | go_num, by rw [E2.out]; exact hb2, hs4, Lib.hid hH2, HP2, HL2, by rw [E2.out]; exact HI2, hC.trans hC2 (fun _ _ h => h)⟩
              case measure => have := HB.out; simp [RowKit.intOf]; omega
            case neg =>
              have hlz : ¬ (b : Int) ≤ (sz : Int) := by omega
              by_cases hms : m < sz
              case pos =>
                have hlm : (a : Int) + (bs : Int) < (sz : Int) := by omega
                have s1 : SortedIn (ltOf cf) a m dk3 := SortedIn.sub (HI.out.at0 (by omega)) (Nat.le_refl _) (by omega)
                have s2 : SortedIn (ltOf cf) m sz dk3 := SortedIn.sub (HI.out.at1 (by omega)) (by omega) (by omega)
                have hi := sym_any enc k AE.out ZE.out HK.out H1.out cf HC.out S blk off cap sz (by omega) (sz - a + 1) a m sz dk3 hsk3 wr HR.out (by omega) (by omega) (by omega) (by omega) s1 s2 (by omega)
                rw [← hmz] at hi
                have hsb : sz < a + 2 * bs := by omega
                clear s1 s2 hb hm hmz
                go_wp2_with fail
                (with_reducible refine hi.mono ?_)
                rintro _ w2 ⟨rfl, dk4, p1, p2, hH2, hC2⟩
                have hs4 : dk4.size = sz := by have := p1.1; omega
                have HI4 : Hid (HiB (ltOf cf) (2 * bs) 0 sz dk4) := Lib.hid (HiB.of (t := t) (by rw [← HA.out]; exact HL.out) (by rw [← HA.out]; exact p1) (by rw [← HA.out]; exact hsb) (by rw [← HA.out]; exact p2))
                have HP2 : Hid (PermIn 0 sz d dk4) := Lib.hid (permIn_trans _ _ _ _ _ HP.out (permIn_mono _ _ _ _ _ _ (by omega) (by omega) (by omega) p1))
                have hCC := hC.trans hC2 (fun _ _ h => h)
                clear p1 p2 hi hC hC2 HR HP HL HI HA HB HM
                go_wp2_with fail
                go_roundw
                case rel => exact ⟨2 * bs, dk4, by first | rfl | go_num, by omega, by omega, hs4, Lib.hid hH2, HP2, HI4, hCC⟩
                case measure => simp [RowKit.intOf]; omega
              case neg =>
                have hlm : ¬ (a : Int) + (bs : Int) < (sz : Int) := by omega
                have s1 : SortedIn (ltOf cf) a sz dk3 := by
                  by_cases h0 : a < sz
                  · exact SortedIn.sub (HI.out.at0 h0) (Nat.le_refl _) (by omega)
                  · intro i j g1 g2 g3; omega
                have hsb : sz < a + 2 * bs := by omega
                have HI4 : Hid (HiB (ltOf cf) (2 * bs) 0 sz dk3) := Lib.hid (HiB.of (t := t) (by rw [← HA.out]; exact HL.out) (permIn_refl _ _ _) (by rw [← HA.out]; exact hsb) (by rw [← HA.out]; exact s1))
                clear s1 hb hm hmz HL HI HA HB HM
                go_wp2_with fail
                go_roundw
                case rel => exact ⟨2 * bs, dk3, by first | rfl | go_num, by omega, by omega, hsk3, HR, HP, HI4, hC⟩
                case measure => simp [RowKit.intOf]; omega
        case neg =>
          go_wp2_with fail
          go_end0
          refine ⟨rfl, dk2, HP.out, ?_, HR.out, hC⟩
          by_cases h0 : 0 < sz
          · have := HI.out 0 (by omega)
            exact SortedIn.sub this (by omega) (by omega)
          · intro i j g1 g2 g3; omega

set_option maxRecDepth 1000000 in
set_option maxHeartbeats 8000000 in
theorem sort_any {α : Type} [Inhabited α] (enc : α → List Value) (k : Nat) (aE : ∀ w, (isAgg 38).run Try.prog w = .ok true w) (zE : ∀ w, (Go.sizeOf 38).run Try.prog w = .ok k w) (hk : ∀ x, (enc x).length = k) (h1 : ∀ x, ∀ v ∈ enc x, v.oneCell' = true) (cf : α → α → Int) (hcmp : CmpB enc cf) (S : SWO (ltOf cf))
    (blk off cap sz : Nat) (d : Array α) (hz : d.size = sz) (w : World) (hH : HoldsK enc k w blk off d) (hblk : blk < w.heap.size) (hsz : d.size < 1152921504606846976) :
    Calls Try.prog 16 #[.slice (some ⟨blk, off, none⟩) sz cap, .func (.func 17) #[] #[]] w (SymOut (ltOf cf) enc k blk off 0 sz d w) := by
  have hc := stable_any enc k aE zE hk h1 cf hcmp S blk off cap sz d hz w hH hblk hsz
  clear hH hk h1 hcmp aE zE S
  go_enter Try.func16, Try.ntmps16
  go_wp2_with fail
  (with_reducible refine hc.mono ?_)
  rintro _ w2 ⟨rfl, h2⟩
  go_wp2_with fail
  go_end0
  exact ⟨rfl, h2⟩
end Go.Proofs.Ytkhmjlahlcighaa
