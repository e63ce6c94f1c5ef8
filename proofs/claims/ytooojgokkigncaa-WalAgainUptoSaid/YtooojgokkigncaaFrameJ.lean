/-
  Frames: all of them, one after the other.
-/
import Derived.Test.YtooojgokkigncaaFrameI
import Derived.Test.YtooojgokkigncaaChg
namespace Go.Proofs.Ytooojgokkigncaa
open Go.RowKit Go.Lib Go.IntWalk

theorem infoL : (Try.prog.info? 23).map (fun i => (i.zero, i.size, i.bytes)) = some (some (.slice none 0 0), 1, 24) := by kernel_rfl

/-- what Scan reads: the bodies, and where it ends -/
def scanN (l : List UInt8) : Nat → Nat → List (List UInt8) → List (List UInt8) × Nat
  | 0, k, acc => (acc, k)
  | f + 1, k, acc => if (nextF l (k : Int)).2.2 = 0 then scanN l f (nextF l (k : Int)).2.1.toNat (acc ++ [(nextF l (k : Int)).1]) else (acc, k)
def scanF (l : List UInt8) : List (List UInt8) × Nat := scanN l (l.length + 1) 0 []

theorem nextF_ok {l : List UInt8} {k : Nat} (h : (nextF l (k : Int)).2.2 = 0) : ∃ j : Nat, (nextF l (k : Int)).2.1 = (j : Int) ∧ k + 8 ≤ j ∧ j ≤ l.length := by
  unfold nextF at h ⊢
  rw [Int.toNat_natCast] at h ⊢
  split at h
  · simp at h
  split at h
  · simp at h
  split at h
  · simp at h
  split at h
  · simp at h
  split at h
  · simp at h
  rename_i h1 h2 h3 h4 h5
  rw [if_neg h1, if_neg h2, if_neg h3, if_neg h4, if_neg h5]
  exact ⟨k + 8 + num4L l k, by simp, by omega, by omega⟩

theorem OwnB.base {w : World} {b b' : Nat} {v : Value} {l : List UInt8} (h : OwnB w b v l) (hb : b' ≤ b) : OwnB w b' v l := by
  refine ⟨h.1, h.2.imp id ?_⟩
  rintro ⟨g, cap, cur, e, h1, h2⟩
  exact ⟨g, cap, cur, e, Nat.le_trans hb h1, h2⟩
theorem OwnL.push {w w' : World} {base : Nat} {v v' u : Value} {ls : List (List UInt8)} {l : List UInt8} {vs : List Value} (hr : w.ownsRow base 23 1 v ls.length vs) (hv : ∀ (i : Nat) (u : Value) (l : List UInt8), vs[i]? = some u → ls[i]? = some l → OwnB w base u l)
    (hu : OwnB w base u l) (hg : w.grownBy w' v.ownBlock) (hr' : w'.ownsRow base 23 1 v' (ls.length + 1) (vs ++ [u])) : OwnL w' base v' (ls ++ [l]) := by
  have key : ∀ {x : Value} {m : List UInt8}, OwnB w base x m → OwnB w' base x m := by
    intro x m hx
    refine World.ownsRow.kept hx hg ?_
    rcases hx.2 with ⟨rfl, _⟩ | ⟨g1, cap, cur, rfl, _, hh, _⟩
    · exact .inl rfl
    · refine .inr fun hE => ?_
      rcases hr.2 with ⟨rfl, _⟩ | ⟨g2, cap2, cur2, rfl, _, hh2, _⟩
      · simp [Value.ownBlock] at hE
      · simp only [Value.ownBlock, Option.some.injEq] at hE
        subst hE
        rw [hh] at hh2
        simp at hh2
  have hlen : vs.length = ls.length := by have := hr.1; omega
  refine ⟨vs ++ [u], by rw [List.length_append]; exact hr', fun i x m hx hm => ?_⟩
  by_cases hi : i < vs.length
  · rw [List.getElem?_append_left hi] at hx
    rw [List.getElem?_append_left (by omega)] at hm
    exact key (hv i x m hx hm)
  · rw [List.getElem?_append_right (by omega)] at hx hm
    rw [hlen] at hx
    generalize i - ls.length = j at *
    match j with
    | 0 => simp at hx hm; subst hx; subst hm; exact key hu
    | j + 1 => simp at hx

/-- the slices, and where the reading ended -/
def ScanOut (r : List (List UInt8) × Nat) (w0 : World) (e : Ending) (w : World) : Prop := ∃ v, e = .returned (.tuple #[v, .int .i64 (r.2 : Int)]) ∧ OwnL w w0.heap.size v r.1 ∧ Below w0.heap.size w0 w
def ScanRel (l : List UInt8) (res : List (List UInt8) × Nat) (w0 : World) (out at_ : Value) (w : World) : Prop :=
  ∃ (acc : List (List UInt8)) (k f : Nat), at_ = .int .i64 (k : Int) ∧ acc.length ≤ k ∧ k ≤ l.length ∧ l.length < k + f ∧ scanN l f k acc = res ∧ OwnL w w0.heap.size out acc ∧ Below w0.heap.size w0 w

set_option maxRecDepth 100000 in
set_option maxHeartbeats 2000000 in
theorem scan_any (v : Value) (l : List UInt8) (w : World) (hv : RdB w (· < w.heap.size) v l) (hm : l.length ≤ 1099511627776) :
    Calls Try.prog 48 #[v] w (ScanOut (scanF l) w) := by
  obtain ⟨i0, hi, hz0, hz1, hz2⟩ := info_parts infoL
  generalize hres : scanF l = res
  have HR := Lib.hid hres
  clear hres
  go_enter Try.func48, Try.ntmps48
  go_wp2_with fail
  go_loopw [4, 5] (fun out k wr => ScanRel l res w out k wr) (fun _ k _ => l.length + 1 - (intOf k).toNat)
  case atStart => exact ⟨[], 0, l.length + 1, rfl, Nat.zero_le _, Nat.zero_le _, by omega, HR.out, OwnL.nil _ _, Below.refl _ _⟩
  case round =>
    clear HR
    obtain ⟨acc, k, f, rfl, hak, hkl, hf, hd, hO, hB⟩ := hrel
    obtain ⟨wo, rfl⟩ : ∃ wo : World, wo = wr := ⟨_, rfl⟩
    have hN := next_any v l (k : Int) wo (hv.below hB)
    obtain ⟨f', rfl⟩ : ∃ f', f = f' + 1 := ⟨f - 1, by omega⟩
    rw [scanN] at hd
    have hok := @nextF_ok l k
    generalize nextF l (k : Int) = r at *
    obtain ⟨body, nx, e⟩ := r
    simp only at hd hok
    have HN := Lib.hid hN
    have HK := Lib.hid hok
    have HD := Lib.hid hd
    clear hN hok hd
    have hsz := hB.size
    go_wp2_with fail
    (with_reducible refine HN.out.mono ?_)
    rintro _ w2 ⟨u, rfl, hU, hb2⟩
    have hs2 := hb2.size
    have hO2 : OwnL w2 w.heap.size u4 acc := hO.below hb2
    have hB2 : Below w.heap.size w w2 := hB.trans (hb2.mono hsz)
    have hU2 : OwnB w2 w.heap.size u body := OwnB.base hU hsz
    by_cases he : e = 0
    · subst he
      obtain ⟨j, rfl, hj1, hj2⟩ := HK.out rfl
      have hd := HD.out
      rw [if_pos rfl, Int.toNat_natCast] at hd
      have HD2 := Lib.hid hd
      clear hd HD HK
      obtain ⟨vs, hr, hvs⟩ := hO2
      obtain ⟨uA, uc, rfl, -, -, -⟩ := (OwnB.rd hU2).open_
      go_wp2_with (at_builtin; refine wpList_append_app _ rfl (.tmp 20) (.tmp 22) 22 rfl w.heap.size 23 i0 _ 1 24 Try.underlying22 hi hz0 hz1 hz2 rfl (by omega) u4 acc.length vs rfl (by exact .inl (World.ownsRow.alloc hr _)) (· = w2.heap.size) _ 1 [_] rfl (by exact Rd.new' _ w2.heap.size rfl [_] 23 1 1 rfl (by unfold maxLen; omega)) (one_one rfl) (by unfold maxLen; omega) (by omega) (by simp; omega) ?_; intro v3 w3 _ hO3 hg3 hb3 _)
      go_roundw
      case rel => exact ⟨acc ++ [body], j, f', rfl, by simp; omega, hj2, by omega, HD2.out, OwnL.push (World.ownsRow.alloc hr _) (fun i x m hx hm => OwnB.alloc (hvs i x m hx hm) _) (hU2.alloc _) hg3 (hO3 (.inl (by omega))), (hB2.alloc hB2.size _).trans hb3⟩
      case measure => simp [intOf]; omega
    · have b1 : (e != 0) = true := by rw [bne_iff_ne]; exact he
      have hres : (acc, k) = res := by have := HD.out; simpa [he] using this
      obtain rfl := hres
      clear HD HK
      have HE := Lib.hid he
      clear he
      go_wp2_with fail
      go_ret2
      exact ⟨_, rfl, hO2, hB2⟩
end Go.Proofs.Ytooojgokkigncaa
