/-
  Manifests: the two Writes as one contract each.
-/
import Derived.Test.YthjephhojngiaaaGreatDoorManZB
namespace Go.Proofs.YthjephhojngiaaaGreatDoor
open Go.RowKit Go.Lib Go.IntWalk

theorem flat_txE_len (l : List (List UInt8)) : (l.flatMap txE).length ≤ ssum l + 10 * l.length := by
  induction l with
  | nil => simp
  | cons x r ih =>
    have := txE_len x
    rw [List.flatMap_cons, List.length_append, List.length_cons]
    unfold ssum at *
    rw [List.map_cons, List.sum_cons]
    omega
theorem bodyM_le (m : Man) : (bodyM m).length ≤ 11 * mSize m + 60 := by
  have h1 := txE_len m.base
  have h2 := txE_len m.log
  have h3 := flat_txE_len m.segs
  have h4 := encI_length m.segs.length
  have h5 := encI_length m.tx
  have h6 := encI_length m.nx
  unfold bodyM mSize
  simp only [List.length_append]
  omega
theorem nms_le (m : Man) : ∀ s ∈ nmsF m, s.length ≤ mSize m := by
  intro s hs
  unfold nmsF at hs
  unfold mSize
  simp only [List.mem_append, List.mem_singleton] at hs
  rcases hs with (hs | hs) | hs
  · split at hs
    · cases hs
    · simp only [List.mem_singleton] at hs; subst hs; omega
  · have : s.length ≤ ssum m.segs := by
      revert hs
      unfold ssum
      induction m.segs with
      | nil => intro hs; cases hs
      | cons y r ih =>
        intro hs
        rw [List.map_cons, List.sum_cons]
        rcases List.mem_cons.1 hs with rfl | hs
        · omega
        · have := ih hs; omega
    omega
  · subst hs; omega
theorem frm_small {m : Man} (h : mSize m ≤ 3000) : (bodyM m).length ≤ 40000 ∧ (frm (bodyM m)).length ≤ 40000 ∧ m.segs.length ≤ 3000 ∧ ∀ s ∈ nmsF m, s.length ≤ 3000 := by
  have h1 := bodyM_le m
  have h2 := segs_le m
  have h3 := nms_le m
  rw [frm_length]
  exact ⟨by omega, by omega, by omega, fun s hs => by have := h3 s hs; omega⟩
theorem DiskAt.bel {B Z : Nat} {w w' : World} {D : Nat} {P : Option Nat} {fm : FM} {os : List DOp} (h : DiskAt B Z w D P fm os) (hB : B ≤ w.heap.size) (hc : Chg (fun b => b = D ∨ some b = P) w w') : Below B w w' := hc.below hB (fun _ hi => h.ge hi)
theorem DiskAt.dor {B Z : Nat} {w : World} {D : Nat} {P : Option Nat} {fm : FM} {os : List DOp} (h : DiskAt B Z w D P fm os) : ∀ b, DoR B w b → ¬ (b = D ∨ some b = P) := by
  rintro b (hb | ⟨cs, hb⟩) hd
  · have := h.ge hd; omega
  · exact h.not_log hb (by decide) (by decide) hd
theorem DiskAt.fr34 {B Z : Nat} {w : World} {D : Nat} {P : Option Nat} {fm : FM} {os : List DOp} (h : DiskAt B Z w D P fm os) : ∀ b, FR B w b → ¬ (b = D ∨ some b = P) := by
  rintro b (hb | ⟨cs, hb⟩) hd
  · have := h.ge hd; omega
  · exact h.not_log hb (by decide) (by decide) hd

def wfm (fm : FM) (m : Man) : FM := if chkF m = 0 then wrF fm (frm (bodyM m)) else fm
def wfl (fl : FL) (m : Man) : FL := if chkF m = 0 then viewL fl (wrOps (lookL fl draftN).isSome (frm (bodyM m))) else fl
theorem ok_wr (fm : FM) (ex : Bool) (b : List UInt8) : OkOps fm (wrOps ex b) := by
  cases ex with
  | false => refine ⟨by simp, by simp, by simp, fun _ => ?_, trivial⟩; simp [applyF, updG]
  | true => refine ⟨by simp, by simp, by simp, by simp, by simp, fun _ => ?_, trivial⟩; simp [applyF, updG]
theorem wf_is {fm : FM} {fl : FL} (h : IsL fm fl) (m : Man) : IsL (wfm fm m) (wfl fl m) := by
  unfold wfm wfl
  split
  · have h1 := h.view (ok_wr fm (lookL fl draftN).isSome (frm (bodyM m)))
    rw [h.2 draftN] at h1
    rw [h.2 draftN, ← view_wr]
    exact h1
  · exact h
theorem wfl_sz {Z : Nat} {fl : FL} (h : RSz Z fl []) {m : Man} (hm : mSize m ≤ 3000) : RSz (Z + 40020) (wfl fl m) [] := by
  unfold wfl
  have h1 := (wrOps_sz h (lookL fl draftN).isSome (frm (bodyM m))).view
  rw [viewL_append] at h1
  obtain ⟨q1, q2, q3, q4⟩ := frm_small hm
  split
  · exact h1.mono (by omega)
  · exact h.mono (by omega)
set_option maxHeartbeats 2000000 in
theorem mwrite2 (B Z D : Nat) (fm : FM) (F : Nat → Prop) (As : Option Addr) (cs : Nat) (m : Man) (w : World) (hB : B ≤ w.heap.size) (hD : DiskAt B Z w D none fm []) (hZ : Z ≤ 1000000000)
    (h : Rd w F 1 (.slice As m.segs.length cs) m.segs.length (sv m.segs)) (hF : ∀ b, F b → b < w.heap.size) (hm : mSize m ≤ 3000) :
    Calls Tryz.prog 7 #[.pointer (some ⟨D, 0, none⟩), manV As cs m] w fun e w' => e = .returned (.int .i64 (chkF m)) ∧ DiskAt B (Z + 40020) w' D none (wfm fm m) [] ∧ Chg (fun b => b = D ∨ some b = none) w w' := by
  obtain ⟨q1, q2, q3, q4⟩ := frm_small hm
  refine (mwrite_any B Z D none fm [] F As cs m w hB hD (by omega) h hF (by omega) (fun s hs => by have := q4 s hs; omega) (by omega)).mono ?_
  rintro e w' ⟨he, hbad, hok⟩
  refine ⟨he, ?_⟩
  unfold wfm
  split
  · rename_i hc
    obtain ⟨h1, h2⟩ := hok hc
    exact ⟨h1.mono (by omega), h2⟩
  · rename_i hc
    obtain ⟨h1, h2⟩ := hbad hc
    exact ⟨h1.mono (by omega), Chg.of_below h2 _⟩
set_option maxHeartbeats 2000000 in
theorem rmwrite2 (B Z : Nat) (lv ov : Value) (fl : FL) (F : Nat → Prop) (As : Option Addr) (cs : Nat) (m : Man) (w : World) (hB : B ≤ w.heap.size) (hv : FlsRd B w lv fl) (ho : DosRd B w ov []) (hz : RSz Z fl []) (hZ : Z ≤ 1000000000) (h : Rd w F 1 (.slice As m.segs.length cs) m.segs.length (sv m.segs)) (hF : ∀ b, F b → b < w.heap.size) (hm : mSize m ≤ 3000) :
    Calls Tryz.prog 14 #[.agg #[lv, ov], manV As cs m] w (RefOut2 B (wfl fl m) [] (chkF m) w) := by
  obtain ⟨q1, q2, q3, q4⟩ := frm_small hm
  unfold wfl
  split
  · rename_i hc
    rw [hc]
    exact rmwrite_ok B Z lv ov fl [] F As cs m w hB hv ho hz (by omega) h hF (by omega) (by omega) (by simp) hc
  · rename_i hc
    exact rmwrite_bad B lv ov fl [] F As cs m w hB hv ho h hF (by omega) (by omega) hc
theorem rsame_zero (w : World) : Calls Tryz.prog 6 #[.agg #[.string ⟨#[]⟩, .slice none 0 0, .string ⟨#[]⟩, .int .i64 0, .int .i64 0], .agg #[.string ⟨#[]⟩, .slice none 0 0, .string ⟨#[]⟩, .int .i64 0, .int .i64 0]] w fun e w' => e = .returned (.bool true) ∧ Below w.heap.size w w' := by
  have h := rsame_any (fun _ => False) (fun _ => False) none 0 .zero none 0 .zero w (Rd.nil _ _ _) (Rd.nil _ _ _) (fun b h => h.elim) (fun b h => h.elim)
  rw [show decide (Man.zero = Man.zero) = true from by simp] at h
  exact h
end Go.Proofs.YthjephhojngiaaaGreatDoor
