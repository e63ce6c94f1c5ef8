/-
  Slices of bytes: what they read as, conversions to and from strings. Plain lemmas.
-/
import Derived.Test.YtooojgokkigncaaChecked
import Derived.Test.YtooojgokkigncaaMem
import Derived.Test.YtooojgokkigncaaCodecPure
import Derived.Laws.BytesArg
import Derived.Lib.ConvBytes
import Derived.WalkLawsBesides
namespace Go.Proofs.Ytooojgokkigncaa
open Go.RowKit Go.Lib

theorem infoB : (Try.prog.info? 5).map (fun i => (i.zero, i.size, i.bytes)) = some (some (.int .u8 0), 1, 1) := by kernel_rfl

/-- a slice of bytes that reads l -/
def RdB (w : World) (F : Nat → Prop) (v : Value) (l : List UInt8) : Prop := Rd w F 1 v l.length (bv l)
def OwnB (w : World) (base : Nat) (v : Value) (l : List UInt8) : Prop := w.ownsRow base 5 1 v l.length (bv l)
def AppB (w : World) (base : Nat) (v : Value) (l : List UInt8) : Prop := App w base 5 1 v l.length (bv l)
/-- the result is a row of the call's own that reads l -/
def MadeB (base : Nat) (v0 : Value) (w0 : World) (l : List UInt8) (e : Ending) (w : World) : Prop :=
  ∃ v, e = .returned v ∧ OwnB w base v l ∧ Grew base v0 w0 v w
/-- the result is new and reads l; all that was there is as it was -/
def NewB (w0 : World) (l : List UInt8) (e : Ending) (w : World) : Prop := ∃ v, e = .returned v ∧ OwnB w w0.heap.size v l ∧ Below w0.heap.size w0 w

theorem OwnB.app {w : World} {base : Nat} {v : Value} {l : List UInt8} (h : OwnB w base v l) : AppB w base v l := .inl h
theorem OwnB.rd {w : World} {base : Nat} {v : Value} {l : List UInt8} (h : OwnB w base v l) : RdB w (· < w.heap.size) v l := (Rd.of_own h).wide fun _ hb => hb.2
theorem RdB.view {w : World} {B : Nat} {v : Value} {l : List UInt8} (h : RdB w (· < B) v l) : ∃ A c, v = .slice A l.length c ∧ l.length ≤ c ∧ c ≤ maxLen ∧ AppB w B (.slice A l.length l.length) l := by
  obtain ⟨h1, A, c, hv, h2, h3, h4, h5⟩ := h
  exact ⟨A, c, hv, h2, h3, .inr ⟨⟨h1, A, l.length, rfl, Nat.le_refl _, by omega, fun h => by have := h4 h; omega, h5⟩, A, rfl⟩⟩
theorem RdB.below {w w' : World} {v : Value} {l : List UInt8} (h : RdB w (· < w.heap.size) v l) (hb : Below w.heap.size w w') : RdB w' (· < w'.heap.size) v l := Rd.below' h hb
theorem RdB.nil (w : World) (F : Nat → Prop) : RdB w F (.slice none 0 0) [] := Rd.nil w F 1
theorem RdB.new (w : World) (l : List UInt8) (hl : l.length ≤ maxLen) : RdB (w.alloc (.cells (bv l).toArray 5)) (· < (w.alloc (.cells (bv l).toArray 5)).heap.size) (.slice (some ⟨w.heap.size, 0, none⟩) l.length l.length) l :=
  (Rd.new w (bv l) 5 1 l.length (by rw [bv_length, Nat.mul_one]) hl).wide fun b hb => by simp; omega
theorem Below.of_alloc {w : World} (o : Obj) : Below w.heap.size w (w.alloc o) := (Below.refl _ _).alloc (Nat.le_refl _) o

/-- behind a new block: the blocks of the call's own begin above it -/
theorem AppB.box {w : World} {v : Value} {l : List UInt8} (h : AppB w w.heap.size v l) (o : Obj) (hv : ∃ A, v = .slice A l.length l.length := by exact ⟨_, rfl⟩) : AppB (w.alloc o) (w.heap.size + 1) v l := by
  have h1 := (App.rd h (Nat.le_refl _)).alloc (Nat.le_refl _) o
  exact .inr ⟨h1.wide fun _ hb => by omega, hv⟩

/-- the string with these bytes -/
def strB (l : List UInt8) : ByteArray := ⟨l.toArray⟩
theorem strB_size (l : List UInt8) : (strB l).size = l.length := by simp [strB, ByteArray.size]
theorem strB_list (s : ByteArray) : strB s.data.toList = s := by simp [strB]
theorem strB_inj {a b : List UInt8} : strB a = strB b ↔ a = b := by
  constructor
  · intro h
    have := congrArg (fun s : ByteArray => s.data.toList) h
    simpa [strB] using this
  · intro h; rw [h]

theorem run_bytes_str {w : World} {F : Nat → Prop} {v : Value} {l : List UInt8} (h : RdB w F v l) : (convert 23 9 v).run Try.prog w = .ok (.string (strB l)) w := by
  obtain ⟨h1, A, c, rfl, h2, h3, h4, h5⟩ := h
  rw [run_convert_bytes_string w _ _ 5 _ _ _ Try.underlying23 Try.underlying5 Try.underlying9]
  cases A with
  | none =>
    have hl : l = [] := List.eq_nil_of_length_eq_zero (by have := h4 rfl; omega)
    subst hl
    simp [Conv.bytesToString, strB]
    rfl
  | some ad =>
    have hl : (loadCells ad l.length).run Try.prog w = .ok ((l.map fun b => (b.toNat : Int)).map (Value.int .u8)).toArray w := by
      have := run_loadCells_list (P := Try.prog) w ad (bv l) (fun j u hj => by
        have hn : 0 < l.length := by
          have : j < (bv l).length := by
            rcases Nat.lt_or_ge j (bv l).length with h | h
            · exact h
            · rw [List.getElem?_eq_none h] at hj; cases hj
          rw [bv_length] at this
          omega
        obtain ⟨ad', e, _, hc⟩ := h5 hn
        injection e with e
        subst e
        exact hc j u hj)
      rw [bv_length] at this
      rw [this]
      simp [bv]
    rw [run_bytesToString w ad _ c _ hl, foldl_push_bytes]
    have e : (l.map fun b => (b.toNat : Int)).map (fun n => UInt8.ofNat n.toNat) = l := by
      rw [List.map_map]
      conv => rhs; rw [← List.map_id l]
      exact List.map_congr_left fun b _ => by simp
    rw [e]
    simp [strB, ByteArray.empty, ByteArray.emptyWithCapacity]
    rfl

/-- a string's bytes: the new slice reads them -/
theorem rd_bytesWorld (w : World) (s : ByteArray) (hs : s.size ≤ 140737488355328) : RdB (bytesWorld w 5 s) (· < (bytesWorld w 5 s).heap.size) (.slice (some ⟨w.heap.size, 0, none⟩) s.size (grownCap w s.size 0 5)) s.data.toList := by
  have e : s.data.toList.length = s.size := by rw [Array.length_toList]; rfl
  refine ⟨by rw [bv_length, Nat.mul_one], _, _, by rw [e], by rw [e]; exact grownCap_ge _ _ _ _, grownCap_le_maxLen _ _ _ _ (by simp only [maxLen]; omega), fun h => (Option.some_ne_none _ h).elim, fun _ => ⟨_, rfl, by rw [bytesWorld_size]; exact Nat.lt_succ_self _, fun j u hj => ?_⟩⟩
  have hadd : (⟨w.heap.size, 0, none⟩ : Addr).add j = ⟨w.heap.size, j, none⟩ := by unfold Addr.add; split <;> simp_all
  have hjl : j < s.data.toList.length := by
    rcases Nat.lt_or_ge j (bv s.data.toList).length with h | h
    · rwa [bv_length] at h
    · rw [List.getElem?_eq_none h] at hj; cases hj
  rw [hadd, bytesWorld_cell w _ s j (by omega)]
  rw [bv_get hjl] at hj
  rw [← hj]
  simp [List.getD, List.getElem?_eq_getElem hjl]
theorem below_bytesWorld (w : World) (s : ByteArray) : Below w.heap.size w (bytesWorld w 5 s) := by
  refine ⟨?_, ?_, ?_, by rw [bytesWorld_size]; omega, fun k hk => bytesWorld_at_old w _ s k hk⟩
  · simp [bytesWorld, World.freeze]; rfl
  · simp [bytesWorld, World.freeze]
  · simp [bytesWorld, World.freeze]; rfl
theorem conv_sb (w : World) (s : ByteArray) (hs : s.size ≤ 140737488355328) : ∃ x W, (convert 9 23 (.string s)).run Try.prog w = .ok x W ∧ RdB W (· < W.heap.size) x s.data.toList ∧ Below w.heap.size w W :=
  ⟨_, _, Lib.run_convert_string_bytes (P := Try.prog) w 9 23 5 s Try.underlying9 Try.underlying23 Try.underlying5, rd_bytesWorld w s hs, below_bytesWorld w s⟩
end Go.Proofs.Ytooojgokkigncaa
