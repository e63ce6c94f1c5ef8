/-
 WkY
-/
import Derived.Test.YtbfdegkickjbpaaGreatTWkZ
import Derived.Test.YtbfdegkickjbpaaGreatTRwE
namespace Go.Proofs.YtbfdegkickjbpaaGreat
open Go.RowKit Go.Lib Go.IntWalk Go.Sort Go.Shelf
theorem works35g (w : World) : Calls Tryz.prog 13 #[] w fun e w' => e = .returned (.bool true) ∧ Below w.heap.size w w' := by
 refine works35z (fun V => ?_) (fun D O R V hD hO hx => ?_) w
 ·obtain ⟨C, hC⟩ : ∃ C : RCm, C = ⟨1, 5, 5, 1, none, 0, [], none, 0, [], none, 0, [], none, 0, [], none, 0, [], none, 0, []⟩ := ⟨_, rfl⟩
  have e1 : encCE C = 0 := by rw [hC]; kernel_rfl
  have e2 : outC C = [2, 10, 10, 2, 0, 0, 0, 0, 0, 0] := by rw [hC]; kernel_rfl
  have hi : C.is V (· < V.heap.size) := by rw [hC]; exact ⟨Rd.nil _ _ _, (fun x hx => by cases hx), Rd.nil _ _ _, (fun x hx => by cases hx), Rd.nil _ _ _, Rd.nil _ _ _, Rd.nil _ _ _, Rd.nil _ _ _⟩
  have hl : C.lim V := by rw [hC]; exact ⟨by decide, by decide, by decide, by decide, by decide, by decide, (fun x hx => by cases hx), (fun x hx => by cases hx), (fun x hx => by cases hx), (fun x hx => by cases hx), (fun x hx => by cases hx), (fun x hx => by cases hx), (fun x hx => by cases hx), (fun x hx => by cases hx), by decide, by decide⟩
  have h := recEncode_any C V hi hl
  have he : #[Value.agg C.enc.toArray] = #[.agg #[.int .i64 1, .int .i64 5, .int .i64 5, .int .i64 1, .slice none 0 0, .slice none 0 0, .slice none 0 0, .slice none 0 0, .slice none 0 0, .slice none 0 0]] := by rw [hC]; rfl
  rw [he] at h
  exact h.mono (fun e w' ⟨u, h1, h2, h3⟩ => ⟨u, by rw [h1, e1], by rw [e2] at h2; exact h2, h3⟩)
 ·obtain ⟨C, hC⟩ : ∃ C : RCm, C = ⟨1, 5, 5, 1, none, 0, [], some ⟨D, 0, none⟩, 1, [⟨⟨#[116]⟩, none, 0, [], some ⟨O, 0, none⟩, 1, [⟨some ⟨R, 0, none⟩, 1, 1, xs7z, 0, 3⟩]⟩], none, 0, [], none, 0, [], none, 0, [], none, 0, []⟩ := ⟨_, rfl⟩
  have e1 : encCE C = 0 := by rw [hC]; kernel_rfl
  have e2 : outC C = [2, 10, 10, 2, 0, 2, 2, 116, 0, 2, 2, 1, 14, 0, 6, 0, 0, 0, 0] := by rw [hC]; kernel_rfl
  have hi : C.is V (· < V.heap.size) := by
   rw [hC]
   refine ⟨Rd.nil _ _ _, (fun x hx => by cases hx), rdBlk hD rfl, (fun x hx => ?_), Rd.nil _ _ _, Rd.nil _ _ _, Rd.nil _ _ _, Rd.nil _ _ _⟩
   rw [List.mem_singleton] at hx
   subst hx
   refine ⟨Rd.nil _ _ _, ⟨rdBlk hO rfl, fun p hp => ?_⟩, ⟨by simp, by simp⟩⟩
   rw [List.mem_singleton] at hp
   subst hp
   refine ⟨hx, fun x hx => ?_⟩
   have hx : x ∈ xs7z := hx
   rw [xs7z, List.mem_singleton] at hx
   subst hx
   unfold goV maxLen
   decide
  have hl : C.lim V := by
   rw [hC]
   refine ⟨by simp, by simp, by simp, by simp, by simp, by simp, (fun x hx f hf => ?_), (fun x hx => by cases hx), (fun x hx => by cases hx), (fun x hx => ?_), (fun x hx => by cases hx), (fun x hx => by cases hx), (fun x hx => by cases hx), (fun x hx => by cases hx), by simp [szL], by simp [szL, RDl.sz, RF.sz, xs7z]⟩
   ·rw [List.mem_singleton] at hx; subst hx; rw [List.mem_singleton] at hf; subst hf; simp [xs7z]
   ·rw [List.mem_singleton] at hx; subst hx; show (1 : Nat) ≤ maxLen; unfold maxLen; decide
  have h := recEncode_any C V hi hl
  have he : #[Value.agg C.enc.toArray] = #[.agg #[.int .i64 1, .int .i64 5, .int .i64 5, .int .i64 1, .slice none 0 0, .slice (some ⟨D, 0, none⟩) 1 1, .slice none 0 0, .slice none 0 0, .slice none 0 0, .slice none 0 0]] := by rw [hC]; rfl
  rw [he] at h
  exact h.mono (fun e w' ⟨u, h1, h2, h3⟩ => ⟨u, by rw [h1, e1], by rw [e2] at h2; exact h2, h3⟩)
end Go.Proofs.YtbfdegkickjbpaaGreat
