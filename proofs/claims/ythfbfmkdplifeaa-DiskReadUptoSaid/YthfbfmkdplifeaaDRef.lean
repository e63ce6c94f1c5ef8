/-
 Ref
-/
import Derived.Test.YthfbfmkdplifeaaDFile
import Derived.Sort.Walk0
import Derived.Test.YthfbfmkdplifeaaDBase
namespace Go.Proofs.Ythfbfmkdplifeaa
section
set_option maxRecDepth 100000
open Go.RowKit Go.Lib Go.IntWalk
def withoutL (l : FL) (n : List UInt8) : FL := l.filter fun p => !decide (p.1 = n)
def wstep (f : List UInt8 × List UInt8) (s : FL × Bool) (x : List UInt8 × List UInt8) : FL × Bool :=
 if s.2 = false ∧ f.1 < x.1 then (s.1 ++ [f] ++ [x], true) else (s.1 ++ [x], s.2)
def wfold (f : List UInt8 × List UInt8) (r : FL) : FL × Bool := r.foldl (wstep f) ([], false)
def withL (l : FL) (f : List UInt8 × List UInt8) : FL :=
 if (wfold f (withoutL l f.1)).2 = true then (wfold f (withoutL l f.1)).1 else (wfold f (withoutL l f.1)).1 ++ [f]
def insL (f : List UInt8 × List UInt8) : FL → FL
 | [] => [f]
 | x :: r => if f.1 < x.1 then f :: x :: r else x :: insL f r
theorem wfold_true (f : List UInt8 × List UInt8) : ∀ (r out : FL), r.foldl (wstep f) (out, true) = (out ++ r, true)
 | [], out => by simp
 | x :: r, out => by
  rw [List.foldl_cons, wstep, if_neg (by simp)]
  simp only
  rw [wfold_true f r]
  simp
theorem wfold_ins (f : List UInt8 × List UInt8) : ∀ (r out : FL), (if (r.foldl (wstep f) (out, false)).2 = true then (r.foldl (wstep f) (out, false)).1 else (r.foldl (wstep f) (out, false)).1 ++ [f]) = out ++ insL f r
 | [], out => by simp [insL]
 | x :: r, out => by
  rw [List.foldl_cons]
  by_cases h : f.1 < x.1
  ·have e : wstep f (out, false) x = (out ++ [f] ++ [x], true) := if_pos ⟨rfl, h⟩
   rw [e, wfold_true, insL, if_pos h]
   simp
  ·have e : wstep f (out, false) x = (out ++ [x], false) := if_neg (fun e => h e.2)
   rw [e, wfold_ins f r, insL, if_neg h]
   simp
theorem withL_ins (l : FL) (f : List UInt8 × List UInt8) : withL l f = insL f (withoutL l f.1) := by
 have := wfold_ins f (withoutL l f.1) []
 rw [List.nil_append] at this
 exact this
theorem look_without (l : FL) (n k : List UInt8) : lookL (withoutL l n) k = if k = n then none else lookL l k := by
 unfold withoutL
 induction l with
 | nil => simp [lookL]
 | cons p r ih =>
  obtain ⟨x, d⟩ := p
  by_cases hx : x = n
  ·rw [List.filter_cons_of_neg (by simp [hx]), ih, lookL]
   by_cases hk : k = n
   ·simp [hk]
   ·rw [if_neg hk, if_neg hk, if_neg (by rw [hx]; exact hk)]
  ·rw [List.filter_cons_of_pos (by simp [hx]), lookL, ih, lookL]
   by_cases hkx : k = x
   ·rw [if_pos hkx, if_pos hkx, if_neg (by rw [hkx]; exact hx)]
   ·rw [if_neg hkx, if_neg hkx]
theorem sub_without (l : FL) (n : List UInt8) : (withoutL l n).Sublist l := List.filter_sublist
theorem srt_without {l : FL} (h : srtK (l.map (·.1))) (n : List UInt8) : srtK ((withoutL l n).map (·.1)) := List.Pairwise.sublist ((sub_without l n).map _) h
theorem mem_without {l : FL} {n : List UInt8} {p : List UInt8 × List UInt8} (h : p ∈ withoutL l n) : p ∈ l ∧ ¬ p.1 = n := by
 have := List.mem_filter.1 h
 exact ⟨this.1, by simpa using this.2⟩
theorem mem_ins {f p : List UInt8 × List UInt8} : ∀ {r : FL}, p ∈ insL f r → p = f ∨ p ∈ r
 | [], h => by simp only [insL, List.mem_singleton] at h; exact .inl h
 | x :: r, h => by
  rw [insL] at h
  split at h
  ·rcases List.mem_cons.1 h with h | h
   ·exact .inl h
   ·exact .inr h
  ·rcases List.mem_cons.1 h with h | h
   ·exact .inr (h ▸ List.mem_cons_self ..)
   ·rcases mem_ins h with h | h
    ·exact .inl h
    ·exact .inr (List.mem_cons_of_mem _ h)
theorem len_ins {f : List UInt8 × List UInt8} : ∀ {r : FL}, (insL f r).length = r.length + 1
 | [] => rfl
 | x :: r => by
  rw [insL]
  split
  ·simp
  ·rw [List.length_cons, len_ins, List.length_cons]
theorem look_ins (f : List UInt8 × List UInt8) (k : List UInt8) : ∀ {r : FL}, (∀ p ∈ r, ¬ p.1 = f.1) → lookL (insL f r) k = if k = f.1 then some f.2 else lookL r k
 | [], _ => by obtain ⟨a, b⟩ := f; simp [insL, lookL]
 | x :: r, h => by
  have ih := look_ins f k (r := r) fun p hp => h p (List.mem_cons_of_mem _ hp)
  have hx := h x (List.mem_cons_self ..)
  obtain ⟨a, b⟩ := x
  obtain ⟨n, d⟩ := f
  rw [insL]
  split
  ·rfl
  ·simp only [lookL] at ih ⊢
   rw [ih]
   by_cases hk : k = n
   ·rw [if_pos hk, if_pos hk, if_neg (by rw [hk]; exact fun e => hx e.symm)]
   ·rw [if_neg hk, if_neg hk]
theorem srt_ins (f : List UInt8 × List UInt8) : ∀ {r : FL}, srtK (r.map (·.1)) → (∀ p ∈ r, ¬ p.1 = f.1) → srtK ((insL f r).map (·.1))
 | [], _, _ => List.pairwise_singleton _ _
 | x :: r, hs, h => by
  obtain ⟨a, b⟩ := x
  obtain ⟨h1, h2⟩ := srt_head hs
  have hx := h (a, b) (List.mem_cons_self ..)
  rw [insL]
  split
  ·rename_i hl
   refine List.pairwise_cons.2 ⟨fun y hy => ?_, hs⟩
   obtain ⟨p, hp, rfl⟩ := List.mem_map.1 hy
   rcases List.mem_cons.1 hp with rfl | hp
   ·exact hl
   ·exact List.lt_trans hl (h1 p hp)
  ·rename_i hl
   have ih := srt_ins f h2 fun p hp => h p (List.mem_cons_of_mem _ hp)
   refine List.pairwise_cons.2 ⟨fun y hy => ?_, ih⟩
   obtain ⟨p, hp, rfl⟩ := List.mem_map.1 hy
   rcases mem_ins hp with rfl | hp
   ·rcases triB a p.1 with q | q | q
    ·exact q
    ·exact absurd q hx
    ·exact absurd q hl
   ·exact h1 p hp
theorem IsL.without {fm : FM} {l : FL} (h : IsL fm l) (n : List UInt8) : IsL (updG fm n none) (withoutL l n) :=
 ⟨srt_without h.1 n, fun k => by rw [look_without, updG, h.2 k]⟩
theorem IsL.with_ {fm : FM} {l : FL} (h : IsL fm l) (f : List UInt8 × List UInt8) : IsL (updG fm f.1 (some f.2)) (withL l f) := by
 rw [withL_ins]
 have hn : ∀ p ∈ withoutL l f.1, ¬ p.1 = f.1 := fun p hp => (mem_without hp).2
 refine ⟨srt_ins f (srt_without h.1 f.1) hn, fun k => ?_⟩
 rw [look_ins f k hn, look_without, updG, h.2 k]
 by_cases hk : k = f.1
 ·rw [if_pos hk, if_pos hk]
 ·rw [if_neg hk, if_neg hk, if_neg hk]
/-- the files after an operation -/
def carryL (l : FL) (o : DOp) : FL :=
 if o.kind = 0 then withL l (o.name, (lookL l o.name).getD [] ++ o.data)
 else if o.kind = 1 then withoutL l o.name
 else if (lookL l o.name).isSome = false ∨ o.name = o.to then l else withL (withoutL l o.name) (o.to, (lookL l o.name).getD [])
def viewL (l : FL) (os : List DOp) : FL := os.foldl carryL l
theorem IsL.congr {fm fm' : FM} {l : FL} (h : IsL fm l) (e : ∀ k, fm k = fm' k) : IsL fm' l := ⟨h.1, fun k => (h.2 k).trans (e k)⟩
theorem IsL.carry {fm : FM} {l : FL} (h : IsL fm l) (o : DOp) (hk : o.kind ≤ 2) (hx : o.kind = 2 → (fm o.name).isSome = true) : IsL (applyF fm o) (carryL l o) := by
 unfold carryL applyF
 by_cases h0 : o.kind = 0
 ·rw [if_pos h0, if_pos h0]
  have := h.with_ (o.name, (lookL l o.name).getD [] ++ o.data)
  rw [h.2 o.name] at this ⊢
  exact this
 by_cases h1 : o.kind = 1
 ·rw [if_neg h0, if_pos h1, if_neg h0, if_pos h1]
  exact h.without o.name
 have h2 : o.kind = 2 := by omega
 rw [if_neg h0, if_neg h1, if_pos h2, if_neg h0, if_neg h1, h.2 o.name]
 have hs := hx h2
 by_cases he : o.name = o.to
 ·rw [if_pos (.inr he)]
  refine h.congr fun k => ?_
  rw [← he]
  unfold updG
  by_cases hk' : k = o.name
  ·rw [if_pos hk', hk']
   cases hf : fm o.name with
   | none => rw [hf] at hs; cases hs
   | some b => rfl
  ·rw [if_neg hk', if_neg hk']
 ·rw [if_neg (by rw [hs]; simp [he])]
  exact (h.without o.name).with_ (o.to, (fm o.name).getD [])
/-- each renaming finds its file -/
def OkOps : FM → List DOp → Prop
 | _, [] => True
 | fm, o :: r => o.kind ≤ 2 ∧ (o.kind = 2 → (fm o.name).isSome = true) ∧ OkOps (applyF fm o) r
theorem IsL.view : ∀ {os : List DOp} {fm : FM} {l : FL}, IsL fm l → OkOps fm os → IsL (viewF fm os) (viewL l os)
 | [], _, _, h, _ => h
 | o :: r, fm, l, h, hk => IsL.view (os := r) (fm := applyF fm o) (l := carryL l o) (h.carry o hk.1 hk.2.1) hk.2.2
theorem OkOps.snoc : ∀ {os : List DOp} {fm : FM} {o : DOp}, OkOps fm os → o.kind ≤ 2 → (o.kind = 2 → (viewF fm os o.name).isSome = true) → OkOps fm (os ++ [o])
 | [], _, _, _, h1, h2 => ⟨h1, h2, trivial⟩
 | _ :: r, _, _, h, h1, h2 => ⟨h.1, h.2.1, OkOps.snoc (os := r) h.2.2 h1 h2⟩
theorem OkOps.take : ∀ {os : List DOp} {fm : FM} (k : Nat), OkOps fm os → OkOps fm (os.take k)
 | [], _, k, _ => by rw [List.take_nil]; exact trivial
 | _ :: r, _, 0, _ => trivial
 | _ :: r, _, k + 1, h => ⟨h.1, h.2.1, OkOps.take (os := r) k h.2.2⟩
theorem OkOps.crash {os : List DOp} {fm : FM} (h : OkOps fm os) (keep torn : Int) : OkOps fm (crashOps os keep torn) := by
 have ht := h.take keep.toNat
 cases ho : os[keep.toNat]? with
 | none => rw [crash_none rfl ho]; exact ht
 | some o =>
  rw [crash_some rfl ho]
  unfold tornOp
  split
  ·exact ht.snoc (by simp) (by simp)
  ·rw [List.append_nil]; exact ht
end
section
set_option maxRecDepth 100000
open Go.RowKit Go.Lib Go.IntWalk
theorem run_index_str (S : ByteArray) (s : List UInt8) (hS : S = strB s) (k : Nat) (hk : k < s.length) (w : World) : (Instr.index 9 (.string S) (.int .i64 (k : Int))).run Try.prog w = .ok (.int .u8 ((s[k]'hk).toNat : Int)) w := by
 subst hS
 have h : (strB s)[k]? = some s[k] := by
  have h1 : k < (strB s).size := by rw [strB_size]; exact hk
  rw [getElem?_pos (strB s) k h1]
  rfl
 simp [Instr.index, asIntOf, run_underlying Try.underlying9, h]
set_option maxRecDepth 100000 in
set_option maxHeartbeats 1000000 in
theorem rname_any (s : List UInt8) (w : World) (hlen : s.length ≤ maxLen) : Calls Try.prog 14 #[.string (strB s)] w fun e w' => e = .returned (.bool (wordF s)) ∧ w = w' := by
 have hsz := strB_size s
 have HIX := Lib.hid (run_index_str (strB s) s rfl)
 generalize hwf : wordF s = wf
 have HWF := Lib.hid hwf
 clear hwf
 generalize strB s = S at *
 unfold maxLen at hlen
 go_enter Try.func14, Try.ntmps14
 go_wp2_with fail
 go_loop [3] (fun i => ∃ k : Nat, k ≤ s.length ∧ i = .int .i64 k ∧ (s.take k).all chB = true) (fun i => s.length - (intOf i).toNat)
 case atStart => exact ⟨0, Nat.zero_le _, rfl, rfl⟩
 case round =>
  obtain ⟨k, hk, rfl, hp⟩ := hrel
  have HP := Lib.hid hp
  clear hp
  by_cases hlt : k < s.length
  ·have hix := HIX.out k hlt
   have q0 : (k : Int) < (S.size : Int) := by omega
   have HS := Lib.hid (@all_snoc s k hlt HP.out)
   have HB := Lib.hid (@wordF_bad s k hlt)
   generalize s[k] = ch at *
   have hc256 := ch.toNat_lt
   by_cases h2 : (ch.toNat : Int) < 33
   ·have hw : wf = false := by rw [← HWF.out]; exact HB.out (by unfold chB; simp; omega)
    subst hw
    go_wp2_with fail
    go_ret
    exact ⟨rfl, rfl⟩
   ·by_cases h3 : (126 : Int) < (ch.toNat : Int)
    ·have hw : wf = false := by rw [← HWF.out]; exact HB.out (by unfold chB; simp; omega)
     subst hw
     go_wp2_with fail
     go_ret
     exact ⟨rfl, rfl⟩
    ·have hch : chB ch = true := by unfold chB; simp; omega
     have HS2 := Lib.hid (HS.out hch)
     clear HS HB hch
     go_wp2_with fail
     go_round
     case rel => exact ⟨k + 1, by omega, by go_num, HS2.out⟩
     case measure => simp [intOf]; omega
  ·have q0 : ¬ (k : Int) < (S.size : Int) := by omega
   have hal : s.all chB = true := by have := HP.out; rwa [List.take_of_length_le (by omega)] at this
   have HAL := Lib.hid hal
   clear hal
   by_cases h0 : s.length = 0
   ·have hw : wf = false := by rw [← HWF.out, List.eq_nil_of_length_eq_zero h0]; rfl
    subst hw
    have q1 : ¬ (1 : Int) ≤ (S.size : Int) := by omega
    go_wp2_with fail
    go_ret
    exact ⟨rfl, rfl⟩
   ·have q1 : (1 : Int) ≤ (S.size : Int) := by omega
    by_cases h1 : s.length ≤ 24
    ·have hw : wf = true := by rw [← HWF.out]; exact wordF_good h0 h1 HAL.out
     subst hw
     have q2 : decide ((s.length : Int) ≤ 24) = true := by simp; omega
     go_wp2_with fail
     go_ret
     exact ⟨rfl, rfl⟩
    ·have hw : wf = false := by rw [← HWF.out]; exact wordF_long (by omega)
     subst hw
     have q2 : decide ((s.length : Int) ≤ 24) = false := by simp; omega
     go_wp2_with fail
     go_ret
     exact ⟨rfl, rfl⟩
theorem look_drop {fl : FL} {k : Nat} {q : List UInt8 × List UInt8} (h : fl[k]? = some q) (nm : List UInt8) : lookL (fl.drop k) nm = if nm = q.1 then some q.2 else lookL (fl.drop (k + 1)) nm := by
 obtain ⟨hk, e⟩ := List.getElem?_eq_some_iff.1 h
 rw [List.drop_eq_getElem_cons hk, e]
 rfl
set_option maxRecDepth 100000 in
set_option maxHeartbeats 2000000 in
theorem rfind_any [Inhabited Nb] (B : Nat) (v : Value) (fl : FL) (nm : List UInt8) (w : World) (hB : B ≤ w.heap.size) (hv : FlsRd B w v fl) (hz : ∀ p ∈ fl, p.2.length ≤ 1099511627776) :
  Calls Try.prog 31 #[v, .string (strB nm)] w (DRead (lookL fl nm) w) := by
 obtain ⟨A, c, rfl, a1, a2, a3⟩ := hv.open_
 unfold maxLen at a2
 clear a3
 have HZ := Lib.hid hz
 clear hz
 generalize hres : lookL fl nm = res
 have HR := Lib.hid hres
 clear hres
 obtain ⟨i0, hi, hz0, hz1, hz2⟩ := info_parts infoB
 go_enter Try.func31, Try.ntmps31
 go_wp2_with fail
 go_loopw [10] (fun i wr => ∃ k : Nat, k ≤ fl.length ∧ i = .int .i64 (k : Int) ∧ lookL (fl.drop k) nm = res ∧ Below w.heap.size w wr) (fun i _ => fl.length - (intOf i).toNat)
 case atStart => exact ⟨0, Nat.zero_le _, rfl, HR.out, Below.refl _ _⟩
 case round =>
  obtain ⟨k, hk, rfl, hres, hbw⟩ := hrel
  clear HR
  have HRES := Lib.hid hres
  clear hres
  have hBr : B ≤ wr.heap.size := by have := hbw.size; omega
  by_cases hlt : k < fl.length
  ·obtain ⟨ba, oa, ua, rfl, ga, ga1, da, _⟩ := FlsRd.elem (hv.below hB hbw) (List.getElem?_eq_getElem hlt)
   have hdl := HZ.out _ (List.getElem_mem hlt)
   have HLD := Lib.hid (look_drop (List.getElem?_eq_getElem hlt) nm)
   obtain ⟨Xa, xa, rfl, x1, x2, x3⟩ := Rd.open_ da
   have HX3 := Lib.hid x3
   clear x3
   generalize fl[k].1 = na at *
   generalize fl[k].2 = data at *
   have kF := box_cell wr #[.string (strB na), .slice Xa data.length xa] 43 0 rfl
   have kG := box_cell wr #[.string (strB na), .slice Xa data.length xa] 43 1 rfl
   by_cases hen : nm = na
   ·subst hen
    have hre : res = some data := by rw [← HRES.out, HLD.out, if_pos rfl]
    subst hre
    have htn := str_eq_self nm
    have kG2 : ((wr.alloc (.cells #[.string (strB nm), .slice Xa data.length xa] 43)).alloc (.cells #[] 5)).cell? ⟨wr.heap.size, 1, none⟩ = some (.slice Xa data.length xa) := (World.cell?_of_block (Below.heap_alloc _ _ wr.heap.size (by simp))).trans kG
    have hd2 := ((da.alloc hBr (.cells #[.string (strB nm), .slice Xa data.length xa] 43)).alloc (by simp; omega) (.cells #[] 5)).rd (by simp; omega)
    have hown : ((wr.alloc (.cells #[.string (strB nm), .slice Xa data.length xa] 43)).alloc (.cells #[] 5)).ownsRow w.heap.size 5 1 (.slice (some ⟨wr.heap.size + 1, 0, none⟩) 0 0) 0 [] := by
     have := own_empty (wr.alloc (.cells #[.string (strB nm), .slice Xa data.length xa] 43)) w.heap.size 5 1 (by have := hbw.size; simp; omega)
     simpa using this
    have hb2 : Below w.heap.size w ((wr.alloc (.cells #[.string (strB nm), .slice Xa data.length xa] 43)).alloc (.cells #[] 5)) := (hbw.alloc hbw.size _).alloc (by have := hbw.size; simp; omega) _
    go_wp2_with (at_builtin; refine wpList_append_app _ rfl (.tmp 18) (.tmp 20) 33 rfl w.heap.size 5 i0 _ 1 1 Try.underlying33 hi hz0 hz1 hz2 rfl (by omega) _ 0 [] rfl (.inl hown) (· < ((wr.alloc (.cells #[.string (strB nm), .slice Xa data.length xa] 43)).alloc (.cells #[] 5)).heap.size) _ data.length (bv data) rfl hd2 (bv_one data) (by unfold maxLen; omega) (by omega) (by have := hbw.size; simp; omega) ?_; intro v4 w4 _ hO4 hg4 hb4 _)
    go_ret2
    have hO4 := hO4 (.inr hown)
    rw [Nat.zero_add, List.nil_append] at hO4
    exact ⟨_, rfl, hO4, hb2.trans hb4⟩
   ·have hn2 := str_ne (fun e : na = nm => hen e.symm)
    have hre : lookL (fl.drop (k + 1)) nm = res := by rw [← HRES.out, HLD.out, if_neg hen]
    have HRE := Lib.hid hre
    clear hre HLD HRES hen
    go_wp2_with fail
    go_roundw
    case rel => exact ⟨k + 1, by omega, by go_num, HRE.out, hbw.alloc hbw.size _⟩
    case measure => simp [intOf]; omega
  ·have hke : k = fl.length := by omega
   have hre : res = none := by rw [← HRES.out, hke, List.drop_length]; rfl
   subst hre
   go_wp2_with fail
   go_ret2
   exact ⟨_, rfl, World.ownsRow_nil _ _ _ _, hbw⟩
def FlsOut [Inhabited Nb] (B : Nat) (fl : FL) (w0 : World) (e : Ending) (w : World) : Prop := ∃ v, e = .returned v ∧ FlsOwn w0.heap.size B w v fl ∧ Below w0.heap.size w0 w
theorem without_take {fl : FL} {k : Nat} {q : List UInt8 × List UInt8} (h : fl[k]? = some q) (nm : List UInt8) : withoutL (fl.take (k + 1)) nm = if q.1 = nm then withoutL (fl.take k) nm else withoutL (fl.take k) nm ++ [q] := by
 obtain ⟨hk, e⟩ := List.getElem?_eq_some_iff.1 h
 rw [List.take_succ_eq_append_getElem hk, e]
 unfold withoutL
 rw [List.filter_append]
 split
 ·rename_i hq; simp [hq]
 ·rename_i hq; simp [hq]
theorem without_len (fl : FL) (nm : List UInt8) (k : Nat) : (withoutL (fl.take k) nm).length ≤ fl.length :=
 Nat.le_trans (List.length_filter_le _ _) (by rw [List.length_take]; omega)
/-- what the rows of files in the making need -/
theorem FlsOwn.alloc {_ : Inhabited Nb} {base B : Nat} {w : World} {v : Value} {fl : FL} (h : FlsOwn base B w v fl) (hB : B ≤ w.heap.size) (o : Obj) : FlsOwn base B (w.alloc o) v fl := h.below hB (Below.of_alloc o)
theorem FlsOwn.len {_ : Inhabited Nb} {base B : Nat} {w : World} {v : Value} {fl : FL} (h : FlsOwn base B w v fl) : ∃ ps : List ((List UInt8 × List UInt8) × Value), ps.map (·.1) = fl ∧ ps.length = fl.length ∧ w.ownsRow base 43 2 v ps.length (fileCs ps) ∧ ∀ p ∈ ps, DatB B w p.2 p.1.2 := by
 obtain ⟨ps, h1, h2, h3⟩ := h
 exact ⟨ps, h1, by have := congrArg List.length h1; simpa using this, h2, h3⟩
set_option maxRecDepth 100000 in
set_option maxHeartbeats 2000000 in
theorem rwithout_any [Inhabited Nb] (B : Nat) (v : Value) (fl : FL) (nm : List UInt8) (w : World) (hB : B ≤ w.heap.size) (hv : FlsRd B w v fl) (hfn : fl.length ≤ 1099511627776) :
  Calls Try.prog 33 #[v, .string (strB nm)] w (FlsOut B (withoutL fl nm) w) := by
 obtain ⟨A, c, rfl, a1, a2, a3⟩ := hv.open_
 unfold maxLen at a2
 clear a3
 obtain ⟨i0, hi, hz0, hz1, hz2⟩ := info_parts infoF
 go_enter Try.func33, Try.ntmps33
 go_wp2_with fail
 go_loopw [5, 10] (fun out i wr => ∃ k : Nat, k ≤ fl.length ∧ i = .int .i64 (k : Int) ∧ FlsOwn w.heap.size B wr out (withoutL (fl.take k) nm) ∧ Below w.heap.size w wr) (fun _ i _ => fl.length - (intOf i).toNat)
 case atStart => exact ⟨0, Nat.zero_le _, rfl, FlsOwn.nil _ _ _, Below.refl _ _⟩
 case round =>
  obtain ⟨k, hk, rfl, hO, hbw⟩ := hrel
  have hBr : B ≤ wr.heap.size := by have := hbw.size; omega
  have hbs := hbw.size
  by_cases hlt : k < fl.length
  ·obtain ⟨ba, oa, ua, rfl, ga, ga1, da, _⟩ := FlsRd.elem (hv.below hB hbw) (List.getElem?_eq_getElem hlt)
   have HWT := Lib.hid (without_take (List.getElem?_eq_getElem hlt) nm)
   have hwl := without_len fl nm k
   obtain ⟨Xa, xa, rfl, x1, x2, x3⟩ := Rd.open_ da
   have HX3 := Lib.hid x3
   clear x3
   generalize fl[k] = q at *
   obtain ⟨na, data⟩ := q
   simp only at *
   have kF := box_cell wr #[.string (strB na), .slice Xa data.length xa] 43 0 rfl
   have kG := box_cell wr #[.string (strB na), .slice Xa data.length xa] 43 1 rfl
   by_cases hen : na = nm
   ·subst hen
    have htn := str_eq_self na
    have htn2 : (!(strB na).toList == (strB na).toList) = false := by rw [htn]; rfl
    rw [if_pos rfl] at HWT
    go_wp2_with fail
    go_roundw
    case rel => exact ⟨k + 1, by omega, by go_num, by rw [HWT.out]; exact hO.alloc hBr _, hbw.alloc hbw.size _⟩
    case measure => simp [intOf]; omega
   ·have hn2 := str_ne hen
    have hn3 : (!(strB na).toList == (strB nm).toList) = true := by rw [hn2]; rfl
    rw [if_neg hen] at HWT
    have hO1 := hO.alloc hBr (.cells #[.string (strB na), .slice Xa data.length xa] 43)
    have hd1 := da.alloc hBr (.cells #[.string (strB na), .slice Xa data.length xa] 43)
    have hB1 : B ≤ (wr.alloc (.cells #[.string (strB na), .slice Xa data.length xa] 43)).heap.size := by simp; omega
    have hb1 := hbw.alloc hbw.size (.cells #[.string (strB na), .slice Xa data.length xa] 43)
    clear hO
    obtain ⟨ps, hps, hpl, hpo, hpd⟩ := hO1.len
    go_wp2_with (at_builtin; refine wpList_append_app _ rfl (.tmp 18) (.tmp 20) 22 rfl w.heap.size 43 i0 _ 2 40 Try.underlying22 hi hz0 hz1 hz2 rfl (by omega) u5 ps.length (fileCs ps) rfl (by exact .inl (World.ownsRow.alloc hpo _)) (· = wr.heap.size + 1) _ 1 (fileC ((na, data), .slice Xa data.length xa)) rfl (by exact Rd.new' _ (wr.heap.size + 1) (by simp) (fileC ((na, data), .slice Xa data.length xa)) 43 2 1 rfl (by unfold maxLen; omega)) (fileC_one _ _ rfl) (by unfold maxLen; omega) (by omega) (by simp; omega) ?_; intro v4 w4 _ hO4 hg4 hb4 _)
    go_roundw
    case rel =>
     refine ⟨k + 1, by omega, by go_num, ?_, (hb1.alloc hb1.size _).trans hb4⟩
     rw [HWT.out, ← hps]
     exact FlsOwn.push (q := (na, data)) (dv := .slice Xa data.length xa) (by simp; omega) hB (World.ownsRow.alloc hpo _) (fun p hp => (hpd p hp).alloc hB1 _) (hd1.alloc hB1 _) hg4 (hO4 (.inl (by omega)))
    case measure => simp [intOf]; omega
  ·have hke : k = fl.length := by omega
   subst hke
   rw [List.take_length] at hO
   go_wp2_with fail
   go_ret
   exact ⟨_, rfl, hO, hbw⟩
end
section
set_option maxRecDepth 100000
open Go.RowKit Go.Lib Go.IntWalk
theorem wfold_take {r : FL} {k : Nat} {x : List UInt8 × List UInt8} (h : r[k]? = some x) (f : List UInt8 × List UInt8) : wfold f (r.take (k + 1)) = wstep f (wfold f (r.take k)) x := by
 obtain ⟨hk, e⟩ := List.getElem?_eq_some_iff.1 h
 unfold wfold
 rw [List.take_succ_eq_append_getElem hk, List.foldl_append, e]
 rfl
theorem wfold_len (f : List UInt8 × List UInt8) : ∀ (r out : FL) (b : Bool), (r.foldl (wstep f) (out, b)).1.length ≤ out.length + r.length + 1 - (if b = true then 1 else 0)
 | [], out, b => by simp; split <;> omega
 | x :: r, out, b => by
  rw [List.foldl_cons, show wstep f (out, b) x = if b = false ∧ f.1 < x.1 then (out ++ [f] ++ [x], true) else (out ++ [x], b) from rfl]
  split
  ·have := wfold_len f r (out ++ [f] ++ [x]) true
   rename_i h
   have hb : b = false := h.1
   subst hb
   simp only [List.length_append, List.length_cons, List.length_nil, if_pos] at this ⊢
   rw [if_neg (by simp)]
   omega
  ·have := wfold_len f r (out ++ [x]) b
   simp only [List.length_append, List.length_cons, List.length_nil] at this ⊢
   cases b
   ·rw [if_neg (by simp)] at this ⊢; omega
   ·rw [if_pos rfl] at this ⊢; omega
theorem wfold_len' (f : List UInt8 × List UInt8) (r : FL) (k : Nat) : (wfold f (r.take k)).1.length ≤ r.length + 1 := by
 have := wfold_len f (r.take k) [] false
 unfold wfold
 simp only [List.length_take, List.length_nil] at this
 simp at this
 omega
theorem strB_toL (s : List UInt8) : (strB s).toList = s := by rw [ByteArray.toList_eq]; rfl
theorem box_old (w : World) (o : Obj) (b off : Nat) (hb : b < w.heap.size) : (w.alloc o).cell? ⟨b, off, none⟩ = w.cell? ⟨b, off, none⟩ := World.cell?_of_block (Below.heap_alloc w o b hb)
set_option maxRecDepth 100000 in
set_option maxHeartbeats 4000000 in
theorem rwith_any [Inhabited Nb] (B : Nat) (v : Value) (fl : FL) (nm data : List UInt8) (dv : Value) (w : World) (hB : B ≤ w.heap.size) (hv : FlsRd B w v fl) (hd : DatB B w dv data) (hfn : fl.length ≤ 1099511627776) :
  Calls Try.prog 15 #[v, .agg #[.string (strB nm), dv]] w (FlsOut B (withL fl (nm, data)) w) := by
 obtain ⟨X, x, rfl, x1, x2, x3⟩ := Rd.open_ hd
 have HX3 := Lib.hid x3
 clear x3
 obtain ⟨i0, hi, hz0, hz1, hz2⟩ := info_parts infoF
 have hb0 : Below w.heap.size w (w.alloc (.cells #[.string (strB nm), .slice X data.length x] 43)) := Below.of_alloc _
 have hB0 : B ≤ (w.alloc (.cells #[.string (strB nm), .slice X data.length x] 43)).heap.size := by simp; omega
 have kF := box_cell w #[.string (strB nm), .slice X data.length x] 43 0 rfl
 have kG := box_cell w #[.string (strB nm), .slice X data.length x] 43 1 rfl
 have CW := Lib.hid (rwithout_any B v fl nm (w.alloc (.cells #[.string (strB nm), .slice X data.length x] 43)) hB0 (hv.below hB hb0) hfn)
 have hwl : (withoutL fl nm).length ≤ fl.length := List.length_filter_le _ _
 have HWL : Hid (withL fl (nm, data) = if (wfold (nm, data) (withoutL fl nm)).2 = true then (wfold (nm, data) (withoutL fl nm)).1 else (wfold (nm, data) (withoutL fl nm)).1 ++ [(nm, data)]) := Lib.hid rfl
 generalize withL fl (nm, data) = wl at *
 generalize withoutL fl nm = r at *
 go_enter Try.func15, Try.ntmps15
 go_wp2_with fail
 (with_reducible refine CW.out.mono ?_)
 rintro e w1 ⟨v1, rfl, hO1, hb1⟩
 clear CW
 have hsz1 : w.heap.size + 1 ≤ w1.heap.size := by have := hb1.size; simpa using this
 have hB1 : B ≤ w1.heap.size := by omega
 have hv1 := hO1.rd
 have hd1 : DatB B w1 (.slice X data.length x) data := (hd.below hB hb0).below hB0 hb1
 have kF1 : w1.cell? ⟨w.heap.size, 0, none⟩ = some (.string (strB nm)) := (World.cell?_of_block (hb1.block w.heap.size (by simp))).trans kF
 have kG1 : w1.cell? ⟨w.heap.size, 1, none⟩ = some (.slice X data.length x) := (World.cell?_of_block (hb1.block w.heap.size (by simp))).trans kG
 have hbw1 : Below w.heap.size w w1 := hb0.trans (hb1.mono (by simp))
 clear kF kG hb0 hB0 hb1 hO1
 obtain ⟨A, c, rfl, a1, a2, a3⟩ := hv1.open_
 unfold maxLen at a2
 clear a3
 go_wp2_with fail
 go_loopw [5, 6, 14] (fun out put i wr => ∃ k : Nat, k ≤ r.length ∧ i = .int .i64 (k : Int) ∧ put = .bool (wfold (nm, data) (r.take k)).2 ∧ FlsOwn w1.heap.size B wr out (wfold (nm, data) (r.take k)).1 ∧ Below w1.heap.size w1 wr) (fun _ _ i _ => r.length - (intOf i).toNat)
 case atStart => exact ⟨0, Nat.zero_le _, rfl, rfl, FlsOwn.nil _ _ _, Below.refl _ _⟩
 case round =>
  obtain ⟨k, hk, rfl, rfl, hO, hbw⟩ := hrel
  have hBr : B ≤ wr.heap.size := by have := hbw.size; omega
  have hbs := hbw.size
  have kFr : wr.cell? ⟨w.heap.size, 0, none⟩ = some (.string (strB nm)) := (World.cell?_of_block (hbw.block w.heap.size (by omega))).trans kF1
  have kGr : wr.cell? ⟨w.heap.size, 1, none⟩ = some (.slice X data.length x) := (World.cell?_of_block (hbw.block w.heap.size (by omega))).trans kG1
  have hdr : DatB B wr (.slice X data.length x) data := hd1.below hB1 hbw
  have hfl := wfold_len' (nm, data) r k
  by_cases hlt : k < r.length
  ·obtain ⟨ba, oa, ua, rfl, ga, ga1, da, _⟩ := FlsRd.elem (hv1.below hB1 hbw) (List.getElem?_eq_getElem hlt)
   have HWT := Lib.hid (wfold_take (List.getElem?_eq_getElem hlt) (nm, data))
   obtain ⟨Xa, xa, rfl, y1, y2, y3⟩ := Rd.open_ da
   have HY3 := Lib.hid y3
   clear y3
   generalize r[k] = q at *
   obtain ⟨na, dq⟩ := q
   simp only at *
   generalize wfold (nm, data) (r.take k) = st at *
   obtain ⟨so, sb⟩ := st
   simp only at *
   have bF := box_cell wr #[.string (strB na), .slice Xa dq.length xa] 43 0 rfl
   have bG := box_cell wr #[.string (strB na), .slice Xa dq.length xa] 43 1 rfl
   have kFb : (wr.alloc (.cells #[.string (strB na), .slice Xa dq.length xa] 43)).cell? ⟨w.heap.size, 0, none⟩ = some (.string (strB nm)) := (World.cell?_of_block (Below.heap_alloc wr _ w.heap.size (by omega))).trans kFr
   have kGb : (wr.alloc (.cells #[.string (strB na), .slice Xa dq.length xa] 43)).cell? ⟨w.heap.size, 1, none⟩ = some (.slice X data.length x) := (World.cell?_of_block (Below.heap_alloc wr _ w.heap.size (by omega))).trans kGr
   have hOb := hO.alloc hBr (.cells #[.string (strB na), .slice Xa dq.length xa] 43)
   have hdb := hdr.alloc hBr (.cells #[.string (strB na), .slice Xa dq.length xa] 43)
   have hqb := da.alloc hBr (.cells #[.string (strB na), .slice Xa dq.length xa] 43)
   have hBb : B ≤ (wr.alloc (.cells #[.string (strB na), .slice Xa dq.length xa] 43)).heap.size := by simp; omega
   have hbb := hbw.alloc hbw.size (.cells #[.string (strB na), .slice Xa dq.length xa] 43)
   have hneb : some wr.heap.size ≠ u5.ownBlock := by obtain ⟨ps, _, _, hpo, _⟩ := hO.len; exact own_ne_new hpo
   clear hO
   cases sb with
   | true =>
    rw [show wstep (nm, data) (so, true) (na, dq) = (so ++ [(na, dq)], true) from if_neg (by simp)] at HWT
    obtain ⟨ps, hps, hpl, hpo, hpd⟩ := hOb.len
    go_wp2_with (at_builtin; refine wpList_append_app _ rfl (.tmp 31) (.tmp 33) 22 rfl w1.heap.size 43 i0 _ 2 40 Try.underlying22 hi hz0 hz1 hz2 rfl (by omega) u5 ps.length (fileCs ps) rfl (by exact .inl (World.ownsRow.alloc hpo _)) (· = wr.heap.size + 1) _ 1 (fileC ((na, dq), .slice Xa dq.length xa)) rfl (by exact Rd.new' _ (wr.heap.size + 1) (by simp) (fileC ((na, dq), .slice Xa dq.length xa)) 43 2 1 rfl (by unfold maxLen; omega)) (fileC_one _ _ rfl) (by unfold maxLen; omega) (by omega) (by simp; omega) ?_; intro v4 w4 _ hO4 hg4 hb4 _)
    go_roundw
    case rel =>
     refine ⟨k + 1, by omega, by go_num, by rw [HWT.out], ?_, (hbb.alloc hbb.size _).trans hb4⟩
     rw [HWT.out]
     rw [← hps]
     exact FlsOwn.push (q := (na, dq)) (dv := .slice Xa dq.length xa) (by simp; omega) hB1 (World.ownsRow.alloc hpo _) (fun p hp => (hpd p hp).alloc hBb _) (hqb.alloc hBb _) hg4 (hO4 (.inl (by omega)))
    case measure => simp [intOf]; omega
   | false =>
    by_cases hnl : nm < na
    ·rw [show wstep (nm, data) (so, false) (na, dq) = (so ++ [(nm, data)] ++ [(na, dq)], true) from if_pos ⟨rfl, hnl⟩] at HWT
     have hbl : Op.bytesLess (strB nm).toList (strB na).toList = true := by rw [bytesLess_eq, strB_toL, strB_toL]; exact decide_eq_true hnl
     obtain ⟨ps, hps, hpl, hpo, hpd⟩ := hOb.len
     go_wp2_with (first | (at_builtin; refine wpList_append_app _ rfl (.tmp 27) (.tmp 29) 22 rfl w1.heap.size 43 i0 _ 2 40 Try.underlying22 hi hz0 hz1 hz2 rfl (by omega) u5 ps.length (fileCs ps) rfl (by exact .inl (World.ownsRow.alloc hpo _)) (· = wr.heap.size + 1) _ 1 (fileC ((nm, data), .slice X data.length x)) rfl (by exact Rd.new' _ (wr.heap.size + 1) (by simp) (fileC ((nm, data), .slice X data.length x)) 43 2 1 rfl (by unfold maxLen; omega)) (fileC_one _ _ rfl) (by unfold maxLen; omega) (by omega) (by simp; omega) ?_; intro v4 w4 _ hO4 hg4 hb4 hv4; have hO4 := hO4 (.inl (by omega)); have hF4 := FlsOwn.push (q := (nm, data)) (dv := .slice X data.length x) (by simp; omega) hB1 (World.ownsRow.alloc hpo _) (fun p hp => (hpd p hp).alloc hBb _) (hdb.alloc hBb _) hg4 hO4; have kc4 := keepBox (b := wr.heap.size) hg4 hneb (by simp; omega); have bF4 := (kc4 0).trans ((box_old _ _ _ _ (by simp)).trans bF); have bG4 := (kc4 1).trans ((box_old _ _ _ _ (by simp)).trans bG); have hqc := hqb.alloc hBb (.cells #[.string (strB nm), .slice X data.length x] 43); have hq4 := hqc.chg (by simp; omega) (Chg.of_grown hg4) (own_br (World.ownsRow.alloc hpo _) hB1); have hb5 := (hbb.alloc hbb.size _).trans hb4; have hB4 : B ≤ w4.heap.size := (by have := hb5.size; omega); have hs4 := hb5.size; obtain ⟨qs, hqs, hql, hqo, hqd⟩ := hF4.len; have hql2 : qs.length = ps.length + 1 := (by have := congrArg List.length hqs; simp at this; omega)) | (at_builtin; refine wpList_append_app _ rfl (.tmp 31) (.tmp 33) 22 rfl w1.heap.size 43 i0 _ 2 40 Try.underlying22 hi hz0 hz1 hz2 rfl (by omega) v4 qs.length (fileCs qs) rfl (by exact .inl (World.ownsRow.alloc hqo _)) (· = w4.heap.size) _ 1 (fileC ((na, dq), .slice Xa dq.length xa)) rfl (by exact Rd.new' _ (w4.heap.size) (by simp) (fileC ((na, dq), .slice Xa dq.length xa)) 43 2 1 rfl (by unfold maxLen; omega)) (fileC_one _ _ rfl) (by unfold maxLen; omega) (by omega) (by simp; omega) ?_; intro v6 w6 _ hO6 hg6 hb6 _))
     go_roundw
     case rel =>
      refine ⟨k + 1, by omega, by go_num, by rw [HWT.out], ?_, (hb5.alloc hb5.size _).trans hb6⟩
      rw [HWT.out]
      rw [← hps, ← hqs]
      exact FlsOwn.push (q := (na, dq)) (dv := .slice Xa dq.length xa) (by simp; omega) hB1 (World.ownsRow.alloc hqo _) (fun p hp => (hqd p hp).alloc hB4 _) (hq4.alloc hB4 _) hg6 (hO6 (.inl (by omega)))
     case measure => simp [intOf]; omega
    ·rw [show wstep (nm, data) (so, false) (na, dq) = (so ++ [(na, dq)], false) from if_neg (fun h => hnl h.2)] at HWT
     have hbl : Op.bytesLess (strB nm).toList (strB na).toList = false := by rw [bytesLess_eq, strB_toL, strB_toL]; exact decide_eq_false hnl
     obtain ⟨ps, hps, hpl, hpo, hpd⟩ := hOb.len
     go_wp2_with (at_builtin; refine wpList_append_app _ rfl (.tmp 31) (.tmp 33) 22 rfl w1.heap.size 43 i0 _ 2 40 Try.underlying22 hi hz0 hz1 hz2 rfl (by omega) u5 ps.length (fileCs ps) rfl (by exact .inl (World.ownsRow.alloc hpo _)) (· = wr.heap.size + 1) _ 1 (fileC ((na, dq), .slice Xa dq.length xa)) rfl (by exact Rd.new' _ (wr.heap.size + 1) (by simp) (fileC ((na, dq), .slice Xa dq.length xa)) 43 2 1 rfl (by unfold maxLen; omega)) (fileC_one _ _ rfl) (by unfold maxLen; omega) (by omega) (by simp; omega) ?_; intro v4 w4 _ hO4 hg4 hb4 _)
     go_roundw
     case rel =>
      refine ⟨k + 1, by omega, by go_num, by rw [HWT.out], ?_, (hbb.alloc hbb.size _).trans hb4⟩
      rw [HWT.out]
      rw [← hps]
      exact FlsOwn.push (q := (na, dq)) (dv := .slice Xa dq.length xa) (by simp; omega) hB1 (World.ownsRow.alloc hpo _) (fun p hp => (hpd p hp).alloc hBb _) (hqb.alloc hBb _) hg4 (hO4 (.inl (by omega)))
     case measure => simp [intOf]; omega
  ·have hke : k = r.length := by omega
   subst hke
   rw [List.take_length] at hO hfl ⊢
   have HW2 := HWL
   generalize wfold (nm, data) r = st at *
   obtain ⟨so, sb⟩ := st
   simp only at *
   cases sb with
   | true =>
    go_wp2_with fail
    go_ret
    obtain ⟨ps, p1, p2, p3⟩ := hO
    refine ⟨_, rfl, ?_, hbw1.trans (hbw.mono (by omega))⟩
    rw [HWL.out]
    show FlsOwn w.heap.size B wr _ so
    exact ⟨ps, p1, own_base p2 (by omega), p3⟩
   | false =>
    obtain ⟨ps, hps, hpl, hpo, hpd⟩ := hO.len
    go_wp2_with (at_builtin; refine wpList_append_app _ rfl (.tmp 38) (.tmp 40) 22 rfl w1.heap.size 43 i0 _ 2 40 Try.underlying22 hi hz0 hz1 hz2 rfl (by omega) u5 ps.length (fileCs ps) rfl (by exact .inl (World.ownsRow.alloc hpo _)) (· = wr.heap.size) _ 1 (fileC ((nm, data), .slice X data.length x)) rfl (by exact Rd.new' _ (wr.heap.size) (by simp) (fileC ((nm, data), .slice X data.length x)) 43 2 1 rfl (by unfold maxLen; omega)) (fileC_one _ _ rfl) (by unfold maxLen; omega) (by omega) (by simp; omega) ?_; intro v4 w4 _ hO4 hg4 hb4 _)
    go_ret
    have hF4 := FlsOwn.push (q := (nm, data)) (dv := .slice X data.length x) (by simp; omega) hB1 (World.ownsRow.alloc hpo _) (fun p hp => (hpd p hp).alloc hBr _) (hdr.alloc hBr _) hg4 (hO4 (.inl (by omega)))
    obtain ⟨qs, p1, p2, p3⟩ := hF4
    refine ⟨_, rfl, ?_, hbw1.trans ((hbw.alloc hbw.size _).trans hb4 |>.mono (by omega))⟩
    rw [HWL.out]
    show FlsOwn w.heap.size B w4 _ (so ++ [(nm, data)])
    exact ⟨qs, p1.trans (by rw [hps]), own_base p2 (by omega), p3⟩
end
section
set_option maxRecDepth 100000
open Go.RowKit Go.Lib Go.IntWalk
def FlsGet [Inhabited Nb] (B : Nat) (fl : FL) (w0 : World) (e : Ending) (w : World) : Prop := ∃ v, e = .returned v ∧ FlsRd B w v fl ∧ Below w0.heap.size w0 w
theorem look_len {fl : FL} (hz : ∀ p ∈ fl, p.2.length ≤ 1099511627776) (nm : List UInt8) : ((lookL fl nm).getD []).length ≤ 1099511627776 := by
 cases h : lookL fl nm with
 | none => simp
 | some l => exact hz _ (lookL_mem h)
theorem FlsRd.nb {_ : Inhabited Nb} {B : Nat} {w : World} {v : Value} {fl : FL} (h : FlsRd B w v fl) (nm : List UInt8) (h0 : 0 < ((lookL fl nm).getD []).length) : NB < w.heap.size := by
 obtain ⟨ps, rfl, -, hd⟩ := h
 induction ps with
 | nil => simp [lookL] at h0
 | cons p ps ih =>
  rw [List.map_cons, lookL] at h0
  split at h0
  ·exact DatB.nb (hd p (List.mem_cons_self ..)) h0
  ·exact ih h0 (fun q hq => hd q (List.mem_cons_of_mem _ hq))
set_option maxRecDepth 100000 in
set_option maxHeartbeats 4000000 in
theorem rcarry_any [Inhabited Nb] (B : Nat) (v : Value) (fl : FL) (o : DOp) (dv : Value) (w : World) (hB : B ≤ w.heap.size) (hv : FlsRd B w v fl) (hd : DatB B w dv o.data) (hfn : fl.length ≤ 1099511627776) (hz : ∀ p ∈ fl, p.2.length ≤ 1099511627776) (hdl : o.data.length ≤ 1099511627776) (hk : o.kind ≤ 2) :
  Calls Try.prog 37 #[v, .agg #[.int .i64 (o.kind : Int), .string (strB o.name), .string (strB o.to), dv]] w (FlsGet B (carryL fl o) w) := by
 obtain ⟨kd, nm, to, data⟩ := o
 simp only at *
 obtain ⟨X, x, rfl, x1, x2, x3⟩ := Rd.open_ hd
 have HX3 := Lib.hid x3
 clear x3
 have hgl := look_len hz nm
 obtain ⟨ki, hki⟩ : ∃ ki : Int, ki = (kd : Int) := ⟨_, rfl⟩
 rw [← hki]
 obtain ⟨i0, hi, hz0, hz1, hz2⟩ := info_parts infoB
 have hb0 : Below w.heap.size w (w.alloc (.cells #[.int .i64 ki, .string (strB nm), .string (strB to), .slice X data.length x] 74)) := Below.of_alloc _
 have hB0 : B ≤ (w.alloc (.cells #[.int .i64 ki, .string (strB nm), .string (strB to), .slice X data.length x] 74)).heap.size := by simp; omega
 have k0 := box_cell w #[.int .i64 ki, .string (strB nm), .string (strB to), .slice X data.length x] 74 0 rfl
 have k1 := box_cell w #[.int .i64 ki, .string (strB nm), .string (strB to), .slice X data.length x] 74 1 rfl
 have k2 := box_cell w #[.int .i64 ki, .string (strB nm), .string (strB to), .slice X data.length x] 74 2 rfl
 have k3 := box_cell w #[.int .i64 ki, .string (strB nm), .string (strB to), .slice X data.length x] 74 3 rfl
 have CF := Lib.hid (rfind_any B v fl nm (w.alloc (.cells #[.int .i64 ki, .string (strB nm), .string (strB to), .slice X data.length x] 74)) hB0 (hv.below hB hb0) hz)
 have hk3 : kd = 0 ∨ kd = 1 ∨ kd = 2 := by omega
 rcases hk3 with rfl | rfl | rfl
 ·obtain rfl : ki = 0 := hki
  rw [show carryL fl ⟨0, nm, to, data⟩ = withL fl (nm, (lookL fl nm).getD [] ++ data) from rfl]
  go_enter Try.func37, Try.ntmps37
  go_wp2_with fail
  (with_reducible refine CF.out.mono ?_)
  rintro e w1 ⟨vb, rfl, hOb, hb1⟩
  clear CF
  have hH1 : w.heap.size < w1.heap.size := by have := hb1.size; simp at this; omega
  have hB1 : B ≤ w1.heap.size := by omega
  have k1' := (hb1.cell (p := ⟨w.heap.size, 1, none⟩) (by simp)).trans k1
  have k0' := (hb1.cell (p := ⟨w.heap.size, 0, none⟩) (by simp)).trans k0
  have k2' := (hb1.cell (p := ⟨w.heap.size, 2, none⟩) (by simp)).trans k2
  have k3' := (hb1.cell (p := ⟨w.heap.size, 3, none⟩) (by simp)).trans k3
  have hd1 := (hd.below hB hb0).below hB0 hb1
  have hW1 : Below w.heap.size w w1 := hb0.trans (hb1.mono (by simp))
  have hv1 := hv.below hB hW1
  clear k0 k1 k2 k3
  obtain ⟨Ab, cb, rfl, z1, z2, z3⟩ := hOb.rd.open_
  have HZ3 := Lib.hid z3
  clear z3
  have HNB := Lib.hid (FlsRd.nb hv nm)
  generalize (lookL fl nm).getD [] = gl at *
  have hdr := hd1.rd hB1
  have hown : w1.ownsRow (w.alloc (.cells #[.int .i64 0, .string (strB nm), .string (strB to), .slice X data.length x] 74)).heap.size 5 1 (.slice Ab gl.length cb) gl.length (bv gl) := hOb
  have hbn : ∀ b, b < (w.alloc (.cells #[.int .i64 0, .string (strB nm), .string (strB to), .slice X data.length x] 74)).heap.size → some b ≠ (Value.slice Ab gl.length cb).ownBlock := fun b hb => own_ne hown hb
  go_wp2_with (at_builtin; refine wpList_append_app _ rfl (.tmp 18) (.tmp 20) 33 rfl (w.alloc (.cells #[.int .i64 0, .string (strB nm), .string (strB to), .slice X data.length x] 74)).heap.size 5 i0 _ 1 1 Try.underlying33 hi hz0 hz1 hz2 rfl (by omega) (.slice Ab gl.length cb) gl.length (bv gl) rfl (.inl hown) (· < w1.heap.size) _ data.length (bv data) rfl hdr (bv_one data) (by unfold maxLen; omega) (by omega) (by simpa using hb1.size) ?_; intro v4 w4 _ hO4 hg4 hb4 _; have hO4 := hO4 (.inr hown); have kk4 := keepBox (b := w.heap.size) hg4 (hbn _ (by simp)) hH1; have k1'' := (kk4 1).trans k1'; obtain ⟨A4, c4, rfl, y1, y2, y3⟩ := Rd.open_ (Rd.of_own hO4); have HY3 := Lib.hid y3; clear y3)
  have hb4' : Below (w.alloc (.cells #[.int .i64 0, .string (strB nm), .string (strB to), .slice X data.length x] 74)).heap.size (w.alloc (.cells #[.int .i64 0, .string (strB nm), .string (strB to), .slice X data.length x] 74)) w4 := hb1.trans hb4
  have hW4 : Below w.heap.size w w4 := hb0.trans (hb4'.mono (by simp))
  have hB4 : B ≤ w4.heap.size := by have := hW4.size; omega
  have hv4 := hv.below hB hW4
  have hOO : OwnB w4 (w.alloc (.cells #[.int .i64 0, .string (strB nm), .string (strB to), .slice X data.length x] 74)).heap.size (.slice A4 (gl.length + data.length) c4) (gl ++ data) := by
   unfold OwnB; rw [List.length_append, show bv (gl ++ data) = bv gl ++ bv data from by simp [bv]]; exact hO4
  have HN2 : 0 < (gl ++ data).length → NB < w.heap.size := fun h0 => (Nat.eq_zero_or_pos gl.length).elim (fun hg => DatB.nb hd (by rw [List.length_append] at h0; omega)) (fun hg => HNB.out hg)
  (with_reducible refine (rwith_any B v fl nm (gl ++ data) _ w4 hB4 hv4 (DatB.of_own hOO (fun h0 => Nat.lt_of_lt_of_le (HN2 h0) hb0.size)) hfn).mono ?_)
  rintro e w5 ⟨v5, rfl, hO5, hb5⟩
  go_wp2_with fail
  go_ret
  exact ⟨_, rfl, hO5.rd, hW4.trans (hb5.mono hW4.size)⟩
 ·obtain rfl : ki = 1 := hki
  rw [show carryL fl ⟨1, nm, to, data⟩ = withoutL fl nm from rfl]
  go_enter Try.func37, Try.ntmps37
  go_wp2_with fail
  (with_reducible refine CF.out.mono ?_)
  rintro e w1 ⟨vb, rfl, hOb, hb1⟩
  clear CF
  have hH1 : w.heap.size < w1.heap.size := by have := hb1.size; simp at this; omega
  have hB1 : B ≤ w1.heap.size := by omega
  have k1' := (hb1.cell (p := ⟨w.heap.size, 1, none⟩) (by simp)).trans k1
  have k0' := (hb1.cell (p := ⟨w.heap.size, 0, none⟩) (by simp)).trans k0
  have k2' := (hb1.cell (p := ⟨w.heap.size, 2, none⟩) (by simp)).trans k2
  have k3' := (hb1.cell (p := ⟨w.heap.size, 3, none⟩) (by simp)).trans k3
  have hd1 := (hd.below hB hb0).below hB0 hb1
  have hW1 : Below w.heap.size w w1 := hb0.trans (hb1.mono (by simp))
  have hv1 := hv.below hB hW1
  clear k0 k1 k2 k3
  obtain ⟨Ab, cb, rfl, z1, z2, z3⟩ := hOb.rd.open_
  have HZ3 := Lib.hid z3
  clear z3
  go_wp2_with fail
  (with_reducible refine (rwithout_any B v fl nm w1 hB1 hv1 hfn).mono ?_)
  rintro e w5 ⟨v5, rfl, hO5, hb5⟩
  go_wp2_with fail
  go_ret
  exact ⟨_, rfl, hO5.rd, hW1.trans (hb5.mono hW1.size)⟩
 ·obtain rfl : ki = 2 := hki
  have HC : Hid (carryL fl ⟨2, nm, to, data⟩ = if (lookL fl nm).isSome = false ∨ nm = to then fl else withL (withoutL fl nm) (to, (lookL fl nm).getD [])) := Lib.hid rfl
  generalize carryL fl ⟨2, nm, to, data⟩ = cl at *
  cases hls : (lookL fl nm).isSome with
  | false =>
   rw [hls] at HC
   go_enter Try.func37, Try.ntmps37
   go_wp2_with fail
   (with_reducible refine CF.out.mono ?_)
   rintro e w1 ⟨vb, he, hOb, hb1⟩
   rw [hls] at he
   subst he
   clear CF
   have hH1 : w.heap.size < w1.heap.size := by have := hb1.size; simp at this; omega
   have hB1 : B ≤ w1.heap.size := by omega
   have k1' := (hb1.cell (p := ⟨w.heap.size, 1, none⟩) (by simp)).trans k1
   have k0' := (hb1.cell (p := ⟨w.heap.size, 0, none⟩) (by simp)).trans k0
   have k2' := (hb1.cell (p := ⟨w.heap.size, 2, none⟩) (by simp)).trans k2
   have k3' := (hb1.cell (p := ⟨w.heap.size, 3, none⟩) (by simp)).trans k3
   have hd1 := (hd.below hB hb0).below hB0 hb1
   have hW1 : Below w.heap.size w w1 := hb0.trans (hb1.mono (by simp))
   have hv1 := hv.below hB hW1
   clear k0 k1 k2 k3
   obtain ⟨Ab, cb, rfl, z1, z2, z3⟩ := hOb.rd.open_
   have HZ3 := Lib.hid z3
   clear z3
   go_wp2_with fail
   go_ret
   refine ⟨_, rfl, ?_, hW1⟩
   rw [HC.out, if_pos (by simp)]
   exact hv1
  | true =>
   rw [hls] at HC
   by_cases hen : nm = to
   ·subst hen
    have htn := str_eq_self nm
    go_enter Try.func37, Try.ntmps37
    go_wp2_with fail
    (with_reducible refine CF.out.mono ?_)
    rintro e w1 ⟨vb, he, hOb, hb1⟩
    rw [hls] at he
    subst he
    clear CF
    have hH1 : w.heap.size < w1.heap.size := by have := hb1.size; simp at this; omega
    have hB1 : B ≤ w1.heap.size := by omega
    have k1' := (hb1.cell (p := ⟨w.heap.size, 1, none⟩) (by simp)).trans k1
    have k0' := (hb1.cell (p := ⟨w.heap.size, 0, none⟩) (by simp)).trans k0
    have k2' := (hb1.cell (p := ⟨w.heap.size, 2, none⟩) (by simp)).trans k2
    have k3' := (hb1.cell (p := ⟨w.heap.size, 3, none⟩) (by simp)).trans k3
    have hd1 := (hd.below hB hb0).below hB0 hb1
    have hW1 : Below w.heap.size w w1 := hb0.trans (hb1.mono (by simp))
    have hv1 := hv.below hB hW1
    clear k0 k1 k2 k3
    obtain ⟨Ab, cb, rfl, z1, z2, z3⟩ := hOb.rd.open_
    have HZ3 := Lib.hid z3
    clear z3
    go_wp2_with fail
    go_ret
    refine ⟨_, rfl, ?_, hW1⟩
    rw [HC.out, if_pos (by simp)]
    exact hv1
   have hn2 := str_ne hen
   go_enter Try.func37, Try.ntmps37
   go_wp2_with fail
   (with_reducible refine CF.out.mono ?_)
   rintro e w1 ⟨vb, he, hOb, hb1⟩
   rw [hls] at he
   subst he
   clear CF
   have hH1 : w.heap.size < w1.heap.size := by have := hb1.size; simp at this; omega
   have hB1 : B ≤ w1.heap.size := by omega
   have k1' := (hb1.cell (p := ⟨w.heap.size, 1, none⟩) (by simp)).trans k1
   have k0' := (hb1.cell (p := ⟨w.heap.size, 0, none⟩) (by simp)).trans k0
   have k2' := (hb1.cell (p := ⟨w.heap.size, 2, none⟩) (by simp)).trans k2
   have k3' := (hb1.cell (p := ⟨w.heap.size, 3, none⟩) (by simp)).trans k3
   have hd1 := (hd.below hB hb0).below hB0 hb1
   have hW1 : Below w.heap.size w w1 := hb0.trans (hb1.mono (by simp))
   have hv1 := hv.below hB hW1
   clear k0 k1 k2 k3
   obtain ⟨Ab, cb, rfl, z1, z2, z3⟩ := hOb.rd.open_
   have HZ3 := Lib.hid z3
   clear z3
   go_wp2_with fail
   refine wp_region_noPanic ?_
   refine wp_region_held_drew (S := (fun w' => Below w1.heap.size w1 w')) (by kernel_rfl) ?_ (fun hHeld => ?_)
   ·exact (Below.refl _ _).drew
   refine heldTake 0 (some 44) (v := ?_) rfl rfl (by kernel_rfl) (by kernel_rfl) (by kernel_rfl) (by rfl) hHeld (fun _ _ _ h => h) ?_ ?_
   rotate_left
   ·intro w' hSw; (try dsimp only at hSw); go_simp <;> with_reducible rfl
   simp only [Act.put, List.setIfInBounds_toArray, List.set_cons_zero, List.set_cons_succ]
   refine heldTake 1 (some 45) (v := ?_) rfl rfl (by kernel_rfl) (by kernel_rfl) (by kernel_rfl) (by rfl) hHeld (fun _ _ _ h => h) ?_ ?_
   rotate_left
   ·intro w' hSw; (try dsimp only at hSw); go_simp <;> with_reducible rfl
   simp only [Act.put, List.setIfInBounds_toArray, List.set_cons_zero, List.set_cons_succ]
   refine heldTake 2 (some 46) (v := ?_) rfl rfl (by kernel_rfl) (by kernel_rfl) (by kernel_rfl) (by rfl) hHeld (fun _ _ _ h => h) ?_ ?_
   rotate_left
   ·intro w' hSw; (try dsimp only at hSw); have q1 := (hSw.cell (p := ⟨w.heap.size, 1, none⟩) hH1).trans k1'; have q2 := (hSw.cell (p := ⟨w.heap.size, 2, none⟩) hH1).trans k2'; go_simp <;> with_reducible rfl
   simp only [Act.put, List.setIfInBounds_toArray, List.set_cons_zero, List.set_cons_succ]
   refine heldTake 4 (some 48) (v := ?_) rfl rfl (by kernel_rfl) (by kernel_rfl) (by kernel_rfl) (by rfl) hHeld (fun _ _ _ h => h) ?_ ?_
   rotate_left
   ·intro w' hSw; (try dsimp only at hSw); go_simp <;> with_reducible rfl
   simp only [Act.put, List.setIfInBounds_toArray, List.set_cons_zero, List.set_cons_succ]
   refine heldTake 5 (some 49) (v := ?_) rfl rfl (by kernel_rfl) (by kernel_rfl) (by kernel_rfl) (by rfl) hHeld (fun _ _ _ h => h) ?_ ?_
   rotate_left
   ·intro w' hSw; (try dsimp only at hSw); have q1 := (hSw.cell (p := ⟨w.heap.size, 1, none⟩) hH1).trans k1'; have q2 := (hSw.cell (p := ⟨w.heap.size, 2, none⟩) hH1).trans k2'; go_simp <;> with_reducible rfl
   simp only [Act.put, List.setIfInBounds_toArray, List.set_cons_zero, List.set_cons_succ]
   refine heldTake 6 (some 50) (v := ?_) rfl rfl (by kernel_rfl) (by kernel_rfl) (by kernel_rfl) (by rfl) hHeld (fun _ _ _ h => h) ?_ ?_
   rotate_left
   ·intro w' hSw; (try dsimp only at hSw); go_simp <;> with_reducible rfl
   simp only [Act.put, List.setIfInBounds_toArray, List.set_cons_zero, List.set_cons_succ]
   refine heldTake 7 (some 51) (v := ?_) rfl rfl (by kernel_rfl) (by kernel_rfl) (by kernel_rfl) (by rfl) hHeld (fun _ _ _ h => h) ?_ ?_
   rotate_left
   ·intro w' hSw; (try dsimp only at hSw); go_simp <;> with_reducible rfl
   simp only [Act.put, List.setIfInBounds_toArray, List.set_cons_zero, List.set_cons_succ]
   refine heldCall 3 (some 47) (f := ?_) (args := ?_) rfl rfl (by kernel_rfl) (by rfl) ?_ ?_
   rotate_left 2
   ·go_simp <;> first | (constructor <;> with_reducible rfl) | with_reducible rfl
   (with_reducible refine (rwithout_any B _ fl nm _ ?_ ?_ hfn).mono ?_)
   ·exact hB1
   ·exact hv1
   rintro e w2 ⟨v2, rfl, hO2, hb2⟩
   refine ⟨_, rfl, keepAnd ?_ (fun hNew => ?_)⟩
   ·exact (Below.refl w1.heap.size w1).trans (Below.undrew hb2)
   clear hHeld
   have hHeld := hNew
   clear hNew
   simp only [Act.put, List.setIfInBounds_toArray, List.set_cons_zero, List.set_cons_succ]
   refine heldCall 8 (some 52) (f := ?_) (args := ?_) rfl rfl (by kernel_rfl) (by rfl) ?_ ?_
   rotate_left 2
   ·go_simp <;> first | (constructor <;> with_reducible rfl) | with_reducible rfl
   (with_reducible refine (rwith_any B _ (withoutL fl nm) to ((lookL fl nm).getD []) _ _ ?_ ?_ ?_ ?_).mono ?_)
   ·have := hb2.size; exact Nat.le_trans hB1 this
   ·exact hO2.rd
   ·exact (DatB.of_own hOb (fun h0 => Nat.lt_of_lt_of_le (FlsRd.nb hv nm h0) hb0.size)).below hB1 (Below.undrew hb2)
   ·exact Nat.le_trans (List.length_filter_le _ _) hfn
   rintro e w3 ⟨v3, rfl, hO3, hb3⟩
   refine ⟨_, rfl, keepAnd ?_ (fun hNew => ?_)⟩
   ·exact (Below.undrew hb2).trans (hb3.mono (Below.undrew hb2).size)
   clear hHeld
   have hHeld := hNew
   clear hNew
   simp only [Act.put, List.setIfInBounds_toArray, List.set_cons_zero, List.set_cons_succ]
   refine heldTake 9 (some 4) (v := ?_) rfl rfl (by kernel_rfl) (by kernel_rfl) (by kernel_rfl) (by rfl) hHeld (fun _ _ _ h => h) ?_ ?_
   rotate_left
   ·intro w' hSw; (try dsimp only at hSw); go_simp <;> with_reducible rfl
   simp only [Act.put, List.setIfInBounds_toArray, List.set_cons_zero, List.set_cons_succ]
   refine wpAnyH_done (by kernel_rfl) ?_ _
   refine NoPanic.normal ?_
   go_wp2_with fail
   go_ret
   refine ⟨_, rfl, ?_, ?_⟩
   ·rw [HC.out, if_neg (by simp [hen])]
    exact hO3.rd
   ·have hb2' := Below.undrew hb2
    exact hW1.trans ((hb2'.trans (hb3.mono hb2'.size)).mono hW1.size)
end
section
set_option maxRecDepth 100000
open Go.RowKit Go.Lib Go.IntWalk
/-- sizes: within the budget Z -/
structure RSz (Z : Nat) (fl : FL) (os : List DOp) : Prop where
 len : fl.length + os.length ≤ Z
 file : ∀ p ∈ fl, p.2.length + dsum os ≤ Z
 all : dsum os ≤ Z
 kind : ∀ o ∈ os, o.kind ≤ 2
theorem mem_with {l : FL} {f p : List UInt8 × List UInt8} (h : p ∈ withL l f) : p = f ∨ p ∈ l := by
 rw [withL_ins] at h
 rcases mem_ins h with h | h
 ·exact .inl h
 ·exact .inr (mem_without h).1
theorem len_without (l : FL) (n : List UInt8) : (withoutL l n).length ≤ l.length := List.length_filter_le _ _
theorem len_with (l : FL) (f : List UInt8 × List UInt8) : (withL l f).length ≤ l.length + 1 := by
 rw [withL_ins, len_ins]; have := len_without l f.1; omega
theorem RSz.step {Z : Nat} {fl : FL} {o : DOp} {os : List DOp} (h : RSz Z fl (o :: os)) : RSz Z (carryL fl o) os := by
 have hs : dsum (o :: os) = o.data.length + dsum os := by simp [dsum]
 have ha := h.all
 have hl := h.len
 rw [List.length_cons] at hl
 have hf : ∀ p ∈ fl, p.2.length + o.data.length + dsum os ≤ Z := fun p hp => by have := h.file p hp; omega
 have hg : ((lookL fl o.name).getD []).length + o.data.length + dsum os ≤ Z := by
  cases hk : lookL fl o.name with
  | none => simp; omega
  | some l => exact hf _ (lookL_mem hk)
 refine ⟨?_, ?_, by omega, fun x hx => h.kind x (List.mem_cons_of_mem _ hx)⟩
 ·unfold carryL
  split
  ·have := len_with fl (o.name, (lookL fl o.name).getD [] ++ o.data); omega
  ·split
   ·have := len_without fl o.name; omega
   ·split
    ·omega
    ·have := len_with (withoutL fl o.name) (o.to, (lookL fl o.name).getD []); have := len_without fl o.name; omega
 ·intro p hp
  unfold carryL at hp
  split at hp
  ·rcases mem_with hp with rfl | hp
   ·rw [List.length_append]; omega
   ·have := hf p hp; omega
  ·split at hp
   ·have := hf p (mem_without hp).1; omega
   ·split at hp
    ·have := hf p hp; omega
    ·rcases mem_with hp with rfl | hp
     ·simp only; omega
     ·have := hf p (mem_without hp).1; omega
theorem RSz.take {Z : Nat} {fl : FL} {os : List DOp} (h : RSz Z fl os) (k : Nat) : RSz Z (viewL fl (os.take k)) (os.drop k) := by
 induction os generalizing fl k with
 | nil => simpa [viewL] using h
 | cons o os ih =>
  cases k with
  | zero => simpa [viewL] using h
  | succ k => simpa [viewL] using ih h.step k
theorem RSz.view {Z : Nat} {fl : FL} {os : List DOp} (h : RSz Z fl os) : RSz Z (viewL fl os) [] := by
 have := h.take os.length
 simpa using this
theorem RSz.mono {Z Z' : Nat} {fl : FL} {os : List DOp} (h : RSz Z fl os) (hZ : Z ≤ Z') : RSz Z' fl os :=
 ⟨by have := h.len; omega, fun p hp => by have := h.file p hp; omega, by have := h.all; omega, h.kind⟩
theorem viewL_succ {fl : FL} {os : List DOp} {k : Nat} {o : DOp} (h : os[k]? = some o) : viewL fl (os.take (k + 1)) = carryL (viewL fl (os.take k)) o := by
 obtain ⟨hk, e⟩ := List.getElem?_eq_some_iff.1 h
 rw [List.take_succ_eq_append_getElem hk, viewL, List.foldl_append, e]
 rfl
/-- a block of the reference's operations -/
def DoR (B : Nat) (w : World) (b : Nat) : Prop := b < B ∨ ∃ cs, w.heap[b]? = some (.cells cs 74 (0, 0))
/-- the reference's operations -/
def DosRd [Inhabited Nb] (B : Nat) (w : World) (v : Value) (os : List DOp) : Prop := ∃ ps : List (DOp × Value), ps.map (·.1) = os ∧ Rd w (DoR B w) 4 v ps.length (opCs ps) ∧ OpsD B w ps
theorem DosRd.nil [Inhabited Nb] (B : Nat) (w : World) : DosRd B w (.slice none 0 0) [] := ⟨[], rfl, Rd.nil _ _ _, fun p hp => by cases hp⟩
theorem DosRd.chg {_ : Inhabited Nb} {B : Nat} {w w' : World} {S : Nat → Prop} {v : Value} {os : List DOp} (h : DosRd B w v os) (hB : B ≤ w.heap.size) (hc : Chg S w w') (hs : ∀ b, BR B w b → ¬ S b) (ht : ∀ b, DoR B w b → ¬ S b) : DosRd B w' v os := by
 obtain ⟨ps, h1, hr, hd⟩ := h
 have hk : ∀ b, DoR B w b → w'.heap[b]? = w.heap[b]? := by
  intro b hb
  refine hc.block b ?_ (ht b hb)
  rcases hb with hb | ⟨cs, hb⟩
  ·omega
  ·exact (Array.getElem?_eq_some_iff.1 hb).1
 refine ⟨ps, h1, (Rd.keep hr hk).wide ?_, hd.chg hB hc hs⟩
 intro b hb
 have := hk b hb
 rcases hb with hb | ⟨cs, hb⟩
 ·exact .inl hb
 ·exact .inr ⟨cs, this.trans hb⟩
theorem DosRd.below {_ : Inhabited Nb} {B : Nat} {w w' : World} {v : Value} {os : List DOp} (h : DosRd B w v os) (hB : B ≤ w.heap.size) (hb : Below w.heap.size w w') : DosRd B w' v os :=
 h.chg hB (Chg.of_below hb (fun _ => False)) (fun _ _ h => h) (fun _ _ h => h)
theorem DosRd.open_ {_ : Inhabited Nb} {B : Nat} {w : World} {v : Value} {os : List DOp} (h : DosRd B w v os) : ∃ A c, v = .slice A os.length c ∧ os.length ≤ c ∧ c ≤ maxLen ∧ (A = none → c = 0) := by
 obtain ⟨ps, rfl, hr, hd⟩ := h
 rw [List.length_map]
 exact hr.open_
theorem DosRd.elem {_ : Inhabited Nb} {B : Nat} {w : World} {A : Option Addr} {c : Nat} {os : List DOp} (h : DosRd B w (.slice A os.length c) os) {k : Nat} {o : DOp} (hk : os[k]? = some o) :
  ∃ b off dv, A = some ⟨b, off, none⟩ ∧ w.cell? ⟨b, off + k * 4, none⟩ = some (.int .i64 (o.kind : Int)) ∧ w.cell? ⟨b, off + k * 4 + 1, none⟩ = some (.string (strB o.name)) ∧ w.cell? ⟨b, off + k * 4 + 2, none⟩ = some (.string (strB o.to)) ∧ w.cell? ⟨b, off + k * 4 + 3, none⟩ = some dv ∧ DatB B w dv o.data ∧ DoR B w b := by
 obtain ⟨ps, rfl, hr, hd⟩ := h
 rw [List.length_map] at hr
 rw [List.getElem?_map, Option.map_eq_some_iff] at hk
 obtain ⟨p, hp, rfl⟩ := hk
 obtain ⟨b, off, rfl, hF, e0, e1, e2, e3⟩ := PRd.elem hr hp
 exact ⟨b, off, p.2, rfl, e0, e1, e2, e3, hd p (List.mem_of_getElem? hp), hF⟩
theorem FlsRd.box {_ : Inhabited Nb} {B H : Nat} {w w' : World} {v : Value} {fl : FL} {cs : Array Value} {fr : Nat × Nat} (h : FlsRd B w v fl) (hB : B ≤ w.heap.size) (hH : B ≤ H) (hr : w.heap[H]? = some (.cells cs 28 fr)) (hc : Chg (· = H) w w') : FlsRd B w' v fl := by
 refine h.chg hB hc (fun b hb => BR_not_cells hH hr (by decide) hb) ?_
 rintro b (hb | ⟨cs, hb⟩) rfl
 ·omega
 ·rw [hr] at hb; simp only [Option.some.injEq, Obj.cells.injEq] at hb; exact absurd hb.2.1 (by decide)
theorem DosRd.box {_ : Inhabited Nb} {B H : Nat} {w w' : World} {v : Value} {os : List DOp} {cs : Array Value} {fr : Nat × Nat} (h : DosRd B w v os) (hB : B ≤ w.heap.size) (hH : B ≤ H) (hr : w.heap[H]? = some (.cells cs 28 fr)) (hc : Chg (· = H) w w') : DosRd B w' v os := by
 refine h.chg hB hc (fun b hb => BR_not_cells hH hr (by decide) hb) ?_
 rintro b (hb | ⟨cs, hb⟩) rfl
 ·omega
 ·rw [hr] at hb; simp only [Option.some.injEq, Obj.cells.injEq] at hb; exact absurd hb.2.1 (by decide)
/-- two cells are stored -/
theorem two_store (w : World) (H : Nat) (x y a b : Value) (t : TypeId) (h : w.heap[H]? = some (.cells #[x, y] t (0, 0))) :
  w.cell? ⟨H, 0, none⟩ = some x ∧ w.frozen? ⟨H, 0, none⟩ = false ∧ (w.setCell ⟨H, 0, none⟩ a).cell? ⟨H, 1, none⟩ = some y ∧ (w.setCell ⟨H, 0, none⟩ a).frozen? ⟨H, 1, none⟩ = false ∧
   ((w.setCell ⟨H, 0, none⟩ a).setCell ⟨H, 1, none⟩ b).heap[H]? = some (.cells #[a, b] t (0, 0)) ∧ ((w.setCell ⟨H, 0, none⟩ a).setCell ⟨H, 1, none⟩ b).cell? ⟨H, 0, none⟩ = some a ∧ ((w.setCell ⟨H, 0, none⟩ a).setCell ⟨H, 1, none⟩ b).cell? ⟨H, 1, none⟩ = some b ∧
   Chg (· = H) w ((w.setCell ⟨H, 0, none⟩ a).setCell ⟨H, 1, none⟩ b) := by
 have hr2 := heap_setCell_same w H 0 _ _ a h
 have hr3 := heap_setCell_same _ H 1 _ _ b hr2
 refine ⟨cell_of_row w _ 0 _ _ _ h, frozen_of_row w _ 0 _ _ h, cell_of_row _ _ 1 _ _ _ hr2, frozen_of_row _ _ 1 _ _ hr2, hr3, cell_of_row _ _ 0 _ _ _ hr3, cell_of_row _ _ 1 _ _ _ hr3, ?_⟩
 exact Chg.setCell (S := (· = H)) (Chg.setCell (S := (· = H)) (Chg.refl _ w) (.inl rfl) _) (.inl rfl) _
set_option maxRecDepth 100000 in
set_option maxHeartbeats 2000000 in
theorem rview_any [Inhabited Nb] (B Z : Nat) (lv ov : Value) (fl : FL) (os : List DOp) (w : World) (hB : B ≤ w.heap.size) (hv : FlsRd B w lv fl) (ho : DosRd B w ov os) (hz : RSz Z fl os) (hZ : Z ≤ 1099511627776) :
  Calls Try.prog 32 #[.agg #[lv, ov]] w (FlsGet B (viewL fl os) w) := by
 obtain ⟨A, c, rfl, a1, a2, a3⟩ := hv.open_
 obtain ⟨Ao, co, rfl, b1, b2, b3⟩ := ho.open_
 have HA3 := Lib.hid a3
 have HB3 := Lib.hid b3
 have HZ := Lib.hid hz
 unfold maxLen at a2 b2
 clear a3 b3 hz
 have hb0 : Below w.heap.size w (w.alloc (.cells #[.slice A fl.length c, .slice Ao os.length co] 28)) := Below.of_alloc _
 have k0 := box_cell w #[.slice A fl.length c, .slice Ao os.length co] 28 0 rfl
 have k1 := box_cell w #[.slice A fl.length c, .slice Ao os.length co] 28 1 rfl
 go_enter Try.func32, Try.ntmps32
 go_wp2_with fail
 go_loopw [3, 11] (fun l i wr => ∃ k : Nat, k ≤ os.length ∧ i = .int .i64 (k : Int) ∧ FlsRd B wr l (viewL fl (os.take k)) ∧ Below w.heap.size w wr) (fun _ i _ => os.length - (intOf i).toNat)
 case atStart => exact ⟨0, Nat.zero_le _, rfl, hv.below hB hb0, hb0⟩
 case round =>
  obtain ⟨k, hk, rfl, hO, hbw⟩ := hrel
  have hBr : B ≤ wr.heap.size := by have := hbw.size; omega
  by_cases hlt : k < os.length
  ·obtain ⟨bo, oo, dv, rfl, e0, e1, e2, e3, hd, _⟩ := DosRd.elem (ho.below hB hbw) (List.getElem?_eq_getElem hlt)
   have hzk := HZ.out.take k
   have hkd := HZ.out.kind _ (List.getElem_mem hlt)
   have hds := dsum_drop (List.getElem?_eq_getElem hlt)
   have hzl := hzk.len
   have hza := hzk.all
   have HZF := Lib.hid hzk.file
   have HVS := Lib.hid (viewL_succ (fl := fl) (List.getElem?_eq_getElem hlt))
   generalize os[k] = o at *
   generalize viewL fl (os.take k) = vl at *
   obtain ⟨X, x, rfl, x1, x2, x3⟩ := Rd.open_ hd
   have HX3 := Lib.hid x3
   clear x3
   have hb1 : Below wr.heap.size wr (wr.alloc (.cells #[.int .i64 (o.kind : Int), .string (strB o.name), .string (strB o.to), .slice X o.data.length x] 74)) := Below.of_alloc _
   have j0 := box_cell wr #[.int .i64 (o.kind : Int), .string (strB o.name), .string (strB o.to), .slice X o.data.length x] 74 0 rfl
   have j1 := box_cell wr #[.int .i64 (o.kind : Int), .string (strB o.name), .string (strB o.to), .slice X o.data.length x] 74 1 rfl
   have j2 := box_cell wr #[.int .i64 (o.kind : Int), .string (strB o.name), .string (strB o.to), .slice X o.data.length x] 74 2 rfl
   have j3 := box_cell wr #[.int .i64 (o.kind : Int), .string (strB o.name), .string (strB o.to), .slice X o.data.length x] 74 3 rfl
   have CC := Lib.hid (rcarry_any B u3 vl o (.slice X o.data.length x) (wr.alloc (.cells #[.int .i64 (o.kind : Int), .string (strB o.name), .string (strB o.to), .slice X o.data.length x] 74)) (by simp; omega) (hO.below hBr hb1) (hd.below hBr hb1) (by omega) (fun p hp => by have := HZF.out p hp; omega) (by omega) hkd)
   go_wp2_with fail
   (with_reducible refine CC.out.mono ?_)
   rintro e w2 ⟨v2, rfl, hF2, hb2⟩
   clear CC
   have hbs := hbw.size
   go_wp2_with fail
   go_roundw
   case rel => exact ⟨k + 1, by omega, by go_num, by rw [HVS.out]; exact hF2, hbw.trans ((hb1.trans (hb2.mono (by simp))).mono hbs)⟩
   case measure => simp [intOf]; omega
  ·have hke : k = os.length := by omega
   subst hke
   rw [List.take_length] at hO
   go_wp2_with fail
   go_ret
   exact ⟨_, rfl, hO, hbw⟩
set_option maxRecDepth 100000 in
set_option maxHeartbeats 2000000 in
theorem rread_any [Inhabited Nb] (B Z : Nat) (lv ov : Value) (fl : FL) (os : List DOp) (nm : List UInt8) (w : World) (hB : B ≤ w.heap.size) (hv : FlsRd B w lv fl) (ho : DosRd B w ov os) (hz : RSz Z fl os) (hZ : Z ≤ 1099511627776) :
  Calls Try.prog 10 #[.agg #[lv, ov], .string (strB nm)] w (DRead (lookL (viewL fl os) nm) w) := by
 obtain ⟨A, c, rfl, a1, a2, a3⟩ := hv.open_
 obtain ⟨Ao, co, rfl, b1, b2, b3⟩ := ho.open_
 have HA3 := Lib.hid a3
 have HB3 := Lib.hid b3
 have HZF := Lib.hid hz.view.file
 clear a3 b3
 have hb0 : Below w.heap.size w (w.alloc (.cells #[.slice A fl.length c, .slice Ao os.length co] 28)) := Below.of_alloc _
 have k0 := box_cell w #[.slice A fl.length c, .slice Ao os.length co] 28 0 rfl
 have k1 := box_cell w #[.slice A fl.length c, .slice Ao os.length co] 28 1 rfl
 have CV := Lib.hid (rview_any B Z _ _ fl os (w.alloc (.cells #[.slice A fl.length c, .slice Ao os.length co] 28)) (by simp; omega) (hv.below hB hb0) (ho.below hB hb0) hz hZ)
 generalize viewL fl os = vl at *
 go_enter Try.func10, Try.ntmps10
 go_wp2_with fail
 (with_reducible refine CV.out.mono ?_)
 rintro e w1 ⟨v1, rfl, hF1, hb1⟩
 clear CV
 have hW1 : Below w.heap.size w w1 := hb0.trans (hb1.mono (by simp))
 have hB1 : B ≤ w1.heap.size := by have := hW1.size; omega
 go_wp2_with fail
 (with_reducible refine (rfind_any B v1 vl nm w1 hB1 hF1 (fun p hp => by have := HZF.out p hp; omega)).mono ?_)
 rintro e w2 ⟨v2, rfl, hO2, hb2⟩
 go_wp2_with fail
 go_ret2
 exact ⟨_, rfl, OwnB.base hO2 hW1.size, hW1.trans (hb2.mono hW1.size)⟩
/-- a disk of the reference -/
def RefOut [Inhabited Nb] (B : Nat) (fl : FL) (os : List DOp) (w0 : World) (e : Ending) (w : World) : Prop := ∃ lv ov, e = .returned (.agg #[lv, ov]) ∧ FlsRd B w lv fl ∧ DosRd B w ov os ∧ Below w0.heap.size w0 w
set_option maxRecDepth 100000 in
set_option maxHeartbeats 2000000 in
theorem rsync_any [Inhabited Nb] (B Z : Nat) (lv ov : Value) (fl : FL) (os : List DOp) (w : World) (hB : B ≤ w.heap.size) (hv : FlsRd B w lv fl) (ho : DosRd B w ov os) (hz : RSz Z fl os) (hZ : Z ≤ 1099511627776) :
  Calls Try.prog 28 #[.agg #[lv, ov]] w (RefOut B (viewL fl os) [] w) := by
 obtain ⟨A, c, rfl, a1, a2, a3⟩ := hv.open_
 obtain ⟨Ao, co, rfl, b1, b2, b3⟩ := ho.open_
 have HA3 := Lib.hid a3
 have HB3 := Lib.hid b3
 clear a3 b3
 have hb0 : Below w.heap.size w ((w.alloc (.cells #[.slice A fl.length c, .slice Ao os.length co] 28)).alloc (.cells #[.slice none 0 0, .slice none 0 0] 28)) := (Below.of_alloc _).trans ((Below.of_alloc _).mono (by simp))
 have k0 := (box_old (w.alloc (.cells #[.slice A fl.length c, .slice Ao os.length co] 28)) (.cells #[.slice none 0 0, .slice none 0 0] 28) w.heap.size 0 (by simp)).trans (box_cell w #[.slice A fl.length c, .slice Ao os.length co] 28 0 rfl)
 have k1 := (box_old (w.alloc (.cells #[.slice A fl.length c, .slice Ao os.length co] 28)) (.cells #[.slice none 0 0, .slice none 0 0] 28) w.heap.size 1 (by simp)).trans (box_cell w #[.slice A fl.length c, .slice Ao os.length co] 28 1 rfl)
 have hr0 : ((w.alloc (.cells #[.slice A fl.length c, .slice Ao os.length co] 28)).alloc (.cells #[.slice none 0 0, .slice none 0 0] 28)).heap[w.heap.size + 1]? = some (.cells #[.slice none 0 0, .slice none 0 0] 28 (0, 0)) := by
  have := heap_alloc_new (w.alloc (.cells #[.slice A fl.length c, .slice Ao os.length co] 28)) (.cells #[.slice none 0 0, .slice none 0 0] 28)
  simpa using this
 have HR0 := Lib.hid hr0
 clear hr0
 have CV := Lib.hid (rview_any B Z _ _ fl os ((w.alloc (.cells #[.slice A fl.length c, .slice Ao os.length co] 28)).alloc (.cells #[.slice none 0 0, .slice none 0 0] 28)) (by simp; omega) (hv.below hB hb0) (ho.below hB hb0) hz hZ)
 generalize viewL fl os = vl at *
 go_enter Try.func28, Try.ntmps28
 go_wp2_with fail
 (with_reducible refine CV.out.mono ?_)
 rintro e w1 ⟨v1, rfl, hF1, hb1⟩
 clear CV
 obtain ⟨A1, c1, rfl, d1, d2, d3⟩ := hF1.open_
 have HD3 := Lib.hid d3
 clear d3
 have hs1 : w.heap.size + 2 ≤ w1.heap.size := by have := hb1.size; simpa using this
 have hr1 := (hb1.block (w.heap.size + 1) (by simp)).trans HR0.out
 obtain ⟨q0, q1, q2, q3, q6, q4, q5, hC⟩ := two_store w1 (w.heap.size + 1) (.slice none 0 0) (.slice none 0 0) (.slice A1 vl.length c1) (.slice none 0 0) _ hr1
 have HR1 := Lib.hid hr1
 have HQ6 := Lib.hid q6
 clear hr1 q6
 have hF2 := FlsRd.box hF1 (by omega) (by omega) HR1.out hC
 have hb2 : Below w.heap.size w1 ((w1.setCell ⟨w.heap.size + 1, 0, none⟩ (.slice A1 vl.length c1)).setCell ⟨w.heap.size + 1, 1, none⟩ (.slice none 0 0)) := hC.below (by omega) (fun i hi => by omega)
 go_wp2_with fail
 refine bodyPost_ret (v := .agg #[.slice A1 vl.length c1, .slice none 0 0]) (by simp [results, Try.results28, go_sem, q4, q5]) rfl ?_
 exact ⟨_, _, rfl, hF2, DosRd.nil _ _, (hb0.trans (hb1.mono (by simp; omega))).trans hb2⟩
end
section
set_option maxRecDepth 100000
open Go.RowKit Go.Lib Go.IntWalk
theorem infoDo : (Try.prog.info? 74).map (fun i => (i.zero, i.size, i.bytes)) = some (some (.agg #[.int .i64 0, .string (strB []), .string (strB []), .slice none 0 0]), 4, 64) := by kernel_rfl
theorem dat_one {_ : Inhabited Nb} {B : Nat} {w : World} {v : Value} {l : List UInt8} (h : DatB B w v l) : v.oneCell' = true := by
 obtain ⟨A, c, rfl, _⟩ := Rd.open_ h; rfl
theorem DoR.lt {B : Nat} {w : World} {b : Nat} (h : DoR B w b) (hB : B ≤ w.heap.size) : b < w.heap.size := by
 rcases h with h | ⟨cs, h⟩
 ·omega
 ·exact (Array.getElem?_eq_some_iff.1 h).1
theorem dos_own {_ : Inhabited Nb} {B base : Nat} {w : World} {v : Value} {ps : List (DOp × Value)} (h : w.ownsRow base 74 4 v ps.length (opCs ps)) (hd : OpsD B w ps) : DosRd B w v (ps.map (·.1)) := by
 refine ⟨ps, rfl, ⟨h.1, ?_⟩, hd⟩
 rcases h.2 with ⟨rfl, h0⟩ | ⟨g, cap, cur, rfl, hb, hg, hnc, hcm, hcs, htake⟩
 ·rw [h0]
  exact ⟨none, 0, rfl, Nat.le_refl _, Nat.zero_le _, fun _ => rfl, fun h => absurd h (by omega)⟩
 ·exact ⟨_, cap, rfl, hnc, hcm, fun h => (Option.some_ne_none _ h).elim, fun _ => ⟨_, rfl, .inr ⟨cur, hg⟩, World.ownsRow.cells (g := g) h rfl⟩⟩
set_option maxRecDepth 100000 in
set_option maxHeartbeats 4000000 in
theorem rbuffered_any [Inhabited Nb] (B : Nat) (lv ov : Value) (fl : FL) (os : List DOp) (o : DOp) (dv : Value) (w : World) (hB : B ≤ w.heap.size) (hv : FlsRd B w lv fl) (ho : DosRd B w ov os) (hd : DatB B w dv o.data) (hol : os.length ≤ 1099511627776) :
  Calls Try.prog 36 #[.agg #[lv, ov], .agg #[.int .i64 (o.kind : Int), .string (strB o.name), .string (strB o.to), dv]] w (RefOut B fl (os ++ [o]) w) := by
 obtain ⟨A, c, rfl, a1, a2, a3⟩ := hv.open_
 obtain ⟨Ao, co, rfl, b1, b2, b3⟩ := ho.open_
 obtain ⟨X, x, rfl, x1, x2, x3⟩ := Rd.open_ hd
 have HA3 := Lib.hid a3
 have HB3 := Lib.hid b3
 have HX3 := Lib.hid x3
 clear a3 b3 x3
 obtain ⟨i0, hi, hz0, hz1, hz2⟩ := info_parts infoDo
 have HI := Lib.hid hi
 have HZ0 := Lib.hid hz0
 have HZ1 := Lib.hid hz1
 have HZ2 := Lib.hid hz2
 clear hi hz0 hz1 hz2
 obtain ⟨W, hW⟩ : ∃ W, W = ((w.alloc (.cells #[.slice A fl.length c, .slice Ao os.length co] 28)).alloc (.cells #[.int .i64 (o.kind : Int), .string (strB o.name), .string (strB o.to), .slice X o.data.length x] 74)).alloc (.cells #[.slice none 0 0, .slice none 0 0] 28) := ⟨_, rfl⟩
 have hWs : W.heap.size = w.heap.size + 3 := by rw [hW]; simp
 have hdr : W.drew.heap.size = W.heap.size := rfl
 have hb0 : Below w.heap.size w W := by rw [hW]; exact ((Below.of_alloc _).trans ((Below.of_alloc _).mono (by simp))).trans ((Below.of_alloc _).mono (by simp; omega))
 have hrD : W.heap[w.heap.size]? = some (.cells #[.slice A fl.length c, .slice Ao os.length co] 28 (0, 0)) := by
  rw [hW, Below.heap_alloc _ _ _ (by simp; omega), Below.heap_alloc _ _ _ (by simp)]; exact heap_alloc_new w _
 have hrO : W.heap[w.heap.size + 1]? = some (.cells #[.int .i64 (o.kind : Int), .string (strB o.name), .string (strB o.to), .slice X o.data.length x] 74 (0, 0)) := by
  rw [hW, Below.heap_alloc _ _ _ (by simp)]
  have := heap_alloc_new (w.alloc (.cells #[.slice A fl.length c, .slice Ao os.length co] 28)) (.cells #[.int .i64 (o.kind : Int), .string (strB o.name), .string (strB o.to), .slice X o.data.length x] 74)
  simpa using this
 have hrR : W.heap[w.heap.size + 2]? = some (.cells #[.slice none 0 0, .slice none 0 0] 28 (0, 0)) := by
  have := heap_alloc_new ((w.alloc (.cells #[.slice A fl.length c, .slice Ao os.length co] 28)).alloc (.cells #[.int .i64 (o.kind : Int), .string (strB o.name), .string (strB o.to), .slice X o.data.length x] 74)) (.cells #[.slice none 0 0, .slice none 0 0] 28)
  rw [hW]; simpa using this
 have hBW : B ≤ W.heap.size := by omega
 have HW := Lib.hid hW
 clear hW
 have hoW := ho.below hB hb0
 have hvW := hv.below hB hb0
 have hdW := hd.below hB hb0
 obtain ⟨ps, hps, hO, hOD⟩ := hoW
 have hpl : os.length = ps.length := by rw [← hps, List.length_map]
 have hOW : Rd W (fun b => b < w.heap.size + 3) 4 (.slice Ao os.length co) ps.length (opCs ps) := hO.wide fun b hb => by have := hb.lt hBW; omega
 have HPL := Lib.hid hpl
 have hpl2 : ps.length ≤ 1099511627776 := by omega
 clear hpl
 have HPO : Hid (∀ p ∈ ps, p.2.oneCell' = true) := Lib.hid fun p hp => dat_one (hOD p hp)
 have HOD := Lib.hid hOD
 have HPS := Lib.hid hps
 clear hO hOD hps ho hv hd
 have k1 : W.cell? ⟨w.heap.size, 1, none⟩ = some (.slice Ao os.length co) := cell_of_row _ _ 1 _ _ _ hrD
 have j0 : W.cell? ⟨w.heap.size + 1, 0, none⟩ = some (.int .i64 (o.kind : Int)) := cell_of_row _ _ 0 _ _ _ hrO
 have j1 : W.cell? ⟨w.heap.size + 1, 1, none⟩ = some (.string (strB o.name)) := cell_of_row _ _ 1 _ _ _ hrO
 have j2 : W.cell? ⟨w.heap.size + 1, 2, none⟩ = some (.string (strB o.to)) := cell_of_row _ _ 2 _ _ _ hrO
 have j3 : W.cell? ⟨w.heap.size + 1, 3, none⟩ = some (.slice X o.data.length x) := cell_of_row _ _ 3 _ _ _ hrO
 go_enter Try.func36, Try.ntmps36
 go_wp2_with fail
 rw [← HW.out]
 refine wp_region_noPanic ?_
 refine beginT (S := (fun w' => Below (w.heap.size + 3) W w')) 8 (by kernel_rfl) ?_ (fun hHeld => ?_)
 ·exact (Below.refl _ _).drew
 refine takeT 1 (some 6) (v := ?_) rfl rfl (by kernel_rfl) (by kernel_rfl) (by kernel_rfl) (by kernel_rfl) (by rfl) hHeld (fun _ _ _ h => h) ?_ ?_
 rotate_left
 ·intro w' hSw; (try dsimp only at hSw); go_simp <;> with_reducible rfl
 simp only [Act.put, List.setIfInBounds_toArray, List.set_cons_zero, List.set_cons_succ]
 refine takeT 2 (some 7) (v := ?_) rfl rfl (by kernel_rfl) (by kernel_rfl) (by kernel_rfl) (by kernel_rfl) (by rfl) hHeld (fun _ _ _ h => h) ?_ ?_
 rotate_left
 ·intro w' hSw; (try dsimp only at hSw); have q := (hSw.cell (p := ⟨w.heap.size, 1, none⟩) (show w.heap.size < w.heap.size + 3 by omega)).trans k1; go_simp <;> with_reducible rfl
 simp only [Act.put, List.setIfInBounds_toArray, List.set_cons_zero, List.set_cons_succ]
 refine takeT 4 (some 9) (v := ?_) rfl rfl (by kernel_rfl) (by kernel_rfl) (by kernel_rfl) (by kernel_rfl) (by rfl) hHeld (fun _ _ _ h => h) ?_ ?_
 rotate_left
 ·intro w' hSw; (try dsimp only at hSw); have q0 := (hSw.cell (p := ⟨w.heap.size + 1, 0, none⟩) (show w.heap.size + 1 < w.heap.size + 3 by omega)).trans j0; have q1 := (hSw.cell (p := ⟨w.heap.size + 1, 1, none⟩) (show w.heap.size + 1 < w.heap.size + 3 by omega)).trans j1; have q2 := (hSw.cell (p := ⟨w.heap.size + 1, 2, none⟩) (show w.heap.size + 1 < w.heap.size + 3 by omega)).trans j2; have q3 := (hSw.cell (p := ⟨w.heap.size + 1, 3, none⟩) (show w.heap.size + 1 < w.heap.size + 3 by omega)).trans j3; go_simp <;> with_reducible rfl
 simp only [Act.put, List.setIfInBounds_toArray, List.set_cons_zero, List.set_cons_succ]
 refine fork2 0 5 (by kernel_rfl) ?_ ?_
 ·refine runF 0 (some 5) (v := .slice (some ⟨(W.drew).heap.size, 0, none⟩) 0 0) (w' := (W.drew).alloc (.cells #[] 74)) rfl rfl (by rfl) ?_ ?_
  ·go_simp <;> with_reducible rfl
  obtain ⟨w0x, hw0x⟩ : ∃ w', w' = (W.drew).alloc (.cells #[] 74) := ⟨_, rfl⟩
  rw [← hw0x]
  have hs0 : w0x.heap.size = (W.drew).heap.size + 1 := by rw [hw0x]; simp
  have hE : w0x.ownsRow (w.heap.size + 3) 74 4 (.slice (some ⟨(W.drew).heap.size, 0, none⟩) 0 0) 0 [] := by rw [hw0x]; exact own_empty _ _ _ 4 (by have := hHeld.size; simp at this ⊢; omega)
  have hb_0 : Below (w.heap.size + 3) W w0x := by rw [hw0x]; exact hHeld.alloc (by have := hHeld.size; simp at this ⊢; omega) _
  refine keepAnd ?_ (fun hNew => ?_)
  ·intro _; exact hb_0
  have hNew := hNew (by decide)
  clear hHeld
  have hHeld := hNew
  clear hNew
  simp only [Act.put, List.setIfInBounds_toArray, List.set_cons_zero, List.set_cons_succ]
  refine fork2 3 5 (by kernel_rfl) ?_ ?_
  ·refine opF 3 rfl (by rfl) ?_
   have hs' := hHeld.size
   have hoc := (Rd.keep hOW (fun b hb => hHeld.block b hb))
   refine wp_append_app _ (.tmp 5) (.tmp 7) 26 rfl (w.heap.size + 3) 74 i0 _ 4 64 Try.underlying26 HI.out HZ0.out HZ1.out HZ2.out rfl (by omega) _ 0 [] rfl (.inl hE) _ _ ps.length (opCs ps) rfl hoc (opCs_one ps HPO.out) (by unfold maxLen; omega) (by omega) (by omega) ?_
   intro v8 w3x _ hA hgA hbA hvA
   have hA := hA (.inr hE)
   rw [Nat.zero_add, List.nil_append] at hA
   obtain ⟨A8, c8, rfl, z1, z2, z3⟩ := Rd.open_ (Rd.of_own hA)
   have HZ3 := Lib.hid z3
   clear z3
   have hb_3 : Below (w.heap.size + 3) W w3x := hHeld.trans hbA
   refine keepAnd ?_ (fun hNew => ?_)
   ·intro _; exact hb_3
   have hNew := hNew (by decide)
   clear hHeld
   have hHeld := hNew
   clear hNew
   simp only [Act.put, List.setIfInBounds_toArray, List.set_cons_zero, List.set_cons_succ]
   refine fork1 5 (by kernel_rfl) ?_
   refine runF 5 (some 10) (v := .slice (some ⟨(w3x).heap.size, 0, none⟩) 1 1) (w' := (w3x).alloc (.cells #[.int .i64 (o.kind : Int), .string (strB o.name), .string (strB o.to), .slice X o.data.length x] 74)) rfl rfl (by rfl) ?_ ?_
   ·go_simp <;> with_reducible rfl
   obtain ⟨w5x, hw5x⟩ : ∃ w', w' = (w3x).alloc (.cells #[.int .i64 (o.kind : Int), .string (strB o.name), .string (strB o.to), .slice X o.data.length x] 74) := ⟨_, rfl⟩
   rw [← hw5x]
   have hs5 : w5x.heap.size = (w3x).heap.size + 1 := by rw [hw5x]; simp
   have hN : Rd w5x (fun b => b = (w3x).heap.size) 4 (.slice (some ⟨(w3x).heap.size, 0, none⟩) 1 1) 1 (opC (o, .slice X o.data.length x)) := by rw [hw5x]; exact Rd.new' _ _ rfl (opC (o, .slice X o.data.length x)) 74 4 1 rfl (by unfold maxLen; omega)
   have hb_5 : Below (w.heap.size + 3) W w5x := by rw [hw5x]; exact hHeld.alloc (by have := hHeld.size; simp at this ⊢; omega) _
   replace hA := (by rw [hw5x]; exact own_alloc hA _ : w5x.ownsRow _ _ _ _ _ _)
   refine keepAnd ?_ (fun hNew => ?_)
   ·intro _; exact hb_5
   have hNew := hNew (by decide)
   clear hHeld
   have hHeld := hNew
   clear hNew
   simp only [Act.put, List.setIfInBounds_toArray, List.set_cons_zero, List.set_cons_succ]
   refine fork1 6 (by kernel_rfl) ?_
   refine opF 6 rfl (by rfl) ?_
   have hs' := hHeld.size
   refine wp_append_app _ (.tmp 8) (.tmp 10) 26 rfl (w.heap.size + 3) 74 i0 _ 4 64 Try.underlying26 HI.out HZ0.out HZ1.out HZ2.out rfl (by omega) _ ps.length (opCs ps) rfl (.inl hA) _ _ 1 (opC (o, .slice X o.data.length x)) rfl hN (opC_one _ rfl) (by unfold maxLen; omega) (by omega) (by omega) ?_
   intro v11 w6x _ hF hgF hbF hvF
   have hF := hF (.inl (by omega))
   obtain ⟨A11, c11, rfl, t1, t2, t3⟩ := Rd.open_ (Rd.of_own hF)
   have HT3 := Lib.hid t3
   clear t3
   have hb_6 : Below (w.heap.size + 3) W w6x := hHeld.trans hbF
   have hr6 := (hb_6.block w.heap.size (by omega)).trans hrD
   have kc6 : w6x.cell? ⟨w.heap.size, 1, none⟩ = some (.slice Ao os.length co) := cell_of_row _ _ 1 _ _ _ hr6
   have kf6 : w6x.frozen? ⟨w.heap.size, 1, none⟩ = false := frozen_of_row _ _ 1 _ _ hr6
   refine keepAnd ?_ (fun hNew => ?_)
   ·intro _; exact hb_6
   have hNew := hNew (by decide)
   clear hHeld
   have hHeld := hNew
   clear hNew
   simp only [Act.put, List.setIfInBounds_toArray, List.set_cons_zero, List.set_cons_succ]
   refine takeT 7 (some 12) (v := ?_) rfl rfl (by kernel_rfl) (by kernel_rfl) (by kernel_rfl) (by kernel_rfl) (by rfl) hHeld (fun _ _ _ h => h) ?_ ?_
   rotate_left
   ·intro w' hSw; (try dsimp only at hSw); go_simp <;> with_reducible rfl
   simp only [Act.put, List.setIfInBounds_toArray, List.set_cons_zero, List.set_cons_succ]
   refine fork1 8 (by kernel_rfl) ?_
   refine skipRunF 8 none (w' := w6x.setCell ⟨w.heap.size, 1, none⟩ (.slice A11 (ps.length + 1) c11)) rfl rfl (by rfl) ?_ ?_
   ·go_simp <;> with_reducible rfl
   refine ⟨fun h => absurd rfl h, ?_⟩
   clear hHeld
   simp only [Act.put]
   refine doneT (by kernel_rfl) ?_ _
   refine NoPanic.normal ?_
   have hb6' : Below W.heap.size W w6x := hWs ▸ hb_6
   have hB6 : B ≤ w6x.heap.size := by have := hb6'.size; omega
   have hv6 := hvW.below hBW hb6'
   have hD6 : DosRd B w6x (.slice A11 (ps.length + 1) c11) (os ++ [o]) := by
    have h := dos_own (B := B) (ps := ps ++ [(o, .slice X o.data.length x)]) (w := w6x) (base := w.heap.size + 3) (v := .slice A11 (ps.length + 1) c11) (by rw [List.length_append, show opCs (ps ++ [(o, .slice X o.data.length x)]) = opCs ps ++ opC (o, .slice X o.data.length x) from by simp [opCs]]; exact hF) (fun p hp => by
     rcases List.mem_append.1 hp with hp | hp
     ·exact (HOD.out p hp).below hBW hb6'
     ·obtain rfl := List.mem_singleton.1 hp; exact hdW.below hBW hb6')
    rw [List.map_append, HPS.out] at h
    exact h
   have hR6 := (hb_6.block (w.heap.size + 2) (by omega)).trans hrR
   have hr7 := heap_setCell_same w6x w.heap.size 1 _ _ (.slice A11 (ps.length + 1) c11) hr6
   have hC7 : Chg (· = w.heap.size) w6x (w6x.setCell ⟨w.heap.size, 1, none⟩ (.slice A11 (ps.length + 1) c11)) := Chg.setCell (S := (· = w.heap.size)) (Chg.refl _ w6x) (.inl rfl) _
   have hs6 := hb6'.size
   have hR7 := (hC7.block (w.heap.size + 2) (by omega) (by omega)).trans hR6
   have p0 : (w6x.setCell ⟨w.heap.size, 1, none⟩ (.slice A11 (ps.length + 1) c11)).cell? ⟨w.heap.size, 0, none⟩ = some (.slice A fl.length c) := cell_of_row _ _ 0 _ _ _ hr7
   have p1 : (w6x.setCell ⟨w.heap.size, 1, none⟩ (.slice A11 (ps.length + 1) c11)).cell? ⟨w.heap.size, 1, none⟩ = some (.slice A11 (ps.length + 1) c11) := cell_of_row _ _ 1 _ _ _ hr7
   have hv7 := hv6.box hB6 (by omega) hr6 hC7
   have hD7 := hD6.box hB6 (by omega) hr6 hC7
   have hb7 : Below w.heap.size w6x (w6x.setCell ⟨w.heap.size, 1, none⟩ (.slice A11 (ps.length + 1) c11)) := hC7.below (by omega) (fun i hi => by omega)
   have hs7 := hC7.size
   generalize w6x.setCell ⟨w.heap.size, 1, none⟩ (.slice A11 (ps.length + 1) c11) = w7 at *
   obtain ⟨q0, q1, q2, q3, q6, q4, q5, hC⟩ := two_store w7 (w.heap.size + 2) (.slice none 0 0) (.slice none 0 0) (.slice A fl.length c) (.slice A11 (ps.length + 1) c11) _ hR7
   have hv8 := hv7.box (by omega) (by omega) hR7 hC
   have hD8 := hD7.box (by omega) (by omega) hR7 hC
   have hb8 := hC.below (B := w.heap.size) (by omega) (fun i hi => by omega)
   clear hR7 q6 hr7 hr6 hR6
   go_wp2_with fail
   refine bodyPost_ret (v := .agg #[.slice A fl.length c, .slice A11 (ps.length + 1) c11]) (by simp [results, Try.results36, go_sem, q4, q5]) rfl ?_
   exact ⟨_, _, rfl, hv8, hD8, ((hb0.trans (hb_6.mono (by omega))).trans hb7).trans hb8⟩
  ·refine runF 5 (some 10) (v := .slice (some ⟨(w0x).heap.size, 0, none⟩) 1 1) (w' := (w0x).alloc (.cells #[.int .i64 (o.kind : Int), .string (strB o.name), .string (strB o.to), .slice X o.data.length x] 74)) rfl rfl (by rfl) ?_ ?_
   ·go_simp <;> with_reducible rfl
   obtain ⟨w5x, hw5x⟩ : ∃ w', w' = (w0x).alloc (.cells #[.int .i64 (o.kind : Int), .string (strB o.name), .string (strB o.to), .slice X o.data.length x] 74) := ⟨_, rfl⟩
   rw [← hw5x]
   have hs5 : w5x.heap.size = (w0x).heap.size + 1 := by rw [hw5x]; simp
   have hN : Rd w5x (fun b => b = (w0x).heap.size) 4 (.slice (some ⟨(w0x).heap.size, 0, none⟩) 1 1) 1 (opC (o, .slice X o.data.length x)) := by rw [hw5x]; exact Rd.new' _ _ rfl (opC (o, .slice X o.data.length x)) 74 4 1 rfl (by unfold maxLen; omega)
   have hb_5 : Below (w.heap.size + 3) W w5x := by rw [hw5x]; exact hHeld.alloc (by have := hHeld.size; simp at this ⊢; omega) _
   replace hE := (by rw [hw5x]; exact own_alloc hE _ : w5x.ownsRow _ _ _ _ _ _)
   refine keepAnd ?_ (fun hNew => ?_)
   ·intro _; exact hb_5
   have hNew := hNew (by decide)
   clear hHeld
   have hHeld := hNew
   clear hNew
   simp only [Act.put, List.setIfInBounds_toArray, List.set_cons_zero, List.set_cons_succ]
   refine fork1 3 (by kernel_rfl) ?_
   refine opF 3 rfl (by rfl) ?_
   have hs' := hHeld.size
   have hoc := (Rd.keep hOW (fun b hb => hHeld.block b hb))
   refine wp_append_app _ (.tmp 5) (.tmp 7) 26 rfl (w.heap.size + 3) 74 i0 _ 4 64 Try.underlying26 HI.out HZ0.out HZ1.out HZ2.out rfl (by omega) _ 0 [] rfl (.inl hE) _ _ ps.length (opCs ps) rfl hoc (opCs_one ps HPO.out) (by unfold maxLen; omega) (by omega) (by omega) ?_
   intro v8 w3x _ hA hgA hbA hvA
   have hA := hA (.inr hE)
   rw [Nat.zero_add, List.nil_append] at hA
   obtain ⟨A8, c8, rfl, z1, z2, z3⟩ := Rd.open_ (Rd.of_own hA)
   have HZ3 := Lib.hid z3
   clear z3
   have hb_3 : Below (w.heap.size + 3) W w3x := hHeld.trans hbA
   replace hN := Rd.keep (w' := w3x) hN (fun b hb => hgA.block b (by omega) (by intro e; have e' := Option.some.inj e; simp only at e'; omega))
   refine keepAnd ?_ (fun hNew => ?_)
   ·intro _; exact hb_3
   have hNew := hNew (by decide)
   clear hHeld
   have hHeld := hNew
   clear hNew
   simp only [Act.put, List.setIfInBounds_toArray, List.set_cons_zero, List.set_cons_succ]
   refine fork1 6 (by kernel_rfl) ?_
   refine opF 6 rfl (by rfl) ?_
   have hs' := hHeld.size
   refine wp_append_app _ (.tmp 8) (.tmp 10) 26 rfl (w.heap.size + 3) 74 i0 _ 4 64 Try.underlying26 HI.out HZ0.out HZ1.out HZ2.out rfl (by omega) _ ps.length (opCs ps) rfl (.inl hA) _ _ 1 (opC (o, .slice X o.data.length x)) rfl hN (opC_one _ rfl) (by unfold maxLen; omega) (by omega) (by omega) ?_
   intro v11 w6x _ hF hgF hbF hvF
   have hF := hF (.inl (by omega))
   obtain ⟨A11, c11, rfl, t1, t2, t3⟩ := Rd.open_ (Rd.of_own hF)
   have HT3 := Lib.hid t3
   clear t3
   have hb_6 : Below (w.heap.size + 3) W w6x := hHeld.trans hbF
   have hr6 := (hb_6.block w.heap.size (by omega)).trans hrD
   have kc6 : w6x.cell? ⟨w.heap.size, 1, none⟩ = some (.slice Ao os.length co) := cell_of_row _ _ 1 _ _ _ hr6
   have kf6 : w6x.frozen? ⟨w.heap.size, 1, none⟩ = false := frozen_of_row _ _ 1 _ _ hr6
   refine keepAnd ?_ (fun hNew => ?_)
   ·intro _; exact hb_6
   have hNew := hNew (by decide)
   clear hHeld
   have hHeld := hNew
   clear hNew
   simp only [Act.put, List.setIfInBounds_toArray, List.set_cons_zero, List.set_cons_succ]
   refine takeT 7 (some 12) (v := ?_) rfl rfl (by kernel_rfl) (by kernel_rfl) (by kernel_rfl) (by kernel_rfl) (by rfl) hHeld (fun _ _ _ h => h) ?_ ?_
   rotate_left
   ·intro w' hSw; (try dsimp only at hSw); go_simp <;> with_reducible rfl
   simp only [Act.put, List.setIfInBounds_toArray, List.set_cons_zero, List.set_cons_succ]
   refine fork1 8 (by kernel_rfl) ?_
   refine skipRunF 8 none (w' := w6x.setCell ⟨w.heap.size, 1, none⟩ (.slice A11 (ps.length + 1) c11)) rfl rfl (by rfl) ?_ ?_
   ·go_simp <;> with_reducible rfl
   refine ⟨fun h => absurd rfl h, ?_⟩
   clear hHeld
   simp only [Act.put]
   refine doneT (by kernel_rfl) ?_ _
   refine NoPanic.normal ?_
   have hb6' : Below W.heap.size W w6x := hWs ▸ hb_6
   have hB6 : B ≤ w6x.heap.size := by have := hb6'.size; omega
   have hv6 := hvW.below hBW hb6'
   have hD6 : DosRd B w6x (.slice A11 (ps.length + 1) c11) (os ++ [o]) := by
    have h := dos_own (B := B) (ps := ps ++ [(o, .slice X o.data.length x)]) (w := w6x) (base := w.heap.size + 3) (v := .slice A11 (ps.length + 1) c11) (by rw [List.length_append, show opCs (ps ++ [(o, .slice X o.data.length x)]) = opCs ps ++ opC (o, .slice X o.data.length x) from by simp [opCs]]; exact hF) (fun p hp => by
     rcases List.mem_append.1 hp with hp | hp
     ·exact (HOD.out p hp).below hBW hb6'
     ·obtain rfl := List.mem_singleton.1 hp; exact hdW.below hBW hb6')
    rw [List.map_append, HPS.out] at h
    exact h
   have hR6 := (hb_6.block (w.heap.size + 2) (by omega)).trans hrR
   have hr7 := heap_setCell_same w6x w.heap.size 1 _ _ (.slice A11 (ps.length + 1) c11) hr6
   have hC7 : Chg (· = w.heap.size) w6x (w6x.setCell ⟨w.heap.size, 1, none⟩ (.slice A11 (ps.length + 1) c11)) := Chg.setCell (S := (· = w.heap.size)) (Chg.refl _ w6x) (.inl rfl) _
   have hs6 := hb6'.size
   have hR7 := (hC7.block (w.heap.size + 2) (by omega) (by omega)).trans hR6
   have p0 : (w6x.setCell ⟨w.heap.size, 1, none⟩ (.slice A11 (ps.length + 1) c11)).cell? ⟨w.heap.size, 0, none⟩ = some (.slice A fl.length c) := cell_of_row _ _ 0 _ _ _ hr7
   have p1 : (w6x.setCell ⟨w.heap.size, 1, none⟩ (.slice A11 (ps.length + 1) c11)).cell? ⟨w.heap.size, 1, none⟩ = some (.slice A11 (ps.length + 1) c11) := cell_of_row _ _ 1 _ _ _ hr7
   have hv7 := hv6.box hB6 (by omega) hr6 hC7
   have hD7 := hD6.box hB6 (by omega) hr6 hC7
   have hb7 : Below w.heap.size w6x (w6x.setCell ⟨w.heap.size, 1, none⟩ (.slice A11 (ps.length + 1) c11)) := hC7.below (by omega) (fun i hi => by omega)
   have hs7 := hC7.size
   generalize w6x.setCell ⟨w.heap.size, 1, none⟩ (.slice A11 (ps.length + 1) c11) = w7 at *
   obtain ⟨q0, q1, q2, q3, q6, q4, q5, hC⟩ := two_store w7 (w.heap.size + 2) (.slice none 0 0) (.slice none 0 0) (.slice A fl.length c) (.slice A11 (ps.length + 1) c11) _ hR7
   have hv8 := hv7.box (by omega) (by omega) hR7 hC
   have hD8 := hD7.box (by omega) (by omega) hR7 hC
   have hb8 := hC.below (B := w.heap.size) (by omega) (fun i hi => by omega)
   clear hR7 q6 hr7 hr6 hR6
   go_wp2_with fail
   refine bodyPost_ret (v := .agg #[.slice A fl.length c, .slice A11 (ps.length + 1) c11]) (by simp [results, Try.results36, go_sem, q4, q5]) rfl ?_
   exact ⟨_, _, rfl, hv8, hD8, ((hb0.trans (hb_6.mono (by omega))).trans hb7).trans hb8⟩
 ·refine runF 5 (some 10) (v := .slice (some ⟨(W.drew).heap.size, 0, none⟩) 1 1) (w' := (W.drew).alloc (.cells #[.int .i64 (o.kind : Int), .string (strB o.name), .string (strB o.to), .slice X o.data.length x] 74)) rfl rfl (by rfl) ?_ ?_
  ·go_simp <;> with_reducible rfl
  obtain ⟨w5x, hw5x⟩ : ∃ w', w' = (W.drew).alloc (.cells #[.int .i64 (o.kind : Int), .string (strB o.name), .string (strB o.to), .slice X o.data.length x] 74) := ⟨_, rfl⟩
  rw [← hw5x]
  have hs5 : w5x.heap.size = (W.drew).heap.size + 1 := by rw [hw5x]; simp
  have hN : Rd w5x (fun b => b = (W.drew).heap.size) 4 (.slice (some ⟨(W.drew).heap.size, 0, none⟩) 1 1) 1 (opC (o, .slice X o.data.length x)) := by rw [hw5x]; exact Rd.new' _ _ rfl (opC (o, .slice X o.data.length x)) 74 4 1 rfl (by unfold maxLen; omega)
  have hb_5 : Below (w.heap.size + 3) W w5x := by rw [hw5x]; exact hHeld.alloc (by have := hHeld.size; simp at this ⊢; omega) _
  refine keepAnd ?_ (fun hNew => ?_)
  ·intro _; exact hb_5
  have hNew := hNew (by decide)
  clear hHeld
  have hHeld := hNew
  clear hNew
  simp only [Act.put, List.setIfInBounds_toArray, List.set_cons_zero, List.set_cons_succ]
  refine fork1 0 (by kernel_rfl) ?_
  refine runF 0 (some 5) (v := .slice (some ⟨(w5x).heap.size, 0, none⟩) 0 0) (w' := (w5x).alloc (.cells #[] 74)) rfl rfl (by rfl) ?_ ?_
  ·go_simp <;> with_reducible rfl
  obtain ⟨w0x, hw0x⟩ : ∃ w', w' = (w5x).alloc (.cells #[] 74) := ⟨_, rfl⟩
  rw [← hw0x]
  have hs0 : w0x.heap.size = (w5x).heap.size + 1 := by rw [hw0x]; simp
  have hE : w0x.ownsRow (w.heap.size + 3) 74 4 (.slice (some ⟨(w5x).heap.size, 0, none⟩) 0 0) 0 [] := by rw [hw0x]; exact own_empty _ _ _ 4 (by have := hHeld.size; simp at this ⊢; omega)
  have hb_0 : Below (w.heap.size + 3) W w0x := by rw [hw0x]; exact hHeld.alloc (by have := hHeld.size; simp at this ⊢; omega) _
  replace hN := Rd.keep (w' := w0x) hN (fun b hb => by rw [hw0x]; exact Below.heap_alloc _ _ b (by omega))
  refine keepAnd ?_ (fun hNew => ?_)
  ·intro _; exact hb_0
  have hNew := hNew (by decide)
  clear hHeld
  have hHeld := hNew
  clear hNew
  simp only [Act.put, List.setIfInBounds_toArray, List.set_cons_zero, List.set_cons_succ]
  refine fork1 3 (by kernel_rfl) ?_
  refine opF 3 rfl (by rfl) ?_
  have hs' := hHeld.size
  have hoc := (Rd.keep hOW (fun b hb => hHeld.block b hb))
  refine wp_append_app _ (.tmp 5) (.tmp 7) 26 rfl (w.heap.size + 3) 74 i0 _ 4 64 Try.underlying26 HI.out HZ0.out HZ1.out HZ2.out rfl (by omega) _ 0 [] rfl (.inl hE) _ _ ps.length (opCs ps) rfl hoc (opCs_one ps HPO.out) (by unfold maxLen; omega) (by omega) (by omega) ?_
  intro v8 w3x _ hA hgA hbA hvA
  have hA := hA (.inr hE)
  rw [Nat.zero_add, List.nil_append] at hA
  obtain ⟨A8, c8, rfl, z1, z2, z3⟩ := Rd.open_ (Rd.of_own hA)
  have HZ3 := Lib.hid z3
  clear z3
  have hb_3 : Below (w.heap.size + 3) W w3x := hHeld.trans hbA
  replace hN := Rd.keep (w' := w3x) hN (fun b hb => hgA.block b (by omega) (by intro e; have e' := Option.some.inj e; simp only at e'; omega))
  refine keepAnd ?_ (fun hNew => ?_)
  ·intro _; exact hb_3
  have hNew := hNew (by decide)
  clear hHeld
  have hHeld := hNew
  clear hNew
  simp only [Act.put, List.setIfInBounds_toArray, List.set_cons_zero, List.set_cons_succ]
  refine fork1 6 (by kernel_rfl) ?_
  refine opF 6 rfl (by rfl) ?_
  have hs' := hHeld.size
  refine wp_append_app _ (.tmp 8) (.tmp 10) 26 rfl (w.heap.size + 3) 74 i0 _ 4 64 Try.underlying26 HI.out HZ0.out HZ1.out HZ2.out rfl (by omega) _ ps.length (opCs ps) rfl (.inl hA) _ _ 1 (opC (o, .slice X o.data.length x)) rfl hN (opC_one _ rfl) (by unfold maxLen; omega) (by omega) (by omega) ?_
  intro v11 w6x _ hF hgF hbF hvF
  have hF := hF (.inl (by omega))
  obtain ⟨A11, c11, rfl, t1, t2, t3⟩ := Rd.open_ (Rd.of_own hF)
  have HT3 := Lib.hid t3
  clear t3
  have hb_6 : Below (w.heap.size + 3) W w6x := hHeld.trans hbF
  have hr6 := (hb_6.block w.heap.size (by omega)).trans hrD
  have kc6 : w6x.cell? ⟨w.heap.size, 1, none⟩ = some (.slice Ao os.length co) := cell_of_row _ _ 1 _ _ _ hr6
  have kf6 : w6x.frozen? ⟨w.heap.size, 1, none⟩ = false := frozen_of_row _ _ 1 _ _ hr6
  refine keepAnd ?_ (fun hNew => ?_)
  ·intro _; exact hb_6
  have hNew := hNew (by decide)
  clear hHeld
  have hHeld := hNew
  clear hNew
  simp only [Act.put, List.setIfInBounds_toArray, List.set_cons_zero, List.set_cons_succ]
  refine takeT 7 (some 12) (v := ?_) rfl rfl (by kernel_rfl) (by kernel_rfl) (by kernel_rfl) (by kernel_rfl) (by rfl) hHeld (fun _ _ _ h => h) ?_ ?_
  rotate_left
  ·intro w' hSw; (try dsimp only at hSw); go_simp <;> with_reducible rfl
  simp only [Act.put, List.setIfInBounds_toArray, List.set_cons_zero, List.set_cons_succ]
  refine fork1 8 (by kernel_rfl) ?_
  refine skipRunF 8 none (w' := w6x.setCell ⟨w.heap.size, 1, none⟩ (.slice A11 (ps.length + 1) c11)) rfl rfl (by rfl) ?_ ?_
  ·go_simp <;> with_reducible rfl
  refine ⟨fun h => absurd rfl h, ?_⟩
  clear hHeld
  simp only [Act.put]
  refine doneT (by kernel_rfl) ?_ _
  refine NoPanic.normal ?_
  have hb6' : Below W.heap.size W w6x := hWs ▸ hb_6
  have hB6 : B ≤ w6x.heap.size := by have := hb6'.size; omega
  have hv6 := hvW.below hBW hb6'
  have hD6 : DosRd B w6x (.slice A11 (ps.length + 1) c11) (os ++ [o]) := by
   have h := dos_own (B := B) (ps := ps ++ [(o, .slice X o.data.length x)]) (w := w6x) (base := w.heap.size + 3) (v := .slice A11 (ps.length + 1) c11) (by rw [List.length_append, show opCs (ps ++ [(o, .slice X o.data.length x)]) = opCs ps ++ opC (o, .slice X o.data.length x) from by simp [opCs]]; exact hF) (fun p hp => by
    rcases List.mem_append.1 hp with hp | hp
    ·exact (HOD.out p hp).below hBW hb6'
    ·obtain rfl := List.mem_singleton.1 hp; exact hdW.below hBW hb6')
   rw [List.map_append, HPS.out] at h
   exact h
  have hR6 := (hb_6.block (w.heap.size + 2) (by omega)).trans hrR
  have hr7 := heap_setCell_same w6x w.heap.size 1 _ _ (.slice A11 (ps.length + 1) c11) hr6
  have hC7 : Chg (· = w.heap.size) w6x (w6x.setCell ⟨w.heap.size, 1, none⟩ (.slice A11 (ps.length + 1) c11)) := Chg.setCell (S := (· = w.heap.size)) (Chg.refl _ w6x) (.inl rfl) _
  have hs6 := hb6'.size
  have hR7 := (hC7.block (w.heap.size + 2) (by omega) (by omega)).trans hR6
  have p0 : (w6x.setCell ⟨w.heap.size, 1, none⟩ (.slice A11 (ps.length + 1) c11)).cell? ⟨w.heap.size, 0, none⟩ = some (.slice A fl.length c) := cell_of_row _ _ 0 _ _ _ hr7
  have p1 : (w6x.setCell ⟨w.heap.size, 1, none⟩ (.slice A11 (ps.length + 1) c11)).cell? ⟨w.heap.size, 1, none⟩ = some (.slice A11 (ps.length + 1) c11) := cell_of_row _ _ 1 _ _ _ hr7
  have hv7 := hv6.box hB6 (by omega) hr6 hC7
  have hD7 := hD6.box hB6 (by omega) hr6 hC7
  have hb7 : Below w.heap.size w6x (w6x.setCell ⟨w.heap.size, 1, none⟩ (.slice A11 (ps.length + 1) c11)) := hC7.below (by omega) (fun i hi => by omega)
  have hs7 := hC7.size
  generalize w6x.setCell ⟨w.heap.size, 1, none⟩ (.slice A11 (ps.length + 1) c11) = w7 at *
  obtain ⟨q0, q1, q2, q3, q6, q4, q5, hC⟩ := two_store w7 (w.heap.size + 2) (.slice none 0 0) (.slice none 0 0) (.slice A fl.length c) (.slice A11 (ps.length + 1) c11) _ hR7
  have hv8 := hv7.box (by omega) (by omega) hR7 hC
  have hD8 := hD7.box (by omega) (by omega) hR7 hC
  have hb8 := hC.below (B := w.heap.size) (by omega) (fun i hi => by omega)
  clear hR7 q6 hr7 hr6 hR6
  go_wp2_with fail
  refine bodyPost_ret (v := .agg #[.slice A fl.length c, .slice A11 (ps.length + 1) c11]) (by simp [results, Try.results36, go_sem, q4, q5]) rfl ?_
  exact ⟨_, _, rfl, hv8, hD8, ((hb0.trans (hb_6.mono (by omega))).trans hb7).trans hb8⟩
end
section
set_option maxRecDepth 100000
open Go.RowKit Go.Lib Go.IntWalk
theorem emptyV : Value.string ⟨#[]⟩ = .string (strB []) := rfl
theorem rbuf0 [Inhabited Nb] (B : Nat) (lv ov : Value) (fl : FL) (os : List DOp) (nm data : List UInt8) (dv : Value) (w : World) (hB : B ≤ w.heap.size) (hv : FlsRd B w lv fl) (ho : DosRd B w ov os) (hd : DatB B w dv data) (hol : os.length ≤ 1099511627776) :
  Calls Try.prog 36 #[.agg #[lv, ov], .agg #[.int .i64 0, .string (strB nm), .string (strB []), dv]] w (RefOut B fl (os ++ [⟨0, nm, [], data⟩]) w) :=
 rbuffered_any B lv ov fl os ⟨0, nm, [], data⟩ dv w hB hv ho hd hol
theorem rbuf1 [Inhabited Nb] (B : Nat) (lv ov : Value) (fl : FL) (os : List DOp) (nm data : List UInt8) (dv : Value) (w : World) (hB : B ≤ w.heap.size) (hv : FlsRd B w lv fl) (ho : DosRd B w ov os) (hd : DatB B w dv data) (hol : os.length ≤ 1099511627776) :
  Calls Try.prog 36 #[.agg #[lv, ov], .agg #[.int .i64 1, .string (strB nm), .string (strB []), dv]] w (RefOut B fl (os ++ [⟨1, nm, [], data⟩]) w) :=
 rbuffered_any B lv ov fl os ⟨1, nm, [], data⟩ dv w hB hv ho hd hol
theorem rbuf2 [Inhabited Nb] (B : Nat) (lv ov : Value) (fl : FL) (os : List DOp) (nm to data : List UInt8) (dv : Value) (w : World) (hB : B ≤ w.heap.size) (hv : FlsRd B w lv fl) (ho : DosRd B w ov os) (hd : DatB B w dv data) (hol : os.length ≤ 1099511627776) :
  Calls Try.prog 36 #[.agg #[lv, ov], .agg #[.int .i64 2, .string (strB nm), .string (strB to), dv]] w (RefOut B fl (os ++ [⟨2, nm, to, data⟩]) w) :=
 rbuffered_any B lv ov fl os ⟨2, nm, to, data⟩ dv w hB hv ho hd hol
def RefOut2 [Inhabited Nb] (B : Nat) (fl : FL) (os : List DOp) (r : Int) (w0 : World) (e : Ending) (w : World) : Prop := ∃ lv ov, e = .returned (.tuple #[.agg #[lv, ov], .int .i64 r]) ∧ FlsRd B w lv fl ∧ DosRd B w ov os ∧ Below w0.heap.size w0 w
set_option maxRecDepth 100000 in
set_option maxHeartbeats 4000000 in
theorem rappend_bad [Inhabited Nb] (B : Nat) (lv ov : Value) (fl : FL) (os : List DOp) (nm : List UInt8) (v : Value) (w : World) (hB : B ≤ w.heap.size) (hv : FlsRd B w lv fl) (ho : DosRd B w ov os) (hnl : nm.length ≤ maxLen) (hw : wordF nm = false) :
  Calls Try.prog 25 #[.agg #[lv, ov], .string (strB nm), v] w (RefOut2 B fl os 8 w) := by
 obtain ⟨A, c, rfl, a1, a2, a3⟩ := hv.open_
 obtain ⟨Ao, co, rfl, b1, b2, b3⟩ := ho.open_
 have HA3 := Lib.hid a3
 have HB3 := Lib.hid b3
 clear a3 b3
 obtain ⟨W, hW⟩ : ∃ W, W = (w.alloc (.cells #[.slice A fl.length c, .slice Ao os.length co] 28)).alloc (.cells #[.slice none 0 0, .slice none 0 0] 28) := ⟨_, rfl⟩
 have hWs : W.heap.size = w.heap.size + 2 := by rw [hW]; simp
 have hdr : W.drew.heap.size = W.heap.size := rfl
 have hb0 : Below w.heap.size w W := by rw [hW]; exact (Below.of_alloc _).trans ((Below.of_alloc _).mono (by simp))
 have hrD : W.heap[w.heap.size]? = some (.cells #[.slice A fl.length c, .slice Ao os.length co] 28 (0, 0)) := by
  rw [hW, Below.heap_alloc _ _ _ (by simp)]; exact heap_alloc_new w _
 have hrR : W.heap[w.heap.size + 1]? = some (.cells #[.slice none 0 0, .slice none 0 0] 28 (0, 0)) := by
  have := heap_alloc_new (w.alloc (.cells #[.slice A fl.length c, .slice Ao os.length co] 28)) (.cells #[.slice none 0 0, .slice none 0 0] 28)
  rw [hW]; simpa using this
 have hBW : B ≤ W.heap.size := by omega
 have hvW := hv.below hB hb0
 have hoW := ho.below hB hb0
 have k0 : W.cell? ⟨w.heap.size, 0, none⟩ = some (.slice A fl.length c) := cell_of_row _ _ 0 _ _ _ hrD
 have k1 : W.cell? ⟨w.heap.size, 1, none⟩ = some (.slice Ao os.length co) := cell_of_row _ _ 1 _ _ _ hrD
 have HW := Lib.hid hW
 clear hW
 have CN := Lib.hid (rname_any nm W hnl)
 rw [hw] at CN
 go_enter Try.func25, Try.ntmps25
 go_wp2_with fail
 rw [← HW.out]
 (with_reducible refine CN.out.mono ?_)
 rintro e w2 ⟨rfl, rfl⟩
 obtain ⟨q0, q1, q2, q3, q6, q4, q5, hC⟩ := two_store W (w.heap.size + 1) (.slice none 0 0) (.slice none 0 0) (.slice A fl.length c) (.slice Ao os.length co) _ hrR
 have hv7 := FlsRd.box hvW (by omega) (by omega) hrR hC
 have ho7 := DosRd.box hoW (by omega) (by omega) hrR hC
 have hb7 := hC.below (B := w.heap.size) (by omega) (fun i hi => by omega)
 clear q6
 go_wp2_with fail
 refine bodyPost_ret (v := .tuple #[.agg #[.slice A fl.length c, .slice Ao os.length co], .int .i64 8]) (by simp [results, Try.results25, go_sem, q4, q5]) rfl ?_
 exact ⟨_, _, rfl, hv7, ho7, (hb0).trans hb7⟩
set_option maxRecDepth 100000 in
set_option maxHeartbeats 4000000 in
theorem rappend_ok [Inhabited Nb] (B : Nat) (lv ov : Value) (fl : FL) (os : List DOp) (nm : List UInt8) (v : Value) (data : List UInt8) (w : World) (hB : B ≤ w.heap.size) (hnb : NB < w.heap.size) (hv : FlsRd B w lv fl) (ho : DosRd B w ov os) (hnl : nm.length ≤ maxLen) (hw : wordF nm = true) (hd : RdB w (· < w.heap.size) v data) (hol : os.length ≤ 1099511627776) (hdl : data.length ≤ 1099511627776) :
  Calls Try.prog 25 #[.agg #[lv, ov], .string (strB nm), v] w (RefOut2 B fl (os ++ [⟨0, nm, [], data⟩]) 0 w) := by
 obtain ⟨A, c, rfl, a1, a2, a3⟩ := hv.open_
 obtain ⟨Ao, co, rfl, b1, b2, b3⟩ := ho.open_
 have HA3 := Lib.hid a3
 have HB3 := Lib.hid b3
 clear a3 b3
 obtain ⟨W, hW⟩ : ∃ W, W = (w.alloc (.cells #[.slice A fl.length c, .slice Ao os.length co] 28)).alloc (.cells #[.slice none 0 0, .slice none 0 0] 28) := ⟨_, rfl⟩
 have hWs : W.heap.size = w.heap.size + 2 := by rw [hW]; simp
 have hdr : W.drew.heap.size = W.heap.size := rfl
 have hb0 : Below w.heap.size w W := by rw [hW]; exact (Below.of_alloc _).trans ((Below.of_alloc _).mono (by simp))
 have hrD : W.heap[w.heap.size]? = some (.cells #[.slice A fl.length c, .slice Ao os.length co] 28 (0, 0)) := by
  rw [hW, Below.heap_alloc _ _ _ (by simp)]; exact heap_alloc_new w _
 have hrR : W.heap[w.heap.size + 1]? = some (.cells #[.slice none 0 0, .slice none 0 0] 28 (0, 0)) := by
  have := heap_alloc_new (w.alloc (.cells #[.slice A fl.length c, .slice Ao os.length co] 28)) (.cells #[.slice none 0 0, .slice none 0 0] 28)
  rw [hW]; simpa using this
 have hBW : B ≤ W.heap.size := by omega
 have hvW := hv.below hB hb0
 have hoW := ho.below hB hb0
 have k0 : W.cell? ⟨w.heap.size, 0, none⟩ = some (.slice A fl.length c) := cell_of_row _ _ 0 _ _ _ hrD
 have k1 : W.cell? ⟨w.heap.size, 1, none⟩ = some (.slice Ao os.length co) := cell_of_row _ _ 1 _ _ _ hrD
 have HW := Lib.hid hW
 clear hW
 have CN := Lib.hid (rname_any nm W hnl)
 rw [hw] at CN
 have hdW : RdB W (· < w.heap.size) v data := Rd.keep hd (fun b hb => hb0.block b hb)
 obtain ⟨X, x, rfl, x1, x2, x3⟩ := Rd.open_ hd
 have HX3 := Lib.hid x3
 clear x3
 obtain ⟨i0, hi, hz0, hz1, hz2⟩ := info_parts infoB
 have HI := Lib.hid hi
 have HZ0 := Lib.hid hz0
 have HZ1 := Lib.hid hz1
 have HZ2 := Lib.hid hz2
 clear hi hz0 hz1 hz2
 go_enter Try.func25, Try.ntmps25
 go_wp2_with fail
 rw [← HW.out]
 (with_reducible refine CN.out.mono ?_)
 rintro e w2 ⟨rfl, rfl⟩
 go_wp2_with fail
 refine wp_region_noPanic ?_
 refine beginT (S := (fun w' => Below (w.heap.size + 1) W w')) 8 (by kernel_rfl) ?_ (fun hHeld => ?_)
 ·exact (Below.refl _ _).drew
 refine takeT 0 (some 12) (v := ?_) rfl rfl (by kernel_rfl) (by kernel_rfl) (by kernel_rfl) (by kernel_rfl) (by rfl) hHeld (fun _ _ _ h => h) ?_ ?_
 rotate_left
 ·intro w' hSw; (try dsimp only at hSw); have q0 := (hSw.cell (p := ⟨w.heap.size, 0, none⟩) (show w.heap.size < w.heap.size + 1 by omega)).trans k0; have q1 := (hSw.cell (p := ⟨w.heap.size, 1, none⟩) (show w.heap.size < w.heap.size + 1 by omega)).trans k1; go_simp <;> with_reducible rfl
 simp only [Act.put, List.setIfInBounds_toArray, List.set_cons_zero, List.set_cons_succ]
 refine takeT 1 (some 13) (v := ?_) rfl rfl (by kernel_rfl) (by kernel_rfl) (by kernel_rfl) (by kernel_rfl) (by rfl) hHeld (fun _ _ _ h => h) ?_ ?_
 rotate_left
 ·intro w' hSw; (try dsimp only at hSw); go_simp <;> with_reducible rfl
 simp only [Act.put, List.setIfInBounds_toArray, List.set_cons_zero, List.set_cons_succ]
 refine takeT 3 (some 15) (v := ?_) rfl rfl (by kernel_rfl) (by kernel_rfl) (by kernel_rfl) (by kernel_rfl) (by rfl) hHeld (fun _ _ _ h => h) ?_ ?_
 rotate_left
 ·intro w' hSw; (try dsimp only at hSw); go_simp <;> with_reducible rfl
 simp only [Act.put, List.setIfInBounds_toArray, List.set_cons_zero, List.set_cons_succ]
 refine fork1 2 (by kernel_rfl) ?_
 refine runF 2 (some 14) (v := .slice (some ⟨(W.drew).heap.size, 0, none⟩) 0 0) (w' := (W.drew).alloc (.cells #[] 5)) rfl rfl (by rfl) ?_ ?_
 ·go_simp <;> with_reducible rfl
 obtain ⟨w2x, hw2x⟩ : ∃ w', w' = (W.drew).alloc (.cells #[] 5) := ⟨_, rfl⟩
 rw [← hw2x]
 have hE : w2x.ownsRow (w.heap.size + 2) 5 1 (.slice (some ⟨(W.drew).heap.size, 0, none⟩) 0 0) 0 [] := by rw [hw2x]; exact own_empty _ _ _ 1 (by omega)
 have hb_2 : Below (w.heap.size + 2) W w2x := by rw [hw2x]; exact (Below.refl _ _).drew.alloc (by omega) _
 refine keepAnd ?_ (fun hNew => ?_)
 ·intro _; exact hb_2.mono (by omega)
 have hNew := hNew (by decide)
 clear hHeld
 have hHeld := hNew
 clear hNew
 simp only [Act.put, List.setIfInBounds_toArray, List.set_cons_zero, List.set_cons_succ]
 refine fork1 4 (by kernel_rfl) ?_
 refine opF 4 rfl (by rfl) ?_
 have hs' := hb_2.size
 refine wp_append_app _ (.tmp 14) (.tmp 15) 33 rfl (w.heap.size + 2) 5 i0 _ 1 1 Try.underlying33 HI.out HZ0.out HZ1.out HZ2.out rfl (by omega) _ 0 [] rfl (.inl hE) _ _ data.length (bv data) rfl (Rd.keep hdW (fun b hb => hb_2.block b (by omega))) (bv_one data) (by unfold maxLen; omega) (by omega) (by omega) ?_
 intro v4 w4x _ hA hgA hbA hvA
 have hA := hA (.inr hE)
 rw [Nat.zero_add, List.nil_append] at hA
 obtain ⟨A4, c4, rfl, z1, z2, z3⟩ := Rd.open_ (Rd.of_own hA)
 have HZ3 := Lib.hid z3
 clear z3
 have hb_4 : Below (w.heap.size + 2) W w4x := hb_2.trans hbA
 refine keepAnd ?_ (fun hNew => ?_)
 ·intro _; exact hb_4.mono (by omega)
 have hNew := hNew (by decide)
 clear hHeld
 have hHeld := hNew
 clear hNew
 simp only [Act.put, List.setIfInBounds_toArray, List.set_cons_zero, List.set_cons_succ]
 refine takeT 5 (some 17) (v := ?_) rfl rfl (by kernel_rfl) (by kernel_rfl) (by kernel_rfl) (by kernel_rfl) (by rfl) hHeld (fun _ _ _ h => h) ?_ ?_
 rotate_left
 ·intro w' hSw; (try dsimp only at hSw); go_simp <;> with_reducible rfl
 simp only [Act.put, List.setIfInBounds_toArray, List.set_cons_zero, List.set_cons_succ]
 refine fork1 6 (by kernel_rfl) ?_
 refine callF 6 (some 18) (f := ?_) (args := ?_) rfl rfl (by rfl) ?_ ?_
 rotate_left 2
 ·go_simp <;> first | (constructor <;> with_reducible rfl) | with_reducible rfl
 have hb4W : Below W.heap.size W w4x := hWs ▸ hb_4
 have hs4 := hb4W.size
 rw [emptyV]
 (with_reducible refine (rbuf0 B _ _ fl os nm data (.slice A4 data.length c4) w4x ?_ ?_ ?_ ?_ hol).mono ?_)
 ·omega
 ·exact hvW.below hBW hb4W
 ·exact hoW.below hBW hb4W
 ·exact DatB.of_own hA (fun _ => by omega)
 rintro e w6x ⟨l6, o6, rfl, hl6, ho6, hb6⟩
 obtain ⟨A6, c6, rfl, s1, s2, s3⟩ := hl6.open_
 obtain ⟨B6, d6, rfl, t1, t2, t3⟩ := ho6.open_
 generalize hn6 : (os ++ [(⟨0, nm, [], data⟩ : DOp)]).length = n6 at *
 clear hn6
 have HS3 := Lib.hid s3
 have HT3 := Lib.hid t3
 clear s3 t3
 have hb_6 : Below (w.heap.size + 2) W w6x := hb_4.trans (hb6.mono (by omega))
 have hs6 := hb_6.size
 have hR6 := (hb_6.block (w.heap.size + 1) (by omega)).trans hrR
 obtain ⟨q0, q1, q2, q3, q6, q4, q5, hC⟩ := two_store w6x (w.heap.size + 1) (.slice none 0 0) (.slice none 0 0) (.slice A6 fl.length c6) (.slice B6 n6 d6) _ hR6
 have hv7 := FlsRd.box hl6 (by omega) (by omega) hR6 hC
 have ho7 := DosRd.box ho6 (by omega) (by omega) hR6 hC
 have hb7 := hC.below (B := w.heap.size) (by omega) (fun i hi => by omega)
 clear q6
 refine ⟨_, rfl, ?_⟩
 refine keepAnd ?_ (fun hNew => ?_)
 ·intro _; exact hb_6.mono (by omega)
 have hNew := hNew (by decide)
 clear hHeld
 have hHeld := hNew
 clear hNew
 simp only [Act.put, List.setIfInBounds_toArray, List.set_cons_zero, List.set_cons_succ]
 refine fork1 7 (by kernel_rfl) ?_
 refine skipRunF 7 none (w' := (w6x.setCell ⟨w.heap.size + 1, 0, none⟩ (.slice A6 fl.length c6)).setCell ⟨w.heap.size + 1, 1, none⟩ (.slice B6 n6 d6)) rfl rfl (by rfl) ?_ ?_
 ·go_simp <;> with_reducible rfl
 refine keepAnd ?_ (fun hNew => ?_)
 ·intro _; exact (hb_6.mono (by omega)).trans (hC.below (B := w.heap.size + 1) (by omega) (fun i hi => by omega))
 have hNew := hNew (by decide)
 clear hHeld
 have hHeld := hNew
 clear hNew
 simp only [Act.put]
 refine fork1 8 (by kernel_rfl) ?_
 refine runF 8 (some 7) (v := ?_) (w' := ?_) rfl rfl (by rfl) ?_ ?_
 rotate_left 2
 ·go_simp <;> first | with_reducible rfl | (constructor <;> with_reducible rfl)
 refine ⟨fun h => absurd rfl h, ?_⟩
 clear hHeld
 simp only [Act.put, List.setIfInBounds_toArray, List.set_cons_zero, List.set_cons_succ]
 refine doneT (by kernel_rfl) ?_ _
 refine NoPanic.normal ?_
 go_wp2_with fail
 refine bodyPost_ret (v := .tuple #[.agg #[.slice A6 fl.length c6, .slice B6 n6 d6], .int .i64 0]) (by simp [results, Try.results25, go_sem, q4, q5]) rfl ?_
 exact ⟨_, _, rfl, hv7, ho7, (hb0.trans (hb_6.mono (by omega))).trans hb7⟩
set_option maxRecDepth 100000 in
set_option maxHeartbeats 4000000 in
theorem rremove_no [Inhabited Nb] (B Z : Nat) (lv ov : Value) (fl : FL) (os : List DOp) (nm : List UInt8) (w : World) (hB : B ≤ w.heap.size) (hv : FlsRd B w lv fl) (ho : DosRd B w ov os) (hz : RSz Z fl os) (hZ : Z ≤ 1099511627776) (hx : (lookL (viewL fl os) nm).isSome = false) :
  Calls Try.prog 26 #[.agg #[lv, ov], .string (strB nm)] w (RefOut2 B fl os 11 w) := by
 obtain ⟨A, c, rfl, a1, a2, a3⟩ := hv.open_
 obtain ⟨Ao, co, rfl, b1, b2, b3⟩ := ho.open_
 have HA3 := Lib.hid a3
 have HB3 := Lib.hid b3
 clear a3 b3
 obtain ⟨W, hW⟩ : ∃ W, W = (w.alloc (.cells #[.slice A fl.length c, .slice Ao os.length co] 28)).alloc (.cells #[.slice none 0 0, .slice none 0 0] 28) := ⟨_, rfl⟩
 have hWs : W.heap.size = w.heap.size + 2 := by rw [hW]; simp
 have hdr : W.drew.heap.size = W.heap.size := rfl
 have hb0 : Below w.heap.size w W := by rw [hW]; exact (Below.of_alloc _).trans ((Below.of_alloc _).mono (by simp))
 have hrD : W.heap[w.heap.size]? = some (.cells #[.slice A fl.length c, .slice Ao os.length co] 28 (0, 0)) := by
  rw [hW, Below.heap_alloc _ _ _ (by simp)]; exact heap_alloc_new w _
 have hrR : W.heap[w.heap.size + 1]? = some (.cells #[.slice none 0 0, .slice none 0 0] 28 (0, 0)) := by
  have := heap_alloc_new (w.alloc (.cells #[.slice A fl.length c, .slice Ao os.length co] 28)) (.cells #[.slice none 0 0, .slice none 0 0] 28)
  rw [hW]; simpa using this
 have hBW : B ≤ W.heap.size := by omega
 have hvW := hv.below hB hb0
 have hoW := ho.below hB hb0
 have k0 : W.cell? ⟨w.heap.size, 0, none⟩ = some (.slice A fl.length c) := cell_of_row _ _ 0 _ _ _ hrD
 have k1 : W.cell? ⟨w.heap.size, 1, none⟩ = some (.slice Ao os.length co) := cell_of_row _ _ 1 _ _ _ hrD
 have HW := Lib.hid hW
 clear hW
 have CR := Lib.hid (rread_any B Z _ _ fl os nm W hBW hvW hoW hz hZ)
 generalize hlk : lookL (viewL fl os) nm = lk at *
 have hxs : lk.isSome = false := hx
 have HLK := Lib.hid hlk
 clear hlk hx
 go_enter Try.func26, Try.ntmps26
 go_wp2_with fail
 rw [← HW.out]
 (with_reducible refine CR.out.mono ?_)
 rintro e w2 ⟨vr, he, hOr, hb2⟩
 rw [hxs] at he
 subst he
 clear CR
 have hs2 := hb2.size
 have hbW2 : Below w.heap.size w w2 := hb0.trans (hb2.mono (by omega))
 have hv2 := hvW.below hBW hb2
 have ho2 := hoW.below hBW hb2
 have hD2 := (hb2.block w.heap.size (by omega)).trans hrD
 have hR2 := (hb2.block (w.heap.size + 1) (by omega)).trans hrR
 have p0 : w2.cell? ⟨w.heap.size, 0, none⟩ = some (.slice A fl.length c) := cell_of_row _ _ 0 _ _ _ hD2
 have p1 : w2.cell? ⟨w.heap.size, 1, none⟩ = some (.slice Ao os.length co) := cell_of_row _ _ 1 _ _ _ hD2
 obtain ⟨q0, q1, q2, q3, q6, q4, q5, hC⟩ := two_store w2 (w.heap.size + 1) (.slice none 0 0) (.slice none 0 0) (.slice A fl.length c) (.slice Ao os.length co) _ hR2
 have hv7 := FlsRd.box hv2 (by omega) (by omega) hR2 hC
 have ho7 := DosRd.box ho2 (by omega) (by omega) hR2 hC
 have hb7 := hC.below (B := w.heap.size) (by omega) (fun i hi => by omega)
 clear q6
 go_wp2_with fail
 refine bodyPost_ret (v := .tuple #[.agg #[.slice A fl.length c, .slice Ao os.length co], .int .i64 11]) (by simp [results, Try.results26, go_sem, q4, q5]) rfl ?_
 exact ⟨_, _, rfl, hv7, ho7, (hbW2).trans hb7⟩
set_option maxRecDepth 100000 in
set_option maxHeartbeats 4000000 in
theorem rremove_ok [Inhabited Nb] (B Z : Nat) (lv ov : Value) (fl : FL) (os : List DOp) (nm : List UInt8) (w : World) (hB : B ≤ w.heap.size) (hv : FlsRd B w lv fl) (ho : DosRd B w ov os) (hz : RSz Z fl os) (hZ : Z ≤ 1099511627776) (hx : (lookL (viewL fl os) nm).isSome = true) (hol : os.length ≤ 1099511627776) :
  Calls Try.prog 26 #[.agg #[lv, ov], .string (strB nm)] w (RefOut2 B fl (os ++ [⟨1, nm, [], []⟩]) 0 w) := by
 obtain ⟨A, c, rfl, a1, a2, a3⟩ := hv.open_
 obtain ⟨Ao, co, rfl, b1, b2, b3⟩ := ho.open_
 have HA3 := Lib.hid a3
 have HB3 := Lib.hid b3
 clear a3 b3
 obtain ⟨W, hW⟩ : ∃ W, W = (w.alloc (.cells #[.slice A fl.length c, .slice Ao os.length co] 28)).alloc (.cells #[.slice none 0 0, .slice none 0 0] 28) := ⟨_, rfl⟩
 have hWs : W.heap.size = w.heap.size + 2 := by rw [hW]; simp
 have hdr : W.drew.heap.size = W.heap.size := rfl
 have hb0 : Below w.heap.size w W := by rw [hW]; exact (Below.of_alloc _).trans ((Below.of_alloc _).mono (by simp))
 have hrD : W.heap[w.heap.size]? = some (.cells #[.slice A fl.length c, .slice Ao os.length co] 28 (0, 0)) := by
  rw [hW, Below.heap_alloc _ _ _ (by simp)]; exact heap_alloc_new w _
 have hrR : W.heap[w.heap.size + 1]? = some (.cells #[.slice none 0 0, .slice none 0 0] 28 (0, 0)) := by
  have := heap_alloc_new (w.alloc (.cells #[.slice A fl.length c, .slice Ao os.length co] 28)) (.cells #[.slice none 0 0, .slice none 0 0] 28)
  rw [hW]; simpa using this
 have hBW : B ≤ W.heap.size := by omega
 have hvW := hv.below hB hb0
 have hoW := ho.below hB hb0
 have k0 : W.cell? ⟨w.heap.size, 0, none⟩ = some (.slice A fl.length c) := cell_of_row _ _ 0 _ _ _ hrD
 have k1 : W.cell? ⟨w.heap.size, 1, none⟩ = some (.slice Ao os.length co) := cell_of_row _ _ 1 _ _ _ hrD
 have HW := Lib.hid hW
 clear hW
 have CR := Lib.hid (rread_any B Z _ _ fl os nm W hBW hvW hoW hz hZ)
 generalize hlk : lookL (viewL fl os) nm = lk at *
 have hxs : lk.isSome = true := hx
 have HLK := Lib.hid hlk
 clear hlk hx
 go_enter Try.func26, Try.ntmps26
 go_wp2_with fail
 rw [← HW.out]
 (with_reducible refine CR.out.mono ?_)
 rintro e w2 ⟨vr, he, hOr, hb2⟩
 rw [hxs] at he
 subst he
 clear CR
 have hs2 := hb2.size
 have hbW2 : Below w.heap.size w w2 := hb0.trans (hb2.mono (by omega))
 have hv2 := hvW.below hBW hb2
 have ho2 := hoW.below hBW hb2
 have hD2 := (hb2.block w.heap.size (by omega)).trans hrD
 have hR2 := (hb2.block (w.heap.size + 1) (by omega)).trans hrR
 have p0 : w2.cell? ⟨w.heap.size, 0, none⟩ = some (.slice A fl.length c) := cell_of_row _ _ 0 _ _ _ hD2
 have p1 : w2.cell? ⟨w.heap.size, 1, none⟩ = some (.slice Ao os.length co) := cell_of_row _ _ 1 _ _ _ hD2
 go_wp2_with fail
 rw [emptyV]
 (with_reducible refine (rbuf1 B _ _ fl os nm [] (.slice none 0 0) w2 ?_ ?_ ?_ ?_ hol).mono ?_)
 ·omega
 ·exact hv2
 ·exact ho2
 ·exact DatB.nil _ _
 rintro e w6x ⟨l6, o6, rfl, hl6, ho6, hb6⟩
 obtain ⟨A6, c6, rfl, s1, s2, s3⟩ := hl6.open_
 obtain ⟨B6, d6, rfl, t1, t2, t3⟩ := ho6.open_
 generalize hn6 : (os ++ [(⟨1, nm, [], []⟩ : DOp)]).length = n6 at *
 clear hn6
 have HS3 := Lib.hid s3
 have HT3 := Lib.hid t3
 clear s3 t3
 have hs6 := hb6.size
 have hR6 := (hb6.block (w.heap.size + 1) (by omega)).trans hR2
 obtain ⟨q0, q1, q2, q3, q6, q4, q5, hC⟩ := two_store w6x (w.heap.size + 1) (.slice none 0 0) (.slice none 0 0) (.slice A6 fl.length c6) (.slice B6 n6 d6) _ hR6
 have hv7 := FlsRd.box hl6 (by omega) (by omega) hR6 hC
 have ho7 := DosRd.box ho6 (by omega) (by omega) hR6 hC
 have hb7 := hC.below (B := w.heap.size) (by omega) (fun i hi => by omega)
 clear q6
 go_wp2_with fail
 refine bodyPost_ret (v := .tuple #[.agg #[.slice A6 fl.length c6, .slice B6 n6 d6], .int .i64 0]) (by simp [results, Try.results26, go_sem, q4, q5]) rfl ?_
 exact ⟨_, _, rfl, hv7, ho7, ((hbW2).trans (hb6.mono (by omega))).trans hb7⟩
set_option maxRecDepth 100000 in
set_option maxHeartbeats 4000000 in
theorem rrename_no [Inhabited Nb] (B Z : Nat) (lv ov : Value) (fl : FL) (os : List DOp) (nm to : List UInt8) (w : World) (hB : B ≤ w.heap.size) (hv : FlsRd B w lv fl) (ho : DosRd B w ov os) (hz : RSz Z fl os) (hZ : Z ≤ 1099511627776) (hx : (lookL (viewL fl os) nm).isSome = false) :
  Calls Try.prog 27 #[.agg #[lv, ov], .string (strB nm), .string (strB to)] w (RefOut2 B fl os 11 w) := by
 obtain ⟨A, c, rfl, a1, a2, a3⟩ := hv.open_
 obtain ⟨Ao, co, rfl, b1, b2, b3⟩ := ho.open_
 have HA3 := Lib.hid a3
 have HB3 := Lib.hid b3
 clear a3 b3
 obtain ⟨W, hW⟩ : ∃ W, W = (w.alloc (.cells #[.slice A fl.length c, .slice Ao os.length co] 28)).alloc (.cells #[.slice none 0 0, .slice none 0 0] 28) := ⟨_, rfl⟩
 have hWs : W.heap.size = w.heap.size + 2 := by rw [hW]; simp
 have hdr : W.drew.heap.size = W.heap.size := rfl
 have hb0 : Below w.heap.size w W := by rw [hW]; exact (Below.of_alloc _).trans ((Below.of_alloc _).mono (by simp))
 have hrD : W.heap[w.heap.size]? = some (.cells #[.slice A fl.length c, .slice Ao os.length co] 28 (0, 0)) := by
  rw [hW, Below.heap_alloc _ _ _ (by simp)]; exact heap_alloc_new w _
 have hrR : W.heap[w.heap.size + 1]? = some (.cells #[.slice none 0 0, .slice none 0 0] 28 (0, 0)) := by
  have := heap_alloc_new (w.alloc (.cells #[.slice A fl.length c, .slice Ao os.length co] 28)) (.cells #[.slice none 0 0, .slice none 0 0] 28)
  rw [hW]; simpa using this
 have hBW : B ≤ W.heap.size := by omega
 have hvW := hv.below hB hb0
 have hoW := ho.below hB hb0
 have k0 : W.cell? ⟨w.heap.size, 0, none⟩ = some (.slice A fl.length c) := cell_of_row _ _ 0 _ _ _ hrD
 have k1 : W.cell? ⟨w.heap.size, 1, none⟩ = some (.slice Ao os.length co) := cell_of_row _ _ 1 _ _ _ hrD
 have HW := Lib.hid hW
 clear hW
 have CR := Lib.hid (rread_any B Z _ _ fl os nm W hBW hvW hoW hz hZ)
 generalize hlk : lookL (viewL fl os) nm = lk at *
 have hxs : lk.isSome = false := hx
 have HLK := Lib.hid hlk
 clear hlk hx
 go_enter Try.func27, Try.ntmps27
 go_wp2_with fail
 rw [← HW.out]
 (with_reducible refine CR.out.mono ?_)
 rintro e w2 ⟨vr, he, hOr, hb2⟩
 rw [hxs] at he
 subst he
 clear CR
 have hs2 := hb2.size
 have hbW2 : Below w.heap.size w w2 := hb0.trans (hb2.mono (by omega))
 have hv2 := hvW.below hBW hb2
 have ho2 := hoW.below hBW hb2
 have hD2 := (hb2.block w.heap.size (by omega)).trans hrD
 have hR2 := (hb2.block (w.heap.size + 1) (by omega)).trans hrR
 have p0 : w2.cell? ⟨w.heap.size, 0, none⟩ = some (.slice A fl.length c) := cell_of_row _ _ 0 _ _ _ hD2
 have p1 : w2.cell? ⟨w.heap.size, 1, none⟩ = some (.slice Ao os.length co) := cell_of_row _ _ 1 _ _ _ hD2
 obtain ⟨q0, q1, q2, q3, q6, q4, q5, hC⟩ := two_store w2 (w.heap.size + 1) (.slice none 0 0) (.slice none 0 0) (.slice A fl.length c) (.slice Ao os.length co) _ hR2
 have hv7 := FlsRd.box hv2 (by omega) (by omega) hR2 hC
 have ho7 := DosRd.box ho2 (by omega) (by omega) hR2 hC
 have hb7 := hC.below (B := w.heap.size) (by omega) (fun i hi => by omega)
 clear q6
 go_wp2_with fail
 refine bodyPost_ret (v := .tuple #[.agg #[.slice A fl.length c, .slice Ao os.length co], .int .i64 11]) (by simp [results, Try.results27, go_sem, q4, q5]) rfl ?_
 exact ⟨_, _, rfl, hv7, ho7, (hbW2).trans hb7⟩
set_option maxRecDepth 100000 in
set_option maxHeartbeats 4000000 in
theorem rrename_bad [Inhabited Nb] (B Z : Nat) (lv ov : Value) (fl : FL) (os : List DOp) (nm to : List UInt8) (w : World) (hB : B ≤ w.heap.size) (hv : FlsRd B w lv fl) (ho : DosRd B w ov os) (hz : RSz Z fl os) (hZ : Z ≤ 1099511627776) (hx : (lookL (viewL fl os) nm).isSome = true) (hnl : to.length ≤ maxLen) (hw : wordF to = false) :
  Calls Try.prog 27 #[.agg #[lv, ov], .string (strB nm), .string (strB to)] w (RefOut2 B fl os 8 w) := by
 obtain ⟨A, c, rfl, a1, a2, a3⟩ := hv.open_
 obtain ⟨Ao, co, rfl, b1, b2, b3⟩ := ho.open_
 have HA3 := Lib.hid a3
 have HB3 := Lib.hid b3
 clear a3 b3
 obtain ⟨W, hW⟩ : ∃ W, W = (w.alloc (.cells #[.slice A fl.length c, .slice Ao os.length co] 28)).alloc (.cells #[.slice none 0 0, .slice none 0 0] 28) := ⟨_, rfl⟩
 have hWs : W.heap.size = w.heap.size + 2 := by rw [hW]; simp
 have hdr : W.drew.heap.size = W.heap.size := rfl
 have hb0 : Below w.heap.size w W := by rw [hW]; exact (Below.of_alloc _).trans ((Below.of_alloc _).mono (by simp))
 have hrD : W.heap[w.heap.size]? = some (.cells #[.slice A fl.length c, .slice Ao os.length co] 28 (0, 0)) := by
  rw [hW, Below.heap_alloc _ _ _ (by simp)]; exact heap_alloc_new w _
 have hrR : W.heap[w.heap.size + 1]? = some (.cells #[.slice none 0 0, .slice none 0 0] 28 (0, 0)) := by
  have := heap_alloc_new (w.alloc (.cells #[.slice A fl.length c, .slice Ao os.length co] 28)) (.cells #[.slice none 0 0, .slice none 0 0] 28)
  rw [hW]; simpa using this
 have hBW : B ≤ W.heap.size := by omega
 have hvW := hv.below hB hb0
 have hoW := ho.below hB hb0
 have k0 : W.cell? ⟨w.heap.size, 0, none⟩ = some (.slice A fl.length c) := cell_of_row _ _ 0 _ _ _ hrD
 have k1 : W.cell? ⟨w.heap.size, 1, none⟩ = some (.slice Ao os.length co) := cell_of_row _ _ 1 _ _ _ hrD
 have HW := Lib.hid hW
 clear hW
 have CR := Lib.hid (rread_any B Z _ _ fl os nm W hBW hvW hoW hz hZ)
 generalize hlk : lookL (viewL fl os) nm = lk at *
 have hxs : lk.isSome = true := hx
 have HLK := Lib.hid hlk
 clear hlk hx
 go_enter Try.func27, Try.ntmps27
 go_wp2_with fail
 rw [← HW.out]
 (with_reducible refine CR.out.mono ?_)
 rintro e w2 ⟨vr, he, hOr, hb2⟩
 rw [hxs] at he
 subst he
 clear CR
 have hs2 := hb2.size
 have hbW2 : Below w.heap.size w w2 := hb0.trans (hb2.mono (by omega))
 have hv2 := hvW.below hBW hb2
 have ho2 := hoW.below hBW hb2
 have hD2 := (hb2.block w.heap.size (by omega)).trans hrD
 have hR2 := (hb2.block (w.heap.size + 1) (by omega)).trans hrR
 have p0 : w2.cell? ⟨w.heap.size, 0, none⟩ = some (.slice A fl.length c) := cell_of_row _ _ 0 _ _ _ hD2
 have p1 : w2.cell? ⟨w.heap.size, 1, none⟩ = some (.slice Ao os.length co) := cell_of_row _ _ 1 _ _ _ hD2
 go_wp2_with fail
 have CN := Lib.hid (rname_any to w2 hnl)
 rw [hw] at CN
 (with_reducible refine CN.out.mono ?_)
 rintro e w2' ⟨rfl, rfl⟩
 obtain ⟨q0, q1, q2, q3, q6, q4, q5, hC⟩ := two_store w2 (w.heap.size + 1) (.slice none 0 0) (.slice none 0 0) (.slice A fl.length c) (.slice Ao os.length co) _ hR2
 have hv7 := FlsRd.box hv2 (by omega) (by omega) hR2 hC
 have ho7 := DosRd.box ho2 (by omega) (by omega) hR2 hC
 have hb7 := hC.below (B := w.heap.size) (by omega) (fun i hi => by omega)
 clear q6
 go_wp2_with fail
 refine bodyPost_ret (v := .tuple #[.agg #[.slice A fl.length c, .slice Ao os.length co], .int .i64 8]) (by simp [results, Try.results27, go_sem, q4, q5]) rfl ?_
 exact ⟨_, _, rfl, hv7, ho7, (hbW2).trans hb7⟩
set_option maxRecDepth 100000 in
set_option maxHeartbeats 4000000 in
theorem rrename_ok [Inhabited Nb] (B Z : Nat) (lv ov : Value) (fl : FL) (os : List DOp) (nm to : List UInt8) (w : World) (hB : B ≤ w.heap.size) (hv : FlsRd B w lv fl) (ho : DosRd B w ov os) (hz : RSz Z fl os) (hZ : Z ≤ 1099511627776) (hx : (lookL (viewL fl os) nm).isSome = true) (hnl : to.length ≤ maxLen) (hw : wordF to = true) (hol : os.length ≤ 1099511627776) :
  Calls Try.prog 27 #[.agg #[lv, ov], .string (strB nm), .string (strB to)] w (RefOut2 B fl (os ++ [⟨2, nm, to, []⟩]) 0 w) := by
 obtain ⟨A, c, rfl, a1, a2, a3⟩ := hv.open_
 obtain ⟨Ao, co, rfl, b1, b2, b3⟩ := ho.open_
 have HA3 := Lib.hid a3
 have HB3 := Lib.hid b3
 clear a3 b3
 obtain ⟨W, hW⟩ : ∃ W, W = (w.alloc (.cells #[.slice A fl.length c, .slice Ao os.length co] 28)).alloc (.cells #[.slice none 0 0, .slice none 0 0] 28) := ⟨_, rfl⟩
 have hWs : W.heap.size = w.heap.size + 2 := by rw [hW]; simp
 have hdr : W.drew.heap.size = W.heap.size := rfl
 have hb0 : Below w.heap.size w W := by rw [hW]; exact (Below.of_alloc _).trans ((Below.of_alloc _).mono (by simp))
 have hrD : W.heap[w.heap.size]? = some (.cells #[.slice A fl.length c, .slice Ao os.length co] 28 (0, 0)) := by
  rw [hW, Below.heap_alloc _ _ _ (by simp)]; exact heap_alloc_new w _
 have hrR : W.heap[w.heap.size + 1]? = some (.cells #[.slice none 0 0, .slice none 0 0] 28 (0, 0)) := by
  have := heap_alloc_new (w.alloc (.cells #[.slice A fl.length c, .slice Ao os.length co] 28)) (.cells #[.slice none 0 0, .slice none 0 0] 28)
  rw [hW]; simpa using this
 have hBW : B ≤ W.heap.size := by omega
 have hvW := hv.below hB hb0
 have hoW := ho.below hB hb0
 have k0 : W.cell? ⟨w.heap.size, 0, none⟩ = some (.slice A fl.length c) := cell_of_row _ _ 0 _ _ _ hrD
 have k1 : W.cell? ⟨w.heap.size, 1, none⟩ = some (.slice Ao os.length co) := cell_of_row _ _ 1 _ _ _ hrD
 have HW := Lib.hid hW
 clear hW
 have CR := Lib.hid (rread_any B Z _ _ fl os nm W hBW hvW hoW hz hZ)
 generalize hlk : lookL (viewL fl os) nm = lk at *
 have hxs : lk.isSome = true := hx
 have HLK := Lib.hid hlk
 clear hlk hx
 go_enter Try.func27, Try.ntmps27
 go_wp2_with fail
 rw [← HW.out]
 (with_reducible refine CR.out.mono ?_)
 rintro e w2 ⟨vr, he, hOr, hb2⟩
 rw [hxs] at he
 subst he
 clear CR
 have hs2 := hb2.size
 have hbW2 : Below w.heap.size w w2 := hb0.trans (hb2.mono (by omega))
 have hv2 := hvW.below hBW hb2
 have ho2 := hoW.below hBW hb2
 have hD2 := (hb2.block w.heap.size (by omega)).trans hrD
 have hR2 := (hb2.block (w.heap.size + 1) (by omega)).trans hrR
 have p0 : w2.cell? ⟨w.heap.size, 0, none⟩ = some (.slice A fl.length c) := cell_of_row _ _ 0 _ _ _ hD2
 have p1 : w2.cell? ⟨w.heap.size, 1, none⟩ = some (.slice Ao os.length co) := cell_of_row _ _ 1 _ _ _ hD2
 go_wp2_with fail
 have CN := Lib.hid (rname_any to w2 hnl)
 rw [hw] at CN
 (with_reducible refine CN.out.mono ?_)
 rintro e w2' ⟨rfl, rfl⟩
 go_wp2_with fail
 (with_reducible refine (rbuf2 B _ _ fl os nm to [] (.slice none 0 0) w2 ?_ ?_ ?_ ?_ hol).mono ?_)
 ·omega
 ·exact hv2
 ·exact ho2
 ·exact DatB.nil _ _
 rintro e w6x ⟨l6, o6, rfl, hl6, ho6, hb6⟩
 obtain ⟨A6, c6, rfl, s1, s2, s3⟩ := hl6.open_
 obtain ⟨B6, d6, rfl, t1, t2, t3⟩ := ho6.open_
 generalize hn6 : (os ++ [(⟨2, nm, to, []⟩ : DOp)]).length = n6 at *
 clear hn6
 have HS3 := Lib.hid s3
 have HT3 := Lib.hid t3
 clear s3 t3
 have hs6 := hb6.size
 have hR6 := (hb6.block (w.heap.size + 1) (by omega)).trans hR2
 obtain ⟨q0, q1, q2, q3, q6, q4, q5, hC⟩ := two_store w6x (w.heap.size + 1) (.slice none 0 0) (.slice none 0 0) (.slice A6 fl.length c6) (.slice B6 n6 d6) _ hR6
 have hv7 := FlsRd.box hl6 (by omega) (by omega) hR6 hC
 have ho7 := DosRd.box ho6 (by omega) (by omega) hR6 hC
 have hb7 := hC.below (B := w.heap.size) (by omega) (fun i hi => by omega)
 clear q6
 go_wp2_with fail
 refine bodyPost_ret (v := .tuple #[.agg #[.slice A6 fl.length c6, .slice B6 n6 d6], .int .i64 0]) (by simp [results, Try.results27, go_sem, q4, q5]) rfl ?_
 exact ⟨_, _, rfl, hv7, ho7, ((hbW2).trans (hb6.mono (by omega))).trans hb7⟩
end
section
set_option maxRecDepth 100000
open Go.RowKit Go.Lib Go.IntWalk
theorem rcarry0 [Inhabited Nb] (B : Nat) (v : Value) (fl : FL) (nm to data : List UInt8) (dv : Value) (w : World) (hB : B ≤ w.heap.size) (hv : FlsRd B w v fl) (hd : DatB B w dv data) (hfn : fl.length ≤ 1099511627776) (hz : ∀ p ∈ fl, p.2.length ≤ 1099511627776) (hdl : data.length ≤ 1099511627776) :
  Calls Try.prog 37 #[v, .agg #[.int .i64 0, .string (strB nm), .string (strB to), dv]] w (FlsGet B (carryL fl ⟨0, nm, to, data⟩) w) :=
 rcarry_any B v fl ⟨0, nm, to, data⟩ dv w hB hv hd hfn hz hdl (Nat.zero_le _)
theorem viewL_append (fl : FL) (a b : List DOp) : viewL fl (a ++ b) = viewL (viewL fl a) b := by simp [viewL]
set_option maxRecDepth 100000 in
set_option maxHeartbeats 8000000 in
theorem rcrash_any [Inhabited Nb] (B Z : Nat) (lv ov : Value) (fl : FL) (os : List DOp) (keep torn : Int) (w : World) (hB : B ≤ w.heap.size) (hv : FlsRd B w lv fl) (ho : DosRd B w ov os) (hz : RSz Z fl os) (hZ : Z ≤ 1099511627776) :
  Calls Try.prog 29 #[.agg #[lv, ov], .int .i64 keep, .int .i64 torn] w (RefOut B (viewL fl (crashOps os keep torn)) [] w) := by
 obtain ⟨A, c, rfl, a1, a2, a3⟩ := hv.open_
 obtain ⟨Ao, co, rfl, b1, b2, b3⟩ := ho.open_
 have HA3 := Lib.hid a3
 have HB3 := Lib.hid b3
 clear a3 b3
 obtain ⟨W, hW⟩ : ∃ W, W = (w.alloc (.cells #[.slice A fl.length c, .slice Ao os.length co] 28)).alloc (.cells #[.slice none 0 0, .slice none 0 0] 28) := ⟨_, rfl⟩
 have hWs : W.heap.size = w.heap.size + 2 := by rw [hW]; simp
 have hdr : W.drew.heap.size = W.heap.size := rfl
 have hb0 : Below w.heap.size w W := by rw [hW]; exact (Below.of_alloc _).trans ((Below.of_alloc _).mono (by simp))
 have hrD : W.heap[w.heap.size]? = some (.cells #[.slice A fl.length c, .slice Ao os.length co] 28 (0, 0)) := by
  rw [hW, Below.heap_alloc _ _ _ (by simp)]; exact heap_alloc_new w _
 have hrR : W.heap[w.heap.size + 1]? = some (.cells #[.slice none 0 0, .slice none 0 0] 28 (0, 0)) := by
  have := heap_alloc_new (w.alloc (.cells #[.slice A fl.length c, .slice Ao os.length co] 28)) (.cells #[.slice none 0 0, .slice none 0 0] 28)
  rw [hW]; simpa using this
 have hBW : B ≤ W.heap.size := by omega
 have hvW := hv.below hB hb0
 have hoW := ho.below hB hb0
 have k0 : W.cell? ⟨w.heap.size, 0, none⟩ = some (.slice A fl.length c) := cell_of_row _ _ 0 _ _ _ hrD
 have k1 : W.cell? ⟨w.heap.size, 1, none⟩ = some (.slice Ao os.length co) := cell_of_row _ _ 1 _ _ _ hrD
 have HW := Lib.hid hW
 clear hW
 have hzl := hz.len
 obtain ⟨k, hk⟩ : ∃ k : Nat, k = min keep.toNat os.length := ⟨_, rfl⟩
 have hkn : k ≤ os.length := by omega
 obtain ⟨m1, hm1⟩ : ∃ m1 : Int, (if (os.length : Int) < keep then (os.length : Int) else keep) = m1 := ⟨_, rfl⟩
 have hm2 : (if 0 < m1 then m1 else 0) = (k : Int) := by split at hm1 <;> split <;> omega
 have hm3 : (if m1 > 0 then m1 else 0) = (k : Int) := hm2
 have hm4 : min keep (os.length : Int) = m1 := by rw [← hm1]; split <;> omega
 have hm5 : max 0 m1 = (k : Int) := by rw [← hm2]; split <;> omega
 obtain ⟨i0, hi, hz0, hz1, hz2⟩ := info_parts infoDo
 obtain ⟨i1, hi1, hy0, hy1, hy2⟩ := info_parts infoB
 have hshi := run_slice_hi (P := Try.prog) Try.underlying26 hi Ao os.length co k (by omega)
 have HSB := Lib.hid (fun (A : Option Addr) (n c h : Nat) (h1 : h ≤ c) (w : World) => run_slice_hi (P := Try.prog) Try.underlying33 hi1 A n c h h1 w)
 have HK := Lib.hid hk
 have HZ := Lib.hid hz
 have HCR : Hid (∀ o, os[k]? = some o → k < os.length → crashOps os keep torn = os.take k ++ tornOp o torn) := Lib.hid (fun o ho hlt => by
  have e : keep.toNat = k := by omega
  exact crash_some e ho)
 have HCN : Hid (k = os.length → crashOps os keep torn = os.take k) := Lib.hid (fun e => by
  have : os[keep.toNat]? = none := List.getElem?_eq_none (by omega)
  rw [crash_none rfl this, e, List.take_length, List.take_of_length_le (by omega)])
 clear hi hz0 hz1 hz2 hi1 hy0 hy1 hy2 hz
 unfold maxLen at a2 b2
 generalize hcr : crashOps os keep torn = cr at *
 clear hcr hk
 go_enter Try.func29, Try.ntmps29
 go_wp2_with fail
 rw [← HW.out]
 clear hm1 hm2 hm3 hm4 hm5
 go_loopw [8, 25] (fun l i wr => ∃ j : Nat, j ≤ k ∧ i = .int .i64 (j : Int) ∧ FlsRd B wr l (viewL fl (os.take j)) ∧ Below W.heap.size W wr) (fun _ i _ => k - (intOf i).toNat)
 case atStart => exact ⟨0, Nat.zero_le _, rfl, hvW, Below.refl _ _⟩
 case round =>
  obtain ⟨j, hj, rfl, hO, hbw⟩ := hrel
  have hsr := hbw.size
  have hBr : B ≤ wr.heap.size := by omega
  have hoR := hoW.below hBW hbw
  by_cases hlt : j < k
  ·have hlo : j < os.length := by omega
   obtain ⟨bo, oo, dv, rfl, e0, e1, e2, e3, hd, _⟩ := DosRd.elem hoR (List.getElem?_eq_getElem hlo)
   have hzk := HZ.out.take j
   have hkd := HZ.out.kind _ (List.getElem_mem hlo)
   have hds := dsum_drop (List.getElem?_eq_getElem hlo)
   have hzl := hzk.len
   have hza := hzk.all
   have HZF := Lib.hid hzk.file
   have HVS := Lib.hid (viewL_succ (fl := fl) (List.getElem?_eq_getElem hlo))
   generalize os[j] = o at *
   generalize viewL fl (os.take j) = vl at *
   obtain ⟨X, x, rfl, x1, x2, x3⟩ := Rd.open_ hd
   have HX3 := Lib.hid x3
   clear x3
   have hb1 : Below wr.heap.size wr (wr.alloc (.cells #[.int .i64 (o.kind : Int), .string (strB o.name), .string (strB o.to), .slice X o.data.length x] 74)) := Below.of_alloc _
   have j0 := box_cell wr #[.int .i64 (o.kind : Int), .string (strB o.name), .string (strB o.to), .slice X o.data.length x] 74 0 rfl
   have j1 := box_cell wr #[.int .i64 (o.kind : Int), .string (strB o.name), .string (strB o.to), .slice X o.data.length x] 74 1 rfl
   have j2 := box_cell wr #[.int .i64 (o.kind : Int), .string (strB o.name), .string (strB o.to), .slice X o.data.length x] 74 2 rfl
   have j3 := box_cell wr #[.int .i64 (o.kind : Int), .string (strB o.name), .string (strB o.to), .slice X o.data.length x] 74 3 rfl
   have CC := Lib.hid (rcarry_any B u8 vl o (.slice X o.data.length x) (wr.alloc (.cells #[.int .i64 (o.kind : Int), .string (strB o.name), .string (strB o.to), .slice X o.data.length x] 74)) (by simp; omega) (hO.below hBr hb1) (hd.below hBr hb1) (by omega) (fun p hp => by have := HZF.out p hp; omega) (by omega) hkd)
   go_wp2_with fail
   (with_reducible refine CC.out.mono ?_)
   rintro e w2 ⟨v2, rfl, hF2, hb2⟩
   clear CC
   go_wp2_with fail
   go_roundw
   case rel => exact ⟨j + 1, by omega, by go_num, by rw [HVS.out]; exact hF2, hbw.trans ((hb1.trans (hb2.mono (by simp))).mono hsr)⟩
   case measure => simp [intOf]; omega
  obtain rfl : j = k := by omega
  have hDr := (hbw.block w.heap.size (by omega)).trans hrD
  have hRr := (hbw.block (w.heap.size + 1) (by omega)).trans hrR
  have p0 : wr.cell? ⟨w.heap.size, 0, none⟩ = some (.slice A fl.length c) := cell_of_row _ _ 0 _ _ _ hDr
  have p1 : wr.cell? ⟨w.heap.size, 1, none⟩ = some (.slice Ao os.length co) := cell_of_row _ _ 1 _ _ _ hDr
  by_cases hke : j = os.length
  ·have hre : Hid (cr = os.take j) := Lib.hid (HCN.out hke)
   have q9 : ¬ (j : Int) < (os.length : Int) := by omega
   clear HCN HCR hke
   obtain ⟨A9, c9, rfl, s1, s2, s3⟩ := hO.open_
   have HS3 := Lib.hid s3
   clear s3
   generalize hn9 : (viewL fl (os.take j)).length = n9 at *
   clear hn9
   obtain ⟨q0, q1, q2, q3, q6, q4, q5, hC⟩ := two_store wr (w.heap.size + 1) (.slice none 0 0) (.slice none 0 0) (.slice A9 n9 c9) (.slice none 0 0) _ hRr
   have hv9 := FlsRd.box hO (by omega) (by omega) hRr hC
   have hb9 := hC.below (B := w.heap.size) (by omega) (fun i hi => by omega)
   clear q6
   go_wp2_with fail
   refine bodyPost_ret (v := .agg #[.slice A9 n9 c9, .slice none 0 0]) (by simp [results, Try.results29, go_sem, q4, q5]) rfl ?_
   refine ⟨_, _, rfl, ?_, DosRd.nil _ _, (hb0.trans (hbw.mono (by omega))).trans hb9⟩
   rw [hre.out]
   exact hv9
  have hlo : j < os.length := by omega
  have q9 : (j : Int) < (os.length : Int) := by omega
  obtain ⟨bo, oo, dv, rfl, e0, e1, e2, e3, hd, _⟩ := DosRd.elem hoR (List.getElem?_eq_getElem hlo)
  have hce := HCR.out os[j] (List.getElem?_eq_getElem hlo) hlo
  have hzk := HZ.out.take j
  have hkd := HZ.out.kind _ (List.getElem_mem hlo)
  have hds := dsum_drop (List.getElem?_eq_getElem hlo)
  have hzl2 := hzk.len
  have hza := hzk.all
  have HZF := Lib.hid hzk.file
  have HCE := Lib.hid hce
  clear hce HCR HCN
  generalize os[j] = o at *
  by_cases ht : 0 < torn
  ·by_cases hk0 : o.kind = 0
   ·have hki : (o.kind : Int) = 0 := by omega
    have hcr2 : Hid (cr = os.take j ++ [⟨0, o.name, o.to, o.data.take torn.toNat⟩]) := Lib.hid (by rw [HCE.out, tornOp, if_pos ⟨hk0, ht⟩])
    clear HCE
    obtain ⟨X, x, rfl, x1, x2, x3⟩ := Rd.open_ hd
    have HX3 := Lib.hid x3
    clear x3
    rw [hki] at e0
    obtain ⟨m, hm⟩ : ∃ m : Nat, m = min torn.toNat o.data.length := ⟨_, rfl⟩
    have hml : m ≤ o.data.length := by omega
    have hmm : (if (o.data.length : Int) < torn then (o.data.length : Int) else torn) = (m : Int) := by split <;> omega
    have hmn : min torn (o.data.length : Int) = (m : Int) := by omega
    have htk : Hid (o.data.take torn.toNat = o.data.take m) := Lib.hid (by rw [hm]; by_cases h : torn.toNat ≤ o.data.length; (rw [Nat.min_eq_left h]); (rw [Nat.min_eq_right (by omega), List.take_length, List.take_of_length_le (by omega)]))
    clear hm
    have hsb := HSB.out X o.data.length x m (by omega)
    have hb1 : Below wr.heap.size wr (wr.alloc (.cells #[.int .i64 0, .string (strB o.name), .string (strB o.to), .slice X o.data.length x] 74)) := Below.of_alloc _
    have j0 := box_cell wr #[.int .i64 0, .string (strB o.name), .string (strB o.to), .slice X o.data.length x] 74 0 rfl
    have j1 := box_cell wr #[.int .i64 0, .string (strB o.name), .string (strB o.to), .slice X o.data.length x] 74 1 rfl
    have j2 := box_cell wr #[.int .i64 0, .string (strB o.name), .string (strB o.to), .slice X o.data.length x] 74 2 rfl
    have j3 := box_cell wr #[.int .i64 0, .string (strB o.name), .string (strB o.to), .slice X o.data.length x] 74 3 rfl
    have hb2 : Below wr.heap.size wr (wr.alloc (.cells #[.int .i64 0, .string (strB o.name), .string (strB o.to), .slice X m x] 74)) := Below.of_alloc _
    have g0 := box_cell wr #[.int .i64 0, .string (strB o.name), .string (strB o.to), .slice X m x] 74 0 rfl
    have g1 := box_cell wr #[.int .i64 0, .string (strB o.name), .string (strB o.to), .slice X m x] 74 1 rfl
    have g2 := box_cell wr #[.int .i64 0, .string (strB o.name), .string (strB o.to), .slice X m x] 74 2 rfl
    have g3 := box_cell wr #[.int .i64 0, .string (strB o.name), .string (strB o.to), .slice X m x] 74 3 rfl
    have hlt2 : (o.data.take m).length = m := by rw [List.length_take]; omega
    have HLT := Lib.hid hlt2
    clear hlt2
    have p0b : (wr.alloc (.cells #[.int .i64 0, .string (strB o.name), .string (strB o.to), .slice X o.data.length x] 74)).cell? ⟨w.heap.size, 1, none⟩ = some (.slice (some ⟨bo, oo, none⟩) os.length co) := (hb1.cell (p := ⟨w.heap.size, 1, none⟩) (show w.heap.size < wr.heap.size by omega)).trans p1
    have CC := Lib.hid (rcarry0 B u8 (viewL fl (os.take j)) o.name o.to (o.data.take m) (.slice X m x) (wr.alloc (.cells #[.int .i64 0, .string (strB o.name), .string (strB o.to), .slice X m x] 74)) (by have := hb2.size; omega) (hO.below hBr hb2) ((hd.below hBr hb2).take m hml) (by omega) (fun p hp => by have := HZF.out p hp; omega) (by rw [HLT.out]; omega))
    have HVE : Hid (viewL fl cr = carryL (viewL fl (os.take j)) ⟨0, o.name, o.to, o.data.take m⟩) := Lib.hid (by rw [hcr2.out, viewL_append, htk.out]; rfl)
    generalize viewL fl cr = vcr at *
    generalize carryL (viewL fl (os.take j)) ⟨0, o.name, o.to, o.data.take m⟩ = cvl at *
    go_wp2_with fail
    (with_reducible refine CC.out.mono ?_)
    rintro e w5 ⟨v5, rfl, hF5, hb5⟩
    clear CC
    have hb5w : Below wr.heap.size wr w5 := hb2.trans (hb5.mono hb2.size)
    have hs5 := hb5w.size
    have hbw5 : Below W.heap.size W w5 := hbw.trans (hb5w.mono hsr)
    have hR5 := (hbw5.block (w.heap.size + 1) (by omega)).trans hrR
    obtain ⟨A9, c9, rfl, s1, s2, s3⟩ := hF5.open_
    have HS3 := Lib.hid s3
    clear s3
    generalize hn9 : (cvl).length = n9 at *
    clear hn9
    obtain ⟨q0, q1, q2, q3, q6, q4, q5, hC⟩ := two_store w5 (w.heap.size + 1) (.slice none 0 0) (.slice none 0 0) (.slice A9 n9 c9) (.slice none 0 0) _ hR5
    have hv9 := FlsRd.box hF5 (by omega) (by omega) hR5 hC
    have hb9 := hC.below (B := w.heap.size) (by omega) (fun i hi => by omega)
    clear q6
    go_wp2_with fail
    refine bodyPost_ret (v := .agg #[.slice A9 n9 c9, .slice none 0 0]) (by simp [results, Try.results29, go_sem, q4, q5]) rfl ?_
    refine ⟨_, _, rfl, ?_, DosRd.nil _ _, (hb0.trans (hbw5.mono (by omega))).trans hb9⟩
    rw [HVE.out]
    exact hv9
   ·have hki : ((o.kind : Int) == 0) = false := by simp; omega
    have hcr2 : Hid (cr = os.take j) := Lib.hid (by rw [HCE.out, tornOp, if_neg (fun h => hk0 h.1), List.append_nil])
    clear HCE
    obtain ⟨A9, c9, rfl, s1, s2, s3⟩ := hO.open_
    have HS3 := Lib.hid s3
    clear s3
    generalize hn9 : (viewL fl (os.take j)).length = n9 at *
    clear hn9
    obtain ⟨q0, q1, q2, q3, q6, q4, q5, hC⟩ := two_store wr (w.heap.size + 1) (.slice none 0 0) (.slice none 0 0) (.slice A9 n9 c9) (.slice none 0 0) _ hRr
    have hv9 := FlsRd.box hO (by omega) (by omega) hRr hC
    have hb9 := hC.below (B := w.heap.size) (by omega) (fun i hi => by omega)
    clear q6
    go_wp2_with fail
    refine bodyPost_ret (v := .agg #[.slice A9 n9 c9, .slice none 0 0]) (by simp [results, Try.results29, go_sem, q4, q5]) rfl ?_
    refine ⟨_, _, rfl, ?_, DosRd.nil _ _, (hb0.trans (hbw.mono (by omega))).trans hb9⟩
    rw [hcr2.out]
    exact hv9
  ·have hcr2 : Hid (cr = os.take j) := Lib.hid (by rw [HCE.out, tornOp, if_neg (fun h => ht h.2), List.append_nil])
   clear HCE
   obtain ⟨A9, c9, rfl, s1, s2, s3⟩ := hO.open_
   have HS3 := Lib.hid s3
   clear s3
   generalize hn9 : (viewL fl (os.take j)).length = n9 at *
   clear hn9
   obtain ⟨q0, q1, q2, q3, q6, q4, q5, hC⟩ := two_store wr (w.heap.size + 1) (.slice none 0 0) (.slice none 0 0) (.slice A9 n9 c9) (.slice none 0 0) _ hRr
   have hv9 := FlsRd.box hO (by omega) (by omega) hRr hC
   have hb9 := hC.below (B := w.heap.size) (by omega) (fun i hi => by omega)
   clear q6
   go_wp2_with fail
   refine bodyPost_ret (v := .agg #[.slice A9 n9 c9, .slice none 0 0]) (by simp [results, Try.results29, go_sem, q4, q5]) rfl ?_
   refine ⟨_, _, rfl, ?_, DosRd.nil _ _, (hb0.trans (hbw.mono (by omega))).trans hb9⟩
   rw [hcr2.out]
   exact hv9
end
section
set_option maxRecDepth 100000
open Go.RowKit Go.Lib Go.IntWalk
def RLoad [Inhabited Nb] (B Z : Nat) (res : Option FM) (w0 : World) (e : Ending) (w : World) : Prop :=
 Below w0.heap.size w0 w ∧ match res with
 | none => e = .returned (.tuple #[.agg #[.slice none 0 0, .slice none 0 0], .bool false])
 | some fm => ∃ lv fl, e = .returned (.tuple #[.agg #[lv, .slice none 0 0], .bool true]) ∧ FlsRd B w lv fl ∧ IsL fm fl ∧ RSz Z fl []
/-- behind i files -/
structure LdInv (fl : FL) (res : Option FM) (i : Nat) (fm : FM) (acc : FL) : Prop where
 res : loadF (fl.drop i) fm = res
 isl : IsL fm acc
 key : ∀ k, (fm k).isSome = true ↔ ∃ p ∈ fl.take i, p.1 = k
 len : acc.length ≤ i
 siz : ∀ p ∈ acc, p.2.length ≤ flsum fl
theorem LdInv.step {fl : FL} {res : Option FM} {i : Nat} {fm : FM} {acc : FL} (h : LdInv fl res i fm acc) {q : List UInt8 × List UInt8} (hq : fl[i]? = some q) (hw : wordF q.1 = true) (hn : ∀ p ∈ fl.take i, ¬ p.1 = q.1) : LdInv fl res (i + 1) (updG fm q.1 (some q.2)) (withL acc q) := by
 obtain ⟨hi, e⟩ := List.getElem?_eq_some_iff.1 hq
 have hf : (fm q.1).isSome = false := by
  cases h0 : (fm q.1).isSome with
  | false => rfl
  | true => obtain ⟨p, hp, he⟩ := (h.key q.1).1 h0; exact absurd he (hn p hp)
 refine ⟨by rw [← loadF_go hq hf hw]; exact h.res, h.isl.with_ q, fun k => ?_, by have := len_with acc q; have := h.len; omega, fun p hp => ?_⟩
 ·rw [List.take_succ_eq_append_getElem hi, e]
  unfold updG
  by_cases hk : k = q.1
  ·rw [if_pos hk]
   exact ⟨fun _ => ⟨q, by simp, hk.symm⟩, fun _ => rfl⟩
  ·rw [if_neg hk, h.key k]
   constructor
   ·rintro ⟨p, hp, he⟩; exact ⟨p, by simp [hp], he⟩
   ·rintro ⟨p, hp, he⟩
    rcases List.mem_append.1 hp with hp | hp
    ·exact ⟨p, hp, he⟩
    ·obtain rfl := List.mem_singleton.1 hp; exact absurd he.symm hk
 ·rcases mem_with hp with rfl | hp
  ·exact flsum_mem (List.mem_of_getElem? hq)
  ·exact h.siz p hp
theorem LdInv.no {fl : FL} {res : Option FM} {i : Nat} {fm : FM} {acc : FL} (h : LdInv fl res i fm acc) {q : List UInt8 × List UInt8} (hq : fl[i]? = some q) (hb : wordF q.1 = false ∨ ∃ p ∈ fl.take i, p.1 = q.1) : res = none := by
 rw [← h.res]
 refine loadF_no hq ?_
 rcases hb with hb | hb
 ·exact .inr hb
 ·exact .inl ((h.key q.1).2 hb)
def LdRel [Inhabited Nb] (B : Nat) (fl : FL) (res : Option FM) (w : World) (i : Value) (wr : World) : Prop :=
 ∃ (k : Nat) (fm : FM) (acc : FL) (accv : Value), k ≤ fl.length ∧ i = .int .i64 (k : Int) ∧ LdInv fl res k fm acc ∧ wr.heap[w.heap.size + 1]? = some (.cells #[accv, .slice none 0 0] 28 (0, 0)) ∧ wr.heap[w.heap.size]? = some (.cells #[.slice none 0 0, .slice none 0 0] 28 (0, 0)) ∧ FlsRd B wr accv acc ∧ Below w.heap.size w wr
set_option maxRecDepth 100000 in
set_option maxHeartbeats 8000000 in
theorem rload_any [Inhabited Nb] (B : Nat) (v : Value) (fl : FL) (w : World) (hB : B ≤ w.heap.size) (hv : FlsRd B w v fl) (hl1 : flsum fl ≤ 1099511627776) (hl2 : fl.length ≤ 1099511627776) (hnl : ∀ p ∈ fl, p.1.length ≤ maxLen) :
  Calls Try.prog 5 #[v] w (RLoad B (flsum fl + fl.length) (loadF fl fun _ => none) w) := by
 obtain ⟨A, c, rfl, a1, a2, a3⟩ := hv.open_
 have HA3 := Lib.hid a3
 unfold maxLen at a2
 clear a3
 have HNL := Lib.hid hnl
 clear hnl
 generalize hres : loadF fl (fun _ => none) = res
 have HR : Hid (LdInv fl res 0 (fun _ => none) []) := Lib.hid ⟨hres, isL_nil (fun _ => rfl), fun k => by simp, Nat.le_refl _, fun p hp => by cases hp⟩
 clear hres
 obtain ⟨i0, hi, hz0, hz1, hz2⟩ := info_parts infoF
 obtain ⟨i1, hi1, hy0, hy1, hy2⟩ := info_parts infoB
 have HSH := Lib.hid (fun (A : Option Addr) (n c h : Nat) (h1 : h ≤ c) (w : World) => run_slice_hi (P := Try.prog) Try.underlying22 hi A n c h h1 w)
 have HI1 := Lib.hid hi1
 have HY0 := Lib.hid hy0
 have HY1 := Lib.hid hy1
 have HY2 := Lib.hid hy2
 clear hi hz0 hz1 hz2 hi1 hy0 hy1 hy2
 obtain ⟨W0, hW0⟩ : ∃ W, W = (w.alloc (.cells #[.slice none 0 0, .slice none 0 0] 28)).alloc (.cells #[.slice none 0 0, .slice none 0 0] 28) := ⟨_, rfl⟩
 have hWs0 : W0.heap.size = w.heap.size + 2 := by rw [hW0]; simp
 have hb0 : Below w.heap.size w W0 := by rw [hW0]; exact (Below.of_alloc _).trans ((Below.of_alloc _).mono (by simp))
 have hrR : W0.heap[w.heap.size]? = some (.cells #[.slice none 0 0, .slice none 0 0] 28 (0, 0)) := by
  rw [hW0, Below.heap_alloc _ _ _ (by simp)]; exact heap_alloc_new w _
 have hrD : W0.heap[w.heap.size + 1]? = some (.cells #[.slice none 0 0, .slice none 0 0] 28 (0, 0)) := by
  have := heap_alloc_new (w.alloc (.cells #[.slice none 0 0, .slice none 0 0] 28)) (.cells #[.slice none 0 0, .slice none 0 0] 28)
  rw [hW0]; simpa using this
 have HW0 := Lib.hid hW0
 clear hW0
 go_enter Try.func5, Try.ntmps5
 go_wp2_with fail
 rw [← HW0.out]
 go_loopw [11] (fun i wr => LdRel B fl res w i wr) (fun i _ => fl.length - (intOf i).toNat)
 case atStart => exact ⟨0, _, [], _, Nat.zero_le _, rfl, HR.out, hrD, hrR, (FlsOwn.nil 0 B W0).rd, hb0⟩
 case round =>
  obtain ⟨k, fm, acc, accv, hk, rfl, hInv, hdD, hdR, hacc, hbw⟩ := hrel
  have HINV := Lib.hid hInv
  have hal := hInv.len
  clear hInv HR
  have hsr := hbw.size
  have hdl0 : w.heap.size + 1 < wr.heap.size := (Array.getElem?_eq_some_iff.1 hdD).1
  have hBr : B ≤ wr.heap.size := by omega
  by_cases hlt : k < fl.length
  ·obtain ⟨ba, oa, ua, rfl, ga, ga1, da, _⟩ := FlsRd.elem (hv.below hB hbw) (List.getElem?_eq_getElem hlt)
   have hgq := List.getElem?_eq_getElem hlt
   have hqm : fl[k] ∈ fl := List.getElem_mem hlt
   have hnm := HNL.out _ hqm
   have hdf := flsum_mem hqm
   have HNO := Lib.hid (fun hb => HINV.out.no hgq hb)
   have HGO := Lib.hid (fun hw hn => HINV.out.step hgq hw hn)
   clear hgq hqm
   generalize fl[k] = q at *
   obtain ⟨nm, data⟩ := q
   simp only at *
   obtain ⟨Xa, xa, rfl, x1, x2, x3⟩ := Rd.open_ da
   have HX3 := Lib.hid x3
   clear x3
   have hbF : Below wr.heap.size wr (wr.alloc (.cells #[.string (strB nm), .slice Xa data.length xa] 43)) := Below.of_alloc _
   have kF := box_cell wr #[.string (strB nm), .slice Xa data.length xa] 43 0 rfl
   have kG := box_cell wr #[.string (strB nm), .slice Xa data.length xa] 43 1 rfl
   have hrF := heap_alloc_new wr (.cells #[.string (strB nm), .slice Xa data.length xa] 43)
   have hd1 := (hbF.block (w.heap.size + 1) (by omega)).trans hdD
   have hr1 := (hbF.block w.heap.size (by omega)).trans hdR
   have ha1 := hacc.below hBr hbF
   have hda1 := da.below hBr hbF
   have hb1 : Below w.heap.size w (wr.alloc (.cells #[.string (strB nm), .slice Xa data.length xa] 43)) := hbw.trans (hbF.mono hsr)
   have hHF : wr.heap.size < (wr.alloc (.cells #[.string (strB nm), .slice Xa data.length xa] 43)).heap.size := by simp
   generalize hHFe : wr.heap.size = HF at *
   have CN := Lib.hid (rname_any nm (wr.alloc (.cells #[.string (strB nm), .slice Xa data.length xa] 43)) hnm)
   have hsl := HSH.out (some ⟨ba, oa, none⟩) fl.length c k (by omega)
   obtain ⟨W1, hW1⟩ : ∃ W, W = wr.alloc (.cells #[.string (strB nm), .slice Xa data.length xa] 43) := ⟨_, rfl⟩
   rw [← hW1] at kF kG hd1 hr1 ha1 hda1 hb1 hHF CN
   have HW1 := Lib.hid hW1
   clear hW1 hbF hrF hdD hdR hacc da
   cases hw : wordF nm with
   | false =>
    rw [hw] at CN HNO
    have hre : res = none := HNO.out (.inl rfl)
    subst hre
    obtain ⟨q0, q1, q2, q3, q6, q4, q5, hC⟩ := two_store W1 w.heap.size (.slice none 0 0) (.slice none 0 0) (.slice none 0 0) (.slice none 0 0) _ hr1
    have hb2 := hC.below (B := w.heap.size) (by omega) (fun i hi => by omega)
    clear q6
    go_wp2_with fail
    rw [← HW1.out]
    (with_reducible refine CN.out.mono ?_)
    rintro e W1' ⟨rfl, rfl⟩
    clear CN
    go_wp2_with fail
    refine bodyPost_ret (v := .tuple #[.agg #[.slice none 0 0, .slice none 0 0], .bool false]) (by simp [results, Try.results5, go_sem, q4, q5]) rfl ?_
    exact ⟨hb1.trans hb2, rfl⟩
   | true =>
   rw [hw] at CN HGO
   go_wp2_with fail
   rw [← HW1.out]
   (with_reducible refine CN.out.mono ?_)
   rintro e W1' ⟨rfl, rfl⟩
   clear CN
   go_wp2_with fail
   go_loopw [25] (fun i W => ∃ m : Nat, m ≤ k ∧ i = .int .i64 (m : Int) ∧ (∀ p ∈ fl.take m, ¬ p.1 = nm) ∧ Below W1.heap.size W1 W) (fun i _ => k - (intOf i).toNat)
   case atStart => exact ⟨0, Nat.zero_le _, rfl, fun p hp => by simp at hp, Below.refl _ _⟩
   case round =>
   obtain ⟨m, hm, rfl, hnone, hbWm⟩ := hrel
   have HNN := Lib.hid hnone
   clear hnone
   have hsW := hbWm.size
   have hbW : Below w.heap.size w wr := hb1.trans (hbWm.mono (by omega))
   have hBW : B ≤ wr.heap.size := by omega
   have hdD := (hbWm.block (w.heap.size + 1) (by omega)).trans hd1
   have hdR := (hbWm.block w.heap.size (by omega)).trans hr1
   have kn0 := (hbWm.cell (p := ⟨HF, 0, none⟩) hHF).trans kF
   have kn1 := (hbWm.cell (p := ⟨HF, 1, none⟩) hHF).trans kG
   by_cases hmk : m < k
   ·have hml : m < fl.length := by omega
    obtain ⟨bb, ob, ub, hbe, gb, gb1, db, _⟩ := FlsRd.elem (hv.below hB hbW) (List.getElem?_eq_getElem hml)
    simp only [Option.some.injEq, Addr.mk.injEq, and_true] at hbe
    obtain ⟨rfl, rfl⟩ := hbe
    have hgq := List.getElem?_eq_getElem hml
    have HMEM : Hid (∃ p ∈ fl.take k, p.1 = fl[m].1) := Lib.hid ⟨fl[m], by rw [List.mem_take_iff_getElem]; exact ⟨m, by omega, rfl⟩, rfl⟩
    have HNX : Hid (¬ fl[m].1 = nm → ∀ p ∈ fl.take (m + 1), ¬ p.1 = nm) := Lib.hid (fun h p hp => by
     rw [List.take_succ_eq_append_getElem hml] at hp
     rcases List.mem_append.1 hp with hp | hp
     ·exact HNN.out p hp
     ·obtain rfl := List.mem_singleton.1 hp; exact h)
    clear hgq
    obtain ⟨Xb, xb, rfl, y1, y2, y3⟩ := Rd.open_ db
    have HY3 := Lib.hid y3
    clear y3
    generalize fl[m] = qm at *
    obtain ⟨nb, dbm⟩ := qm
    simp only at *
    have bF := box_cell wr #[.string (strB nb), .slice Xb dbm.length xb] 43 0 rfl
    have nF : (wr.alloc (.cells #[.string (strB nb), .slice Xb dbm.length xb] 43)).cell? ⟨HF, 0, none⟩ = some (.string (strB nm)) := (box_old wr _ HF 0 (by omega)).trans kn0
    have hbX : Below wr.heap.size wr (wr.alloc (.cells #[.string (strB nb), .slice Xb dbm.length xb] 43)) := Below.of_alloc _
    by_cases hen : nb = nm
    ·subst hen
     have htn := str_eq_self nb
     have hre : res = none := HNO.out (.inr HMEM.out)
     subst hre
     have hr2 := (hbX.block w.heap.size (by omega)).trans hdR
     obtain ⟨q0, q1, q2, q3, q6, q4, q5, hC⟩ := two_store (wr.alloc (.cells #[.string (strB nb), .slice Xb dbm.length xb] 43)) w.heap.size (.slice none 0 0) (.slice none 0 0) (.slice none 0 0) (.slice none 0 0) _ hr2
     have hb2 := hC.below (B := w.heap.size) (by simp; omega) (fun i hi => by omega)
     clear q6
     go_wp2_with fail
     refine bodyPost_ret (v := .tuple #[.agg #[.slice none 0 0, .slice none 0 0], .bool false]) (by simp [results, Try.results5, go_sem, q4, q5]) rfl ?_
     exact ⟨(hbW.trans (hbX.mono (by omega))).trans hb2, rfl⟩
    ·have hn2 := str_ne hen
     have HNX2 := Lib.hid (HNX.out hen)
     clear hen HNX HMEM
     go_wp2_with fail
     go_roundw
     case rel => exact ⟨m + 1, by omega, by go_num, HNX2.out, hbWm.trans (hbX.mono hsW)⟩
     case measure => simp [intOf]; omega
   obtain rfl : m = k := by omega
   have HLI := Lib.hid (HGO.out (by simp) HNN.out)
   have haW := ha1.below (by omega) hbWm
   have hdW := hda1.below (by omega) hbWm
   have kd0 : wr.cell? ⟨w.heap.size + 1, 0, none⟩ = some accv := cell_of_row _ _ 0 _ _ _ hdD
   obtain ⟨Av, cv, rfl, v1, v2, v3⟩ := haW.open_
   have HV3 := Lib.hid v3
   clear v3
   have HSTEP : Hid (∀ (l9 : Value) (w10 : World), w10.heap[w.heap.size + 1]? = some (.cells #[l9, .slice none 0 0] 28 (0, 0)) → w10.heap[w.heap.size]? = some (.cells #[.slice none 0 0, .slice none 0 0] 28 (0, 0)) → FlsRd B w10 l9 (withL acc (nm, data)) → Below w.heap.size w w10 → LdRel B fl res w (.int .i64 ((m : Int) + 1)) w10) :=
    Lib.hid (fun l9 w10 h1 h2 h3 h4 => ⟨m + 1, _, _, _, by omega, by simp, HLI.out, h1, h2, h3, h4⟩)
   go_wp2_with fail
   refine wp_region_noPanic ?_
   refine beginT (S := (fun w' => Below wr.heap.size wr w')) 11 (by kernel_rfl) ?_ (fun hHeld => ?_)
   ·exact (Below.refl _ _).drew
   refine takeT 0 (some 36) (v := ?_) rfl rfl (by kernel_rfl) (by kernel_rfl) (by kernel_rfl) (by kernel_rfl) (by rfl) hHeld (fun _ _ _ h => h) ?_ ?_
   rotate_left
   ·intro w' hSw; (try dsimp only at hSw); go_simp <;> with_reducible rfl
   simp only [Act.put, List.setIfInBounds_toArray, List.set_cons_zero, List.set_cons_succ]
   refine takeT 1 (some 37) (v := ?_) rfl rfl (by kernel_rfl) (by kernel_rfl) (by kernel_rfl) (by kernel_rfl) (by rfl) hHeld (fun _ _ _ h => h) ?_ ?_
   rotate_left
   ·intro w' hSw; (try dsimp only at hSw); have q0 := (hSw.cell (p := ⟨w.heap.size + 1, 0, none⟩) (show w.heap.size + 1 < wr.heap.size by omega)).trans kd0; go_simp <;> with_reducible rfl
   simp only [Act.put, List.setIfInBounds_toArray, List.set_cons_zero, List.set_cons_succ]
   refine takeT 2 (some 38) (v := ?_) rfl rfl (by kernel_rfl) (by kernel_rfl) (by kernel_rfl) (by kernel_rfl) (by rfl) hHeld (fun _ _ _ h => h) ?_ ?_
   rotate_left
   ·intro w' hSw; (try dsimp only at hSw); go_simp <;> with_reducible rfl
   simp only [Act.put, List.setIfInBounds_toArray, List.set_cons_zero, List.set_cons_succ]
   refine takeT 3 (some 39) (v := ?_) rfl rfl (by kernel_rfl) (by kernel_rfl) (by kernel_rfl) (by kernel_rfl) (by rfl) hHeld (fun _ _ _ h => h) ?_ ?_
   rotate_left
   ·intro w' hSw; (try dsimp only at hSw); have q0 := (hSw.cell (p := ⟨HF, 0, none⟩) (show HF < wr.heap.size by omega)).trans kn0; go_simp <;> with_reducible rfl
   simp only [Act.put, List.setIfInBounds_toArray, List.set_cons_zero, List.set_cons_succ]
   refine takeT 5 (some 41) (v := ?_) rfl rfl (by kernel_rfl) (by kernel_rfl) (by kernel_rfl) (by kernel_rfl) (by rfl) hHeld (fun _ _ _ h => h) ?_ ?_
   rotate_left
   ·intro w' hSw; (try dsimp only at hSw); go_simp <;> with_reducible rfl
   simp only [Act.put, List.setIfInBounds_toArray, List.set_cons_zero, List.set_cons_succ]
   refine takeT 6 (some 42) (v := ?_) rfl rfl (by kernel_rfl) (by kernel_rfl) (by kernel_rfl) (by kernel_rfl) (by rfl) hHeld (fun _ _ _ h => h) ?_ ?_
   rotate_left
   ·intro w' hSw; (try dsimp only at hSw); have q0 := (hSw.cell (p := ⟨HF, 1, none⟩) (show HF < wr.heap.size by omega)).trans kn1; go_simp <;> with_reducible rfl
   simp only [Act.put, List.setIfInBounds_toArray, List.set_cons_zero, List.set_cons_succ]
   refine fork1 4 (by kernel_rfl) ?_
   refine runF 4 (some 40) (v := .slice (some ⟨wr.drew.heap.size, 0, none⟩) 0 0) (w' := wr.drew.alloc (.cells #[] 5)) rfl rfl (by rfl) ?_ ?_
   ·go_simp <;> with_reducible rfl
   obtain ⟨w4x, hw4x⟩ : ∃ w', w' = wr.drew.alloc (.cells #[] 5) := ⟨_, rfl⟩
   rw [← hw4x]
   have hE : w4x.ownsRow wr.heap.size 5 1 (.slice (some ⟨wr.drew.heap.size, 0, none⟩) 0 0) 0 [] := by rw [hw4x]; exact own_empty _ _ _ 1 (Nat.le_refl _)
   have hb_4 : Below wr.heap.size wr w4x := by rw [hw4x]; exact (Below.refl _ _).drew.alloc (Nat.le_refl _) _
   refine keepAnd ?_ (fun hNew => ?_)
   ·intro _; exact hb_4
   have hNew := hNew (by decide)
   clear hHeld
   have hHeld := hNew
   clear hNew
   simp only [Act.put, List.setIfInBounds_toArray, List.set_cons_zero, List.set_cons_succ]
   refine fork1 7 (by kernel_rfl) ?_
   refine opF 7 rfl (by rfl) ?_
   have hs' := hb_4.size
   refine wp_append_app _ (.tmp 40) (.tmp 42) 33 rfl wr.heap.size 5 i1 _ 1 1 Try.underlying33 HI1.out HY0.out HY1.out HY2.out rfl (by omega) _ 0 [] rfl (.inl hE) _ _ data.length (bv data) rfl (Rd.keep (hdW.rd hBW) (fun b hb => hb_4.block b hb)) (bv_one data) (by unfold maxLen; omega) (by omega) (by omega) ?_
   intro v7 w7x _ hA hgA hbA hvA
   have hA := hA (.inr hE)
   rw [Nat.zero_add, List.nil_append] at hA
   obtain ⟨A7, c7, rfl, z1, z2, z3⟩ := Rd.open_ (Rd.of_own hA)
   have HZ3 := Lib.hid z3
   clear z3
   have hb_7 : Below wr.heap.size wr w7x := hb_4.trans hbA
   refine keepAnd ?_ (fun hNew => ?_)
   ·intro _; exact hb_7
   have hNew := hNew (by decide)
   clear hHeld
   have hHeld := hNew
   clear hNew
   simp only [Act.put, List.setIfInBounds_toArray, List.set_cons_zero, List.set_cons_succ]
   refine takeT 8 (some 44) (v := ?_) rfl rfl (by kernel_rfl) (by kernel_rfl) (by kernel_rfl) (by kernel_rfl) (by rfl) hHeld (fun _ _ _ h => h) ?_ ?_
   rotate_left
   ·intro w' hSw; (try dsimp only at hSw); go_simp <;> with_reducible rfl
   simp only [Act.put, List.setIfInBounds_toArray, List.set_cons_zero, List.set_cons_succ]
   refine fork1 9 (by kernel_rfl) ?_
   refine callF 9 (some 45) (f := ?_) (args := ?_) rfl rfl (by rfl) ?_ ?_
   rotate_left 2
   ·go_simp <;> first | (constructor <;> with_reducible rfl) | with_reducible rfl
   have hs7 := hb_7.size
   (with_reducible refine (rwith_any B (.slice Av acc.length cv) acc nm data (.slice A7 data.length c7) w7x ?_ ?_ ?_ ?_).mono ?_)
   ·omega
   ·exact haW.below hBW hb_7
   ·exact DatB.of_own hA (fun h0 => DatB.nb hdW h0)
   ·omega
   rintro e w9x ⟨l9, rfl, hO9, hb9⟩
   have hl9 := hO9.rd
   obtain ⟨A9, c9, rfl, s1, s2, s3⟩ := hl9.open_
   have HS3 := Lib.hid s3
   clear s3
   generalize hn9 : (withL acc (nm, data)).length = n9 at *
   clear hn9
   have hb_9 : Below wr.heap.size wr w9x := hb_7.trans (hb9.mono hs7)
   have hs9 := hb_9.size
   have hd9 := (hb_9.block (w.heap.size + 1) (by omega)).trans hdD
   have kc9 : w9x.cell? ⟨w.heap.size + 1, 0, none⟩ = some (.slice Av acc.length cv) := cell_of_row _ _ 0 _ _ _ hd9
   have kf9 : w9x.frozen? ⟨w.heap.size + 1, 0, none⟩ = false := frozen_of_row _ _ 0 _ _ hd9
   refine ⟨_, rfl, ?_⟩
   refine keepAnd ?_ (fun hNew => ?_)
   ·intro _; exact hb_9
   have hNew := hNew (by decide)
   clear hHeld
   have hHeld := hNew
   clear hNew
   simp only [Act.put, List.setIfInBounds_toArray, List.set_cons_zero, List.set_cons_succ]
   refine takeT 10 (some 46) (v := ?_) rfl rfl (by kernel_rfl) (by kernel_rfl) (by kernel_rfl) (by kernel_rfl) (by rfl) hHeld (fun _ _ _ h => h) ?_ ?_
   rotate_left
   ·intro w' hSw; (try dsimp only at hSw); go_simp <;> with_reducible rfl
   simp only [Act.put, List.setIfInBounds_toArray, List.set_cons_zero, List.set_cons_succ]
   refine fork1 11 (by kernel_rfl) ?_
   refine skipRunF 11 none (w' := w9x.setCell ⟨w.heap.size + 1, 0, none⟩ (.slice A9 n9 c9)) rfl rfl (by rfl) ?_ ?_
   ·go_simp <;> with_reducible rfl
   refine ⟨fun h => absurd rfl h, ?_⟩
   clear hHeld
   simp only [Act.put]
   refine doneT (by kernel_rfl) ?_ _
   refine NoPanic.normal ?_
   have hr10 := heap_setCell_same w9x (w.heap.size + 1) 0 _ _ (.slice A9 n9 c9) hd9
   have hC10 : Chg (· = w.heap.size + 1) w9x (w9x.setCell ⟨w.heap.size + 1, 0, none⟩ (.slice A9 n9 c9)) := Chg.setCell (S := (· = w.heap.size + 1)) (Chg.refl _ w9x) (.inl rfl) _
   have hl10 := FlsRd.box hl9 (by omega) (by omega) hd9 hC10
   have hb10 : Below w.heap.size w9x (w9x.setCell ⟨w.heap.size + 1, 0, none⟩ (.slice A9 n9 c9)) := hC10.below (by omega) (fun i hi => by omega)
   have hR10 := (hC10.block w.heap.size (by omega) (by omega)).trans ((hb_9.block w.heap.size (by omega)).trans hdR)
   have hs10 := hC10.size
   have hD10 : (w9x.setCell ⟨w.heap.size + 1, 0, none⟩ (.slice A9 n9 c9)).heap[w.heap.size + 1]? = some (.cells #[.slice A9 n9 c9, .slice none 0 0] 28 (0, 0)) := hr10
   have hbW10 : Below w.heap.size w (w9x.setCell ⟨w.heap.size + 1, 0, none⟩ (.slice A9 n9 c9)) := (hbW.trans (hb_9.mono (by omega))).trans hb10
   clear kc9 kf9 hd9
   go_wp2_with fail
   go_roundw
   case rel => exact HSTEP.out _ _ hD10 hR10 hl10 hbW10
   case measure => simp [intOf]; omega
  ·have hke : k = fl.length := by omega
   have hre : res = some fm := by rw [← HINV.out.res, hke, List.drop_length]; rfl
   subst hre
   have HI := Lib.hid HINV.out.isl
   have HS : Hid (RSz (flsum fl + fl.length) acc []) := Lib.hid ⟨by simp; omega, fun p hp => by have := HINV.out.siz p hp; simp [dsum]; omega, by simp [dsum], fun o ho => by cases ho⟩
   obtain ⟨Av, cv, rfl, v1, v2, v3⟩ := hacc.open_
   have HV3 := Lib.hid v3
   clear v3
   have kd0 : wr.cell? ⟨w.heap.size + 1, 0, none⟩ = some (.slice Av acc.length cv) := cell_of_row _ _ 0 _ _ _ hdD
   have kd1 : wr.cell? ⟨w.heap.size + 1, 1, none⟩ = some (.slice none 0 0) := cell_of_row _ _ 1 _ _ _ hdD
   obtain ⟨q0, q1, q2, q3, q6, q4, q5, hC⟩ := two_store wr w.heap.size (.slice none 0 0) (.slice none 0 0) (.slice Av acc.length cv) (.slice none 0 0) _ hdR
   have hv9 := FlsRd.box hacc hBr (by omega) hdR hC
   have hb9 := hC.below (B := w.heap.size) (by omega) (fun i hi => by omega)
   clear q6
   go_wp2_with fail
   refine bodyPost_ret (v := .tuple #[.agg #[.slice Av acc.length cv, .slice none 0 0], .bool true]) (by simp [results, Try.results5, go_sem, q4, q5]) rfl ?_
   exact ⟨hbw.trans hb9, _, _, rfl, hv9, HI.out, HS.out⟩
end
section
set_option maxRecDepth 100000
open Go.RowKit Go.Lib Go.IntWalk
/-- a disk and a value of the reference that agree -/
def Both [Inhabited Nb] (B Z : Nat) (w : World) (D : Nat) (P : Option Nat) (lv ov : Value) : Prop :=
 ∃ fm os fl, DiskAt B Z w D P fm os ∧ FlsRd B w lv fl ∧ DosRd B w ov os ∧ IsL fm fl ∧ OkOps fm os ∧ RSz Z fl os
theorem DiskAt.dor {_ : Inhabited Nb} {B Z : Nat} {w : World} {D : Nat} {P : Option Nat} {fm : FM} {os : List DOp} (h : DiskAt B Z w D P fm os) : ∀ b, DoR B w b → ¬ (b = D ∨ some b = P) := by
 rintro b (hb | ⟨cs, hb⟩) hd
 ·have := h.ge hd; omega
 ·exact h.not_log hb (by decide) (by decide) hd
theorem DiskAt.fr34 {_ : Inhabited Nb} {B Z : Nat} {w : World} {D : Nat} {P : Option Nat} {fm : FM} {os : List DOp} (h : DiskAt B Z w D P fm os) : ∀ b, FR B w b → ¬ (b = D ∨ some b = P) := by
 rintro b (hb | ⟨cs, hb⟩) hd
 ·have := h.ge hd; omega
 ·exact h.not_log hb (by decide) (by decide) hd
theorem Both.below {_ : Inhabited Nb} {B Z : Nat} {w w' : World} {D : Nat} {P : Option Nat} {lv ov : Value} (h : Both B Z w D P lv ov) (hB : B ≤ w.heap.size) (hb : Below w.heap.size w w') : Both B Z w' D P lv ov := by
 obtain ⟨fm, os, fl, h1, h2, h3, h4, h5, h6⟩ := h
 exact ⟨fm, os, fl, h1.below hB hb, h2.below hB hb, h3.below hB hb, h4, h5, h6⟩
theorem Both.mono {_ : Inhabited Nb} {B Z Z' : Nat} {w : World} {D : Nat} {P : Option Nat} {lv ov : Value} (h : Both B Z w D P lv ov) (hZ : Z ≤ Z') : Both B Z' w D P lv ov := by
 obtain ⟨fm, os, fl, h1, h2, h3, h4, h5, h6⟩ := h
 exact ⟨fm, os, fl, h1.mono hZ, h2, h3, h4, h5, h6.mono hZ⟩
end
end Go.Proofs.Ythfbfmkdplifeaa
