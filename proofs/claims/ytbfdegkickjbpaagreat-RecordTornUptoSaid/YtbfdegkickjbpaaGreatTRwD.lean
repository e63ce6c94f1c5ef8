/-
 RwD
-/
import Derived.Test.YtbfdegkickjbpaaGreatTRwC
namespace Go.Proofs.YtbfdegkickjbpaaGreat
open Go.RowKit Go.Lib Go.IntWalk Go.Sort Go.Shelf
/-- what a table must be to be written -/
structure tabW (w : World) (base : Nat) (t : RTab) : Prop where
 nm : t.name.size ≤ 300
 cols : RdE 3 RCol.enc w (· < base) (.slice t.colA t.cols.length t.colC) t.cols
 colS : ∀ x ∈ t.cols, x.name.size ≤ 300 ∧ (-9223372036854775808 ≤ x.kind ∧ x.kind ≤ 9223372036854775807)
 key : RdE 1 intE w (· < base) (.slice t.keyA t.key.length t.keyC) t.key
 keyS : ∀ n ∈ t.key, (-9223372036854775808 ≤ n ∧ n ≤ 9223372036854775807)
 fors : RdE 2 RFor.enc w (· < base) (.slice t.forA t.fors.length t.forC) t.fors
 forS : ∀ x ∈ t.fors, forW w base x
 chks : RdE 7 RE.enc w (· < base) (.slice t.chkA t.chks.length t.chkC) t.chks
 chkS : ∀ e ∈ t.chks, exIs 24 w (· < base) e ∧ okX 24 e = true
theorem tabW.keep {w w' : World} {base : Nat} {t : RTab} (h : tabW w base t) (hb : Below base w w') : tabW w' base t :=
 ⟨h.nm, h.cols.keep (Keeps.below hb), h.colS, h.key.keep (Keeps.below hb), h.keyS, h.fors.keep (Keeps.below hb), fun x hx => (h.forS x hx).keep hb, h.chks.keep (Keeps.below hb), fun e he => ⟨exIs_keep (Keeps.below hb) 24 e (h.chkS e he).1, (h.chkS e he).2⟩⟩
theorem wTab_x (base B : Nat) (l : List UInt8) (t : RTab) (w : World) (hbB : base ≤ B) (h : BufAt w base B l) (ht : tabW w base t) (hl : (l ++ encTab t).length + 4000 ≤ 140737488300000) :
  Calls Tryz.prog 149 #[.pointer (some ⟨B, 0, none⟩), .agg t.enc.toArray] w (BufOut base B (l ++ encTab t) w) :=
 wTab0 base B l t.name t.colA t.colC t.cols t.keyA t.keyC t.key t.forA t.forC t.fors t.chkA t.chkC t.chks w hbB h ht.nm ht.cols ht.colS ht.key ht.keyS ht.fors ht.forS ht.chks ht.chkS hl
/-- what a change must be to be written -/
structure chnW (c : Chn) : Prop where
 name : c.name.size ≤ 300
 to : c.to.size ≤ 300
 cname : c.cname.size ≤ 300
 ckind : (-9223372036854775808 ≤ c.ckind ∧ c.ckind ≤ 9223372036854775807)
 di : (-9223372036854775808 ≤ c.def_.int ∧ c.def_.int ≤ 9223372036854775807)
 dt : c.def_.text.size ≤ 200
 dl : (encV c.def_).length ≤ 4000
 d3 : c.def_.kind = 3 → c.def_.int = 0 ∨ c.def_.int = 1
structure entW (w : World) (base : Nat) (x : REn) : Prop where
 tm : (-9223372036854775808 ≤ x.time ∧ x.time ≤ 9223372036854775807)
 tb : x.table.size ≤ 300
 kd : (-9223372036854775808 ≤ x.change.kind ∧ x.change.kind ≤ 9223372036854775807)
 tab : x.change.kind = 0 → tabW w base x.create
 ch : x.change.kind ≠ 0 → chnW x.change
theorem entW.keep {w w' : World} {base : Nat} {x : REn} (h : entW w base x) (hb : Below base w w') : entW w' base x := ⟨h.tm, h.tb, h.kd, fun hk => (h.tab hk).keep hb, h.ch⟩
def encEnt0 (x : REn) : List UInt8 := encI x.time ++ ((encI x.table.size ++ x.table.data.toList) ++ (encI 0 ++ encTab x.create))
def encEnt1 (x : REn) : List UInt8 := encI x.time ++ ((encI x.table.size ++ x.table.data.toList) ++ (encI x.change.kind ++ ((encI x.change.name.size ++ x.change.name.data.toList) ++ ((encI x.change.to.size ++ x.change.to.data.toList) ++ (((encI x.change.cname.size ++ x.change.cname.data.toList) ++ (encI x.change.ckind ++ flagE x.change.cnull)) ++ encV x.change.def_)))))
def encEnt (x : REn) : List UInt8 := if x.change.kind = 0 then encEnt0 x else encEnt1 x
set_option maxRecDepth 1000000 in
set_option maxHeartbeats 16000000 in
theorem wEnt0 (base B : Nat) (l : List UInt8) (tm : Int) (tb nm : ByteArray) (colA : Option Addr) (colC : Nat) (cols : List RCol) (keyA : Option Addr) (keyC : Nat) (key : List Int) (forA : Option Addr) (forC : Nat) (fors : List RFor) (chkA : Option Addr) (chkC : Nat) (chks : List RE) (x2 x3 x4 : ByteArray) (x5 : Int) (x6 : Bool) (x7 x8 : Int) (x9 : ByteArray) (w : World) (hbB : base ≤ B) (h : BufAt w base B l) (htm1 : -9223372036854775808 ≤ tm) (htm2 : tm ≤ 9223372036854775807) (htb : tb.size ≤ 300) (ht : tabW w base ⟨nm, colA, colC, cols, keyA, keyC, key, forA, forC, fors, chkA, chkC, chks⟩) (hl : (l ++ (encI tm ++ ((encI tb.size ++ tb.data.toList) ++ (encI 0 ++ (encTab ⟨nm, colA, colC, cols, keyA, keyC, key, forA, forC, fors, chkA, chkC, chks⟩))))).length + 4000 ≤ 140737488300000) :
  Calls Tryz.prog 48 #[.pointer (some ⟨B, 0, none⟩), .agg #[.int .i64 tm, .string tb, .string nm, .slice colA cols.length colC, .slice keyA key.length keyC, .slice forA fors.length forC, .slice chkA chks.length chkC, .int .i64 0, .string x2, .string x3, .string x4, .int .i64 x5, .bool x6, .int .i64 x7, .int .i64 x8, .string x9]] w (BufOut base B (l ++ (encI tm ++ ((encI tb.size ++ tb.data.toList) ++ (encI 0 ++ (encTab ⟨nm, colA, colC, cols, keyA, keyC, key, forA, forC, fors, chkA, chkC, chks⟩))))) w) := by
 have hBl := h.lt
 have hw0 : base ≤ w.heap.size := by omega
 have HLn := Lib.hid hl
 clear hl
 obtain ⟨W, hW⟩ : ∃ W, W = w.alloc (.cells #[.int .i64 tm, .string tb, .string nm, .slice colA cols.length colC, .slice keyA key.length keyC, .slice forA fors.length forC, .slice chkA chks.length chkC, .int .i64 0, .string x2, .string x3, .string x4, .int .i64 x5, .bool x6, .int .i64 x7, .int .i64 x8, .string x9] 83) := ⟨_, rfl⟩
 have hbW : Below w.heap.size w W := by rw [hW]; exact Below.of_alloc _
 have hWs : W.heap.size = w.heap.size + 1 := by rw [hW]; simp
 have hWh : W.heap[w.heap.size]? = some (.cells #[.int .i64 tm, .string tb, .string nm, .slice colA cols.length colC, .slice keyA key.length keyC, .slice forA fors.length forC, .slice chkA chks.length chkC, .int .i64 0, .string x2, .string x3, .string x4, .int .i64 x5, .bool x6, .int .i64 x7, .int .i64 x8, .string x9] 83 (0, 0)) := by rw [hW]; exact heap_alloc_new _ _
 have HW := Lib.hid hW
 clear hW
 have HTW := Lib.hid ht
 clear ht
 go_enter Tryz.func48, Tryz.ntmps48
 go_wp2_with fail
 rw [← HW.out]
 have hA0 : BufAt W base B l := h.below hbW
 have hB0 : Below base w W := hbW.mono hw0
 have hK0 : KeepO B w W := KeepO.of_below hbW
 clear h hbW
 refine wp_region_noPanic ?_
 refine wp_region_held_drew (S := (fun w' => ∀ j u, [.int .i64 tm, .string tb, .string nm, .slice colA cols.length colC, .slice keyA key.length keyC, .slice forA fors.length forC, .slice chkA chks.length chkC, .int .i64 0, .string x2, .string x3, .string x4, .int .i64 x5, .bool x6, .int .i64 x7, .int .i64 x8, .string x9][j]? = some u → w'.cell? ⟨w.heap.size, j, none⟩ = some u)) (by kernel_rfl) ?_ (fun hHeld => ?_)
 ·exact fun j u hj => (cell_of_row _ w.heap.size j _ _ _ hWh).trans (by simpa using hj)
 refine hT 0 4 hHeld ?_
 simp only [aP]
 refine hT 1 5 hHeld ?_
 simp only [aP]
 refine hT 2 6 hHeld ?_
 simp only [aP]
 refine hT 3 7 hHeld ?_
 simp only [aP]
 refine hU 4 8 (v := ?_) hHeld ?_ ?_
 rotate_left
 ·intro w' hSw; (try dsimp only at hSw); have q0 := hSw 0 _ rfl; go_simp <;> with_reducible rfl
 simp only [aP]
 refine hC 5 9 ?_
 (with_reducible refine (bufInt_any base B (l) tm _ hbB hA0.drew htm1 htm2 (by have := HLn.out; simp only [List.length_append] at this ⊢; omega)).mono ?_)
 rintro _ w1 ⟨rfl, hA1, hb', hk'⟩
 have hB1 : Below base w w1 := hB0.trans (Below.undrew hb')
 have hK1 : KeepO B w w1 := hK0.trans hk'
 have hWh' := (hk'.2 w.heap.size (by have : W.drew.heap.size = W.heap.size := rfl; have := hWs; first | omega | (have := hsz0; omega)) (by omega) (by intro cur; rw [show W.drew.heap[w.heap.size]? = _ from hWh]; simp)).trans (show W.drew.heap[w.heap.size]? = _ from hWh)
 have hsz1 : w.heap.size + 1 ≤ w1.heap.size := by have := hk'.1; have : W.drew.heap.size = W.heap.size := rfl; first | omega | (have := hsz0; omega)
 clear hWh hb' hk'
 have hWh := hWh'
 clear hWh'
 refine ⟨_, rfl, keepAnd ?_ (fun hNew => ?_)⟩
 ·exact fun j u hj => (cell_of_row _ w.heap.size j _ _ _ hWh).trans (by simpa using hj)
 clear hHeld
 have hHeld := hNew
 clear hNew
 simp only [aP]
 refine wpAnyH_done (by kernel_rfl) ?_ _
 refine NoPanic.normal ?_
 clear hHeld
 clear hA0 hB0 hK0
 go_wp2_with fail
 refine wp_region_noPanic ?_
 refine wp_region_held_drew (S := (fun w' => ∀ j u, [.int .i64 tm, .string tb, .string nm, .slice colA cols.length colC, .slice keyA key.length keyC, .slice forA fors.length forC, .slice chkA chks.length chkC, .int .i64 0, .string x2, .string x3, .string x4, .int .i64 x5, .bool x6, .int .i64 x7, .int .i64 x8, .string x9][j]? = some u → w'.cell? ⟨w.heap.size, j, none⟩ = some u)) (by kernel_rfl) ?_ (fun hHeld => ?_)
 ·exact fun j u hj => (cell_of_row _ w.heap.size j _ _ _ hWh).trans (by simpa using hj)
 refine hT 0 10 hHeld ?_
 simp only [aP]
 refine hT 1 11 hHeld ?_
 simp only [aP]
 refine hT 2 12 hHeld ?_
 simp only [aP]
 refine hT 3 13 hHeld ?_
 simp only [aP]
 refine hU 4 14 (v := ?_) hHeld ?_ ?_
 rotate_left
 ·intro w' hSw; (try dsimp only at hSw); have q1 := hSw 1 _ rfl; go_simp <;> with_reducible rfl
 simp only [aP]
 refine hC 5 15 ?_
 (with_reducible refine (bufText_any base B (l ++ encI tm) tb _ hbB hA1.drew htb (by have := HLn.out; simp only [List.length_append] at this ⊢; omega)).mono ?_)
 rintro _ w2 ⟨rfl, hA2, hb', hk'⟩
 have hB2 : Below base w w2 := hB1.trans (Below.undrew hb')
 have hK2 : KeepO B w w2 := hK1.trans hk'
 have hWh' := (hk'.2 w.heap.size (by have : w1.drew.heap.size = w1.heap.size := rfl; have := hWs; first | omega | (have := hsz1; omega)) (by omega) (by intro cur; rw [show w1.drew.heap[w.heap.size]? = _ from hWh]; simp)).trans (show w1.drew.heap[w.heap.size]? = _ from hWh)
 have hsz2 : w.heap.size + 1 ≤ w2.heap.size := by have := hk'.1; have : w1.drew.heap.size = w1.heap.size := rfl; first | omega | (have := hsz1; omega)
 clear hWh hb' hk'
 have hWh := hWh'
 clear hWh'
 refine ⟨_, rfl, keepAnd ?_ (fun hNew => ?_)⟩
 ·exact fun j u hj => (cell_of_row _ w.heap.size j _ _ _ hWh).trans (by simpa using hj)
 clear hHeld
 have hHeld := hNew
 clear hNew
 simp only [aP]
 refine wpAnyH_done (by kernel_rfl) ?_ _
 refine NoPanic.normal ?_
 clear hHeld
 clear hA1 hB1 hK1
 go_wp2_with fail
 refine wp_region_noPanic ?_
 refine wp_region_held_drew (S := (fun w' => ∀ j u, [.int .i64 tm, .string tb, .string nm, .slice colA cols.length colC, .slice keyA key.length keyC, .slice forA fors.length forC, .slice chkA chks.length chkC, .int .i64 0, .string x2, .string x3, .string x4, .int .i64 x5, .bool x6, .int .i64 x7, .int .i64 x8, .string x9][j]? = some u → w'.cell? ⟨w.heap.size, j, none⟩ = some u)) (by kernel_rfl) ?_ (fun hHeld => ?_)
 ·exact fun j u hj => (cell_of_row _ w.heap.size j _ _ _ hWh).trans (by simpa using hj)
 refine hT 0 16 hHeld ?_
 simp only [aP]
 refine hT 1 17 hHeld ?_
 simp only [aP]
 refine hT 2 18 hHeld ?_
 simp only [aP]
 refine hT 3 19 hHeld ?_
 simp only [aP]
 refine hT 4 20 hHeld ?_
 simp only [aP]
 refine hU 5 21 (v := ?_) hHeld ?_ ?_
 rotate_left
 ·intro w' hSw; (try dsimp only at hSw); have q7 := hSw 7 _ rfl; go_simp <;> with_reducible rfl
 simp only [aP]
 refine hC 6 22 ?_
 (with_reducible refine (bufInt_any base B (l ++ encI tm ++ (encI tb.size ++ tb.data.toList)) 0 _ hbB hA2.drew (by omega) (by omega) (by have := HLn.out; simp only [List.length_append] at this ⊢; omega)).mono ?_)
 rintro _ w3 ⟨rfl, hA3, hb', hk'⟩
 have hB3 : Below base w w3 := hB2.trans (Below.undrew hb')
 have hK3 : KeepO B w w3 := hK2.trans hk'
 have hWh' := (hk'.2 w.heap.size (by have : w2.drew.heap.size = w2.heap.size := rfl; have := hWs; first | omega | (have := hsz2; omega)) (by omega) (by intro cur; rw [show w2.drew.heap[w.heap.size]? = _ from hWh]; simp)).trans (show w2.drew.heap[w.heap.size]? = _ from hWh)
 have hsz3 : w.heap.size + 1 ≤ w3.heap.size := by have := hk'.1; have : w2.drew.heap.size = w2.heap.size := rfl; first | omega | (have := hsz2; omega)
 clear hWh hb' hk'
 have hWh := hWh'
 clear hWh'
 refine ⟨_, rfl, keepAnd ?_ (fun hNew => ?_)⟩
 ·exact fun j u hj => (cell_of_row _ w.heap.size j _ _ _ hWh).trans (by simpa using hj)
 clear hHeld
 have hHeld := hNew
 clear hNew
 simp only [aP]
 refine wpAnyH_done (by kernel_rfl) ?_ _
 refine NoPanic.normal ?_
 clear hHeld
 clear hA2 hB2 hK2
 have KT : Calls Tryz.prog 149 #[.pointer (some ⟨B, 0, none⟩), .agg #[.string nm, .slice colA cols.length colC, .slice keyA key.length keyC, .slice forA fors.length forC, .slice chkA chks.length chkC]] w3 (BufOut base B (l ++ encI tm ++ (encI tb.size ++ tb.data.toList) ++ encI 0 ++ encTab ⟨nm, colA, colC, cols, keyA, keyC, key, forA, forC, fors, chkA, chkC, chks⟩) w3) := wTab_x base B (l ++ encI tm ++ (encI tb.size ++ tb.data.toList) ++ encI 0) ⟨nm, colA, colC, cols, keyA, keyC, key, forA, forC, fors, chkA, chkC, chks⟩ w3 hbB hA3 (HTW.out.keep hB3) (by have := HLn.out; simp only [List.length_append] at this ⊢; omega)
 have q7 : w3.cell? ⟨w.heap.size, 7, none⟩ = some (.int .i64 0) := cell_of_row _ w.heap.size 7 _ _ _ hWh
 have q2 : w3.cell? ⟨w.heap.size, 2, none⟩ = some (.string nm) := cell_of_row _ w.heap.size 2 _ _ _ hWh
 have q3 : w3.cell? ⟨w.heap.size, 3, none⟩ = some (.slice colA cols.length colC) := cell_of_row _ w.heap.size 3 _ _ _ hWh
 have q4 : w3.cell? ⟨w.heap.size, 4, none⟩ = some (.slice keyA key.length keyC) := cell_of_row _ w.heap.size 4 _ _ _ hWh
 have q5 : w3.cell? ⟨w.heap.size, 5, none⟩ = some (.slice forA fors.length forC) := cell_of_row _ w.heap.size 5 _ _ _ hWh
 have q6 : w3.cell? ⟨w.heap.size, 6, none⟩ = some (.slice chkA chks.length chkC) := cell_of_row _ w.heap.size 6 _ _ _ hWh
 go_wp2_with fail
 (with_reducible refine ((show Calls Tryz.prog 149 #[.pointer (some ⟨B, 0, none⟩), .agg #[.string nm, .slice colA cols.length colC, .slice keyA key.length keyC, .slice forA fors.length forC, .slice chkA chks.length chkC]] w3 (BufOut base B (l ++ encI tm ++ (encI tb.size ++ tb.data.toList) ++ encI 0 ++ encTab ⟨nm, colA, colC, cols, keyA, keyC, key, forA, forC, fors, chkA, chkC, chks⟩) w3) from KT)).mono ?_)
 rintro _ w4 ⟨rfl, hA4, hb', hk'⟩
 have hB4 : Below base w w4 := hB3.trans hb'
 have hK4 : KeepO B w w4 := hK3.trans hk'
 have hWh' := (hk'.2 w.heap.size (by have : w3.drew.heap.size = w3.heap.size := rfl; have := hWs; first | omega | (have := hsz3; omega)) (by omega) (by intro cur; rw [show w3.heap[w.heap.size]? = _ from hWh]; simp)).trans (show w3.heap[w.heap.size]? = _ from hWh)
 have hsz4 : w.heap.size + 1 ≤ w4.heap.size := by have := hk'.1; have : w3.drew.heap.size = w3.heap.size := rfl; first | omega | (have := hsz3; omega)
 clear hWh hb' hk'
 have hWh := hWh'
 clear hWh'
 clear q7 q2 q3 q4 q5 q6
 clear hA3 hB3 hK3
 go_wp2_with fail
 go_end0
 refine ⟨rfl, ?_, hB4, hK4⟩
 have e : l ++ (encI tm ++ ((encI tb.size ++ tb.data.toList) ++ (encI 0 ++ (encTab ⟨nm, colA, colC, cols, keyA, keyC, key, forA, forC, fors, chkA, chkC, chks⟩)))) = l ++ encI tm ++ (encI tb.size ++ tb.data.toList) ++ encI 0 ++ encTab ⟨nm, colA, colC, cols, keyA, keyC, key, forA, forC, fors, chkA, chkC, chks⟩ := by simp only [List.append_assoc]
 rw [e]
 exact hA4
set_option maxRecDepth 1000000 in
set_option maxHeartbeats 16000000 in
theorem wEnt1 (base B : Nat) (l : List UInt8) (tm : Int) (tb nm : ByteArray) (colA : Option Addr) (colC : Nat) (cols : List RCol) (keyA : Option Addr) (keyC : Nat) (key : List Int) (forA : Option Addr) (forC : Nat) (fors : List RFor) (chkA : Option Addr) (chkC : Nat) (chks : List RE) (x1 : Int) (x2 x3 x4 : ByteArray) (x5 : Int) (x6 : Bool) (x7 x8 : Int) (x9 : ByteArray) (w : World) (hbB : base ≤ B) (h : BufAt w base B l) (hk : ¬ x1 = 0) (htm1 : -9223372036854775808 ≤ tm) (htm2 : tm ≤ 9223372036854775807) (htb : tb.size ≤ 300) (hx11 : -9223372036854775808 ≤ x1) (hx12 : x1 ≤ 9223372036854775807) (hx2 : x2.size ≤ 300) (hx3 : x3.size ≤ 300) (hx4 : x4.size ≤ 300) (hx51 : -9223372036854775808 ≤ x5) (hx52 : x5 ≤ 9223372036854775807) (hx81 : -9223372036854775808 ≤ x8) (hx82 : x8 ≤ 9223372036854775807) (hx9 : x9.size ≤ 3000) (hvx9 : (encV ⟨x7, x8, x9⟩).length ≤ 4000) (hl : (l ++ (encI tm ++ ((encI tb.size ++ tb.data.toList) ++ (encI x1 ++ ((encI x2.size ++ x2.data.toList) ++ ((encI x3.size ++ x3.data.toList) ++ (((encI x4.size ++ x4.data.toList) ++ (encI x5 ++ flagE x6)) ++ (encV ⟨x7, x8, x9⟩)))))))).length + 4000 ≤ 140737488300000) :
  Calls Tryz.prog 48 #[.pointer (some ⟨B, 0, none⟩), .agg #[.int .i64 tm, .string tb, .string nm, .slice colA cols.length colC, .slice keyA key.length keyC, .slice forA fors.length forC, .slice chkA chks.length chkC, .int .i64 x1, .string x2, .string x3, .string x4, .int .i64 x5, .bool x6, .int .i64 x7, .int .i64 x8, .string x9]] w (BufOut base B (l ++ (encI tm ++ ((encI tb.size ++ tb.data.toList) ++ (encI x1 ++ ((encI x2.size ++ x2.data.toList) ++ ((encI x3.size ++ x3.data.toList) ++ (((encI x4.size ++ x4.data.toList) ++ (encI x5 ++ flagE x6)) ++ (encV ⟨x7, x8, x9⟩)))))))) w) := by
 have hBl := h.lt
 have hw0 : base ≤ w.heap.size := by omega
 have HLn := Lib.hid hl
 clear hl
 obtain ⟨W, hW⟩ : ∃ W, W = w.alloc (.cells #[.int .i64 tm, .string tb, .string nm, .slice colA cols.length colC, .slice keyA key.length keyC, .slice forA fors.length forC, .slice chkA chks.length chkC, .int .i64 x1, .string x2, .string x3, .string x4, .int .i64 x5, .bool x6, .int .i64 x7, .int .i64 x8, .string x9] 83) := ⟨_, rfl⟩
 have hbW : Below w.heap.size w W := by rw [hW]; exact Below.of_alloc _
 have hWs : W.heap.size = w.heap.size + 1 := by rw [hW]; simp
 have hWh : W.heap[w.heap.size]? = some (.cells #[.int .i64 tm, .string tb, .string nm, .slice colA cols.length colC, .slice keyA key.length keyC, .slice forA fors.length forC, .slice chkA chks.length chkC, .int .i64 x1, .string x2, .string x3, .string x4, .int .i64 x5, .bool x6, .int .i64 x7, .int .i64 x8, .string x9] 83 (0, 0)) := by rw [hW]; exact heap_alloc_new _ _
 have HW := Lib.hid hW
 clear hW
 go_enter Tryz.func48, Tryz.ntmps48
 go_wp2_with fail
 rw [← HW.out]
 have hA0 : BufAt W base B l := h.below hbW
 have hB0 : Below base w W := hbW.mono hw0
 have hK0 : KeepO B w W := KeepO.of_below hbW
 clear h hbW
 refine wp_region_noPanic ?_
 refine wp_region_held_drew (S := (fun w' => ∀ j u, [.int .i64 tm, .string tb, .string nm, .slice colA cols.length colC, .slice keyA key.length keyC, .slice forA fors.length forC, .slice chkA chks.length chkC, .int .i64 x1, .string x2, .string x3, .string x4, .int .i64 x5, .bool x6, .int .i64 x7, .int .i64 x8, .string x9][j]? = some u → w'.cell? ⟨w.heap.size, j, none⟩ = some u)) (by kernel_rfl) ?_ (fun hHeld => ?_)
 ·exact fun j u hj => (cell_of_row _ w.heap.size j _ _ _ hWh).trans (by simpa using hj)
 refine hT 0 4 hHeld ?_
 simp only [aP]
 refine hT 1 5 hHeld ?_
 simp only [aP]
 refine hT 2 6 hHeld ?_
 simp only [aP]
 refine hT 3 7 hHeld ?_
 simp only [aP]
 refine hU 4 8 (v := ?_) hHeld ?_ ?_
 rotate_left
 ·intro w' hSw; (try dsimp only at hSw); have q0 := hSw 0 _ rfl; go_simp <;> with_reducible rfl
 simp only [aP]
 refine hC 5 9 ?_
 (with_reducible refine (bufInt_any base B (l) tm _ hbB hA0.drew htm1 htm2 (by have := HLn.out; simp only [List.length_append] at this ⊢; omega)).mono ?_)
 rintro _ w1 ⟨rfl, hA1, hb', hk'⟩
 have hB1 : Below base w w1 := hB0.trans (Below.undrew hb')
 have hK1 : KeepO B w w1 := hK0.trans hk'
 have hWh' := (hk'.2 w.heap.size (by have : W.drew.heap.size = W.heap.size := rfl; have := hWs; first | omega | (have := hsz0; omega)) (by omega) (by intro cur; rw [show W.drew.heap[w.heap.size]? = _ from hWh]; simp)).trans (show W.drew.heap[w.heap.size]? = _ from hWh)
 have hsz1 : w.heap.size + 1 ≤ w1.heap.size := by have := hk'.1; have : W.drew.heap.size = W.heap.size := rfl; first | omega | (have := hsz0; omega)
 clear hWh hb' hk'
 have hWh := hWh'
 clear hWh'
 refine ⟨_, rfl, keepAnd ?_ (fun hNew => ?_)⟩
 ·exact fun j u hj => (cell_of_row _ w.heap.size j _ _ _ hWh).trans (by simpa using hj)
 clear hHeld
 have hHeld := hNew
 clear hNew
 simp only [aP]
 refine wpAnyH_done (by kernel_rfl) ?_ _
 refine NoPanic.normal ?_
 clear hHeld
 clear hA0 hB0 hK0
 go_wp2_with fail
 refine wp_region_noPanic ?_
 refine wp_region_held_drew (S := (fun w' => ∀ j u, [.int .i64 tm, .string tb, .string nm, .slice colA cols.length colC, .slice keyA key.length keyC, .slice forA fors.length forC, .slice chkA chks.length chkC, .int .i64 x1, .string x2, .string x3, .string x4, .int .i64 x5, .bool x6, .int .i64 x7, .int .i64 x8, .string x9][j]? = some u → w'.cell? ⟨w.heap.size, j, none⟩ = some u)) (by kernel_rfl) ?_ (fun hHeld => ?_)
 ·exact fun j u hj => (cell_of_row _ w.heap.size j _ _ _ hWh).trans (by simpa using hj)
 refine hT 0 10 hHeld ?_
 simp only [aP]
 refine hT 1 11 hHeld ?_
 simp only [aP]
 refine hT 2 12 hHeld ?_
 simp only [aP]
 refine hT 3 13 hHeld ?_
 simp only [aP]
 refine hU 4 14 (v := ?_) hHeld ?_ ?_
 rotate_left
 ·intro w' hSw; (try dsimp only at hSw); have q1 := hSw 1 _ rfl; go_simp <;> with_reducible rfl
 simp only [aP]
 refine hC 5 15 ?_
 (with_reducible refine (bufText_any base B (l ++ encI tm) tb _ hbB hA1.drew htb (by have := HLn.out; simp only [List.length_append] at this ⊢; omega)).mono ?_)
 rintro _ w2 ⟨rfl, hA2, hb', hk'⟩
 have hB2 : Below base w w2 := hB1.trans (Below.undrew hb')
 have hK2 : KeepO B w w2 := hK1.trans hk'
 have hWh' := (hk'.2 w.heap.size (by have : w1.drew.heap.size = w1.heap.size := rfl; have := hWs; first | omega | (have := hsz1; omega)) (by omega) (by intro cur; rw [show w1.drew.heap[w.heap.size]? = _ from hWh]; simp)).trans (show w1.drew.heap[w.heap.size]? = _ from hWh)
 have hsz2 : w.heap.size + 1 ≤ w2.heap.size := by have := hk'.1; have : w1.drew.heap.size = w1.heap.size := rfl; first | omega | (have := hsz1; omega)
 clear hWh hb' hk'
 have hWh := hWh'
 clear hWh'
 refine ⟨_, rfl, keepAnd ?_ (fun hNew => ?_)⟩
 ·exact fun j u hj => (cell_of_row _ w.heap.size j _ _ _ hWh).trans (by simpa using hj)
 clear hHeld
 have hHeld := hNew
 clear hNew
 simp only [aP]
 refine wpAnyH_done (by kernel_rfl) ?_ _
 refine NoPanic.normal ?_
 clear hHeld
 clear hA1 hB1 hK1
 go_wp2_with fail
 refine wp_region_noPanic ?_
 refine wp_region_held_drew (S := (fun w' => ∀ j u, [.int .i64 tm, .string tb, .string nm, .slice colA cols.length colC, .slice keyA key.length keyC, .slice forA fors.length forC, .slice chkA chks.length chkC, .int .i64 x1, .string x2, .string x3, .string x4, .int .i64 x5, .bool x6, .int .i64 x7, .int .i64 x8, .string x9][j]? = some u → w'.cell? ⟨w.heap.size, j, none⟩ = some u)) (by kernel_rfl) ?_ (fun hHeld => ?_)
 ·exact fun j u hj => (cell_of_row _ w.heap.size j _ _ _ hWh).trans (by simpa using hj)
 refine hT 0 16 hHeld ?_
 simp only [aP]
 refine hT 1 17 hHeld ?_
 simp only [aP]
 refine hT 2 18 hHeld ?_
 simp only [aP]
 refine hT 3 19 hHeld ?_
 simp only [aP]
 refine hT 4 20 hHeld ?_
 simp only [aP]
 refine hU 5 21 (v := ?_) hHeld ?_ ?_
 rotate_left
 ·intro w' hSw; (try dsimp only at hSw); have q7 := hSw 7 _ rfl; go_simp <;> with_reducible rfl
 simp only [aP]
 refine hC 6 22 ?_
 (with_reducible refine (bufInt_any base B (l ++ encI tm ++ (encI tb.size ++ tb.data.toList)) x1 _ hbB hA2.drew hx11 hx12 (by have := HLn.out; simp only [List.length_append] at this ⊢; omega)).mono ?_)
 rintro _ w3 ⟨rfl, hA3, hb', hk'⟩
 have hB3 : Below base w w3 := hB2.trans (Below.undrew hb')
 have hK3 : KeepO B w w3 := hK2.trans hk'
 have hWh' := (hk'.2 w.heap.size (by have : w2.drew.heap.size = w2.heap.size := rfl; have := hWs; first | omega | (have := hsz2; omega)) (by omega) (by intro cur; rw [show w2.drew.heap[w.heap.size]? = _ from hWh]; simp)).trans (show w2.drew.heap[w.heap.size]? = _ from hWh)
 have hsz3 : w.heap.size + 1 ≤ w3.heap.size := by have := hk'.1; have : w2.drew.heap.size = w2.heap.size := rfl; first | omega | (have := hsz2; omega)
 clear hWh hb' hk'
 have hWh := hWh'
 clear hWh'
 refine ⟨_, rfl, keepAnd ?_ (fun hNew => ?_)⟩
 ·exact fun j u hj => (cell_of_row _ w.heap.size j _ _ _ hWh).trans (by simpa using hj)
 clear hHeld
 have hHeld := hNew
 clear hNew
 simp only [aP]
 refine wpAnyH_done (by kernel_rfl) ?_ _
 refine NoPanic.normal ?_
 clear hHeld
 clear hA2 hB2 hK2
 have q7 : w3.cell? ⟨w.heap.size, 7, none⟩ = some (.int .i64 x1) := cell_of_row _ w.heap.size 7 _ _ _ hWh
 go_wp2_with fail
 refine wp_region_noPanic ?_
 refine wp_region_held_drew (S := (fun w' => ∀ j u, [.int .i64 tm, .string tb, .string nm, .slice colA cols.length colC, .slice keyA key.length keyC, .slice forA fors.length forC, .slice chkA chks.length chkC, .int .i64 x1, .string x2, .string x3, .string x4, .int .i64 x5, .bool x6, .int .i64 x7, .int .i64 x8, .string x9][j]? = some u → w'.cell? ⟨w.heap.size, j, none⟩ = some u)) (by kernel_rfl) ?_ (fun hHeld => ?_)
 ·exact fun j u hj => (cell_of_row _ w.heap.size j _ _ _ hWh).trans (by simpa using hj)
 refine hT 0 31 hHeld ?_
 simp only [aP]
 refine hT 1 32 hHeld ?_
 simp only [aP]
 refine hT 2 33 hHeld ?_
 simp only [aP]
 refine hT 3 34 hHeld ?_
 simp only [aP]
 refine hT 4 35 hHeld ?_
 simp only [aP]
 refine hU 5 36 (v := ?_) hHeld ?_ ?_
 rotate_left
 ·intro w' hSw; (try dsimp only at hSw); have q8 := hSw 8 _ rfl; go_simp <;> with_reducible rfl
 simp only [aP]
 refine hC 6 37 ?_
 (with_reducible refine (bufText_any base B (l ++ encI tm ++ (encI tb.size ++ tb.data.toList) ++ encI x1) x2 _ hbB hA3.drew hx2 (by have := HLn.out; simp only [List.length_append] at this ⊢; omega)).mono ?_)
 rintro _ w4 ⟨rfl, hA4, hb', hk'⟩
 have hB4 : Below base w w4 := hB3.trans (Below.undrew hb')
 have hK4 : KeepO B w w4 := hK3.trans hk'
 have hWh' := (hk'.2 w.heap.size (by have : w3.drew.heap.size = w3.heap.size := rfl; have := hWs; first | omega | (have := hsz3; omega)) (by omega) (by intro cur; rw [show w3.drew.heap[w.heap.size]? = _ from hWh]; simp)).trans (show w3.drew.heap[w.heap.size]? = _ from hWh)
 have hsz4 : w.heap.size + 1 ≤ w4.heap.size := by have := hk'.1; have : w3.drew.heap.size = w3.heap.size := rfl; first | omega | (have := hsz3; omega)
 clear hWh hb' hk'
 have hWh := hWh'
 clear hWh'
 refine ⟨_, rfl, keepAnd ?_ (fun hNew => ?_)⟩
 ·exact fun j u hj => (cell_of_row _ w.heap.size j _ _ _ hWh).trans (by simpa using hj)
 clear hHeld
 have hHeld := hNew
 clear hNew
 simp only [aP]
 refine wpAnyH_done (by kernel_rfl) ?_ _
 refine NoPanic.normal ?_
 clear hHeld
 clear hA3 hB3 hK3
 go_wp2_with fail
 refine wp_region_noPanic ?_
 refine wp_region_held_drew (S := (fun w' => ∀ j u, [.int .i64 tm, .string tb, .string nm, .slice colA cols.length colC, .slice keyA key.length keyC, .slice forA fors.length forC, .slice chkA chks.length chkC, .int .i64 x1, .string x2, .string x3, .string x4, .int .i64 x5, .bool x6, .int .i64 x7, .int .i64 x8, .string x9][j]? = some u → w'.cell? ⟨w.heap.size, j, none⟩ = some u)) (by kernel_rfl) ?_ (fun hHeld => ?_)
 ·exact fun j u hj => (cell_of_row _ w.heap.size j _ _ _ hWh).trans (by simpa using hj)
 refine hT 0 38 hHeld ?_
 simp only [aP]
 refine hT 1 39 hHeld ?_
 simp only [aP]
 refine hT 2 40 hHeld ?_
 simp only [aP]
 refine hT 3 41 hHeld ?_
 simp only [aP]
 refine hT 4 42 hHeld ?_
 simp only [aP]
 refine hU 5 43 (v := ?_) hHeld ?_ ?_
 rotate_left
 ·intro w' hSw; (try dsimp only at hSw); have q9 := hSw 9 _ rfl; go_simp <;> with_reducible rfl
 simp only [aP]
 refine hC 6 44 ?_
 (with_reducible refine (bufText_any base B (l ++ encI tm ++ (encI tb.size ++ tb.data.toList) ++ encI x1 ++ (encI x2.size ++ x2.data.toList)) x3 _ hbB hA4.drew hx3 (by have := HLn.out; simp only [List.length_append] at this ⊢; omega)).mono ?_)
 rintro _ w5 ⟨rfl, hA5, hb', hk'⟩
 have hB5 : Below base w w5 := hB4.trans (Below.undrew hb')
 have hK5 : KeepO B w w5 := hK4.trans hk'
 have hWh' := (hk'.2 w.heap.size (by have : w4.drew.heap.size = w4.heap.size := rfl; have := hWs; first | omega | (have := hsz4; omega)) (by omega) (by intro cur; rw [show w4.drew.heap[w.heap.size]? = _ from hWh]; simp)).trans (show w4.drew.heap[w.heap.size]? = _ from hWh)
 have hsz5 : w.heap.size + 1 ≤ w5.heap.size := by have := hk'.1; have : w4.drew.heap.size = w4.heap.size := rfl; first | omega | (have := hsz4; omega)
 clear hWh hb' hk'
 have hWh := hWh'
 clear hWh'
 refine ⟨_, rfl, keepAnd ?_ (fun hNew => ?_)⟩
 ·exact fun j u hj => (cell_of_row _ w.heap.size j _ _ _ hWh).trans (by simpa using hj)
 clear hHeld
 have hHeld := hNew
 clear hNew
 simp only [aP]
 refine wpAnyH_done (by kernel_rfl) ?_ _
 refine NoPanic.normal ?_
 clear hHeld
 clear hA4 hB4 hK4
 have q10 : w5.cell? ⟨w.heap.size, 10, none⟩ = some (.string x4) := cell_of_row _ w.heap.size 10 _ _ _ hWh
 have q11 : w5.cell? ⟨w.heap.size, 11, none⟩ = some (.int .i64 x5) := cell_of_row _ w.heap.size 11 _ _ _ hWh
 have q12 : w5.cell? ⟨w.heap.size, 12, none⟩ = some (.bool x6) := cell_of_row _ w.heap.size 12 _ _ _ hWh
 go_wp2_with fail
 (with_reducible refine (wCol_any base B (l ++ encI tm ++ (encI tb.size ++ tb.data.toList) ++ encI x1 ++ (encI x2.size ++ x2.data.toList) ++ (encI x3.size ++ x3.data.toList)) x4 x5 x6 _ hbB hA5 hx4 hx51 hx52 (by have := HLn.out; simp only [List.length_append] at this ⊢; omega)).mono ?_)
 rintro _ w6 ⟨rfl, hA6, hb', hk'⟩
 have hB6 : Below base w w6 := hB5.trans hb'
 have hK6 : KeepO B w w6 := hK5.trans hk'
 have hWh' := (hk'.2 w.heap.size (by have : w5.drew.heap.size = w5.heap.size := rfl; have := hWs; first | omega | (have := hsz5; omega)) (by omega) (by intro cur; rw [show w5.heap[w.heap.size]? = _ from hWh]; simp)).trans (show w5.heap[w.heap.size]? = _ from hWh)
 have hsz6 : w.heap.size + 1 ≤ w6.heap.size := by have := hk'.1; have : w5.drew.heap.size = w5.heap.size := rfl; first | omega | (have := hsz5; omega)
 clear hWh hb' hk'
 have hWh := hWh'
 clear hWh'
 clear q10 q11 q12
 clear hA5 hB5 hK5
 go_wp2_with fail
 refine wp_region_noPanic ?_
 refine wp_region_held_drew (S := (fun w' => ∀ j u, [.int .i64 tm, .string tb, .string nm, .slice colA cols.length colC, .slice keyA key.length keyC, .slice forA fors.length forC, .slice chkA chks.length chkC, .int .i64 x1, .string x2, .string x3, .string x4, .int .i64 x5, .bool x6, .int .i64 x7, .int .i64 x8, .string x9][j]? = some u → w'.cell? ⟨w.heap.size, j, none⟩ = some u)) (by kernel_rfl) ?_ (fun hHeld => ?_)
 ·exact fun j u hj => (cell_of_row _ w.heap.size j _ _ _ hWh).trans (by simpa using hj)
 refine hT 0 50 hHeld ?_
 simp only [aP]
 refine hT 1 51 hHeld ?_
 simp only [aP]
 refine hT 2 52 hHeld ?_
 simp only [aP]
 refine hT 3 53 hHeld ?_
 simp only [aP]
 refine hT 4 54 hHeld ?_
 simp only [aP]
 refine hU 5 55 (v := ?_) hHeld ?_ ?_
 rotate_left
 ·intro w' hSw; (try dsimp only at hSw); have q13 := hSw 13 _ rfl; have q14 := hSw 14 _ rfl; have q15 := hSw 15 _ rfl; go_simp <;> with_reducible rfl
 simp only [aP]
 refine hC 6 56 ?_
 (with_reducible refine (bufValue_any base B (l ++ encI tm ++ (encI tb.size ++ tb.data.toList) ++ encI x1 ++ (encI x2.size ++ x2.data.toList) ++ (encI x3.size ++ x3.data.toList) ++ ((encI x4.size ++ x4.data.toList) ++ (encI x5 ++ flagE x6))) x7 x8 x9 _ hbB hA6.drew hx81 hx82 hx9 hvx9 (by have := HLn.out; simp only [List.length_append] at this ⊢; omega)).mono ?_)
 rintro _ w7 ⟨rfl, hA7, hb', hk'⟩
 have hB7 : Below base w w7 := hB6.trans (Below.undrew hb')
 have hK7 : KeepO B w w7 := hK6.trans hk'
 have hWh' := (hk'.2 w.heap.size (by have : w6.drew.heap.size = w6.heap.size := rfl; have := hWs; first | omega | (have := hsz6; omega)) (by omega) (by intro cur; rw [show w6.drew.heap[w.heap.size]? = _ from hWh]; simp)).trans (show w6.drew.heap[w.heap.size]? = _ from hWh)
 have hsz7 : w.heap.size + 1 ≤ w7.heap.size := by have := hk'.1; have : w6.drew.heap.size = w6.heap.size := rfl; first | omega | (have := hsz6; omega)
 clear hWh hb' hk'
 have hWh := hWh'
 clear hWh'
 refine ⟨_, rfl, keepAnd ?_ (fun hNew => ?_)⟩
 ·exact fun j u hj => (cell_of_row _ w.heap.size j _ _ _ hWh).trans (by simpa using hj)
 clear hHeld
 have hHeld := hNew
 clear hNew
 simp only [aP]
 refine wpAnyH_done (by kernel_rfl) ?_ _
 refine NoPanic.normal ?_
 clear hHeld
 clear hA6 hB6 hK6
 go_wp2_with fail
 go_end0
 refine ⟨rfl, ?_, hB7, hK7⟩
 have e : l ++ (encI tm ++ ((encI tb.size ++ tb.data.toList) ++ (encI x1 ++ ((encI x2.size ++ x2.data.toList) ++ ((encI x3.size ++ x3.data.toList) ++ (((encI x4.size ++ x4.data.toList) ++ (encI x5 ++ flagE x6)) ++ (encV ⟨x7, x8, x9⟩))))))) = l ++ encI tm ++ (encI tb.size ++ tb.data.toList) ++ encI x1 ++ (encI x2.size ++ x2.data.toList) ++ (encI x3.size ++ x3.data.toList) ++ ((encI x4.size ++ x4.data.toList) ++ (encI x5 ++ flagE x6)) ++ encV ⟨x7, x8, x9⟩ := by simp only [List.append_assoc]
 rw [e]
 exact hA7
theorem wEnt_x (base B : Nat) (l : List UInt8) (x : REn) (w : World) (hbB : base ≤ B) (h : BufAt w base B l) (hx : entW w base x) (hl : (l ++ encEnt x).length + 4000 ≤ 140737488300000) :
  Calls Tryz.prog 48 #[.pointer (some ⟨B, 0, none⟩), .agg x.enc.toArray] w (BufOut base B (l ++ encEnt x) w) := by
 obtain ⟨tm, tb, ⟨nm, colA, colC, cols, keyA, keyC, key, forA, forC, fors, chkA, chkC, chks⟩, ⟨x1, x2, x3, x4, x5, x6, ⟨x7, x8, x9⟩⟩⟩ := x
 by_cases hk : x1 = 0
 ·have e : encEnt ⟨tm, tb, ⟨nm, colA, colC, cols, keyA, keyC, key, forA, forC, fors, chkA, chkC, chks⟩, ⟨x1, x2, x3, x4, x5, x6, ⟨x7, x8, x9⟩⟩⟩ = encEnt0 ⟨tm, tb, ⟨nm, colA, colC, cols, keyA, keyC, key, forA, forC, fors, chkA, chkC, chks⟩, ⟨x1, x2, x3, x4, x5, x6, ⟨x7, x8, x9⟩⟩⟩ := if_pos hk
  have ht := hx.tab hk
  rw [e] at hl ⊢
  subst hk
  exact wEnt0 base B l tm tb nm colA colC cols keyA keyC key forA forC fors chkA chkC chks x2 x3 x4 x5 x6 x7 x8 x9 w hbB h hx.tm.1 hx.tm.2 hx.tb ht hl
 ·have e : encEnt ⟨tm, tb, ⟨nm, colA, colC, cols, keyA, keyC, key, forA, forC, fors, chkA, chkC, chks⟩, ⟨x1, x2, x3, x4, x5, x6, ⟨x7, x8, x9⟩⟩⟩ = encEnt1 ⟨tm, tb, ⟨nm, colA, colC, cols, keyA, keyC, key, forA, forC, fors, chkA, chkC, chks⟩, ⟨x1, x2, x3, x4, x5, x6, ⟨x7, x8, x9⟩⟩⟩ := if_neg hk
  have hc := hx.ch hk
  rw [e] at hl ⊢
  have t9 : x9.size ≤ 200 := hc.dt
  exact wEnt1 base B l tm tb nm colA colC cols keyA keyC key forA forC fors chkA chkC chks x1 x2 x3 x4 x5 x6 x7 x8 x9 w hbB h hk hx.tm.1 hx.tm.2 hx.tb hx.kd.1 hx.kd.2 hc.name hc.to hc.cname hc.ckind.1 hc.ckind.2 hc.di.1 hc.di.2 (by omega) hc.dl hl
end Go.Proofs.YtbfdegkickjbpaaGreat
