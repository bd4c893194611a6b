/- The functions of the program as plain Lean functions, and the walks that show that the Go text answers so: written by a program (xprint.py) out of the translation; conditions: none beyond those that each theorem names. -/
import Derived.Test.YtmjfocfdbodmpaaDoorX0
import Derived.Test.YtmjfocfdbodmpaaDoorX1
import Derived.Test.YtmjfocfdbodmpaaDoorX6
import Derived.Test.YtmjfocfdbodmpaaDoorX7
import Derived.Test.YtmjfocfdbodmpaaDoorX8
import Derived.Test.YtmjfocfdbodmpaaDoorX11
namespace Go.Proofs.YtmjfocfdbodmpaaDoor.X
open Go.RowKit Go.Proofs.YtmjfocfdbodmpaaDoorW.PrintWords Go.Proofs.YtmjfocfdbodmpaaDoorW.PrintLast Go.Proofs.YtmjfocfdbodmpaaDoorW.PrintMore
attribute [local go_sem] max2_int min2_int max_two min_two max_three min_three max_four min_four   -- for this text's walks alone
set_option linter.unusedVariables false
set_option linter.unusedSimpArgs false

attribute [local go_sem high] eqA25
/-! ### tompionref04_Parse: function 12 (given by hand) -/
/-- A blank for a tab. -/
def tabI (c : Int) : Int := if c = 9 then 32 else c
/-- What a text says that says no times. -/
def rparseBad : (Int × Int × Int × Int × Int × Bool × Bool × Int × Bool) := (0, 0, 0, 0, 0, false, false, 0, false)
/-- Behind the five fields. -/
def rparseR5 (k : Nat) (l : List ByteArray) (y0 y1 y2 y3 y4 : Int) : Option (Int × Int × Int × Int × Int × Bool × Bool × Int × Bool) := if 0 < (wdN l 2).size then (if 0 < (wdN l 4).size then (if 5 < l.length then ((tompionref04_ahead.f k (wdN l 5)).bind fun n => (if n.2 = true then (some (y0, y1, y2, y3, y4, (bt (wdN l 2) 0) == 42, (bt (wdN l 4) 0) == 42, n.1, true)) else (some rparseBad))) else (some (y0, y1, y2, y3, y4, (bt (wdN l 2) 0) == 42, (bt (wdN l 4) 0) == 42, 0, true))) else none) else none
def rparseR4 (k : Nat) (l : List ByteArray) (y0 y1 y2 y3 : Int) : Option (Int × Int × Int × Int × Int × Bool × Bool × Int × Bool) := (tompionref04_field.f k 4 (wdN l 4)).bind fun n => (if n.2 = true then (rparseR5 k l y0 y1 y2 y3 n.1) else (some rparseBad))
def rparseR3 (k : Nat) (l : List ByteArray) (y0 y1 y2 : Int) : Option (Int × Int × Int × Int × Int × Bool × Bool × Int × Bool) := (tompionref04_field.f k 3 (wdN l 3)).bind fun n => (if n.2 = true then (rparseR4 k l y0 y1 y2 n.1) else (some rparseBad))
def rparseR2 (k : Nat) (l : List ByteArray) (y0 y1 : Int) : Option (Int × Int × Int × Int × Int × Bool × Bool × Int × Bool) := (tompionref04_field.f k 2 (wdN l 2)).bind fun n => (if n.2 = true then (rparseR3 k l y0 y1 n.1) else (some rparseBad))
def rparseR1 (k : Nat) (l : List ByteArray) (y0 : Int) : Option (Int × Int × Int × Int × Int × Bool × Bool × Int × Bool) := (tompionref04_field.f k 1 (wdN l 1)).bind fun n => (if n.2 = true then (rparseR2 k l y0 n.1) else (some rparseBad))
def rparseR0 (k : Nat) (l : List ByteArray) : Option (Int × Int × Int × Int × Int × Bool × Bool × Int × Bool) := (tompionref04_field.f k 0 (wdN l 0)).bind fun n => (if n.2 = true then (rparseR1 k l n.1) else (some rparseBad))
/-- Is a word one? -/
def nonE (s : ByteArray) : Bool := decide (0 < s.size)
def rparseR (k : Nat) (l : List ByteArray) (j : Nat) (y0 y1 y2 y3 y4 : Int) : Option (Int × Int × Int × Int × Int × Bool × Bool × Int × Bool) := match j with
  | 0 => rparseR0 k l
  | 1 => rparseR1 k l y0
  | 2 => rparseR2 k l y0 y1
  | 3 => rparseR3 k l y0 y1 y2
  | 4 => rparseR4 k l y0 y1 y2 y3
  | _ => rparseR5 k l y0 y1 y2 y3 y4
def rparseW (k : Nat) (l : List ByteArray) : Option (Int × Int × Int × Int × Int × Bool × Bool × Int × Bool) := if l.length = 5 then rparseR0 k l else (if l.length = 6 then rparseR0 k l else some rparseBad)
def tompionref04_Parse.f (k : Nat) (a0 : ByteArray) : Option (Int × Int × Int × Int × Int × Bool × Bool × Int × Bool) := if (a0.size : Int) > 256 then (some rparseBad) else ((tompionref04_split.f k (strOfNums ((GB.bytesI a0).map tabI)) 32).bind fun l => (if 0 < l.length then (if l.length ≤ 1000 then (rparseW k (l.filter nonE)) else none) else none))
theorem rparseR5_mono : ∀ l y0 y1 y2 y3 y4 k, LeO (rparseR5 k l y0 y1 y2 y3 y4) (rparseR5 (k + 1) l y0 y1 y2 y3 y4) := by
  intro l y0 y1 y2 y3 y4 k
  unfold rparseR5
  exact LeO.ite (LeO.ite (LeO.ite (LeO.bind (tompionref04_ahead.mono _ _) fun _ => LeO.refl _) (LeO.refl _)) (LeO.refl _)) (LeO.refl _)
theorem rparseR0_mono : ∀ l k, LeO (rparseR0 k l) (rparseR0 (k + 1) l) := by
  intro l k
  unfold rparseR0 rparseR1 rparseR2 rparseR3 rparseR4
  exact (LeO.bind (tompionref04_field.mono _ _ _) fun _ => LeO.ite (LeO.bind (tompionref04_field.mono _ _ _) fun _ => LeO.ite (LeO.bind (tompionref04_field.mono _ _ _) fun _ => LeO.ite (LeO.bind (tompionref04_field.mono _ _ _) fun _ => LeO.ite (LeO.bind (tompionref04_field.mono _ _ _) fun _ => LeO.ite (rparseR5_mono _ _ _ _ _ _ _) (LeO.refl _)) (LeO.refl _)) (LeO.refl _)) (LeO.refl _)) (LeO.refl _))
theorem tompionref04_Parse.mono : ∀ a0 k, LeO (tompionref04_Parse.f k a0) (tompionref04_Parse.f (k + 1) a0) := by
  intro a0 k
  unfold tompionref04_Parse.f rparseW
  exact LeO.ite (LeO.refl _) (LeO.bind (tompionref04_split.mono _ _ _) fun _ => LeO.ite (LeO.ite (LeO.ite (rparseR0_mono _ _) (LeO.ite (rparseR0_mono _ _) (LeO.refl _))) (LeO.refl _)) (LeO.refl _))
theorem rparse_results (g : Nat) (tm : Array Value) (W : World) (y0 y1 y2 y3 y4 y7 : Int) (y5 y6 e : Bool) (h2 : tm[2]? = some (.pointer (some ⟨g, 0, none⟩))) (h3 : tm[3]? = some (.bool e))
    (hb : W.heap[g]? = some (.cells #[.int .u64 y0, .int .u64 y1, .int .u64 y2, .int .u64 y3, .int .u64 y4, .bool y5, .bool y6, .int .i64 y7] 25 (0, 0))) :
    (results Tryd.f12 tm).run Tryd.prog W = .ok (.tuple #[.agg #[.int .u64 y0, .int .u64 y1, .int .u64 y2, .int .u64 y3, .int .u64 y4, .bool y5, .bool y6, .int .i64 y7], .bool e]) W := by
  have q0 : W.cell? ⟨g, 0, none⟩ = some (.int .u64 y0) := blk_cell hb 0
  have q1 : W.cell? ⟨g, 1, none⟩ = some (.int .u64 y1) := blk_cell hb 1
  have q2 : W.cell? ⟨g, 2, none⟩ = some (.int .u64 y2) := blk_cell hb 2
  have q3 : W.cell? ⟨g, 3, none⟩ = some (.int .u64 y3) := blk_cell hb 3
  have q4 : W.cell? ⟨g, 4, none⟩ = some (.int .u64 y4) := blk_cell hb 4
  have q5 : W.cell? ⟨g, 5, none⟩ = some (.bool y5) := blk_cell hb 5
  have q6 : W.cell? ⟨g, 6, none⟩ = some (.bool y6) := blk_cell hb 6
  have q7 : W.cell? ⟨g, 7, none⟩ = some (.int .i64 y7) := blk_cell hb 7
  simp [results, Tryd.results12, go_sem, q0, q1, q2, q3, q4, q5, q6, q7, h2, h3]
theorem nonE_yes {u : ByteArray} (h : ¬ u = (⟨#[]⟩ : ByteArray)) : nonE u = true := by
  obtain ⟨⟨d⟩⟩ := u
  cases d with
  | nil => exact absurd rfl h
  | cons a t => exact decide_eq_true (show 0 < (a :: t).length by simp)
theorem nonE_no {u : ByteArray} (h : u = (⟨#[]⟩ : ByteArray)) : nonE u = false := by subst h; rfl
theorem filter_snoc (l : List ByteArray) (j : Nat) (h : j < l.length) : (l.take (j + 1)).filter nonE = (l.take j).filter nonE ++ (if nonE (wdN l j) = true then [wdN l j] else []) := by
  rw [List.take_succ_eq_append_getElem h, List.filter_append]
  have e : wdN l j = l[j] := by simp [wdN, h]
  rw [e]
  simp only [List.filter_cons, List.filter_nil]
theorem filter_len (l : List ByteArray) (j : Nat) (h : l.length ≤ 1000) : ((l.take j).filter nonE).length ≤ 1000 := Nat.le_trans (List.length_filter_le _ _) (Nat.le_trans (List.length_take_le' _ _) h)
structure RPG (w : World) (g2 g4 b g : Nat) (RO : Obj) (y0 y1 y2 y3 y4 : Int) (W : World) : Prop where
  k2 : W.heap[g2]? = some (.cells #[.int .u64 0, .int .u64 0, .int .u64 0, .int .u64 0, .int .u64 0, .bool false, .bool false, .int .i64 0] 25 (0, 0))
  k4 : W.heap[g4]? = some (.cells #[.int .u64 0, .int .u64 0, .int .u64 0, .int .u64 0, .int .u64 0, .bool false, .bool false, .int .i64 0] 25 (0, 0))
  row : W.heap[b]? = some RO
  box : W.heap[g]? = some (.cells #[.int .u64 y0, .int .u64 y1, .int .u64 y2, .int .u64 y3, .int .u64 y4] 50 (0, 0))
  bel : Below w.heap.size w W
theorem RPG.below {w : World} {g2 g4 b g : Nat} {RO : Obj} {y0 y1 y2 y3 y4 : Int} {W W' : World} (h : RPG w g2 g4 b g RO y0 y1 y2 y3 y4 W) (hb : Below W.heap.size W W') : RPG w g2 g4 b g RO y0 y1 y2 y3 y4 W' :=
  ⟨(hb.block _ (blk_lt h.k2)).trans h.k2, (hb.block _ (blk_lt h.k4)).trans h.k4, (hb.block _ (blk_lt h.row)).trans h.row, (hb.block _ (blk_lt h.box)).trans h.box, below_step h.bel hb⟩
theorem RPG.set0 {w : World} {g2 g4 b g : Nat} {RO : Obj} {y0 y1 y2 y3 y4 : Int} {W : World} (h : RPG w g2 g4 b g RO y0 y1 y2 y3 y4 W) (h2 : g2 ≠ g) (h4 : g4 ≠ g) (hb : b ≠ g) (hg : w.heap.size ≤ g) (n : Int) : RPG w g2 g4 b g RO n y1 y2 y3 y4 (W.setCell ⟨g, 0, none⟩ (.int .u64 n)) := ⟨(Below.heap_setCell _ _ _ _ h2).trans h.k2, (Below.heap_setCell _ _ _ _ h4).trans h.k4, (Below.heap_setCell _ _ _ _ hb).trans h.row, (blk_set h.box 0 _).trans rfl, h.bel.setCell hg _⟩
theorem RPG.set1 {w : World} {g2 g4 b g : Nat} {RO : Obj} {y0 y1 y2 y3 y4 : Int} {W : World} (h : RPG w g2 g4 b g RO y0 y1 y2 y3 y4 W) (h2 : g2 ≠ g) (h4 : g4 ≠ g) (hb : b ≠ g) (hg : w.heap.size ≤ g) (n : Int) : RPG w g2 g4 b g RO y0 n y2 y3 y4 (W.setCell ⟨g, 1, none⟩ (.int .u64 n)) := ⟨(Below.heap_setCell _ _ _ _ h2).trans h.k2, (Below.heap_setCell _ _ _ _ h4).trans h.k4, (Below.heap_setCell _ _ _ _ hb).trans h.row, (blk_set h.box 1 _).trans rfl, h.bel.setCell hg _⟩
theorem RPG.set2 {w : World} {g2 g4 b g : Nat} {RO : Obj} {y0 y1 y2 y3 y4 : Int} {W : World} (h : RPG w g2 g4 b g RO y0 y1 y2 y3 y4 W) (h2 : g2 ≠ g) (h4 : g4 ≠ g) (hb : b ≠ g) (hg : w.heap.size ≤ g) (n : Int) : RPG w g2 g4 b g RO y0 y1 n y3 y4 (W.setCell ⟨g, 2, none⟩ (.int .u64 n)) := ⟨(Below.heap_setCell _ _ _ _ h2).trans h.k2, (Below.heap_setCell _ _ _ _ h4).trans h.k4, (Below.heap_setCell _ _ _ _ hb).trans h.row, (blk_set h.box 2 _).trans rfl, h.bel.setCell hg _⟩
theorem RPG.set3 {w : World} {g2 g4 b g : Nat} {RO : Obj} {y0 y1 y2 y3 y4 : Int} {W : World} (h : RPG w g2 g4 b g RO y0 y1 y2 y3 y4 W) (h2 : g2 ≠ g) (h4 : g4 ≠ g) (hb : b ≠ g) (hg : w.heap.size ≤ g) (n : Int) : RPG w g2 g4 b g RO y0 y1 y2 n y4 (W.setCell ⟨g, 3, none⟩ (.int .u64 n)) := ⟨(Below.heap_setCell _ _ _ _ h2).trans h.k2, (Below.heap_setCell _ _ _ _ h4).trans h.k4, (Below.heap_setCell _ _ _ _ hb).trans h.row, (blk_set h.box 3 _).trans rfl, h.bel.setCell hg _⟩
theorem RPG.set4 {w : World} {g2 g4 b g : Nat} {RO : Obj} {y0 y1 y2 y3 y4 : Int} {W : World} (h : RPG w g2 g4 b g RO y0 y1 y2 y3 y4 W) (h2 : g2 ≠ g) (h4 : g4 ≠ g) (hb : b ≠ g) (hg : w.heap.size ≤ g) (n : Int) : RPG w g2 g4 b g RO y0 y1 y2 y3 n (W.setCell ⟨g, 4, none⟩ (.int .u64 n)) := ⟨(Below.heap_setCell _ _ _ _ h2).trans h.k2, (Below.heap_setCell _ _ _ _ h4).trans h.k4, (Below.heap_setCell _ _ _ _ hb).trans h.row, (blk_set h.box 4 _).trans rfl, h.bel.setCell hg _⟩
set_option maxHeartbeats 8000000 in
set_option maxRecDepth 100000 in
theorem tompionref04_Parse.calls (k : Nat) (a0 : ByteArray) (r1 : Int) (r2 : Int) (r3 : Int) (r4 : Int) (r5 : Int) (r6 : Bool) (r7 : Bool) (r8 : Int) (r9 : Bool) (w : World) (h : tompionref04_Parse.f k a0 = some (r1, r2, r3, r4, r5, r6, r7, r8, r9)) :
    Calls Tryd.prog 12 #[.string a0] w fun e w' => e = .returned (.tuple #[.agg #[.int .u64 r1, .int .u64 r2, .int .u64 r3, .int .u64 r4, .int .u64 r5, .bool r6, .bool r7, .int .i64 r8], .bool r9]) ∧ Below w.heap.size w w' := by
  unfold tompionref04_Parse.f at h
  by_cases h1 : (a0.size : Int) > 256
  · rw [if_pos h1] at h
    have e := Option.some.inj h
    simp only [rparseBad, Prod.mk.injEq] at e
    obtain ⟨rfl, rfl, rfl, rfl, rfl, rfl, rfl, rfl, rfl⟩ := e
    clear h
    go_enter Tryd.func12, Tryd.ntmps12
    go_wp2_with (first | ((with_reducible refine gate_dst (N := 2) rfl ?_); refine box_event ?hg (N := 2) ?hd (cs := #[.int .u64 0, .int .u64 0, .int .u64 0, .int .u64 0, .int .u64 0, .bool false, .bool false, .int .i64 0]) (t := 25) ?hr ?_; (case hd => rfl); (case hg => rfl); (case hr => first | (go_simp; done) | (go_simp; rfl)); intro g2 hg w1 hx hb; have BK2 := Aside0.mk hx; have HG2 := Aside0.mk (Nat.le_of_eq hg.symm : w.heap.size ≤ g2); have HB := Aside0.mk hb; clear hg hb hx) | ((with_reducible refine gate_dst (N := 4) rfl ?_); refine box_event ?hg (N := 4) ?hd (cs := #[.int .u64 0, .int .u64 0, .int .u64 0, .int .u64 0, .int .u64 0, .bool false, .bool false, .int .i64 0]) (t := 25) ?hr ?_; (case hd => rfl); (case hg => rfl); (case hr => first | (go_simp; done) | (go_simp; rfl)); intro g4 hg w2 hx hb; have HX := Aside0.mk hx; have HG4 := Aside0.mk (show w.heap.size ≤ g4 by rw [hg]; exact HB.out.size); have HN := Aside0.mk (show g2 ≠ g4 by have q := blk_lt BK2.out; omega); clear hg; have n_ := Aside0.mk (below_step HB.out hb); clear HB; have HB := n_; clear n_; have n_ := Aside0.mk ((hb.block _ (blk_lt BK2.out)).trans BK2.out); clear BK2; have BK2 := n_; clear n_; clear hb; obtain ⟨hca0, hca1, hca2, hca3, hca4, hca5, hca6, hca7, hfa0, hfa1, hfa2, hfa3, hfa4, hfa5, hfa6, hfa7⟩ := GB.cells8 hx; clear hx) | ((with_reducible refine gate_store (t := 25) (p := 4) rfl ?_); refine store_event (t := 25) (p := 4) (v := ?vo_w3) (w1 := ((((((((w2.setCell ⟨g4, 0, none⟩ (.int .u64 0)).setCell ⟨g4, 1, none⟩ (.int .u64 0)).setCell ⟨g4, 2, none⟩ (.int .u64 0)).setCell ⟨g4, 3, none⟩ (.int .u64 0)).setCell ⟨g4, 4, none⟩ (.int .u64 0)).setCell ⟨g4, 5, none⟩ (.bool false)).setCell ⟨g4, 6, none⟩ (.bool false)).setCell ⟨g4, 7, none⟩ (.int .i64 0))) ?hg ?ho ?hn ?hr ?_; (case ho => rfl); (case hg => rfl); (case hn => rfl); (case hr => first | (go_simp; done) | (go_simp; rfl)); intro w3 hw; clear hca0 hfa0 hca1 hfa1 hca2 hfa2 hca3 hfa3 hca4 hfa4 hca5 hfa5 hca6 hfa6 hca7 hfa7; have f := set8 HX.out HB.out HG4.out (.int .u64 0) (.int .u64 0) (.int .u64 0) (.int .u64 0) (.int .u64 0) (.bool false) (.bool false) (.int .i64 0); have q := set8_other BK2.out HN.out (.int .u64 0) (.int .u64 0) (.int .u64 0) (.int .u64 0) (.int .u64 0) (.bool false) (.bool false) (.int .i64 0); rw [← hw] at f q; have BK4 := Aside0.mk f.1; clear HB BK2; have HB := Aside0.mk f.2; have BK2 := Aside0.mk q; clear HX hw f q; obtain ⟨hca0, hca1, hca2, hca3, hca4, hca5, hca6, hca7, hfa0, hfa1, hfa2, hfa3, hfa4, hfa5, hfa6, hfa7⟩ := GB.cells8 BK4.out; obtain ⟨hcb0, hcb1, hcb2, hcb3, hcb4, hcb5, hcb6, hcb7, hfb0, hfb1, hfb2, hfb3, hfb4, hfb5, hfb6, hfb7⟩ := GB.cells8 BK2.out) | ((with_reducible refine gate_store (t := 25) (p := 2) rfl ?_); refine store_event (t := 25) (p := 2) (v := ?vo_w4) (w1 := ((((((((w3.setCell ⟨g2, 0, none⟩ (.int .u64 0)).setCell ⟨g2, 1, none⟩ (.int .u64 0)).setCell ⟨g2, 2, none⟩ (.int .u64 0)).setCell ⟨g2, 3, none⟩ (.int .u64 0)).setCell ⟨g2, 4, none⟩ (.int .u64 0)).setCell ⟨g2, 5, none⟩ (.bool false)).setCell ⟨g2, 6, none⟩ (.bool false)).setCell ⟨g2, 7, none⟩ (.int .i64 0))) ?hg ?ho ?hn ?hr ?_; (case ho => rfl); (case hg => rfl); (case hn => rfl); (case hr => first | (go_simp; done) | (go_simp; rfl)); intro w4 hw; have f := set8 BK2.out HB.out HG2.out (.int .u64 0) (.int .u64 0) (.int .u64 0) (.int .u64 0) (.int .u64 0) (.bool false) (.bool false) (.int .i64 0); rw [← hw] at f; clear BK2 HB; have BK2 := Aside0.mk f.1; have HB := Aside0.mk f.2; clear hw f))
    exact bodyPost_ret (rparse_results g2 _ _ 0 0 0 0 0 0 false false false rfl rfl BK2.out) rfl ⟨rfl, HB.out⟩
  rw [if_neg h1] at h
  replace h := Option.bind_eq_some_iff.mp h
  obtain ⟨l0, A1, h⟩ := h
  by_cases hl0 : 0 < l0.length
  case neg => rw [if_neg hl0] at h; cases h
  rw [if_pos hl0] at h
  by_cases hl1 : l0.length ≤ 1000
  case neg => rw [if_neg hl1] at h; cases h
  rw [if_pos hl1] at h
  have A1 := Aside0.mk A1
  have H' := Aside0.mk h
  have HL0 := Aside0.mk hl0
  have HL1 := Aside0.mk hl1
  clear h hl0 hl1
  have hs : a0.size ≤ 256 := by omega
  have kc := fun (w : World) (s : ByteArray) => Lib.run_convert_string_bytes (P := Tryd.prog) w 9 34 5 s Tryd.underlying9 Tryd.underlying34 Tryd.underlying5
  go_enter Tryd.func12, Tryd.ntmps12
  go_wp2_with (first | ((with_reducible refine gate_dst (N := 2) rfl ?_); refine box_event ?hg (N := 2) ?hd (cs := #[.int .u64 0, .int .u64 0, .int .u64 0, .int .u64 0, .int .u64 0, .bool false, .bool false, .int .i64 0]) (t := 25) ?hr ?_; (case hd => rfl); (case hg => rfl); (case hr => first | (go_simp; done) | (go_simp; rfl)); intro g2 hg w1 hx hb; have BK2 := Aside0.mk hx; have HG2 := Aside0.mk (Nat.le_of_eq hg.symm : w.heap.size ≤ g2); have HB := Aside0.mk hb; clear hg hb hx) | ((with_reducible refine gate_dst (N := 4) rfl ?_); refine box_event ?hg (N := 4) ?hd (cs := #[.int .u64 0, .int .u64 0, .int .u64 0, .int .u64 0, .int .u64 0, .bool false, .bool false, .int .i64 0]) (t := 25) ?hr ?_; (case hd => rfl); (case hg => rfl); (case hr => first | (go_simp; done) | (go_simp; rfl)); intro g4 hg w2 hx hb; have HX := Aside0.mk hx; have HG4 := Aside0.mk (show w.heap.size ≤ g4 by rw [hg]; exact HB.out.size); have HN := Aside0.mk (show g2 ≠ g4 by have q := blk_lt BK2.out; omega); clear hg; have n_ := Aside0.mk (below_step HB.out hb); clear HB; have HB := n_; clear n_; have n_ := Aside0.mk ((hb.block _ (blk_lt BK2.out)).trans BK2.out); clear BK2; have BK2 := n_; clear n_; clear hb; obtain ⟨hca0, hca1, hca2, hca3, hca4, hca5, hca6, hca7, hfa0, hfa1, hfa2, hfa3, hfa4, hfa5, hfa6, hfa7⟩ := GB.cells8 hx; clear hx) | ((with_reducible refine gate_store (t := 25) (p := 4) rfl ?_); refine store_event (t := 25) (p := 4) (v := ?vo_w3) (w1 := ((((((((w2.setCell ⟨g4, 0, none⟩ (.int .u64 0)).setCell ⟨g4, 1, none⟩ (.int .u64 0)).setCell ⟨g4, 2, none⟩ (.int .u64 0)).setCell ⟨g4, 3, none⟩ (.int .u64 0)).setCell ⟨g4, 4, none⟩ (.int .u64 0)).setCell ⟨g4, 5, none⟩ (.bool false)).setCell ⟨g4, 6, none⟩ (.bool false)).setCell ⟨g4, 7, none⟩ (.int .i64 0))) ?hg ?ho ?hn ?hr ?_; (case ho => rfl); (case hg => rfl); (case hn => rfl); (case hr => first | (go_simp; done) | (go_simp; rfl)); intro w3 hw; clear hca0 hfa0 hca1 hfa1 hca2 hfa2 hca3 hfa3 hca4 hfa4 hca5 hfa5 hca6 hfa6 hca7 hfa7; have f := set8 HX.out HB.out HG4.out (.int .u64 0) (.int .u64 0) (.int .u64 0) (.int .u64 0) (.int .u64 0) (.bool false) (.bool false) (.int .i64 0); have q := set8_other BK2.out HN.out (.int .u64 0) (.int .u64 0) (.int .u64 0) (.int .u64 0) (.int .u64 0) (.bool false) (.bool false) (.int .i64 0); rw [← hw] at f q; have BK4 := Aside0.mk f.1; clear HB BK2; have HB := Aside0.mk f.2; have BK2 := Aside0.mk q; clear HX hw f q; obtain ⟨hca0, hca1, hca2, hca3, hca4, hca5, hca6, hca7, hfa0, hfa1, hfa2, hfa3, hfa4, hfa5, hfa6, hfa7⟩ := GB.cells8 BK4.out; obtain ⟨hcb0, hcb1, hcb2, hcb3, hcb4, hcb5, hcb6, hcb7, hfb0, hfb1, hfb2, hfb3, hfb4, hfb5, hfb6, hfb7⟩ := GB.cells8 BK2.out))
  clear kc
  go_loopw [6] (fun v wr => ∃ k : Nat, k ≤ a0.size ∧ v = .int .i64 k ∧ Aside0 (GB.IsBytes wr w3.heap.size (GB.part tabI (GB.bytesI a0) k)) ∧ Aside0 (Below w3.heap.size w3 wr)) (fun v _ => a0.size - (intOf v).toNat)
  case atStart => exact ⟨0, Nat.zero_le _, rfl, ⟨by rw [GB.part_zero]; exact GB.IsBytes.new w3 _ a0⟩, ⟨GB.below_bytes w3 _ a0⟩⟩
  case round =>
    obtain ⟨i, hk, rfl, HI, HC⟩ := hrel
    have hl := GB.bytesI_len a0
    by_cases hlt : i < a0.size
    · have hc := HI.out.cell i (by rw [GB.part_len _ _ _ (by omega)]; omega)
      have hf := HI.out.free i (by rw [GB.part_len _ _ _ (by omega)]; omega)
      rw [GB.part_at _ _ _ (by omega)] at hc
      have hr := GB.bytesI_range a0 i
      have hset := Aside0.mk (GB.part_set tabI (GB.bytesI a0) i (by omega))
      have hkeep := Aside0.mk (GB.part_keep tabI (GB.bytesI a0) i (by omega))
      clear hl
      generalize hx : (GB.bytesI a0).getD i 0 = x at hc hr hset hkeep
      clear hx
      by_cases h1 : x = 9
      · subst h1
        go_wp2
        go_roundw
        case measure => simp [intOf]; omega
        case rel => exact ⟨i + 1, by omega, by go_num, ⟨by have := HI.out.set i (tabI 9); rw [hset.out] at this; exact this⟩, ⟨HC.out.setCell (by simp) _⟩⟩
      · have c1 : (x == 9) = false := beq_eq_false_iff_ne.mpr h1
        have c2 : decide (x = 9) = false := decide_eq_false h1
        go_wp2
        go_roundw
        case measure => simp [intOf]; omega
        case rel => exact ⟨i + 1, by omega, by go_num, ⟨by rw [hkeep.out (by unfold tabI; rw [if_neg h1])]; exact HI.out⟩, HC⟩
    · obtain rfl : i = a0.size := by omega
      have hi := HI.out
      rw [← hl, GB.part_all] at hi
      have hn : ((GB.bytesI a0).map tabI).length = a0.size := by rw [List.length_map, hl]
      have hst := fun (c : Nat) => string_of_reads (P := Tryd.prog) (c := c) Tryd.underlying34 Tryd.underlying5 Tryd.underlying9 (hi.reads (by omega))
      rw [hn] at hst
      clear hi hn hl hlt hs hk HI
      go_wp2_with (first | (go_at_call 24; (with_reducible refine (tompionref04_split.calls k (strOfNums ((GB.bytesI a0).map tabI)) 32 l0 _ A1.out).mono ?_); rintro e ws ⟨v0, rfl, ho, hbs⟩; obtain ⟨b0, c0, RO0, rfl, hc0, hb0, hb1, hbo, hrow⟩ := row_cells ho HL0.out; have hb := HC.out.trans (hbs.mono HC.out.size); have n_ := Aside0.mk (below_step HB.out hb); clear HB; have HB := n_; clear n_; have n_ := Aside0.mk ((hb.block _ (blk_lt BK2.out)).trans BK2.out); clear BK2; have BK2 := n_; clear n_; have n_ := Aside0.mk ((hb.block _ (blk_lt BK4.out)).trans BK4.out); clear BK4; have BK4 := n_; clear n_; clear hb hbs HC))
      have HROW := Aside0.mk hrow
      have HRO := Aside0.mk hbo
      have HC0 := Aside0.mk hc0
      have HB1 := Aside0.mk hb1
      clear hrow hbo hc0 hb0 hb1 ho hst
      go_loopw [8, 9] (fun v8 v9 w' => ∃ j : Nat, j ≤ l0.length ∧ v9 = .int .i64 j ∧ Aside0 (Kd.R Kd.string 9 w' ws.heap.size (fun _ => True) v8 ((l0.take j).filter nonE)) ∧ Aside0 (Below ws.heap.size ws w')) (fun _ v _ => l0.length - (intOf v).toNat)
      case atStart => exact ⟨0, Nat.zero_le _, rfl, ⟨Kd.R_nil _ _ _ _ _⟩, ⟨Below.refl _ _⟩⟩
      case round =>
        obtain ⟨j, hj, rfl, HO, HC⟩ := hrel
        have hm := HL1.out
        by_cases hlt : j < l0.length
        · have hro := (HC.out.block _ HB1.out).trans HRO.out
          have hw := HROW.out _ hro j hlt
          have hjn : (j : Int) < (l0.length : Int) := by omega
          clear hro
          have HS := Aside0.mk (filter_snoc l0 j hlt)
          have HFL := Aside0.mk (filter_len l0 j HL1.out)
          generalize hu' : wdN l0 j = u at hw HS
          clear hu'
          by_cases hu : u = (⟨#[]⟩ : ByteArray)
          · have cu := toList_emp hu
            have HE : Aside0 ((l0.take (j + 1)).filter nonE = (l0.take j).filter nonE) := ⟨by rw [HS.out, nonE_no hu]; exact List.append_nil _⟩
            clear hu
            go_wp2
            go_roundw
            case rel => exact ⟨j + 1, by omega, by go_num, ⟨by rw [HE.out]; exact HO.out⟩, HC⟩
            case measure => simp [intOf]; omega
          · have cu := toList_not_emp hu
            have HE : Aside0 ((l0.take (j + 1)).filter nonE = (l0.take j).filter nonE ++ [u]) := ⟨by rw [HS.out, if_pos (nonE_yes hu)]⟩
            clear hu
            obtain ⟨l, hl⟩ : ∃ l, l = (l0.take j).filter nonE := ⟨_, rfl⟩
            rw [← hl] at HO HE HFL
            go_wp2_with (first | ((with_reducible refine gate_builtin (b := .append) (xs := #[.tmp 52, .tmp 57]) rfl ?_); at_builtin; refine Kd.R_append Kd.string (w0 := ws) ws.heap.size rfl (.tmp 52) (.tmp 57) 41 9 (.string ⟨#[]⟩) 16 rfl Tryd.underlying41 info9 rfl (by decide) (by omega) u8 l u [.string u] (fun _ => True) (fun _ => False) rfl rfl ?aP (fun _ hk => hk.elim) ?aF ?aO ?aB ?aS ?aL ?_; (case aP => exact rfl); (case aB => exact (by repeat (first | (with_reducible first | exact HC.out | apply below_alloc | apply pw_below_drewN | apply below_drew1) | exact HC.out))); (case aF => exact (fun _ _ => trivial)); (case aO => exact (by (with_reducible repeat (first | apply Kd.R_alloc | apply Kd.R_drewN | apply Kd.R_drew)); exact HO.out)); (case aS => exact (below_size (by repeat (first | (with_reducible first | exact HC.out | apply below_alloc | apply pw_below_drewN | apply below_drew1) | exact HC.out)))); (case aL => have := HFL.out; omega); intro v140 w8 ho hb hg hat; have n0_ := Aside0.mk (hb); have n1_ := Aside0.mk (ho); clear HC; clear HO; have HC := n0_; have HO := n1_; clear n0_ n1_; clear ho hb hg hat))
            go_roundw
            case rel => exact ⟨j + 1, by omega, by go_num, ⟨by rw [HE.out]; exact HO.out⟩, HC⟩
            case measure => simp [intOf]; omega
        · obtain rfl : j = l0.length := by omega
          obtain ⟨l, hl⟩ : ∃ l, l = l0.filter nonE := ⟨_, rfl⟩
          rw [List.take_length, ← hl] at HO
          have H := H'.out
          rw [← hl] at H
          obtain ⟨A, c, e⟩ := Kd.R_slice HO.out
          clear H' hl hlt hj hm A1 HROW HRO HC0 HB1
          unfold rparseW at H
          have hb := HC.out
          have n_ := Aside0.mk (below_step HB.out hb); clear HB; have HB := n_; clear n_; have n_ := Aside0.mk ((hb.block _ (blk_lt BK2.out)).trans BK2.out); clear BK2; have BK2 := n_; clear n_; have n_ := Aside0.mk ((hb.block _ (blk_lt BK4.out)).trans BK4.out); clear BK4; have BK4 := n_; clear n_
          clear HC hb
          obtain ⟨hca0, hca1, hca2, hca3, hca4, hca5, hca6, hca7, hfa0, hfa1, hfa2, hfa3, hfa4, hfa5, hfa6, hfa7⟩ := GB.cells8 BK4.out; obtain ⟨hcb0, hcb1, hcb2, hcb3, hcb4, hcb5, hcb6, hcb7, hfb0, hfb1, hfb2, hfb3, hfb4, hfb5, hfb6, hfb7⟩ := GB.cells8 BK2.out
          by_cases h5 : l.length = 5
          · rw [if_pos h5] at H
            have H' := Aside0.mk H
            clear H e
            obtain ⟨b, cc, RO, e2, hc, hb0, hb1, hbo, hrow⟩ := row_cells HO.out (by omega)
            rw [h5] at e2
            subst e2
            have HL := Aside0.mk h5
            have HROW := Aside0.mk hrow
            have HRO := Aside0.mk hbo
            have HB1 := Aside0.mk hb1
            clear h5 hrow hbo hc hb0 hb1 HO
            go_wp2_with (first | ((with_reducible refine gate_dst (N := 10) rfl ?_); refine box_event ?hg (N := 10) ?hd (cs := #[.int .u64 0, .int .u64 0, .int .u64 0, .int .u64 0, .int .u64 0]) (t := 50) ?hr ?_; (case hd => rfl); (case hg => rfl); (case hr => first | (go_simp; done) | (go_simp; rfl)); intro g10 hg w5 hx hb; have HN2 := Aside0.mk (show g2 ≠ g10 by have q := blk_lt BK2.out; omega); have HN4 := Aside0.mk (show g4 ≠ g10 by have q := blk_lt BK4.out; omega); have HNb := Aside0.mk (show b ≠ g10 by have q := HB1.out; omega); have HG10 := Aside0.mk (show w.heap.size ≤ g10 by rw [hg]; exact HB.out.size); have HG : Aside0 (RPG w g2 g4 b g10 RO 0 0 0 0 0 w5) := ⟨⟨(hb.block _ (blk_lt BK2.out)).trans BK2.out, (hb.block _ (blk_lt BK4.out)).trans BK4.out, (hb.block _ HB1.out).trans HRO.out, hx, below_step HB.out hb⟩⟩; clear hg hb hx BK2 BK4 HB HB1 HRO; clear hca0 hfa0 hca1 hfa1 hca2 hfa2 hca3 hfa3 hca4 hfa4 hca5 hfa5 hca6 hfa6 hca7 hfa7; clear hcb0 hfb0 hcb1 hfb1 hcb2 hfb2 hcb3 hfb3 hcb4 hfb4 hcb5 hfb5 hcb6 hfb6 hcb7 hfb7))
            obtain ⟨wo, rfl⟩ : ∃ wo : World, wo = wr := ⟨_, rfl⟩
            go_loopw [11] (fun v11 w' => ∃ (j y0 y1 y2 y3 y4 : Int), 0 ≤ j ∧ j ≤ 5 ∧ v11 = .int .i64 j ∧ Aside0 (rparseR k l j.toNat y0 y1 y2 y3 y4 = some (r1, r2, r3, r4, r5, r6, r7, r8, r9)) ∧ Aside0 (RPG w g2 g4 b g10 RO y0 y1 y2 y3 y4 w')) (fun i _ => (5 - intOf i).toNat)
            case atStart => exact ⟨0, 0, 0, 0, 0, 0, by decide, by decide, rfl, H', HG⟩
            case round =>
              clear H' HG
              obtain ⟨j, y0, y1, y2, y3, y4, hj0, hj5, rfl, HA, HG⟩ := hrel
              have hj : j = 0 ∨ j = 1 ∨ j = 2 ∨ j = 3 ∨ j = 4 ∨ j = 5 := by omega
              clear hj0 hj5
              rcases hj with rfl | rfl | rfl | rfl | rfl | rfl
              · have H : rparseR0 k l  = some (r1, r2, r3, r4, r5, r6, r7, r8, r9) := HA.out
                clear HA
                unfold rparseR0 at H
                replace H := Option.bind_eq_some_iff.mp H
                obtain ⟨⟨n, ok⟩, A2, H⟩ := H
                have A2 := Aside0.mk A2
                have hw := HROW.out _ HG.out.row 0 (by rw [HL.out]; decide)
                cases ok with
                | false =>
                  have e := Option.some.inj (show some rparseBad = some (r1, r2, r3, r4, r5, r6, r7, r8, r9) from H)
                  simp only [rparseBad, Prod.mk.injEq] at e
                  obtain ⟨rfl, rfl, rfl, rfl, rfl, rfl, rfl, rfl, rfl⟩ := e
                  clear H
                  go_wp2_with (first | (go_at_call 25; (with_reducible refine (tompionref04_field.calls k 0 (wdN l 0) n false _ A2.out).mono ?_); rintro e wf ⟨rfl, hb⟩; have n0_ := Aside0.mk (HG.out.below hb); clear HG; have HG := n0_; clear n0_ hb; obtain ⟨hca0, hca1, hca2, hca3, hca4, hca5, hca6, hca7, hfa0, hfa1, hfa2, hfa3, hfa4, hfa5, hfa6, hfa7⟩ := GB.cells8 HG.out.k4; obtain ⟨hcb0, hcb1, hcb2, hcb3, hcb4, hcb5, hcb6, hcb7, hfb0, hfb1, hfb2, hfb3, hfb4, hfb5, hfb6, hfb7⟩ := GB.cells8 HG.out.k2) | ((with_reducible refine gate_store (t := 25) (p := 2) rfl ?_); refine store_event (t := 25) (p := 2) (v := ?vo_wq) (w1 := ((((((((wf.setCell ⟨g2, 0, none⟩ (.int .u64 0)).setCell ⟨g2, 1, none⟩ (.int .u64 0)).setCell ⟨g2, 2, none⟩ (.int .u64 0)).setCell ⟨g2, 3, none⟩ (.int .u64 0)).setCell ⟨g2, 4, none⟩ (.int .u64 0)).setCell ⟨g2, 5, none⟩ (.bool false)).setCell ⟨g2, 6, none⟩ (.bool false)).setCell ⟨g2, 7, none⟩ (.int .i64 0))) ?hg ?ho ?hn ?hr ?_; (case ho => rfl); (case hg => rfl); (case hn => rfl); (case hr => first | (go_simp; done) | (go_simp; rfl)); intro wq hw; have f := set8 HG.out.k2 HG.out.bel HG2.out (.int .u64 0) (.int .u64 0) (.int .u64 0) (.int .u64 0) (.int .u64 0) (.bool false) (.bool false) (.int .i64 0); rw [← hw] at f; have BK2 := Aside0.mk f.1; have HB := Aside0.mk f.2; clear hw f))
                  exact bodyPost_ret (rparse_results g2 _ _ 0 0 0 0 0 0 false false false rfl rfl BK2.out) rfl ⟨rfl, HB.out⟩
                | true =>
                  have H' := Aside0.mk (show rparseR1 k l  n = some (r1, r2, r3, r4, r5, r6, r7, r8, r9) from H)
                  clear H
                  go_wp2_with (first | (go_at_call 25; (with_reducible refine (tompionref04_field.calls k 0 (wdN l 0) n true _ A2.out).mono ?_); rintro e wf ⟨rfl, hb⟩; have n0_ := Aside0.mk (HG.out.below hb); clear HG; have HG := n0_; clear n0_ hb; have hcz : wf.cell? ⟨g10, 0, none⟩ = some (.int .u64 y0) := (blk_cell HG.out.box 0).trans rfl; have hfz : wf.frozen? ⟨g10, 0, none⟩ = false := blk_frozen HG.out.box 0))
                  go_roundw
                  case rel => exact ⟨1, n, y1, y2, y3, y4, by decide, by decide, rfl, H', ⟨HG.out.set0 HN2.out HN4.out HNb.out HG10.out n⟩⟩
                  case measure => simp [intOf]
              · have H : rparseR1 k l y0 = some (r1, r2, r3, r4, r5, r6, r7, r8, r9) := HA.out
                clear HA
                unfold rparseR1 at H
                replace H := Option.bind_eq_some_iff.mp H
                obtain ⟨⟨n, ok⟩, A2, H⟩ := H
                have A2 := Aside0.mk A2
                have hw := HROW.out _ HG.out.row 1 (by rw [HL.out]; decide)
                cases ok with
                | false =>
                  have e := Option.some.inj (show some rparseBad = some (r1, r2, r3, r4, r5, r6, r7, r8, r9) from H)
                  simp only [rparseBad, Prod.mk.injEq] at e
                  obtain ⟨rfl, rfl, rfl, rfl, rfl, rfl, rfl, rfl, rfl⟩ := e
                  clear H
                  go_wp2_with (first | (go_at_call 25; (with_reducible refine (tompionref04_field.calls k 1 (wdN l 1) n false _ A2.out).mono ?_); rintro e wf ⟨rfl, hb⟩; have n0_ := Aside0.mk (HG.out.below hb); clear HG; have HG := n0_; clear n0_ hb; obtain ⟨hca0, hca1, hca2, hca3, hca4, hca5, hca6, hca7, hfa0, hfa1, hfa2, hfa3, hfa4, hfa5, hfa6, hfa7⟩ := GB.cells8 HG.out.k4; obtain ⟨hcb0, hcb1, hcb2, hcb3, hcb4, hcb5, hcb6, hcb7, hfb0, hfb1, hfb2, hfb3, hfb4, hfb5, hfb6, hfb7⟩ := GB.cells8 HG.out.k2) | ((with_reducible refine gate_store (t := 25) (p := 2) rfl ?_); refine store_event (t := 25) (p := 2) (v := ?vo_wq) (w1 := ((((((((wf.setCell ⟨g2, 0, none⟩ (.int .u64 0)).setCell ⟨g2, 1, none⟩ (.int .u64 0)).setCell ⟨g2, 2, none⟩ (.int .u64 0)).setCell ⟨g2, 3, none⟩ (.int .u64 0)).setCell ⟨g2, 4, none⟩ (.int .u64 0)).setCell ⟨g2, 5, none⟩ (.bool false)).setCell ⟨g2, 6, none⟩ (.bool false)).setCell ⟨g2, 7, none⟩ (.int .i64 0))) ?hg ?ho ?hn ?hr ?_; (case ho => rfl); (case hg => rfl); (case hn => rfl); (case hr => first | (go_simp; done) | (go_simp; rfl)); intro wq hw; have f := set8 HG.out.k2 HG.out.bel HG2.out (.int .u64 0) (.int .u64 0) (.int .u64 0) (.int .u64 0) (.int .u64 0) (.bool false) (.bool false) (.int .i64 0); rw [← hw] at f; have BK2 := Aside0.mk f.1; have HB := Aside0.mk f.2; clear hw f))
                  exact bodyPost_ret (rparse_results g2 _ _ 0 0 0 0 0 0 false false false rfl rfl BK2.out) rfl ⟨rfl, HB.out⟩
                | true =>
                  have H' := Aside0.mk (show rparseR2 k l y0 n = some (r1, r2, r3, r4, r5, r6, r7, r8, r9) from H)
                  clear H
                  go_wp2_with (first | (go_at_call 25; (with_reducible refine (tompionref04_field.calls k 1 (wdN l 1) n true _ A2.out).mono ?_); rintro e wf ⟨rfl, hb⟩; have n0_ := Aside0.mk (HG.out.below hb); clear HG; have HG := n0_; clear n0_ hb; have hcz : wf.cell? ⟨g10, 1, none⟩ = some (.int .u64 y1) := (blk_cell HG.out.box 1).trans rfl; have hfz : wf.frozen? ⟨g10, 1, none⟩ = false := blk_frozen HG.out.box 1))
                  go_roundw
                  case rel => exact ⟨2, y0, n, y2, y3, y4, by decide, by decide, rfl, H', ⟨HG.out.set1 HN2.out HN4.out HNb.out HG10.out n⟩⟩
                  case measure => simp [intOf]
              · have H : rparseR2 k l y0 y1 = some (r1, r2, r3, r4, r5, r6, r7, r8, r9) := HA.out
                clear HA
                unfold rparseR2 at H
                replace H := Option.bind_eq_some_iff.mp H
                obtain ⟨⟨n, ok⟩, A2, H⟩ := H
                have A2 := Aside0.mk A2
                have hw := HROW.out _ HG.out.row 2 (by rw [HL.out]; decide)
                cases ok with
                | false =>
                  have e := Option.some.inj (show some rparseBad = some (r1, r2, r3, r4, r5, r6, r7, r8, r9) from H)
                  simp only [rparseBad, Prod.mk.injEq] at e
                  obtain ⟨rfl, rfl, rfl, rfl, rfl, rfl, rfl, rfl, rfl⟩ := e
                  clear H
                  go_wp2_with (first | (go_at_call 25; (with_reducible refine (tompionref04_field.calls k 2 (wdN l 2) n false _ A2.out).mono ?_); rintro e wf ⟨rfl, hb⟩; have n0_ := Aside0.mk (HG.out.below hb); clear HG; have HG := n0_; clear n0_ hb; obtain ⟨hca0, hca1, hca2, hca3, hca4, hca5, hca6, hca7, hfa0, hfa1, hfa2, hfa3, hfa4, hfa5, hfa6, hfa7⟩ := GB.cells8 HG.out.k4; obtain ⟨hcb0, hcb1, hcb2, hcb3, hcb4, hcb5, hcb6, hcb7, hfb0, hfb1, hfb2, hfb3, hfb4, hfb5, hfb6, hfb7⟩ := GB.cells8 HG.out.k2) | ((with_reducible refine gate_store (t := 25) (p := 2) rfl ?_); refine store_event (t := 25) (p := 2) (v := ?vo_wq) (w1 := ((((((((wf.setCell ⟨g2, 0, none⟩ (.int .u64 0)).setCell ⟨g2, 1, none⟩ (.int .u64 0)).setCell ⟨g2, 2, none⟩ (.int .u64 0)).setCell ⟨g2, 3, none⟩ (.int .u64 0)).setCell ⟨g2, 4, none⟩ (.int .u64 0)).setCell ⟨g2, 5, none⟩ (.bool false)).setCell ⟨g2, 6, none⟩ (.bool false)).setCell ⟨g2, 7, none⟩ (.int .i64 0))) ?hg ?ho ?hn ?hr ?_; (case ho => rfl); (case hg => rfl); (case hn => rfl); (case hr => first | (go_simp; done) | (go_simp; rfl)); intro wq hw; have f := set8 HG.out.k2 HG.out.bel HG2.out (.int .u64 0) (.int .u64 0) (.int .u64 0) (.int .u64 0) (.int .u64 0) (.bool false) (.bool false) (.int .i64 0); rw [← hw] at f; have BK2 := Aside0.mk f.1; have HB := Aside0.mk f.2; clear hw f))
                  exact bodyPost_ret (rparse_results g2 _ _ 0 0 0 0 0 0 false false false rfl rfl BK2.out) rfl ⟨rfl, HB.out⟩
                | true =>
                  have H' := Aside0.mk (show rparseR3 k l y0 y1 n = some (r1, r2, r3, r4, r5, r6, r7, r8, r9) from H)
                  clear H
                  go_wp2_with (first | (go_at_call 25; (with_reducible refine (tompionref04_field.calls k 2 (wdN l 2) n true _ A2.out).mono ?_); rintro e wf ⟨rfl, hb⟩; have n0_ := Aside0.mk (HG.out.below hb); clear HG; have HG := n0_; clear n0_ hb; have hcz : wf.cell? ⟨g10, 2, none⟩ = some (.int .u64 y2) := (blk_cell HG.out.box 2).trans rfl; have hfz : wf.frozen? ⟨g10, 2, none⟩ = false := blk_frozen HG.out.box 2))
                  go_roundw
                  case rel => exact ⟨3, y0, y1, n, y3, y4, by decide, by decide, rfl, H', ⟨HG.out.set2 HN2.out HN4.out HNb.out HG10.out n⟩⟩
                  case measure => simp [intOf]
              · have H : rparseR3 k l y0 y1 y2 = some (r1, r2, r3, r4, r5, r6, r7, r8, r9) := HA.out
                clear HA
                unfold rparseR3 at H
                replace H := Option.bind_eq_some_iff.mp H
                obtain ⟨⟨n, ok⟩, A2, H⟩ := H
                have A2 := Aside0.mk A2
                have hw := HROW.out _ HG.out.row 3 (by rw [HL.out]; decide)
                cases ok with
                | false =>
                  have e := Option.some.inj (show some rparseBad = some (r1, r2, r3, r4, r5, r6, r7, r8, r9) from H)
                  simp only [rparseBad, Prod.mk.injEq] at e
                  obtain ⟨rfl, rfl, rfl, rfl, rfl, rfl, rfl, rfl, rfl⟩ := e
                  clear H
                  go_wp2_with (first | (go_at_call 25; (with_reducible refine (tompionref04_field.calls k 3 (wdN l 3) n false _ A2.out).mono ?_); rintro e wf ⟨rfl, hb⟩; have n0_ := Aside0.mk (HG.out.below hb); clear HG; have HG := n0_; clear n0_ hb; obtain ⟨hca0, hca1, hca2, hca3, hca4, hca5, hca6, hca7, hfa0, hfa1, hfa2, hfa3, hfa4, hfa5, hfa6, hfa7⟩ := GB.cells8 HG.out.k4; obtain ⟨hcb0, hcb1, hcb2, hcb3, hcb4, hcb5, hcb6, hcb7, hfb0, hfb1, hfb2, hfb3, hfb4, hfb5, hfb6, hfb7⟩ := GB.cells8 HG.out.k2) | ((with_reducible refine gate_store (t := 25) (p := 2) rfl ?_); refine store_event (t := 25) (p := 2) (v := ?vo_wq) (w1 := ((((((((wf.setCell ⟨g2, 0, none⟩ (.int .u64 0)).setCell ⟨g2, 1, none⟩ (.int .u64 0)).setCell ⟨g2, 2, none⟩ (.int .u64 0)).setCell ⟨g2, 3, none⟩ (.int .u64 0)).setCell ⟨g2, 4, none⟩ (.int .u64 0)).setCell ⟨g2, 5, none⟩ (.bool false)).setCell ⟨g2, 6, none⟩ (.bool false)).setCell ⟨g2, 7, none⟩ (.int .i64 0))) ?hg ?ho ?hn ?hr ?_; (case ho => rfl); (case hg => rfl); (case hn => rfl); (case hr => first | (go_simp; done) | (go_simp; rfl)); intro wq hw; have f := set8 HG.out.k2 HG.out.bel HG2.out (.int .u64 0) (.int .u64 0) (.int .u64 0) (.int .u64 0) (.int .u64 0) (.bool false) (.bool false) (.int .i64 0); rw [← hw] at f; have BK2 := Aside0.mk f.1; have HB := Aside0.mk f.2; clear hw f))
                  exact bodyPost_ret (rparse_results g2 _ _ 0 0 0 0 0 0 false false false rfl rfl BK2.out) rfl ⟨rfl, HB.out⟩
                | true =>
                  have H' := Aside0.mk (show rparseR4 k l y0 y1 y2 n = some (r1, r2, r3, r4, r5, r6, r7, r8, r9) from H)
                  clear H
                  go_wp2_with (first | (go_at_call 25; (with_reducible refine (tompionref04_field.calls k 3 (wdN l 3) n true _ A2.out).mono ?_); rintro e wf ⟨rfl, hb⟩; have n0_ := Aside0.mk (HG.out.below hb); clear HG; have HG := n0_; clear n0_ hb; have hcz : wf.cell? ⟨g10, 3, none⟩ = some (.int .u64 y3) := (blk_cell HG.out.box 3).trans rfl; have hfz : wf.frozen? ⟨g10, 3, none⟩ = false := blk_frozen HG.out.box 3))
                  go_roundw
                  case rel => exact ⟨4, y0, y1, y2, n, y4, by decide, by decide, rfl, H', ⟨HG.out.set3 HN2.out HN4.out HNb.out HG10.out n⟩⟩
                  case measure => simp [intOf]
              · have H : rparseR4 k l y0 y1 y2 y3 = some (r1, r2, r3, r4, r5, r6, r7, r8, r9) := HA.out
                clear HA
                unfold rparseR4 at H
                replace H := Option.bind_eq_some_iff.mp H
                obtain ⟨⟨n, ok⟩, A2, H⟩ := H
                have A2 := Aside0.mk A2
                have hw := HROW.out _ HG.out.row 4 (by rw [HL.out]; decide)
                cases ok with
                | false =>
                  have e := Option.some.inj (show some rparseBad = some (r1, r2, r3, r4, r5, r6, r7, r8, r9) from H)
                  simp only [rparseBad, Prod.mk.injEq] at e
                  obtain ⟨rfl, rfl, rfl, rfl, rfl, rfl, rfl, rfl, rfl⟩ := e
                  clear H
                  go_wp2_with (first | (go_at_call 25; (with_reducible refine (tompionref04_field.calls k 4 (wdN l 4) n false _ A2.out).mono ?_); rintro e wf ⟨rfl, hb⟩; have n0_ := Aside0.mk (HG.out.below hb); clear HG; have HG := n0_; clear n0_ hb; obtain ⟨hca0, hca1, hca2, hca3, hca4, hca5, hca6, hca7, hfa0, hfa1, hfa2, hfa3, hfa4, hfa5, hfa6, hfa7⟩ := GB.cells8 HG.out.k4; obtain ⟨hcb0, hcb1, hcb2, hcb3, hcb4, hcb5, hcb6, hcb7, hfb0, hfb1, hfb2, hfb3, hfb4, hfb5, hfb6, hfb7⟩ := GB.cells8 HG.out.k2) | ((with_reducible refine gate_store (t := 25) (p := 2) rfl ?_); refine store_event (t := 25) (p := 2) (v := ?vo_wq) (w1 := ((((((((wf.setCell ⟨g2, 0, none⟩ (.int .u64 0)).setCell ⟨g2, 1, none⟩ (.int .u64 0)).setCell ⟨g2, 2, none⟩ (.int .u64 0)).setCell ⟨g2, 3, none⟩ (.int .u64 0)).setCell ⟨g2, 4, none⟩ (.int .u64 0)).setCell ⟨g2, 5, none⟩ (.bool false)).setCell ⟨g2, 6, none⟩ (.bool false)).setCell ⟨g2, 7, none⟩ (.int .i64 0))) ?hg ?ho ?hn ?hr ?_; (case ho => rfl); (case hg => rfl); (case hn => rfl); (case hr => first | (go_simp; done) | (go_simp; rfl)); intro wq hw; have f := set8 HG.out.k2 HG.out.bel HG2.out (.int .u64 0) (.int .u64 0) (.int .u64 0) (.int .u64 0) (.int .u64 0) (.bool false) (.bool false) (.int .i64 0); rw [← hw] at f; have BK2 := Aside0.mk f.1; have HB := Aside0.mk f.2; clear hw f))
                  exact bodyPost_ret (rparse_results g2 _ _ 0 0 0 0 0 0 false false false rfl rfl BK2.out) rfl ⟨rfl, HB.out⟩
                | true =>
                  have H' := Aside0.mk (show rparseR5 k l y0 y1 y2 y3 n = some (r1, r2, r3, r4, r5, r6, r7, r8, r9) from H)
                  clear H
                  go_wp2_with (first | (go_at_call 25; (with_reducible refine (tompionref04_field.calls k 4 (wdN l 4) n true _ A2.out).mono ?_); rintro e wf ⟨rfl, hb⟩; have n0_ := Aside0.mk (HG.out.below hb); clear HG; have HG := n0_; clear n0_ hb; have hcz : wf.cell? ⟨g10, 4, none⟩ = some (.int .u64 y4) := (blk_cell HG.out.box 4).trans rfl; have hfz : wf.frozen? ⟨g10, 4, none⟩ = false := blk_frozen HG.out.box 4))
                  go_roundw
                  case rel => exact ⟨5, y0, y1, y2, y3, n, by decide, by decide, rfl, H', ⟨HG.out.set4 HN2.out HN4.out HNb.out HG10.out n⟩⟩
                  case measure => simp [intOf]
              · have H : rparseR5 k l y0 y1 y2 y3 y4 = some (r1, r2, r3, r4, r5, r6, r7, r8, r9) := HA.out
                clear HA
                unfold rparseR5 at H
                by_cases z2 : 0 < (wdN l 2).size
                case neg => rw [if_neg z2] at H; cases H
                rw [if_pos z2] at H
                by_cases z4 : 0 < (wdN l 4).size
                case neg => rw [if_neg z4] at H; cases H
                rw [if_pos z4] at H
                have hw2 := HROW.out _ HG.out.row 2 (by rw [HL.out]; decide)
                have hz2 : (0 : Int) < ((wdN l 2).size : Int) := by omega
                have E2 := Aside0.mk (show (((wdN l 2)[0]'z2).toNat : Int) = bt (wdN l 2) 0 from bt_at (wdN l 2) 0 z2)
                obtain ⟨p2, hp2⟩ : ∃ p : Bool, p = (bt (wdN l 2) 0 == 42) := ⟨_, rfl⟩
                have hw4 := HROW.out _ HG.out.row 4 (by rw [HL.out]; decide)
                have hz4 : (0 : Int) < ((wdN l 4).size : Int) := by omega
                have E4 := Aside0.mk (show (((wdN l 4)[0]'z4).toNat : Int) = bt (wdN l 4) 0 from bt_at (wdN l 4) 0 z4)
                obtain ⟨p4, hp4⟩ : ∃ p : Bool, p = (bt (wdN l 4) 0 == 42) := ⟨_, rfl⟩
                rw [← hp2, ← hp4] at H
                have P2 := Aside0.mk hp2
                have P4 := Aside0.mk hp4
                have H' := Aside0.mk H
                clear H hp2 hp4
                have hcy0 : _ = some (Value.int .u64 y0) := blk_cell HG.out.box 0
                have hcy1 : _ = some (Value.int .u64 y1) := blk_cell HG.out.box 1
                have hcy2 : _ = some (Value.int .u64 y2) := blk_cell HG.out.box 2
                have hcy3 : _ = some (Value.int .u64 y3) := blk_cell HG.out.box 3
                have hcy4 : _ = some (Value.int .u64 y4) := blk_cell HG.out.box 4
                go_wp2_with fail
                have hny0 := World.new_ne wr ⟨g10, 0, none⟩ hcy0
                have hny1 := World.new_ne wr ⟨g10, 1, none⟩ hcy1
                have hny2 := World.new_ne wr ⟨g10, 2, none⟩ hcy2
                have hny3 := World.new_ne wr ⟨g10, 3, none⟩ hcy3
                have hny4 := World.new_ne wr ⟨g10, 4, none⟩ hcy4
                have hnw2 := World.new_ne wr ⟨b, 2, none⟩ hw2
                have hnw4 := World.new_ne wr ⟨b, 4, none⟩ hw4
                go_region_held3 (fun w' => w'.cell? ⟨g10, 0, none⟩ = some (.int .u64 y0) ∧ w'.cell? ⟨g10, 1, none⟩ = some (.int .u64 y1) ∧ w'.cell? ⟨g10, 2, none⟩ = some (.int .u64 y2) ∧ w'.cell? ⟨g10, 3, none⟩ = some (.int .u64 y3) ∧ w'.cell? ⟨g10, 4, none⟩ = some (.int .u64 y4) ∧ w'.cell? ⟨b, 2, none⟩ = some (.string (wdN l 2)) ∧ w'.cell? ⟨b, 4, none⟩ = some (.string (wdN l 4))) (go_keep) (fail)
                all_goals
                  rw [E2.out, E4.out, ← P2.out, ← P4.out]
                  obtain ⟨W2, hW2⟩ : ∃ W2, W2 = (wr.alloc (.cells #[.int .u64 y0, .int .u64 y1, .int .u64 y2, .int .u64 y3, .int .u64 y4, .bool p2, .bool p4, .int .i64 0] 25)).drew := ⟨_, rfl⟩
                  obtain ⟨g14, hg14⟩ : ∃ g, g = wr.heap.size := ⟨_, rfl⟩
                  have HX : Aside0 (W2.heap[g14]? = some (.cells #[.int .u64 y0, .int .u64 y1, .int .u64 y2, .int .u64 y3, .int .u64 y4, .bool p2, .bool p4, .int .i64 0] 25 (0, 0))) := ⟨by rw [hW2, hg14]; show (wr.heap.push _)[wr.heap.size]? = _; rw [Array.getElem?_push, if_pos rfl]⟩
                  have HGW := Aside0.mk (HG.out.below (W' := W2) (by rw [hW2]; exact ((Below.refl _ _).alloc (Nat.le_refl _) _).drew))
                  have HGX := Aside0.mk (show w.heap.size ≤ g14 by rw [hg14]; exact HG.out.bel.size)
                  have HN14 := Aside0.mk (show g2 ≠ g14 by have := blk_lt HG.out.k2; omega)
                  rw [← hW2, ← hg14]
                  clear hW2 hg14 HG hw2 hw4 hz2 hz4 E2 E4 P2 P4 hcy0 hny0 hcy1 hny1 hcy2 hny2 hcy3 hny3 hcy4 hny4 hnw2 hnw4
                  have H := H'.out
                  clear H'
                  obtain ⟨hcx0, hcx1, hcx2, hcx3, hcx4, hcx5, hcx6, hcx7, hfx0, hfx1, hfx2, hfx3, hfx4, hfx5, hfx6, hfx7⟩ := GB.cells8 HX.out
                  obtain ⟨hcb0, hcb1, hcb2, hcb3, hcb4, hcb5, hcb6, hcb7, hfb0, hfb1, hfb2, hfb3, hfb4, hfb5, hfb6, hfb7⟩ := GB.cells8 HGW.out.k2
                  rw [if_neg (by rw [HL.out]; decide)] at H
                  have e := Option.some.inj H
                  simp only [Prod.mk.injEq] at e
                  obtain ⟨rfl, rfl, rfl, rfl, rfl, rfl, rfl, rfl, rfl⟩ := e
                  clear H
                  go_wp2_with fail
                  have f := set8 HGW.out.k2 HGW.out.bel HG2.out (.int .u64 y0) (.int .u64 y1) (.int .u64 y2) (.int .u64 y3) (.int .u64 y4) (.bool p2) (.bool p4) (.int .i64 0)
                  exact bodyPost_ret (rparse_results g2 _ _ y0 y1 y2 y3 y4 0 p2 p4 true rfl rfl f.1) rfl ⟨rfl, f.2⟩
          · rw [if_neg h5] at H
            by_cases h6 : l.length = 6
            · rw [if_pos h6] at H
              have H' := Aside0.mk H
              clear H e
              obtain ⟨b, cc, RO, e2, hc, hb0, hb1, hbo, hrow⟩ := row_cells HO.out (by omega)
              rw [h6] at e2
              subst e2
              have HL := Aside0.mk h6
              have HROW := Aside0.mk hrow
              have HRO := Aside0.mk hbo
              have HB1 := Aside0.mk hb1
              clear h5 h6 hrow hbo hc hb0 hb1 HO
              go_wp2_with (first | ((with_reducible refine gate_dst (N := 10) rfl ?_); refine box_event ?hg (N := 10) ?hd (cs := #[.int .u64 0, .int .u64 0, .int .u64 0, .int .u64 0, .int .u64 0]) (t := 50) ?hr ?_; (case hd => rfl); (case hg => rfl); (case hr => first | (go_simp; done) | (go_simp; rfl)); intro g10 hg w5 hx hb; have HN2 := Aside0.mk (show g2 ≠ g10 by have q := blk_lt BK2.out; omega); have HN4 := Aside0.mk (show g4 ≠ g10 by have q := blk_lt BK4.out; omega); have HNb := Aside0.mk (show b ≠ g10 by have q := HB1.out; omega); have HG10 := Aside0.mk (show w.heap.size ≤ g10 by rw [hg]; exact HB.out.size); have HG : Aside0 (RPG w g2 g4 b g10 RO 0 0 0 0 0 w5) := ⟨⟨(hb.block _ (blk_lt BK2.out)).trans BK2.out, (hb.block _ (blk_lt BK4.out)).trans BK4.out, (hb.block _ HB1.out).trans HRO.out, hx, below_step HB.out hb⟩⟩; clear hg hb hx BK2 BK4 HB HB1 HRO; clear hca0 hfa0 hca1 hfa1 hca2 hfa2 hca3 hfa3 hca4 hfa4 hca5 hfa5 hca6 hfa6 hca7 hfa7; clear hcb0 hfb0 hcb1 hfb1 hcb2 hfb2 hcb3 hfb3 hcb4 hfb4 hcb5 hfb5 hcb6 hfb6 hcb7 hfb7))
              obtain ⟨wo, rfl⟩ : ∃ wo : World, wo = wr := ⟨_, rfl⟩
              go_loopw [11] (fun v11 w' => ∃ (j y0 y1 y2 y3 y4 : Int), 0 ≤ j ∧ j ≤ 5 ∧ v11 = .int .i64 j ∧ Aside0 (rparseR k l j.toNat y0 y1 y2 y3 y4 = some (r1, r2, r3, r4, r5, r6, r7, r8, r9)) ∧ Aside0 (RPG w g2 g4 b g10 RO y0 y1 y2 y3 y4 w')) (fun i _ => (5 - intOf i).toNat)
              case atStart => exact ⟨0, 0, 0, 0, 0, 0, by decide, by decide, rfl, H', HG⟩
              case round =>
                clear H' HG
                obtain ⟨j, y0, y1, y2, y3, y4, hj0, hj5, rfl, HA, HG⟩ := hrel
                have hj : j = 0 ∨ j = 1 ∨ j = 2 ∨ j = 3 ∨ j = 4 ∨ j = 5 := by omega
                clear hj0 hj5
                rcases hj with rfl | rfl | rfl | rfl | rfl | rfl
                · have H : rparseR0 k l  = some (r1, r2, r3, r4, r5, r6, r7, r8, r9) := HA.out
                  clear HA
                  unfold rparseR0 at H
                  replace H := Option.bind_eq_some_iff.mp H
                  obtain ⟨⟨n, ok⟩, A2, H⟩ := H
                  have A2 := Aside0.mk A2
                  have hw := HROW.out _ HG.out.row 0 (by rw [HL.out]; decide)
                  cases ok with
                  | false =>
                    have e := Option.some.inj (show some rparseBad = some (r1, r2, r3, r4, r5, r6, r7, r8, r9) from H)
                    simp only [rparseBad, Prod.mk.injEq] at e
                    obtain ⟨rfl, rfl, rfl, rfl, rfl, rfl, rfl, rfl, rfl⟩ := e
                    clear H
                    go_wp2_with (first | (go_at_call 25; (with_reducible refine (tompionref04_field.calls k 0 (wdN l 0) n false _ A2.out).mono ?_); rintro e wf ⟨rfl, hb⟩; have n0_ := Aside0.mk (HG.out.below hb); clear HG; have HG := n0_; clear n0_ hb; obtain ⟨hca0, hca1, hca2, hca3, hca4, hca5, hca6, hca7, hfa0, hfa1, hfa2, hfa3, hfa4, hfa5, hfa6, hfa7⟩ := GB.cells8 HG.out.k4; obtain ⟨hcb0, hcb1, hcb2, hcb3, hcb4, hcb5, hcb6, hcb7, hfb0, hfb1, hfb2, hfb3, hfb4, hfb5, hfb6, hfb7⟩ := GB.cells8 HG.out.k2) | ((with_reducible refine gate_store (t := 25) (p := 2) rfl ?_); refine store_event (t := 25) (p := 2) (v := ?vo_wq) (w1 := ((((((((wf.setCell ⟨g2, 0, none⟩ (.int .u64 0)).setCell ⟨g2, 1, none⟩ (.int .u64 0)).setCell ⟨g2, 2, none⟩ (.int .u64 0)).setCell ⟨g2, 3, none⟩ (.int .u64 0)).setCell ⟨g2, 4, none⟩ (.int .u64 0)).setCell ⟨g2, 5, none⟩ (.bool false)).setCell ⟨g2, 6, none⟩ (.bool false)).setCell ⟨g2, 7, none⟩ (.int .i64 0))) ?hg ?ho ?hn ?hr ?_; (case ho => rfl); (case hg => rfl); (case hn => rfl); (case hr => first | (go_simp; done) | (go_simp; rfl)); intro wq hw; have f := set8 HG.out.k2 HG.out.bel HG2.out (.int .u64 0) (.int .u64 0) (.int .u64 0) (.int .u64 0) (.int .u64 0) (.bool false) (.bool false) (.int .i64 0); rw [← hw] at f; have BK2 := Aside0.mk f.1; have HB := Aside0.mk f.2; clear hw f))
                    exact bodyPost_ret (rparse_results g2 _ _ 0 0 0 0 0 0 false false false rfl rfl BK2.out) rfl ⟨rfl, HB.out⟩
                  | true =>
                    have H' := Aside0.mk (show rparseR1 k l  n = some (r1, r2, r3, r4, r5, r6, r7, r8, r9) from H)
                    clear H
                    go_wp2_with (first | (go_at_call 25; (with_reducible refine (tompionref04_field.calls k 0 (wdN l 0) n true _ A2.out).mono ?_); rintro e wf ⟨rfl, hb⟩; have n0_ := Aside0.mk (HG.out.below hb); clear HG; have HG := n0_; clear n0_ hb; have hcz : wf.cell? ⟨g10, 0, none⟩ = some (.int .u64 y0) := (blk_cell HG.out.box 0).trans rfl; have hfz : wf.frozen? ⟨g10, 0, none⟩ = false := blk_frozen HG.out.box 0))
                    go_roundw
                    case rel => exact ⟨1, n, y1, y2, y3, y4, by decide, by decide, rfl, H', ⟨HG.out.set0 HN2.out HN4.out HNb.out HG10.out n⟩⟩
                    case measure => simp [intOf]
                · have H : rparseR1 k l y0 = some (r1, r2, r3, r4, r5, r6, r7, r8, r9) := HA.out
                  clear HA
                  unfold rparseR1 at H
                  replace H := Option.bind_eq_some_iff.mp H
                  obtain ⟨⟨n, ok⟩, A2, H⟩ := H
                  have A2 := Aside0.mk A2
                  have hw := HROW.out _ HG.out.row 1 (by rw [HL.out]; decide)
                  cases ok with
                  | false =>
                    have e := Option.some.inj (show some rparseBad = some (r1, r2, r3, r4, r5, r6, r7, r8, r9) from H)
                    simp only [rparseBad, Prod.mk.injEq] at e
                    obtain ⟨rfl, rfl, rfl, rfl, rfl, rfl, rfl, rfl, rfl⟩ := e
                    clear H
                    go_wp2_with (first | (go_at_call 25; (with_reducible refine (tompionref04_field.calls k 1 (wdN l 1) n false _ A2.out).mono ?_); rintro e wf ⟨rfl, hb⟩; have n0_ := Aside0.mk (HG.out.below hb); clear HG; have HG := n0_; clear n0_ hb; obtain ⟨hca0, hca1, hca2, hca3, hca4, hca5, hca6, hca7, hfa0, hfa1, hfa2, hfa3, hfa4, hfa5, hfa6, hfa7⟩ := GB.cells8 HG.out.k4; obtain ⟨hcb0, hcb1, hcb2, hcb3, hcb4, hcb5, hcb6, hcb7, hfb0, hfb1, hfb2, hfb3, hfb4, hfb5, hfb6, hfb7⟩ := GB.cells8 HG.out.k2) | ((with_reducible refine gate_store (t := 25) (p := 2) rfl ?_); refine store_event (t := 25) (p := 2) (v := ?vo_wq) (w1 := ((((((((wf.setCell ⟨g2, 0, none⟩ (.int .u64 0)).setCell ⟨g2, 1, none⟩ (.int .u64 0)).setCell ⟨g2, 2, none⟩ (.int .u64 0)).setCell ⟨g2, 3, none⟩ (.int .u64 0)).setCell ⟨g2, 4, none⟩ (.int .u64 0)).setCell ⟨g2, 5, none⟩ (.bool false)).setCell ⟨g2, 6, none⟩ (.bool false)).setCell ⟨g2, 7, none⟩ (.int .i64 0))) ?hg ?ho ?hn ?hr ?_; (case ho => rfl); (case hg => rfl); (case hn => rfl); (case hr => first | (go_simp; done) | (go_simp; rfl)); intro wq hw; have f := set8 HG.out.k2 HG.out.bel HG2.out (.int .u64 0) (.int .u64 0) (.int .u64 0) (.int .u64 0) (.int .u64 0) (.bool false) (.bool false) (.int .i64 0); rw [← hw] at f; have BK2 := Aside0.mk f.1; have HB := Aside0.mk f.2; clear hw f))
                    exact bodyPost_ret (rparse_results g2 _ _ 0 0 0 0 0 0 false false false rfl rfl BK2.out) rfl ⟨rfl, HB.out⟩
                  | true =>
                    have H' := Aside0.mk (show rparseR2 k l y0 n = some (r1, r2, r3, r4, r5, r6, r7, r8, r9) from H)
                    clear H
                    go_wp2_with (first | (go_at_call 25; (with_reducible refine (tompionref04_field.calls k 1 (wdN l 1) n true _ A2.out).mono ?_); rintro e wf ⟨rfl, hb⟩; have n0_ := Aside0.mk (HG.out.below hb); clear HG; have HG := n0_; clear n0_ hb; have hcz : wf.cell? ⟨g10, 1, none⟩ = some (.int .u64 y1) := (blk_cell HG.out.box 1).trans rfl; have hfz : wf.frozen? ⟨g10, 1, none⟩ = false := blk_frozen HG.out.box 1))
                    go_roundw
                    case rel => exact ⟨2, y0, n, y2, y3, y4, by decide, by decide, rfl, H', ⟨HG.out.set1 HN2.out HN4.out HNb.out HG10.out n⟩⟩
                    case measure => simp [intOf]
                · have H : rparseR2 k l y0 y1 = some (r1, r2, r3, r4, r5, r6, r7, r8, r9) := HA.out
                  clear HA
                  unfold rparseR2 at H
                  replace H := Option.bind_eq_some_iff.mp H
                  obtain ⟨⟨n, ok⟩, A2, H⟩ := H
                  have A2 := Aside0.mk A2
                  have hw := HROW.out _ HG.out.row 2 (by rw [HL.out]; decide)
                  cases ok with
                  | false =>
                    have e := Option.some.inj (show some rparseBad = some (r1, r2, r3, r4, r5, r6, r7, r8, r9) from H)
                    simp only [rparseBad, Prod.mk.injEq] at e
                    obtain ⟨rfl, rfl, rfl, rfl, rfl, rfl, rfl, rfl, rfl⟩ := e
                    clear H
                    go_wp2_with (first | (go_at_call 25; (with_reducible refine (tompionref04_field.calls k 2 (wdN l 2) n false _ A2.out).mono ?_); rintro e wf ⟨rfl, hb⟩; have n0_ := Aside0.mk (HG.out.below hb); clear HG; have HG := n0_; clear n0_ hb; obtain ⟨hca0, hca1, hca2, hca3, hca4, hca5, hca6, hca7, hfa0, hfa1, hfa2, hfa3, hfa4, hfa5, hfa6, hfa7⟩ := GB.cells8 HG.out.k4; obtain ⟨hcb0, hcb1, hcb2, hcb3, hcb4, hcb5, hcb6, hcb7, hfb0, hfb1, hfb2, hfb3, hfb4, hfb5, hfb6, hfb7⟩ := GB.cells8 HG.out.k2) | ((with_reducible refine gate_store (t := 25) (p := 2) rfl ?_); refine store_event (t := 25) (p := 2) (v := ?vo_wq) (w1 := ((((((((wf.setCell ⟨g2, 0, none⟩ (.int .u64 0)).setCell ⟨g2, 1, none⟩ (.int .u64 0)).setCell ⟨g2, 2, none⟩ (.int .u64 0)).setCell ⟨g2, 3, none⟩ (.int .u64 0)).setCell ⟨g2, 4, none⟩ (.int .u64 0)).setCell ⟨g2, 5, none⟩ (.bool false)).setCell ⟨g2, 6, none⟩ (.bool false)).setCell ⟨g2, 7, none⟩ (.int .i64 0))) ?hg ?ho ?hn ?hr ?_; (case ho => rfl); (case hg => rfl); (case hn => rfl); (case hr => first | (go_simp; done) | (go_simp; rfl)); intro wq hw; have f := set8 HG.out.k2 HG.out.bel HG2.out (.int .u64 0) (.int .u64 0) (.int .u64 0) (.int .u64 0) (.int .u64 0) (.bool false) (.bool false) (.int .i64 0); rw [← hw] at f; have BK2 := Aside0.mk f.1; have HB := Aside0.mk f.2; clear hw f))
                    exact bodyPost_ret (rparse_results g2 _ _ 0 0 0 0 0 0 false false false rfl rfl BK2.out) rfl ⟨rfl, HB.out⟩
                  | true =>
                    have H' := Aside0.mk (show rparseR3 k l y0 y1 n = some (r1, r2, r3, r4, r5, r6, r7, r8, r9) from H)
                    clear H
                    go_wp2_with (first | (go_at_call 25; (with_reducible refine (tompionref04_field.calls k 2 (wdN l 2) n true _ A2.out).mono ?_); rintro e wf ⟨rfl, hb⟩; have n0_ := Aside0.mk (HG.out.below hb); clear HG; have HG := n0_; clear n0_ hb; have hcz : wf.cell? ⟨g10, 2, none⟩ = some (.int .u64 y2) := (blk_cell HG.out.box 2).trans rfl; have hfz : wf.frozen? ⟨g10, 2, none⟩ = false := blk_frozen HG.out.box 2))
                    go_roundw
                    case rel => exact ⟨3, y0, y1, n, y3, y4, by decide, by decide, rfl, H', ⟨HG.out.set2 HN2.out HN4.out HNb.out HG10.out n⟩⟩
                    case measure => simp [intOf]
                · have H : rparseR3 k l y0 y1 y2 = some (r1, r2, r3, r4, r5, r6, r7, r8, r9) := HA.out
                  clear HA
                  unfold rparseR3 at H
                  replace H := Option.bind_eq_some_iff.mp H
                  obtain ⟨⟨n, ok⟩, A2, H⟩ := H
                  have A2 := Aside0.mk A2
                  have hw := HROW.out _ HG.out.row 3 (by rw [HL.out]; decide)
                  cases ok with
                  | false =>
                    have e := Option.some.inj (show some rparseBad = some (r1, r2, r3, r4, r5, r6, r7, r8, r9) from H)
                    simp only [rparseBad, Prod.mk.injEq] at e
                    obtain ⟨rfl, rfl, rfl, rfl, rfl, rfl, rfl, rfl, rfl⟩ := e
                    clear H
                    go_wp2_with (first | (go_at_call 25; (with_reducible refine (tompionref04_field.calls k 3 (wdN l 3) n false _ A2.out).mono ?_); rintro e wf ⟨rfl, hb⟩; have n0_ := Aside0.mk (HG.out.below hb); clear HG; have HG := n0_; clear n0_ hb; obtain ⟨hca0, hca1, hca2, hca3, hca4, hca5, hca6, hca7, hfa0, hfa1, hfa2, hfa3, hfa4, hfa5, hfa6, hfa7⟩ := GB.cells8 HG.out.k4; obtain ⟨hcb0, hcb1, hcb2, hcb3, hcb4, hcb5, hcb6, hcb7, hfb0, hfb1, hfb2, hfb3, hfb4, hfb5, hfb6, hfb7⟩ := GB.cells8 HG.out.k2) | ((with_reducible refine gate_store (t := 25) (p := 2) rfl ?_); refine store_event (t := 25) (p := 2) (v := ?vo_wq) (w1 := ((((((((wf.setCell ⟨g2, 0, none⟩ (.int .u64 0)).setCell ⟨g2, 1, none⟩ (.int .u64 0)).setCell ⟨g2, 2, none⟩ (.int .u64 0)).setCell ⟨g2, 3, none⟩ (.int .u64 0)).setCell ⟨g2, 4, none⟩ (.int .u64 0)).setCell ⟨g2, 5, none⟩ (.bool false)).setCell ⟨g2, 6, none⟩ (.bool false)).setCell ⟨g2, 7, none⟩ (.int .i64 0))) ?hg ?ho ?hn ?hr ?_; (case ho => rfl); (case hg => rfl); (case hn => rfl); (case hr => first | (go_simp; done) | (go_simp; rfl)); intro wq hw; have f := set8 HG.out.k2 HG.out.bel HG2.out (.int .u64 0) (.int .u64 0) (.int .u64 0) (.int .u64 0) (.int .u64 0) (.bool false) (.bool false) (.int .i64 0); rw [← hw] at f; have BK2 := Aside0.mk f.1; have HB := Aside0.mk f.2; clear hw f))
                    exact bodyPost_ret (rparse_results g2 _ _ 0 0 0 0 0 0 false false false rfl rfl BK2.out) rfl ⟨rfl, HB.out⟩
                  | true =>
                    have H' := Aside0.mk (show rparseR4 k l y0 y1 y2 n = some (r1, r2, r3, r4, r5, r6, r7, r8, r9) from H)
                    clear H
                    go_wp2_with (first | (go_at_call 25; (with_reducible refine (tompionref04_field.calls k 3 (wdN l 3) n true _ A2.out).mono ?_); rintro e wf ⟨rfl, hb⟩; have n0_ := Aside0.mk (HG.out.below hb); clear HG; have HG := n0_; clear n0_ hb; have hcz : wf.cell? ⟨g10, 3, none⟩ = some (.int .u64 y3) := (blk_cell HG.out.box 3).trans rfl; have hfz : wf.frozen? ⟨g10, 3, none⟩ = false := blk_frozen HG.out.box 3))
                    go_roundw
                    case rel => exact ⟨4, y0, y1, y2, n, y4, by decide, by decide, rfl, H', ⟨HG.out.set3 HN2.out HN4.out HNb.out HG10.out n⟩⟩
                    case measure => simp [intOf]
                · have H : rparseR4 k l y0 y1 y2 y3 = some (r1, r2, r3, r4, r5, r6, r7, r8, r9) := HA.out
                  clear HA
                  unfold rparseR4 at H
                  replace H := Option.bind_eq_some_iff.mp H
                  obtain ⟨⟨n, ok⟩, A2, H⟩ := H
                  have A2 := Aside0.mk A2
                  have hw := HROW.out _ HG.out.row 4 (by rw [HL.out]; decide)
                  cases ok with
                  | false =>
                    have e := Option.some.inj (show some rparseBad = some (r1, r2, r3, r4, r5, r6, r7, r8, r9) from H)
                    simp only [rparseBad, Prod.mk.injEq] at e
                    obtain ⟨rfl, rfl, rfl, rfl, rfl, rfl, rfl, rfl, rfl⟩ := e
                    clear H
                    go_wp2_with (first | (go_at_call 25; (with_reducible refine (tompionref04_field.calls k 4 (wdN l 4) n false _ A2.out).mono ?_); rintro e wf ⟨rfl, hb⟩; have n0_ := Aside0.mk (HG.out.below hb); clear HG; have HG := n0_; clear n0_ hb; obtain ⟨hca0, hca1, hca2, hca3, hca4, hca5, hca6, hca7, hfa0, hfa1, hfa2, hfa3, hfa4, hfa5, hfa6, hfa7⟩ := GB.cells8 HG.out.k4; obtain ⟨hcb0, hcb1, hcb2, hcb3, hcb4, hcb5, hcb6, hcb7, hfb0, hfb1, hfb2, hfb3, hfb4, hfb5, hfb6, hfb7⟩ := GB.cells8 HG.out.k2) | ((with_reducible refine gate_store (t := 25) (p := 2) rfl ?_); refine store_event (t := 25) (p := 2) (v := ?vo_wq) (w1 := ((((((((wf.setCell ⟨g2, 0, none⟩ (.int .u64 0)).setCell ⟨g2, 1, none⟩ (.int .u64 0)).setCell ⟨g2, 2, none⟩ (.int .u64 0)).setCell ⟨g2, 3, none⟩ (.int .u64 0)).setCell ⟨g2, 4, none⟩ (.int .u64 0)).setCell ⟨g2, 5, none⟩ (.bool false)).setCell ⟨g2, 6, none⟩ (.bool false)).setCell ⟨g2, 7, none⟩ (.int .i64 0))) ?hg ?ho ?hn ?hr ?_; (case ho => rfl); (case hg => rfl); (case hn => rfl); (case hr => first | (go_simp; done) | (go_simp; rfl)); intro wq hw; have f := set8 HG.out.k2 HG.out.bel HG2.out (.int .u64 0) (.int .u64 0) (.int .u64 0) (.int .u64 0) (.int .u64 0) (.bool false) (.bool false) (.int .i64 0); rw [← hw] at f; have BK2 := Aside0.mk f.1; have HB := Aside0.mk f.2; clear hw f))
                    exact bodyPost_ret (rparse_results g2 _ _ 0 0 0 0 0 0 false false false rfl rfl BK2.out) rfl ⟨rfl, HB.out⟩
                  | true =>
                    have H' := Aside0.mk (show rparseR5 k l y0 y1 y2 y3 n = some (r1, r2, r3, r4, r5, r6, r7, r8, r9) from H)
                    clear H
                    go_wp2_with (first | (go_at_call 25; (with_reducible refine (tompionref04_field.calls k 4 (wdN l 4) n true _ A2.out).mono ?_); rintro e wf ⟨rfl, hb⟩; have n0_ := Aside0.mk (HG.out.below hb); clear HG; have HG := n0_; clear n0_ hb; have hcz : wf.cell? ⟨g10, 4, none⟩ = some (.int .u64 y4) := (blk_cell HG.out.box 4).trans rfl; have hfz : wf.frozen? ⟨g10, 4, none⟩ = false := blk_frozen HG.out.box 4))
                    go_roundw
                    case rel => exact ⟨5, y0, y1, y2, y3, n, by decide, by decide, rfl, H', ⟨HG.out.set4 HN2.out HN4.out HNb.out HG10.out n⟩⟩
                    case measure => simp [intOf]
                · have H : rparseR5 k l y0 y1 y2 y3 y4 = some (r1, r2, r3, r4, r5, r6, r7, r8, r9) := HA.out
                  clear HA
                  unfold rparseR5 at H
                  by_cases z2 : 0 < (wdN l 2).size
                  case neg => rw [if_neg z2] at H; cases H
                  rw [if_pos z2] at H
                  by_cases z4 : 0 < (wdN l 4).size
                  case neg => rw [if_neg z4] at H; cases H
                  rw [if_pos z4] at H
                  have hw2 := HROW.out _ HG.out.row 2 (by rw [HL.out]; decide)
                  have hz2 : (0 : Int) < ((wdN l 2).size : Int) := by omega
                  have E2 := Aside0.mk (show (((wdN l 2)[0]'z2).toNat : Int) = bt (wdN l 2) 0 from bt_at (wdN l 2) 0 z2)
                  obtain ⟨p2, hp2⟩ : ∃ p : Bool, p = (bt (wdN l 2) 0 == 42) := ⟨_, rfl⟩
                  have hw4 := HROW.out _ HG.out.row 4 (by rw [HL.out]; decide)
                  have hz4 : (0 : Int) < ((wdN l 4).size : Int) := by omega
                  have E4 := Aside0.mk (show (((wdN l 4)[0]'z4).toNat : Int) = bt (wdN l 4) 0 from bt_at (wdN l 4) 0 z4)
                  obtain ⟨p4, hp4⟩ : ∃ p : Bool, p = (bt (wdN l 4) 0 == 42) := ⟨_, rfl⟩
                  rw [← hp2, ← hp4] at H
                  have P2 := Aside0.mk hp2
                  have P4 := Aside0.mk hp4
                  have H' := Aside0.mk H
                  clear H hp2 hp4
                  have hcy0 : _ = some (Value.int .u64 y0) := blk_cell HG.out.box 0
                  have hcy1 : _ = some (Value.int .u64 y1) := blk_cell HG.out.box 1
                  have hcy2 : _ = some (Value.int .u64 y2) := blk_cell HG.out.box 2
                  have hcy3 : _ = some (Value.int .u64 y3) := blk_cell HG.out.box 3
                  have hcy4 : _ = some (Value.int .u64 y4) := blk_cell HG.out.box 4
                  go_wp2_with fail
                  have hny0 := World.new_ne wr ⟨g10, 0, none⟩ hcy0
                  have hny1 := World.new_ne wr ⟨g10, 1, none⟩ hcy1
                  have hny2 := World.new_ne wr ⟨g10, 2, none⟩ hcy2
                  have hny3 := World.new_ne wr ⟨g10, 3, none⟩ hcy3
                  have hny4 := World.new_ne wr ⟨g10, 4, none⟩ hcy4
                  have hnw2 := World.new_ne wr ⟨b, 2, none⟩ hw2
                  have hnw4 := World.new_ne wr ⟨b, 4, none⟩ hw4
                  go_region_held3 (fun w' => w'.cell? ⟨g10, 0, none⟩ = some (.int .u64 y0) ∧ w'.cell? ⟨g10, 1, none⟩ = some (.int .u64 y1) ∧ w'.cell? ⟨g10, 2, none⟩ = some (.int .u64 y2) ∧ w'.cell? ⟨g10, 3, none⟩ = some (.int .u64 y3) ∧ w'.cell? ⟨g10, 4, none⟩ = some (.int .u64 y4) ∧ w'.cell? ⟨b, 2, none⟩ = some (.string (wdN l 2)) ∧ w'.cell? ⟨b, 4, none⟩ = some (.string (wdN l 4))) (go_keep) (fail)
                  all_goals
                    rw [E2.out, E4.out, ← P2.out, ← P4.out]
                    obtain ⟨W2, hW2⟩ : ∃ W2, W2 = (wr.alloc (.cells #[.int .u64 y0, .int .u64 y1, .int .u64 y2, .int .u64 y3, .int .u64 y4, .bool p2, .bool p4, .int .i64 0] 25)).drew := ⟨_, rfl⟩
                    obtain ⟨g14, hg14⟩ : ∃ g, g = wr.heap.size := ⟨_, rfl⟩
                    have HX : Aside0 (W2.heap[g14]? = some (.cells #[.int .u64 y0, .int .u64 y1, .int .u64 y2, .int .u64 y3, .int .u64 y4, .bool p2, .bool p4, .int .i64 0] 25 (0, 0))) := ⟨by rw [hW2, hg14]; show (wr.heap.push _)[wr.heap.size]? = _; rw [Array.getElem?_push, if_pos rfl]⟩
                    have HGW := Aside0.mk (HG.out.below (W' := W2) (by rw [hW2]; exact ((Below.refl _ _).alloc (Nat.le_refl _) _).drew))
                    have HGX := Aside0.mk (show w.heap.size ≤ g14 by rw [hg14]; exact HG.out.bel.size)
                    have HN14 := Aside0.mk (show g2 ≠ g14 by have := blk_lt HG.out.k2; omega)
                    rw [← hW2, ← hg14]
                    clear hW2 hg14 HG hw2 hw4 hz2 hz4 E2 E4 P2 P4 hcy0 hny0 hcy1 hny1 hcy2 hny2 hcy3 hny3 hcy4 hny4 hnw2 hnw4
                    have H := H'.out
                    clear H'
                    obtain ⟨hcx0, hcx1, hcx2, hcx3, hcx4, hcx5, hcx6, hcx7, hfx0, hfx1, hfx2, hfx3, hfx4, hfx5, hfx6, hfx7⟩ := GB.cells8 HX.out
                    obtain ⟨hcb0, hcb1, hcb2, hcb3, hcb4, hcb5, hcb6, hcb7, hfb0, hfb1, hfb2, hfb3, hfb4, hfb5, hfb6, hfb7⟩ := GB.cells8 HGW.out.k2
                    rw [if_pos (by rw [HL.out]; decide)] at H
                    replace H := Option.bind_eq_some_iff.mp H
                    obtain ⟨⟨n, ok⟩, A2, H⟩ := H
                    have A2 := Aside0.mk A2
                    have hw5 := HROW.out W2 HGW.out.row 5 (by rw [HL.out]; decide)
                    cases ok with
                    | false =>
                      have e := Option.some.inj (show some rparseBad = some (r1, r2, r3, r4, r5, r6, r7, r8, r9) from H)
                      simp only [rparseBad, Prod.mk.injEq] at e
                      obtain ⟨rfl, rfl, rfl, rfl, rfl, rfl, rfl, rfl, rfl⟩ := e
                      clear H
                      obtain ⟨hca0, hca1, hca2, hca3, hca4, hca5, hca6, hca7, hfa0, hfa1, hfa2, hfa3, hfa4, hfa5, hfa6, hfa7⟩ := GB.cells8 HGW.out.k4
                      go_wp2_with (first | (go_at_call 26; (with_reducible refine (tompionref04_ahead.calls k (wdN l 5) n false _ A2.out).mono ?_); rintro e w' ⟨rfl, ⟨nd, rfl⟩⟩))
                      have f := set8 (blk_drewN HGW.out.k2 nd) (pw_below_drewN HGW.out.bel nd) HG2.out (.int .u64 0) (.int .u64 0) (.int .u64 0) (.int .u64 0) (.int .u64 0) (.bool false) (.bool false) (.int .i64 0)
                      exact bodyPost_ret (rparse_results g2 _ _ 0 0 0 0 0 0 false false false rfl rfl f.1) rfl ⟨rfl, f.2⟩
                    | true =>
                      have e := Option.some.inj (show some (y0, y1, y2, y3, y4, p2, p4, n, true) = some (r1, r2, r3, r4, r5, r6, r7, r8, r9) from H)
                      simp only [Prod.mk.injEq] at e
                      obtain ⟨rfl, rfl, rfl, rfl, rfl, rfl, rfl, rfl, rfl⟩ := e
                      clear H
                      go_wp2_with (first | (go_at_call 26; (with_reducible refine (tompionref04_ahead.calls k (wdN l 5) n true _ A2.out).mono ?_); rintro e w' ⟨rfl, ⟨nd, rfl⟩⟩) | ((with_reducible refine gate_store (t := 3) (p := 122) rfl ?_); refine store_event (t := 3) (p := 122) (v := ?vo_w7) (w1 := ((W2.drewN nd).setCell ⟨g14, 7, none⟩ (.int .i64 n))) ?hg ?ho ?hn ?hr ?_; (case ho => rfl); (case hg => rfl); (case hn => rfl); (case hr => first | (go_simp; done) | (go_simp; rfl)); intro w7 hw; have f : w7.heap[g14]? = some (.cells #[.int .u64 y0, .int .u64 y1, .int .u64 y2, .int .u64 y3, .int .u64 y4, .bool p2, .bool p4, .int .i64 n] 25 (0, 0)) := (by rw [hw]; exact (blk_set (blk_drewN HX.out nd) 7 (.int .i64 n)).trans rfl); have q : w7.heap[g2]? = some (.cells #[.int .u64 0, .int .u64 0, .int .u64 0, .int .u64 0, .int .u64 0, .bool false, .bool false, .int .i64 0] 25 (0, 0)) := (by rw [hw]; exact (Below.heap_setCell _ _ _ _ HN14.out).trans (blk_drewN HGW.out.k2 nd)); have HB := Aside0.mk (show Below w.heap.size w w7 by rw [hw]; exact (pw_below_drewN HGW.out.bel nd).setCell (p := ⟨g14, 7, none⟩) HGX.out _); have BK2 := Aside0.mk q; have HY := Aside0.mk f; clear hw f q HX HGW; clear hcx0 hfx0 hcx1 hfx1 hcx2 hfx2 hcx3 hfx3 hcx4 hfx4 hcx5 hfx5 hcx6 hfx6 hcx7 hfx7; clear hcb0 hfb0 hcb1 hfb1 hcb2 hfb2 hcb3 hfb3 hcb4 hfb4 hcb5 hfb5 hcb6 hfb6 hcb7 hfb7; obtain ⟨hcy0, hcy1, hcy2, hcy3, hcy4, hcy5, hcy6, hcy7, hfy0, hfy1, hfy2, hfy3, hfy4, hfy5, hfy6, hfy7⟩ := GB.cells8 HY.out; obtain ⟨hcc0, hcc1, hcc2, hcc3, hcc4, hcc5, hcc6, hcc7, hfc0, hfc1, hfc2, hfc3, hfc4, hfc5, hfc6, hfc7⟩ := GB.cells8 BK2.out))
                      have f := set8 BK2.out HB.out HG2.out (.int .u64 y0) (.int .u64 y1) (.int .u64 y2) (.int .u64 y3) (.int .u64 y4) (.bool p2) (.bool p4) (.int .i64 n)
                      exact bodyPost_ret (rparse_results g2 _ _ y0 y1 y2 y3 y4 n p2 p4 true rfl rfl f.1) rfl ⟨rfl, f.2⟩
            · rw [if_neg h6] at H
              have e' := Option.some.inj H
              simp only [rparseBad, Prod.mk.injEq] at e'
              obtain ⟨rfl, rfl, rfl, rfl, rfl, rfl, rfl, rfl, rfl⟩ := e'
              clear H
              subst e
              have c1 : ((l.length : Int) == 5) = false := beq_eq_false_iff_ne.mpr (by omega)
              have c2 : ((l.length : Int) == 6) = false := beq_eq_false_iff_ne.mpr (by omega)
              have c3 : ((l.length : Int) != 5) = true := bne_iff_ne.mpr (by omega)
              have c4 : ((l.length : Int) != 6) = true := bne_iff_ne.mpr (by omega)
              go_wp2_with fail
              have f := set8 BK2.out HB.out HG2.out (.int .u64 0) (.int .u64 0) (.int .u64 0) (.int .u64 0) (.int .u64 0) (.bool false) (.bool false) (.int .i64 0)
              exact bodyPost_ret (rparse_results g2 _ _ 0 0 0 0 0 0 false false false rfl rfl f.1) rfl ⟨rfl, f.2⟩

/-! ### tompionlaw04_CronParses: function 3 -/
def tompionlaw04_CronParses.j0 : Nat → ByteArray → Bool → Option (Bool)
  | 0, _, _ => none
  | k + 1, x0, x13 => if x13 = true then ((tompionlaw04_awake.f).bind fun t222 => (some t222)) else ((cron_Parse.f k x0).bind fun bt223 => ((tompionref04_Parse.f k x0).bind fun bt233 => (if (bt223.1 == bt233.1 && (bt223.2.1 == bt233.2.1 && (bt223.2.2.1 == bt233.2.2.1 && (bt223.2.2.2.1 == bt233.2.2.2.1 && (bt223.2.2.2.2.1 == bt233.2.2.2.2.1 && (bt223.2.2.2.2.2.1 == bt233.2.2.2.2.2.1 && (bt223.2.2.2.2.2.2.1 == bt233.2.2.2.2.2.2.1 && (bt223.2.2.2.2.2.2.2.1 == bt233.2.2.2.2.2.2.2.1)))))))) = true then (if ((bt223.2.2.2.2.2.2.2.2 == 0) == bt233.2.2.2.2.2.2.2.2) = true then (if bt233.2.2.2.2.2.2.2.2 = true then (some true) else (some (bt223.2.2.2.2.2.2.2.2 == 7))) else (some false)) else (some false))))
def tompionlaw04_CronParses.f (k : Nat) (a0 : ByteArray) : Option (Bool) := (tompionlaw04_awake.f).bind fun t221 => (if t221 = true then (tompionlaw04_CronParses.j0 k a0 (decide ((a0.size : Int) > 400))) else (tompionlaw04_CronParses.j0 k a0 true))
theorem tompionlaw04_CronParses.mono_l : ∀ k, (∀ y0 y1, LeO (tompionlaw04_CronParses.j0 k y0 y1) (tompionlaw04_CronParses.j0 (k + 1) y0 y1))
  | 0 => fun _ _ r h => by simp [tompionlaw04_CronParses.j0] at h
  | k + 1 => by
    have ih0 := tompionlaw04_CronParses.mono_l k
    · intro y0 y1
      unfold tompionlaw04_CronParses.j0
      repeat' first
      | (with_reducible exact ih0 _ _)
      | (with_reducible exact cron_Parse.mono _ _)
      | (with_reducible exact tompionref04_Parse.mono _ _)
      | (with_reducible exact LeO.refl _)
      | (with_reducible exact LeO.none _)
      | (with_reducible refine LeO.ite ?_ ?_)
      | (with_reducible refine LeO.bind ?_ (fun _ => ?_))
      | exact ih0 _ _
      | exact cron_Parse.mono _ _
      | exact tompionref04_Parse.mono _ _
      | exact LeO.none _
      | refine LeO.ite ?_ ?_
      | refine LeO.bind ?_ (fun _ => ?_)
theorem tompionlaw04_CronParses.mono : ∀ a0 k, LeO (tompionlaw04_CronParses.f k a0) (tompionlaw04_CronParses.f (k + 1) a0) := by
  intro a0 k
  have ih0 := tompionlaw04_CronParses.mono_l k
  unfold tompionlaw04_CronParses.f
  repeat' first
      | (with_reducible exact ih0 _ _)
      | (with_reducible exact cron_Parse.mono _ _)
      | (with_reducible exact tompionref04_Parse.mono _ _)
      | (with_reducible exact LeO.refl _)
      | (with_reducible exact LeO.none _)
      | (with_reducible refine LeO.ite ?_ ?_)
      | (with_reducible refine LeO.bind ?_ (fun _ => ?_))
      | exact ih0 _ _
      | exact cron_Parse.mono _ _
      | exact tompionref04_Parse.mono _ _
      | exact LeO.none _
      | refine LeO.ite ?_ ?_
      | refine LeO.bind ?_ (fun _ => ?_)
set_option maxHeartbeats 8000000 in
set_option maxRecDepth 100000 in
theorem tompionlaw04_CronParses.calls (k : Nat) (a0 : ByteArray) (r : Bool) (w : World) (h : tompionlaw04_CronParses.f k a0 = some r) :
    Calls Tryd.prog 3 #[.string a0] w fun e w' => e = .returned (.bool r) ∧ Below w.heap.size w w' := by
  have hu25 := Tryd.underlying25
  have HB := Aside0.mk (Below.refl w.heap.size w)
  have H : ((tompionlaw04_awake.f).bind fun t221 => (if t221 = true then (tompionlaw04_CronParses.j0 k a0 (decide ((a0.size : Int) > 400))) else (tompionlaw04_CronParses.j0 k a0 true))) = some r := h
  clear h
  have HC2 := Aside0.mk H
  clear H
  go_enter Tryd.func3, Tryd.ntmps3
  go_upto_region 1 with (fail)
  go_cut [13] (fun v13 wc => ∃ (kq : Nat) (x13_1 : Bool), v13 = .bool x13_1 ∧ Aside0 (tompionlaw04_CronParses.j0 kq a0 x13_1 = some r) ∧ Aside0 (kq ≤ k) ∧ Aside0 (Below w.heap.size w wc))
  case first =>
    have H := HC2.out
    clear HC2
    replace H := Option.bind_eq_some_iff.mp H
    obtain ⟨t221, A30, H⟩ := H
    replace H : (if t221 = true then (tompionlaw04_CronParses.j0 k a0 (decide ((a0.size : Int) > 400))) else (tompionlaw04_CronParses.j0 k a0 true)) = some r := H
    have A3 := Aside0.mk A30
    clear A30
    by_cases c4 : t221 = true
    · subst c4
      have H1 : (tompionlaw04_CronParses.j0 k a0 (decide ((a0.size : Int) > 400))) = some r := by rw [if_pos rfl] at H; exact H
      clear H
      have H := H1
      clear H1
      have H' := Aside0.mk H
      clear H
      go_wp2_with (first | ((with_reducible refine gate_callee (f := 10) rfl ?_); refine goesL_ (some 7) rfl rfl Tryd.func10 (by kernel_rfl) rfl #[] rfl (by (try simp only [List.map_toArray, List.map_cons, List.map_nil]); first | done | rfl | (simp only [List.length_drop, List.length_take]; rfl)) ?_; (with_reducible refine (tompionlaw04_awake.calls  true _ A3.out).mono ?_); rintro e w5 ⟨rfl, hb⟩; refine ⟨_, rfl, ?_⟩; have n0_ := Aside0.mk (below_step (by repeat (first | (with_reducible first | exact HB.out | apply below_alloc | apply pw_below_drewN | apply below_drew1) | exact HB.out)) hb); clear HB; have HB := n0_; clear n0_; (try clear hb); (try clear hb2); (try clear hk); (try clear hi)))
      go_meet
      case rel => exact ⟨_, (decide ((a0.size : Int) > 400)), (by first | rfl | (simp; done) | (simp [*]; done)), H', ⟨by first | omega | exact Nat.le_refl _⟩, ⟨by repeat (first | (with_reducible first | exact HB.out | apply below_alloc | apply pw_below_drewN | apply below_drew1) | exact HB.out)⟩⟩
    · replace c4 := Bool.eq_false_iff.mpr c4
      subst c4
      have H1 : (tompionlaw04_CronParses.j0 k a0 true) = some r := by rw [if_neg (show ¬ (false = true) by decide)] at H; exact H
      clear H
      have H := H1
      clear H1
      have H' := Aside0.mk H
      clear H
      go_wp2_with (first | ((with_reducible refine gate_callee (f := 10) rfl ?_); refine goesL_ (some 7) rfl rfl Tryd.func10 (by kernel_rfl) rfl #[] rfl (by (try simp only [List.map_toArray, List.map_cons, List.map_nil]); first | done | rfl | (simp only [List.length_drop, List.length_take]; rfl)) ?_; (with_reducible refine (tompionlaw04_awake.calls  false _ A3.out).mono ?_); rintro e w6 ⟨rfl, hb⟩; refine ⟨_, rfl, ?_⟩; have n0_ := Aside0.mk (below_step (by repeat (first | (with_reducible first | exact HB.out | apply below_alloc | apply pw_below_drewN | apply below_drew1) | exact HB.out)) hb); clear HB; have HB := n0_; clear n0_; (try clear hb); (try clear hb2); (try clear hk); (try clear hi)))
      go_meet
      case rel => exact ⟨_, (true), (by first | rfl | (simp; done) | (simp [*]; done)), H', ⟨by first | omega | exact Nat.le_refl _⟩, ⟨by repeat (first | (with_reducible first | exact HB.out | apply below_alloc | apply pw_below_drewN | apply below_drew1) | exact HB.out)⟩⟩
  case rest =>
    clear HC2
    try clear c1
    try clear p2
    try clear c3
    try clear c4
    obtain ⟨kq, x13_1, rfl, HA, HJ1, HB⟩ := hcut
    cases kq with
    | zero => exact absurd HA.out (by simp [tompionlaw04_CronParses.j0])
    | succ kj1 =>
      have H := HA.out
      clear HA
      simp only [tompionlaw04_CronParses.j0] at H
      by_cases c7 : x13_1 = true
      · subst c7
        have H1 : ((tompionlaw04_awake.f).bind fun t222 => (some t222)) = some r := by rw [if_pos rfl] at H; exact H
        clear H
        have H := H1
        clear H1
        replace H := Option.bind_eq_some_iff.mp H
        obtain ⟨t222, A80, H⟩ := H
        replace H : (some t222) = some r := H
        have A8 := Aside0.mk A80
        clear A80
        obtain rfl := Option.some.inj H
        go_wp2_with (first | ((with_reducible refine gate_callee (f := 10) rfl ?_); refine goesL_ (some 14) rfl rfl Tryd.func10 (by kernel_rfl) rfl #[] rfl (by (try simp only [List.map_toArray, List.map_cons, List.map_nil]); first | done | rfl | (simp only [List.length_drop, List.length_take]; rfl)) ?_; (with_reducible refine (tompionlaw04_awake.calls  t222 _ A8.out).mono ?_); rintro e w9 ⟨rfl, hb⟩; refine ⟨_, rfl, ?_⟩; have n0_ := Aside0.mk (below_step (by repeat (first | (with_reducible first | exact HB.out | apply below_alloc | apply pw_below_drewN | apply below_drew1) | exact HB.out)) hb); clear HB; have HB := n0_; clear n0_; (try clear hb); (try clear hb2); (try clear hk); (try clear hi)))
        go_ret
        exact ⟨by first | rfl | (simp [errW_none, errW_some] <;> rfl) | (simp [*, errW_none, errW_some] <;> rfl), by repeat (first | (with_reducible first | exact HB.out | apply below_alloc | apply pw_below_drewN | apply below_drew1) | exact HB.out)⟩
      · replace c7 := Bool.eq_false_iff.mpr c7
        subst c7
        have H1 : ((cron_Parse.f kj1 a0).bind fun bt223 => ((tompionref04_Parse.f kj1 a0).bind fun bt233 => (if (bt223.1 == bt233.1 && (bt223.2.1 == bt233.2.1 && (bt223.2.2.1 == bt233.2.2.1 && (bt223.2.2.2.1 == bt233.2.2.2.1 && (bt223.2.2.2.2.1 == bt233.2.2.2.2.1 && (bt223.2.2.2.2.2.1 == bt233.2.2.2.2.2.1 && (bt223.2.2.2.2.2.2.1 == bt233.2.2.2.2.2.2.1 && (bt223.2.2.2.2.2.2.2.1 == bt233.2.2.2.2.2.2.2.1)))))))) = true then (if ((bt223.2.2.2.2.2.2.2.2 == 0) == bt233.2.2.2.2.2.2.2.2) = true then (if bt233.2.2.2.2.2.2.2.2 = true then (some true) else (some (bt223.2.2.2.2.2.2.2.2 == 7))) else (some false)) else (some false)))) = some r := by rw [if_neg (show ¬ (false = true) by decide)] at H; exact H
        clear H
        have H := H1
        clear H1
        replace H := Option.bind_eq_some_iff.mp H
        obtain ⟨⟨t223, t224, t225, t226, t227, t228, t229, t230, t231⟩, A100, H⟩ := H
        replace H : ((tompionref04_Parse.f kj1 a0).bind fun bt233 => (if (t223 == bt233.1 && (t224 == bt233.2.1 && (t225 == bt233.2.2.1 && (t226 == bt233.2.2.2.1 && (t227 == bt233.2.2.2.2.1 && (t228 == bt233.2.2.2.2.2.1 && (t229 == bt233.2.2.2.2.2.2.1 && (t230 == bt233.2.2.2.2.2.2.2.1)))))))) = true then (if ((t231 == 0) == bt233.2.2.2.2.2.2.2.2) = true then (if bt233.2.2.2.2.2.2.2.2 = true then (some true) else (some (t231 == 7))) else (some false)) else (some false))) = some r := H
        have A10 := Aside0.mk A100
        clear A100
        replace H := Option.bind_eq_some_iff.mp H
        obtain ⟨⟨t233, t234, t235, t236, t237, t238, t239, t240, t241⟩, A110, H⟩ := H
        replace H : (if (t223 == t233 && (t224 == t234 && (t225 == t235 && (t226 == t236 && (t227 == t237 && (t228 == t238 && (t229 == t239 && (t230 == t240)))))))) = true then (if ((t231 == 0) == t241) = true then (if t241 = true then (some true) else (some (t231 == 7))) else (some false)) else (some false)) = some r := H
        have A11 := Aside0.mk A110
        clear A110
        by_cases c12 : (t223 == t233 && (t224 == t234 && (t225 == t235 && (t226 == t236 && (t227 == t237 && (t228 == t238 && (t229 == t239 && (t230 == t240)))))))) = true
        · rw [if_pos c12] at H
          have c12b0 : (t223 == t233 && (t224 == t234 && (t225 == t235 && (t226 == t236 && (t227 == t237 && (t228 == t238 && (t229 == t239 && (t230 == t240)))))))) = true := c12
          have c12b9 : (t223 = t233 ∧ t224 = t234 ∧ t225 = t235 ∧ t226 = t236 ∧ t227 = t237 ∧ t228 = t238 ∧ t229 = t239 ∧ t230 = t240) = True := eq_true (by have h_ := c12b0; simp only [Bool.and_eq_true, beq_iff_eq] at h_; exact h_)
          have c12b10 : (¬t223 = t233 ∨ ¬t224 = t234 ∨ ¬t225 = t235 ∨ ¬t226 = t236 ∨ ¬t227 = t237 ∨ ¬t228 = t238 ∨ ¬t229 = t239 ∨ ¬t230 = t240) = False := eq_false (by have h_ := c12b0; simp only [Bool.and_eq_true, beq_iff_eq] at h_; simp [h_])
          (try (have c12b1 : decide (t223 = t233 && (t224 == t234 && (t225 == t235 && (t226 == t236 && (t227 == t237 && (t228 == t238 && (t229 == t239 && (t230 == t240)))))))) = true := by simpa using c12))
          (try (have c12b2 : (t223 == t233 && (t224 == t234 && (t225 == t235 && (t226 == t236 && (t227 == t237 && (t228 == t238 && (t229 == t239 && (t230 == t240)))))))) = true := by simpa using c12))
          clear c12
          by_cases c13 : ((t231 == 0) == t241) = true
          · rw [if_pos c13] at H
            have c13b0 : ((t231 == 0) == t241) = true := c13
            (try (have c13b1 : decide ((t231 == 0) = t241) = true := by simpa using c13))
            (try (have c13b2 : ((t231 == 0) == t241) = true := by simpa using c13))
            clear c13
            by_cases c14 : t241 = true
            · subst c14
              have H1 : (some true) = some r := by rw [if_pos rfl] at H; exact H
              clear H
              have H := H1
              clear H1
              obtain rfl := Option.some.inj H
              go_wp2_with (first | ((with_reducible refine gate_callee (f := 11) rfl ?_); refine goesL_ (some 17) rfl rfl Tryd.func11 (by kernel_rfl) rfl #[.string a0] rfl (by (try simp only [List.map_toArray, List.map_cons, List.map_nil]); first | done | rfl | (simp only [List.length_drop, List.length_take]; rfl)) ?_; (with_reducible refine (cron_Parse.calls kj1 a0 t223 t224 t225 t226 t227 t228 t229 t230 t231 _ A10.out).mono ?_); rintro e w15 ⟨rfl, hb⟩; refine ⟨_, rfl, ?_⟩; have n0_ := Aside0.mk (below_step (by repeat (first | (with_reducible first | exact HB.out | apply below_alloc | apply pw_below_drewN | apply below_drew1) | exact HB.out)) hb); clear HB; have HB := n0_; clear n0_; (try clear hb); (try clear hb2); (try clear hk); (try clear hi)) | ((with_reducible refine gate_dst (N := 3) rfl ?_); (try (refine gate_guard (by rfl) ?_; dsimp only)); refine box_event ?hg (N := 3) ?hd (cs := #[.int .u64 0, .int .u64 0, .int .u64 0, .int .u64 0, .int .u64 0, .bool false, .bool false, .int .i64 0]) (t := 25) ?hr ?_; (case hd => rfl); (case hg => rfl); (case hr => first | (go_simp; done) | (go_simp; rfl)); intro gb232 hg w16 hbox hb; have n0_ := Aside0.mk (below_step (by repeat (first | (with_reducible first | exact HB.out | apply below_alloc | apply pw_below_drewN | apply below_drew1) | exact HB.out)) hb); have n1_ := Aside0.mk (hbox); have n2_ := Aside0.mk ((by rw [hg]; exact (below_size (by repeat (first | (with_reducible first | exact HB.out | apply below_alloc | apply pw_below_drewN | apply below_drew1) | exact HB.out))) : w.heap.size ≤ gb232)); have n3_ := Aside0.mk ((by rw [hg]; exact (below_size (by repeat (first | (with_reducible first | exact HB.out | apply below_alloc | apply pw_below_drewN | apply below_drew1) | exact HB.out))) : w.heap.size ≤ gb232)); clear HB; have HB := n0_; have BK232 := n1_; have GW232 := n2_; have GE232 := n3_; clear n0_ n1_ n2_ n3_; clear hb hbox hg; obtain ⟨hcz17_0, hcz17_1, hcz17_2, hcz17_3, hcz17_4, hcz17_5, hcz17_6, hcz17_7, hfz17_0, hfz17_1, hfz17_2, hfz17_3, hfz17_4, hfz17_5, hfz17_6, hfz17_7⟩ := GB.cells8 BK232.out) | ((with_reducible refine gate_callee (f := 12) rfl ?_); refine goesL_ (some 22) rfl rfl Tryd.func12 (by kernel_rfl) rfl #[.string a0] rfl (by (try simp only [List.map_toArray, List.map_cons, List.map_nil]); first | done | rfl | (simp only [List.length_drop, List.length_take]; rfl)) ?_; (with_reducible refine (tompionref04_Parse.calls kj1 a0 t233 t234 t235 t236 t237 t238 t239 t240 true _ A11.out).mono ?_); rintro e w18 ⟨rfl, hb⟩; refine ⟨_, rfl, ?_⟩; have n0_ := Aside0.mk (blk_below (g := gb232) (o := .cells #[.int .u64 t223, .int .u64 t224, .int .u64 t225, .int .u64 t226, .int .u64 t227, .bool t228, .bool t229, .int .i64 t230] 25 (0, 0)) (by (with_reducible repeat (first | refine blk_drewN ?_ _ | refine blk_drew ?_ | refine blk_alloc ?_ _)); refine blk_put (cs := #[.int .u64 t223, .int .u64 t224, .int .u64 t225, .int .u64 t226, .int .u64 t227, .bool t228, .bool t229, .int .i64 0]) ?_ 7 _ rfl; (with_reducible repeat (first | refine blk_drewN ?_ _ | refine blk_drew ?_ | refine blk_alloc ?_ _)); refine blk_put (cs := #[.int .u64 t223, .int .u64 t224, .int .u64 t225, .int .u64 t226, .int .u64 t227, .bool t228, .bool false, .int .i64 0]) ?_ 6 _ rfl; (with_reducible repeat (first | refine blk_drewN ?_ _ | refine blk_drew ?_ | refine blk_alloc ?_ _)); refine blk_put (cs := #[.int .u64 t223, .int .u64 t224, .int .u64 t225, .int .u64 t226, .int .u64 t227, .bool false, .bool false, .int .i64 0]) ?_ 5 _ rfl; (with_reducible repeat (first | refine blk_drewN ?_ _ | refine blk_drew ?_ | refine blk_alloc ?_ _)); refine blk_put (cs := #[.int .u64 t223, .int .u64 t224, .int .u64 t225, .int .u64 t226, .int .u64 0, .bool false, .bool false, .int .i64 0]) ?_ 4 _ rfl; (with_reducible repeat (first | refine blk_drewN ?_ _ | refine blk_drew ?_ | refine blk_alloc ?_ _)); refine blk_put (cs := #[.int .u64 t223, .int .u64 t224, .int .u64 t225, .int .u64 0, .int .u64 0, .bool false, .bool false, .int .i64 0]) ?_ 3 _ rfl; (with_reducible repeat (first | refine blk_drewN ?_ _ | refine blk_drew ?_ | refine blk_alloc ?_ _)); refine blk_put (cs := #[.int .u64 t223, .int .u64 t224, .int .u64 0, .int .u64 0, .int .u64 0, .bool false, .bool false, .int .i64 0]) ?_ 2 _ rfl; (with_reducible repeat (first | refine blk_drewN ?_ _ | refine blk_drew ?_ | refine blk_alloc ?_ _)); refine blk_put (cs := #[.int .u64 t223, .int .u64 0, .int .u64 0, .int .u64 0, .int .u64 0, .bool false, .bool false, .int .i64 0]) ?_ 1 _ rfl; (with_reducible repeat (first | refine blk_drewN ?_ _ | refine blk_drew ?_ | refine blk_alloc ?_ _)); refine blk_put (cs := #[.int .u64 0, .int .u64 0, .int .u64 0, .int .u64 0, .int .u64 0, .bool false, .bool false, .int .i64 0]) ?_ 0 _ rfl; (with_reducible repeat (first | refine blk_drewN ?_ _ | refine blk_drew ?_ | refine blk_alloc ?_ _)); exact BK232.out) hb); have n1_ := Aside0.mk (below_step (by repeat (first | (with_reducible first | exact HB.out | apply below_alloc | apply pw_below_drewN | apply below_drew1 | refine below_set ?_ GE232.out) | exact HB.out)) hb); clear BK232; clear HB; have BK232 := n0_; have HB := n1_; clear n0_ n1_; (try clear hb); (try clear hb2); (try clear hk); (try clear hi)) | ((with_reducible refine gate_dst (N := 5) rfl ?_); (try (refine gate_guard (by rfl) ?_; dsimp only)); refine box_event ?hg (N := 5) ?hd (cs := #[.int .u64 0, .int .u64 0, .int .u64 0, .int .u64 0, .int .u64 0, .bool false, .bool false, .int .i64 0]) (t := 25) ?hr ?_; (case hd => rfl); (case hg => rfl); (case hr => first | (go_simp; done) | (go_simp; rfl)); intro gb242 hg w19 hbox hb; have n0_ := Aside0.mk (blk_below (g := gb232) (o := .cells #[.int .u64 t223, .int .u64 t224, .int .u64 t225, .int .u64 t226, .int .u64 t227, .bool t228, .bool t229, .int .i64 t230] 25 (0, 0)) (by (with_reducible repeat (first | refine blk_drewN ?_ _ | refine blk_drew ?_ | refine blk_alloc ?_ _)); exact BK232.out) hb); have n1_ := Aside0.mk (below_step (by repeat (first | (with_reducible first | exact HB.out | apply below_alloc | apply pw_below_drewN | apply below_drew1 | refine below_set ?_ GE232.out) | exact HB.out)) hb); have n2_ := Aside0.mk (hbox); have n3_ := Aside0.mk ((by rw [hg]; exact (below_size (by repeat (first | (with_reducible first | exact HB.out | apply below_alloc | apply pw_below_drewN | apply below_drew1 | refine below_set ?_ GE232.out) | exact HB.out))) : w.heap.size ≤ gb242)); have n4_ := Aside0.mk ((by rw [hg]; exact (below_size (by repeat (first | (with_reducible first | exact HB.out | apply below_alloc | apply pw_below_drewN | apply below_drew1 | refine below_set ?_ GE232.out) | exact HB.out))) : w.heap.size ≤ gb242)); have n5_ := Aside0.mk ((by rw [hg]; exact Nat.ne_of_lt (blk_lt (g := gb232) (o := .cells #[.int .u64 t223, .int .u64 t224, .int .u64 t225, .int .u64 t226, .int .u64 t227, .bool t228, .bool t229, .int .i64 t230] 25 (0, 0)) (by (with_reducible repeat (first | refine blk_drewN ?_ _ | refine blk_drew ?_ | refine blk_alloc ?_ _)); exact BK232.out)) : gb232 ≠ gb242)); have n6_ := Aside0.mk ((by rw [hg]; exact Nat.ne_of_gt (blk_lt (g := gb232) (o := .cells #[.int .u64 t223, .int .u64 t224, .int .u64 t225, .int .u64 t226, .int .u64 t227, .bool t228, .bool t229, .int .i64 t230] 25 (0, 0)) (by (with_reducible repeat (first | refine blk_drewN ?_ _ | refine blk_drew ?_ | refine blk_alloc ?_ _)); exact BK232.out)) : gb242 ≠ gb232)); clear BK232; clear HB; have BK232 := n0_; have HB := n1_; have BK242 := n2_; have GW242 := n3_; have GE242 := n4_; have NB232_242 := n5_; have NB242_232 := n6_; clear n0_ n1_ n2_ n3_ n4_ n5_ n6_; clear hb hbox hg; have hnb20 := NB242_232.out; have hnc20 := NB232_242.out; obtain ⟨hcz21_0, hcz21_1, hcz21_2, hcz21_3, hcz21_4, hcz21_5, hcz21_6, hcz21_7, hfz21_0, hfz21_1, hfz21_2, hfz21_3, hfz21_4, hfz21_5, hfz21_6, hfz21_7⟩ := GB.cells8 BK242.out; obtain ⟨hcz22_0, hcz22_1, hcz22_2, hcz22_3, hcz22_4, hcz22_5, hcz22_6, hcz22_7, hfz22_0, hfz22_1, hfz22_2, hfz22_3, hfz22_4, hfz22_5, hfz22_6, hfz22_7⟩ := GB.cells8 BK232.out))
              go_ret
              exact ⟨by first | rfl | (simp [errW_none, errW_some] <;> rfl) | (simp [*, errW_none, errW_some] <;> rfl), by repeat (first | (with_reducible first | exact HB.out | apply below_alloc | apply pw_below_drewN | apply below_drew1 | refine below_set ?_ GE232.out | refine below_set ?_ GE242.out) | exact HB.out)⟩
            · replace c14 := Bool.eq_false_iff.mpr c14
              subst c14
              have H1 : (some (t231 == 7)) = some r := by rw [if_neg (show ¬ (false = true) by decide)] at H; exact H
              clear H
              have H := H1
              clear H1
              obtain rfl := Option.some.inj H
              go_wp2_with (first | ((with_reducible refine gate_callee (f := 11) rfl ?_); refine goesL_ (some 17) rfl rfl Tryd.func11 (by kernel_rfl) rfl #[.string a0] rfl (by (try simp only [List.map_toArray, List.map_cons, List.map_nil]); first | done | rfl | (simp only [List.length_drop, List.length_take]; rfl)) ?_; (with_reducible refine (cron_Parse.calls kj1 a0 t223 t224 t225 t226 t227 t228 t229 t230 t231 _ A10.out).mono ?_); rintro e w23 ⟨rfl, hb⟩; refine ⟨_, rfl, ?_⟩; have n0_ := Aside0.mk (below_step (by repeat (first | (with_reducible first | exact HB.out | apply below_alloc | apply pw_below_drewN | apply below_drew1) | exact HB.out)) hb); clear HB; have HB := n0_; clear n0_; (try clear hb); (try clear hb2); (try clear hk); (try clear hi)) | ((with_reducible refine gate_dst (N := 3) rfl ?_); (try (refine gate_guard (by rfl) ?_; dsimp only)); refine box_event ?hg (N := 3) ?hd (cs := #[.int .u64 0, .int .u64 0, .int .u64 0, .int .u64 0, .int .u64 0, .bool false, .bool false, .int .i64 0]) (t := 25) ?hr ?_; (case hd => rfl); (case hg => rfl); (case hr => first | (go_simp; done) | (go_simp; rfl)); intro gb232 hg w24 hbox hb; have n0_ := Aside0.mk (below_step (by repeat (first | (with_reducible first | exact HB.out | apply below_alloc | apply pw_below_drewN | apply below_drew1) | exact HB.out)) hb); have n1_ := Aside0.mk (hbox); have n2_ := Aside0.mk ((by rw [hg]; exact (below_size (by repeat (first | (with_reducible first | exact HB.out | apply below_alloc | apply pw_below_drewN | apply below_drew1) | exact HB.out))) : w.heap.size ≤ gb232)); have n3_ := Aside0.mk ((by rw [hg]; exact (below_size (by repeat (first | (with_reducible first | exact HB.out | apply below_alloc | apply pw_below_drewN | apply below_drew1) | exact HB.out))) : w.heap.size ≤ gb232)); clear HB; have HB := n0_; have BK232 := n1_; have GW232 := n2_; have GE232 := n3_; clear n0_ n1_ n2_ n3_; clear hb hbox hg; obtain ⟨hcz25_0, hcz25_1, hcz25_2, hcz25_3, hcz25_4, hcz25_5, hcz25_6, hcz25_7, hfz25_0, hfz25_1, hfz25_2, hfz25_3, hfz25_4, hfz25_5, hfz25_6, hfz25_7⟩ := GB.cells8 BK232.out) | ((with_reducible refine gate_callee (f := 12) rfl ?_); refine goesL_ (some 22) rfl rfl Tryd.func12 (by kernel_rfl) rfl #[.string a0] rfl (by (try simp only [List.map_toArray, List.map_cons, List.map_nil]); first | done | rfl | (simp only [List.length_drop, List.length_take]; rfl)) ?_; (with_reducible refine (tompionref04_Parse.calls kj1 a0 t233 t234 t235 t236 t237 t238 t239 t240 false _ A11.out).mono ?_); rintro e w26 ⟨rfl, hb⟩; refine ⟨_, rfl, ?_⟩; have n0_ := Aside0.mk (blk_below (g := gb232) (o := .cells #[.int .u64 t223, .int .u64 t224, .int .u64 t225, .int .u64 t226, .int .u64 t227, .bool t228, .bool t229, .int .i64 t230] 25 (0, 0)) (by (with_reducible repeat (first | refine blk_drewN ?_ _ | refine blk_drew ?_ | refine blk_alloc ?_ _)); refine blk_put (cs := #[.int .u64 t223, .int .u64 t224, .int .u64 t225, .int .u64 t226, .int .u64 t227, .bool t228, .bool t229, .int .i64 0]) ?_ 7 _ rfl; (with_reducible repeat (first | refine blk_drewN ?_ _ | refine blk_drew ?_ | refine blk_alloc ?_ _)); refine blk_put (cs := #[.int .u64 t223, .int .u64 t224, .int .u64 t225, .int .u64 t226, .int .u64 t227, .bool t228, .bool false, .int .i64 0]) ?_ 6 _ rfl; (with_reducible repeat (first | refine blk_drewN ?_ _ | refine blk_drew ?_ | refine blk_alloc ?_ _)); refine blk_put (cs := #[.int .u64 t223, .int .u64 t224, .int .u64 t225, .int .u64 t226, .int .u64 t227, .bool false, .bool false, .int .i64 0]) ?_ 5 _ rfl; (with_reducible repeat (first | refine blk_drewN ?_ _ | refine blk_drew ?_ | refine blk_alloc ?_ _)); refine blk_put (cs := #[.int .u64 t223, .int .u64 t224, .int .u64 t225, .int .u64 t226, .int .u64 0, .bool false, .bool false, .int .i64 0]) ?_ 4 _ rfl; (with_reducible repeat (first | refine blk_drewN ?_ _ | refine blk_drew ?_ | refine blk_alloc ?_ _)); refine blk_put (cs := #[.int .u64 t223, .int .u64 t224, .int .u64 t225, .int .u64 0, .int .u64 0, .bool false, .bool false, .int .i64 0]) ?_ 3 _ rfl; (with_reducible repeat (first | refine blk_drewN ?_ _ | refine blk_drew ?_ | refine blk_alloc ?_ _)); refine blk_put (cs := #[.int .u64 t223, .int .u64 t224, .int .u64 0, .int .u64 0, .int .u64 0, .bool false, .bool false, .int .i64 0]) ?_ 2 _ rfl; (with_reducible repeat (first | refine blk_drewN ?_ _ | refine blk_drew ?_ | refine blk_alloc ?_ _)); refine blk_put (cs := #[.int .u64 t223, .int .u64 0, .int .u64 0, .int .u64 0, .int .u64 0, .bool false, .bool false, .int .i64 0]) ?_ 1 _ rfl; (with_reducible repeat (first | refine blk_drewN ?_ _ | refine blk_drew ?_ | refine blk_alloc ?_ _)); refine blk_put (cs := #[.int .u64 0, .int .u64 0, .int .u64 0, .int .u64 0, .int .u64 0, .bool false, .bool false, .int .i64 0]) ?_ 0 _ rfl; (with_reducible repeat (first | refine blk_drewN ?_ _ | refine blk_drew ?_ | refine blk_alloc ?_ _)); exact BK232.out) hb); have n1_ := Aside0.mk (below_step (by repeat (first | (with_reducible first | exact HB.out | apply below_alloc | apply pw_below_drewN | apply below_drew1 | refine below_set ?_ GE232.out) | exact HB.out)) hb); clear BK232; clear HB; have BK232 := n0_; have HB := n1_; clear n0_ n1_; (try clear hb); (try clear hb2); (try clear hk); (try clear hi)) | ((with_reducible refine gate_dst (N := 5) rfl ?_); (try (refine gate_guard (by rfl) ?_; dsimp only)); refine box_event ?hg (N := 5) ?hd (cs := #[.int .u64 0, .int .u64 0, .int .u64 0, .int .u64 0, .int .u64 0, .bool false, .bool false, .int .i64 0]) (t := 25) ?hr ?_; (case hd => rfl); (case hg => rfl); (case hr => first | (go_simp; done) | (go_simp; rfl)); intro gb242 hg w27 hbox hb; have n0_ := Aside0.mk (blk_below (g := gb232) (o := .cells #[.int .u64 t223, .int .u64 t224, .int .u64 t225, .int .u64 t226, .int .u64 t227, .bool t228, .bool t229, .int .i64 t230] 25 (0, 0)) (by (with_reducible repeat (first | refine blk_drewN ?_ _ | refine blk_drew ?_ | refine blk_alloc ?_ _)); exact BK232.out) hb); have n1_ := Aside0.mk (below_step (by repeat (first | (with_reducible first | exact HB.out | apply below_alloc | apply pw_below_drewN | apply below_drew1 | refine below_set ?_ GE232.out) | exact HB.out)) hb); have n2_ := Aside0.mk (hbox); have n3_ := Aside0.mk ((by rw [hg]; exact (below_size (by repeat (first | (with_reducible first | exact HB.out | apply below_alloc | apply pw_below_drewN | apply below_drew1 | refine below_set ?_ GE232.out) | exact HB.out))) : w.heap.size ≤ gb242)); have n4_ := Aside0.mk ((by rw [hg]; exact (below_size (by repeat (first | (with_reducible first | exact HB.out | apply below_alloc | apply pw_below_drewN | apply below_drew1 | refine below_set ?_ GE232.out) | exact HB.out))) : w.heap.size ≤ gb242)); have n5_ := Aside0.mk ((by rw [hg]; exact Nat.ne_of_lt (blk_lt (g := gb232) (o := .cells #[.int .u64 t223, .int .u64 t224, .int .u64 t225, .int .u64 t226, .int .u64 t227, .bool t228, .bool t229, .int .i64 t230] 25 (0, 0)) (by (with_reducible repeat (first | refine blk_drewN ?_ _ | refine blk_drew ?_ | refine blk_alloc ?_ _)); exact BK232.out)) : gb232 ≠ gb242)); have n6_ := Aside0.mk ((by rw [hg]; exact Nat.ne_of_gt (blk_lt (g := gb232) (o := .cells #[.int .u64 t223, .int .u64 t224, .int .u64 t225, .int .u64 t226, .int .u64 t227, .bool t228, .bool t229, .int .i64 t230] 25 (0, 0)) (by (with_reducible repeat (first | refine blk_drewN ?_ _ | refine blk_drew ?_ | refine blk_alloc ?_ _)); exact BK232.out)) : gb242 ≠ gb232)); clear BK232; clear HB; have BK232 := n0_; have HB := n1_; have BK242 := n2_; have GW242 := n3_; have GE242 := n4_; have NB232_242 := n5_; have NB242_232 := n6_; clear n0_ n1_ n2_ n3_ n4_ n5_ n6_; clear hb hbox hg; have hnb28 := NB242_232.out; have hnc28 := NB232_242.out; obtain ⟨hcz29_0, hcz29_1, hcz29_2, hcz29_3, hcz29_4, hcz29_5, hcz29_6, hcz29_7, hfz29_0, hfz29_1, hfz29_2, hfz29_3, hfz29_4, hfz29_5, hfz29_6, hfz29_7⟩ := GB.cells8 BK242.out; obtain ⟨hcz30_0, hcz30_1, hcz30_2, hcz30_3, hcz30_4, hcz30_5, hcz30_6, hcz30_7, hfz30_0, hfz30_1, hfz30_2, hfz30_3, hfz30_4, hfz30_5, hfz30_6, hfz30_7⟩ := GB.cells8 BK232.out))
              go_ret
              exact ⟨by first | rfl | (simp [errW_none, errW_some] <;> rfl) | (simp [*, errW_none, errW_some] <;> rfl), by repeat (first | (with_reducible first | exact HB.out | apply below_alloc | apply pw_below_drewN | apply below_drew1 | refine below_set ?_ GE232.out | refine below_set ?_ GE242.out) | exact HB.out)⟩
          · rw [if_neg c13] at H
            have c13b0 : ((t231 == 0) == t241) = false := by simpa using c13
            (try (have c13b1 : decide ((t231 == 0) = t241) = false := by simpa using c13))
            (try (have c13b2 : ((t231 == 0) == t241) = false := by simpa using c13))
            (try (have c13b3 : ¬ ((t231 == 0) = t241) := by simpa using c13))
            clear c13
            obtain rfl := Option.some.inj H
            go_wp2_with (first | ((with_reducible refine gate_callee (f := 11) rfl ?_); refine goesL_ (some 17) rfl rfl Tryd.func11 (by kernel_rfl) rfl #[.string a0] rfl (by (try simp only [List.map_toArray, List.map_cons, List.map_nil]); first | done | rfl | (simp only [List.length_drop, List.length_take]; rfl)) ?_; (with_reducible refine (cron_Parse.calls kj1 a0 t223 t224 t225 t226 t227 t228 t229 t230 t231 _ A10.out).mono ?_); rintro e w31 ⟨rfl, hb⟩; refine ⟨_, rfl, ?_⟩; have n0_ := Aside0.mk (below_step (by repeat (first | (with_reducible first | exact HB.out | apply below_alloc | apply pw_below_drewN | apply below_drew1) | exact HB.out)) hb); clear HB; have HB := n0_; clear n0_; (try clear hb); (try clear hb2); (try clear hk); (try clear hi)) | ((with_reducible refine gate_dst (N := 3) rfl ?_); (try (refine gate_guard (by rfl) ?_; dsimp only)); refine box_event ?hg (N := 3) ?hd (cs := #[.int .u64 0, .int .u64 0, .int .u64 0, .int .u64 0, .int .u64 0, .bool false, .bool false, .int .i64 0]) (t := 25) ?hr ?_; (case hd => rfl); (case hg => rfl); (case hr => first | (go_simp; done) | (go_simp; rfl)); intro gb232 hg w32 hbox hb; have n0_ := Aside0.mk (below_step (by repeat (first | (with_reducible first | exact HB.out | apply below_alloc | apply pw_below_drewN | apply below_drew1) | exact HB.out)) hb); have n1_ := Aside0.mk (hbox); have n2_ := Aside0.mk ((by rw [hg]; exact (below_size (by repeat (first | (with_reducible first | exact HB.out | apply below_alloc | apply pw_below_drewN | apply below_drew1) | exact HB.out))) : w.heap.size ≤ gb232)); have n3_ := Aside0.mk ((by rw [hg]; exact (below_size (by repeat (first | (with_reducible first | exact HB.out | apply below_alloc | apply pw_below_drewN | apply below_drew1) | exact HB.out))) : w.heap.size ≤ gb232)); clear HB; have HB := n0_; have BK232 := n1_; have GW232 := n2_; have GE232 := n3_; clear n0_ n1_ n2_ n3_; clear hb hbox hg; obtain ⟨hcz33_0, hcz33_1, hcz33_2, hcz33_3, hcz33_4, hcz33_5, hcz33_6, hcz33_7, hfz33_0, hfz33_1, hfz33_2, hfz33_3, hfz33_4, hfz33_5, hfz33_6, hfz33_7⟩ := GB.cells8 BK232.out) | ((with_reducible refine gate_callee (f := 12) rfl ?_); refine goesL_ (some 22) rfl rfl Tryd.func12 (by kernel_rfl) rfl #[.string a0] rfl (by (try simp only [List.map_toArray, List.map_cons, List.map_nil]); first | done | rfl | (simp only [List.length_drop, List.length_take]; rfl)) ?_; (with_reducible refine (tompionref04_Parse.calls kj1 a0 t233 t234 t235 t236 t237 t238 t239 t240 t241 _ A11.out).mono ?_); rintro e w34 ⟨rfl, hb⟩; refine ⟨_, rfl, ?_⟩; have n0_ := Aside0.mk (blk_below (g := gb232) (o := .cells #[.int .u64 t223, .int .u64 t224, .int .u64 t225, .int .u64 t226, .int .u64 t227, .bool t228, .bool t229, .int .i64 t230] 25 (0, 0)) (by (with_reducible repeat (first | refine blk_drewN ?_ _ | refine blk_drew ?_ | refine blk_alloc ?_ _)); refine blk_put (cs := #[.int .u64 t223, .int .u64 t224, .int .u64 t225, .int .u64 t226, .int .u64 t227, .bool t228, .bool t229, .int .i64 0]) ?_ 7 _ rfl; (with_reducible repeat (first | refine blk_drewN ?_ _ | refine blk_drew ?_ | refine blk_alloc ?_ _)); refine blk_put (cs := #[.int .u64 t223, .int .u64 t224, .int .u64 t225, .int .u64 t226, .int .u64 t227, .bool t228, .bool false, .int .i64 0]) ?_ 6 _ rfl; (with_reducible repeat (first | refine blk_drewN ?_ _ | refine blk_drew ?_ | refine blk_alloc ?_ _)); refine blk_put (cs := #[.int .u64 t223, .int .u64 t224, .int .u64 t225, .int .u64 t226, .int .u64 t227, .bool false, .bool false, .int .i64 0]) ?_ 5 _ rfl; (with_reducible repeat (first | refine blk_drewN ?_ _ | refine blk_drew ?_ | refine blk_alloc ?_ _)); refine blk_put (cs := #[.int .u64 t223, .int .u64 t224, .int .u64 t225, .int .u64 t226, .int .u64 0, .bool false, .bool false, .int .i64 0]) ?_ 4 _ rfl; (with_reducible repeat (first | refine blk_drewN ?_ _ | refine blk_drew ?_ | refine blk_alloc ?_ _)); refine blk_put (cs := #[.int .u64 t223, .int .u64 t224, .int .u64 t225, .int .u64 0, .int .u64 0, .bool false, .bool false, .int .i64 0]) ?_ 3 _ rfl; (with_reducible repeat (first | refine blk_drewN ?_ _ | refine blk_drew ?_ | refine blk_alloc ?_ _)); refine blk_put (cs := #[.int .u64 t223, .int .u64 t224, .int .u64 0, .int .u64 0, .int .u64 0, .bool false, .bool false, .int .i64 0]) ?_ 2 _ rfl; (with_reducible repeat (first | refine blk_drewN ?_ _ | refine blk_drew ?_ | refine blk_alloc ?_ _)); refine blk_put (cs := #[.int .u64 t223, .int .u64 0, .int .u64 0, .int .u64 0, .int .u64 0, .bool false, .bool false, .int .i64 0]) ?_ 1 _ rfl; (with_reducible repeat (first | refine blk_drewN ?_ _ | refine blk_drew ?_ | refine blk_alloc ?_ _)); refine blk_put (cs := #[.int .u64 0, .int .u64 0, .int .u64 0, .int .u64 0, .int .u64 0, .bool false, .bool false, .int .i64 0]) ?_ 0 _ rfl; (with_reducible repeat (first | refine blk_drewN ?_ _ | refine blk_drew ?_ | refine blk_alloc ?_ _)); exact BK232.out) hb); have n1_ := Aside0.mk (below_step (by repeat (first | (with_reducible first | exact HB.out | apply below_alloc | apply pw_below_drewN | apply below_drew1 | refine below_set ?_ GE232.out) | exact HB.out)) hb); clear BK232; clear HB; have BK232 := n0_; have HB := n1_; clear n0_ n1_; (try clear hb); (try clear hb2); (try clear hk); (try clear hi)) | ((with_reducible refine gate_dst (N := 5) rfl ?_); (try (refine gate_guard (by rfl) ?_; dsimp only)); refine box_event ?hg (N := 5) ?hd (cs := #[.int .u64 0, .int .u64 0, .int .u64 0, .int .u64 0, .int .u64 0, .bool false, .bool false, .int .i64 0]) (t := 25) ?hr ?_; (case hd => rfl); (case hg => rfl); (case hr => first | (go_simp; done) | (go_simp; rfl)); intro gb242 hg w35 hbox hb; have n0_ := Aside0.mk (blk_below (g := gb232) (o := .cells #[.int .u64 t223, .int .u64 t224, .int .u64 t225, .int .u64 t226, .int .u64 t227, .bool t228, .bool t229, .int .i64 t230] 25 (0, 0)) (by (with_reducible repeat (first | refine blk_drewN ?_ _ | refine blk_drew ?_ | refine blk_alloc ?_ _)); exact BK232.out) hb); have n1_ := Aside0.mk (below_step (by repeat (first | (with_reducible first | exact HB.out | apply below_alloc | apply pw_below_drewN | apply below_drew1 | refine below_set ?_ GE232.out) | exact HB.out)) hb); have n2_ := Aside0.mk (hbox); have n3_ := Aside0.mk ((by rw [hg]; exact (below_size (by repeat (first | (with_reducible first | exact HB.out | apply below_alloc | apply pw_below_drewN | apply below_drew1 | refine below_set ?_ GE232.out) | exact HB.out))) : w.heap.size ≤ gb242)); have n4_ := Aside0.mk ((by rw [hg]; exact (below_size (by repeat (first | (with_reducible first | exact HB.out | apply below_alloc | apply pw_below_drewN | apply below_drew1 | refine below_set ?_ GE232.out) | exact HB.out))) : w.heap.size ≤ gb242)); have n5_ := Aside0.mk ((by rw [hg]; exact Nat.ne_of_lt (blk_lt (g := gb232) (o := .cells #[.int .u64 t223, .int .u64 t224, .int .u64 t225, .int .u64 t226, .int .u64 t227, .bool t228, .bool t229, .int .i64 t230] 25 (0, 0)) (by (with_reducible repeat (first | refine blk_drewN ?_ _ | refine blk_drew ?_ | refine blk_alloc ?_ _)); exact BK232.out)) : gb232 ≠ gb242)); have n6_ := Aside0.mk ((by rw [hg]; exact Nat.ne_of_gt (blk_lt (g := gb232) (o := .cells #[.int .u64 t223, .int .u64 t224, .int .u64 t225, .int .u64 t226, .int .u64 t227, .bool t228, .bool t229, .int .i64 t230] 25 (0, 0)) (by (with_reducible repeat (first | refine blk_drewN ?_ _ | refine blk_drew ?_ | refine blk_alloc ?_ _)); exact BK232.out)) : gb242 ≠ gb232)); clear BK232; clear HB; have BK232 := n0_; have HB := n1_; have BK242 := n2_; have GW242 := n3_; have GE242 := n4_; have NB232_242 := n5_; have NB242_232 := n6_; clear n0_ n1_ n2_ n3_ n4_ n5_ n6_; clear hb hbox hg; have hnb36 := NB242_232.out; have hnc36 := NB232_242.out; obtain ⟨hcz37_0, hcz37_1, hcz37_2, hcz37_3, hcz37_4, hcz37_5, hcz37_6, hcz37_7, hfz37_0, hfz37_1, hfz37_2, hfz37_3, hfz37_4, hfz37_5, hfz37_6, hfz37_7⟩ := GB.cells8 BK242.out; obtain ⟨hcz38_0, hcz38_1, hcz38_2, hcz38_3, hcz38_4, hcz38_5, hcz38_6, hcz38_7, hfz38_0, hfz38_1, hfz38_2, hfz38_3, hfz38_4, hfz38_5, hfz38_6, hfz38_7⟩ := GB.cells8 BK232.out))
            go_ret
            exact ⟨by first | rfl | (simp [errW_none, errW_some] <;> rfl) | (simp [*, errW_none, errW_some] <;> rfl), by repeat (first | (with_reducible first | exact HB.out | apply below_alloc | apply pw_below_drewN | apply below_drew1 | refine below_set ?_ GE232.out | refine below_set ?_ GE242.out) | exact HB.out)⟩
        · rw [if_neg c12] at H
          have c12b0 : (t223 == t233 && (t224 == t234 && (t225 == t235 && (t226 == t236 && (t227 == t237 && (t228 == t238 && (t229 == t239 && (t230 == t240)))))))) = false := by simpa using c12
          have c12b9 : (t223 = t233 ∧ t224 = t234 ∧ t225 = t235 ∧ t226 = t236 ∧ t227 = t237 ∧ t228 = t238 ∧ t229 = t239 ∧ t230 = t240) = False := eq_false (by have h_ := Bool.eq_false_iff.mp c12b0; intro g_; apply h_; simp only [Bool.and_eq_true, beq_iff_eq]; exact g_)
          have c12b10 : (¬t223 = t233 ∨ ¬t224 = t234 ∨ ¬t225 = t235 ∨ ¬t226 = t236 ∨ ¬t227 = t237 ∨ ¬t228 = t238 ∨ ¬t229 = t239 ∨ ¬t230 = t240) = True := eq_true (Classical.byContradiction fun g_ => (of_eq_false c12b9) (by simpa [not_or] using g_))
          (try (have c12b1 : decide (t223 = t233 && (t224 == t234 && (t225 == t235 && (t226 == t236 && (t227 == t237 && (t228 == t238 && (t229 == t239 && (t230 == t240)))))))) = false := by simpa using c12))
          (try (have c12b2 : (t223 == t233 && (t224 == t234 && (t225 == t235 && (t226 == t236 && (t227 == t237 && (t228 == t238 && (t229 == t239 && (t230 == t240)))))))) = false := by simpa using c12))
          (try (have c12b3 : ¬ (t223 = t233 && (t224 == t234 && (t225 == t235 && (t226 == t236 && (t227 == t237 && (t228 == t238 && (t229 == t239 && (t230 == t240)))))))) := by simpa using c12))
          clear c12
          obtain rfl := Option.some.inj H
          go_wp2_with (first | ((with_reducible refine gate_callee (f := 11) rfl ?_); refine goesL_ (some 17) rfl rfl Tryd.func11 (by kernel_rfl) rfl #[.string a0] rfl (by (try simp only [List.map_toArray, List.map_cons, List.map_nil]); first | done | rfl | (simp only [List.length_drop, List.length_take]; rfl)) ?_; (with_reducible refine (cron_Parse.calls kj1 a0 t223 t224 t225 t226 t227 t228 t229 t230 t231 _ A10.out).mono ?_); rintro e w39 ⟨rfl, hb⟩; refine ⟨_, rfl, ?_⟩; have n0_ := Aside0.mk (below_step (by repeat (first | (with_reducible first | exact HB.out | apply below_alloc | apply pw_below_drewN | apply below_drew1) | exact HB.out)) hb); clear HB; have HB := n0_; clear n0_; (try clear hb); (try clear hb2); (try clear hk); (try clear hi)) | ((with_reducible refine gate_dst (N := 3) rfl ?_); (try (refine gate_guard (by rfl) ?_; dsimp only)); refine box_event ?hg (N := 3) ?hd (cs := #[.int .u64 0, .int .u64 0, .int .u64 0, .int .u64 0, .int .u64 0, .bool false, .bool false, .int .i64 0]) (t := 25) ?hr ?_; (case hd => rfl); (case hg => rfl); (case hr => first | (go_simp; done) | (go_simp; rfl)); intro gb232 hg w40 hbox hb; have n0_ := Aside0.mk (below_step (by repeat (first | (with_reducible first | exact HB.out | apply below_alloc | apply pw_below_drewN | apply below_drew1) | exact HB.out)) hb); have n1_ := Aside0.mk (hbox); have n2_ := Aside0.mk ((by rw [hg]; exact (below_size (by repeat (first | (with_reducible first | exact HB.out | apply below_alloc | apply pw_below_drewN | apply below_drew1) | exact HB.out))) : w.heap.size ≤ gb232)); have n3_ := Aside0.mk ((by rw [hg]; exact (below_size (by repeat (first | (with_reducible first | exact HB.out | apply below_alloc | apply pw_below_drewN | apply below_drew1) | exact HB.out))) : w.heap.size ≤ gb232)); clear HB; have HB := n0_; have BK232 := n1_; have GW232 := n2_; have GE232 := n3_; clear n0_ n1_ n2_ n3_; clear hb hbox hg; obtain ⟨hcz41_0, hcz41_1, hcz41_2, hcz41_3, hcz41_4, hcz41_5, hcz41_6, hcz41_7, hfz41_0, hfz41_1, hfz41_2, hfz41_3, hfz41_4, hfz41_5, hfz41_6, hfz41_7⟩ := GB.cells8 BK232.out) | ((with_reducible refine gate_callee (f := 12) rfl ?_); refine goesL_ (some 22) rfl rfl Tryd.func12 (by kernel_rfl) rfl #[.string a0] rfl (by (try simp only [List.map_toArray, List.map_cons, List.map_nil]); first | done | rfl | (simp only [List.length_drop, List.length_take]; rfl)) ?_; (with_reducible refine (tompionref04_Parse.calls kj1 a0 t233 t234 t235 t236 t237 t238 t239 t240 t241 _ A11.out).mono ?_); rintro e w42 ⟨rfl, hb⟩; refine ⟨_, rfl, ?_⟩; have n0_ := Aside0.mk (blk_below (g := gb232) (o := .cells #[.int .u64 t223, .int .u64 t224, .int .u64 t225, .int .u64 t226, .int .u64 t227, .bool t228, .bool t229, .int .i64 t230] 25 (0, 0)) (by (with_reducible repeat (first | refine blk_drewN ?_ _ | refine blk_drew ?_ | refine blk_alloc ?_ _)); refine blk_put (cs := #[.int .u64 t223, .int .u64 t224, .int .u64 t225, .int .u64 t226, .int .u64 t227, .bool t228, .bool t229, .int .i64 0]) ?_ 7 _ rfl; (with_reducible repeat (first | refine blk_drewN ?_ _ | refine blk_drew ?_ | refine blk_alloc ?_ _)); refine blk_put (cs := #[.int .u64 t223, .int .u64 t224, .int .u64 t225, .int .u64 t226, .int .u64 t227, .bool t228, .bool false, .int .i64 0]) ?_ 6 _ rfl; (with_reducible repeat (first | refine blk_drewN ?_ _ | refine blk_drew ?_ | refine blk_alloc ?_ _)); refine blk_put (cs := #[.int .u64 t223, .int .u64 t224, .int .u64 t225, .int .u64 t226, .int .u64 t227, .bool false, .bool false, .int .i64 0]) ?_ 5 _ rfl; (with_reducible repeat (first | refine blk_drewN ?_ _ | refine blk_drew ?_ | refine blk_alloc ?_ _)); refine blk_put (cs := #[.int .u64 t223, .int .u64 t224, .int .u64 t225, .int .u64 t226, .int .u64 0, .bool false, .bool false, .int .i64 0]) ?_ 4 _ rfl; (with_reducible repeat (first | refine blk_drewN ?_ _ | refine blk_drew ?_ | refine blk_alloc ?_ _)); refine blk_put (cs := #[.int .u64 t223, .int .u64 t224, .int .u64 t225, .int .u64 0, .int .u64 0, .bool false, .bool false, .int .i64 0]) ?_ 3 _ rfl; (with_reducible repeat (first | refine blk_drewN ?_ _ | refine blk_drew ?_ | refine blk_alloc ?_ _)); refine blk_put (cs := #[.int .u64 t223, .int .u64 t224, .int .u64 0, .int .u64 0, .int .u64 0, .bool false, .bool false, .int .i64 0]) ?_ 2 _ rfl; (with_reducible repeat (first | refine blk_drewN ?_ _ | refine blk_drew ?_ | refine blk_alloc ?_ _)); refine blk_put (cs := #[.int .u64 t223, .int .u64 0, .int .u64 0, .int .u64 0, .int .u64 0, .bool false, .bool false, .int .i64 0]) ?_ 1 _ rfl; (with_reducible repeat (first | refine blk_drewN ?_ _ | refine blk_drew ?_ | refine blk_alloc ?_ _)); refine blk_put (cs := #[.int .u64 0, .int .u64 0, .int .u64 0, .int .u64 0, .int .u64 0, .bool false, .bool false, .int .i64 0]) ?_ 0 _ rfl; (with_reducible repeat (first | refine blk_drewN ?_ _ | refine blk_drew ?_ | refine blk_alloc ?_ _)); exact BK232.out) hb); have n1_ := Aside0.mk (below_step (by repeat (first | (with_reducible first | exact HB.out | apply below_alloc | apply pw_below_drewN | apply below_drew1 | refine below_set ?_ GE232.out) | exact HB.out)) hb); clear BK232; clear HB; have BK232 := n0_; have HB := n1_; clear n0_ n1_; (try clear hb); (try clear hb2); (try clear hk); (try clear hi)) | ((with_reducible refine gate_dst (N := 5) rfl ?_); (try (refine gate_guard (by rfl) ?_; dsimp only)); refine box_event ?hg (N := 5) ?hd (cs := #[.int .u64 0, .int .u64 0, .int .u64 0, .int .u64 0, .int .u64 0, .bool false, .bool false, .int .i64 0]) (t := 25) ?hr ?_; (case hd => rfl); (case hg => rfl); (case hr => first | (go_simp; done) | (go_simp; rfl)); intro gb242 hg w43 hbox hb; have n0_ := Aside0.mk (blk_below (g := gb232) (o := .cells #[.int .u64 t223, .int .u64 t224, .int .u64 t225, .int .u64 t226, .int .u64 t227, .bool t228, .bool t229, .int .i64 t230] 25 (0, 0)) (by (with_reducible repeat (first | refine blk_drewN ?_ _ | refine blk_drew ?_ | refine blk_alloc ?_ _)); exact BK232.out) hb); have n1_ := Aside0.mk (below_step (by repeat (first | (with_reducible first | exact HB.out | apply below_alloc | apply pw_below_drewN | apply below_drew1 | refine below_set ?_ GE232.out) | exact HB.out)) hb); have n2_ := Aside0.mk (hbox); have n3_ := Aside0.mk ((by rw [hg]; exact (below_size (by repeat (first | (with_reducible first | exact HB.out | apply below_alloc | apply pw_below_drewN | apply below_drew1 | refine below_set ?_ GE232.out) | exact HB.out))) : w.heap.size ≤ gb242)); have n4_ := Aside0.mk ((by rw [hg]; exact (below_size (by repeat (first | (with_reducible first | exact HB.out | apply below_alloc | apply pw_below_drewN | apply below_drew1 | refine below_set ?_ GE232.out) | exact HB.out))) : w.heap.size ≤ gb242)); have n5_ := Aside0.mk ((by rw [hg]; exact Nat.ne_of_lt (blk_lt (g := gb232) (o := .cells #[.int .u64 t223, .int .u64 t224, .int .u64 t225, .int .u64 t226, .int .u64 t227, .bool t228, .bool t229, .int .i64 t230] 25 (0, 0)) (by (with_reducible repeat (first | refine blk_drewN ?_ _ | refine blk_drew ?_ | refine blk_alloc ?_ _)); exact BK232.out)) : gb232 ≠ gb242)); have n6_ := Aside0.mk ((by rw [hg]; exact Nat.ne_of_gt (blk_lt (g := gb232) (o := .cells #[.int .u64 t223, .int .u64 t224, .int .u64 t225, .int .u64 t226, .int .u64 t227, .bool t228, .bool t229, .int .i64 t230] 25 (0, 0)) (by (with_reducible repeat (first | refine blk_drewN ?_ _ | refine blk_drew ?_ | refine blk_alloc ?_ _)); exact BK232.out)) : gb242 ≠ gb232)); clear BK232; clear HB; have BK232 := n0_; have HB := n1_; have BK242 := n2_; have GW242 := n3_; have GE242 := n4_; have NB232_242 := n5_; have NB242_232 := n6_; clear n0_ n1_ n2_ n3_ n4_ n5_ n6_; clear hb hbox hg; have hnb44 := NB242_232.out; have hnc44 := NB232_242.out; obtain ⟨hcz45_0, hcz45_1, hcz45_2, hcz45_3, hcz45_4, hcz45_5, hcz45_6, hcz45_7, hfz45_0, hfz45_1, hfz45_2, hfz45_3, hfz45_4, hfz45_5, hfz45_6, hfz45_7⟩ := GB.cells8 BK242.out; obtain ⟨hcz46_0, hcz46_1, hcz46_2, hcz46_3, hcz46_4, hcz46_5, hcz46_6, hcz46_7, hfz46_0, hfz46_1, hfz46_2, hfz46_3, hfz46_4, hfz46_5, hfz46_6, hfz46_7⟩ := GB.cells8 BK232.out))
          go_ret
          exact ⟨by first | rfl | (simp [errW_none, errW_some] <;> rfl) | (simp [*, errW_none, errW_some] <;> rfl), by repeat (first | (with_reducible first | exact HB.out | apply below_alloc | apply pw_below_drewN | apply below_drew1 | refine below_set ?_ GE232.out | refine below_set ?_ GE242.out) | exact HB.out)⟩

/-- THE ONE PURE STATEMENT of tompionlaw04_CronParses: yours. -/
def tompionlaw04_CronParses.Pure : Prop := ∀ (a0 : ByteArray), a0.size ≤ 140737488351232 → ∃ k, tompionlaw04_CronParses.f k a0 = some true
theorem tompionlaw04_CronParses.walk (P : tompionlaw04_CronParses.Pure) (a0 : ByteArray) (w : World) (w0 : a0.size ≤ 140737488351232) :
    Calls Tryd.prog 3 #[.string a0] w fun e w' => e = .returned (.bool true) ∧ Below w.heap.size w w' := by
  obtain ⟨k, h⟩ := P a0 w0
  refine (tompionlaw04_CronParses.calls k a0 true w h).mono ?_
  rintro e w' ⟨rfl, hd⟩
  exact ⟨rfl, hd⟩

end Go.Proofs.YtmjfocfdbodmpaaDoor.X
