/- The functions of the program as plain Lean functions, and the walks that show that the Go text answers so: written by a program (xprint.py) out of the translation; conditions: none beyond those that each theorem names. -/
import Derived.Test.YtmjfocfdbodmpaaDoorX0
import Derived.Test.YtmjfocfdbodmpaaDoorX2
import Derived.Test.YtmjfocfdbodmpaaDoorX3
import Derived.Test.YtmjfocfdbodmpaaDoorX4
import Derived.Test.YtmjfocfdbodmpaaDoorX5
import Derived.Test.YtmjfocfdbodmpaaDoorX6
namespace Go.Proofs.YtmjfocfdbodmpaaDoor.X
open Go.RowKit Go.Proofs.YtmjfocfdbodmpaaDoorW.PrintWords Go.Proofs.YtmjfocfdbodmpaaDoorW.PrintLast Go.Proofs.YtmjfocfdbodmpaaDoorW.PrintMore
attribute [local go_sem] max2_int min2_int max_two min_two max_three min_three max_four min_four   -- for this text's walks alone
set_option linter.unusedVariables false
set_option linter.unusedSimpArgs false

/-! ### tompionref04_Text: function 16 (given by hand) -/
/-- The text of one field. -/
def wordR (k : Nat) (f x : Int) (an : Bool) : Option ByteArray := (tompionref04_list.f k x).bind fun t => (if an = true then (tompionref04_any.f k f x) else (some t))
/-- The sixth field's text, behind all others. -/
def rtextEnd (a0_7 : Int) (out : ByteArray) : Option ByteArray := if a0_7 > 0 then ((tompionref04_two.f (Int.tdiv a0_7 60)).bind fun h => ((tompionref04_two.f (Int.tmod a0_7 60)).bind fun m => (some (out ++ (((⟨#[32, 43]⟩ : ByteArray) ++ h) ++ m))))) else (if a0_7 < 0 then ((tompionref04_two.f (Int.tdiv (-a0_7) 60)).bind fun h => ((tompionref04_two.f (Int.tmod (-a0_7) 60)).bind fun m => (some (out ++ (((⟨#[32, 45]⟩ : ByteArray) ++ h) ++ m))))) else (some out))
def rtextR5 (_k : Nat) (a0_0 a0_1 a0_2 a0_3 a0_4 : Int) (a0_5 a0_6 : Bool) (a0_7 : Int) (out : ByteArray) : Option ByteArray := rtextEnd a0_7 out
def rtextR4 (k : Nat) (a0_0 a0_1 a0_2 a0_3 a0_4 : Int) (a0_5 a0_6 : Bool) (a0_7 : Int) (out : ByteArray) : Option ByteArray := (wordR k 4 a0_4 a0_6).bind fun t => (if t = (⟨#[]⟩ : ByteArray) then (some (⟨#[]⟩ : ByteArray)) else (if t.size ≤ 100000 then (rtextR5 k a0_0 a0_1 a0_2 a0_3 a0_4 a0_5 a0_6 a0_7 ((out ++ (⟨#[32]⟩ : ByteArray)) ++ t)) else (none)))
def rtextR3 (k : Nat) (a0_0 a0_1 a0_2 a0_3 a0_4 : Int) (a0_5 a0_6 : Bool) (a0_7 : Int) (out : ByteArray) : Option ByteArray := (wordR k 3 a0_3 false).bind fun t => (if t = (⟨#[]⟩ : ByteArray) then (some (⟨#[]⟩ : ByteArray)) else (if t.size ≤ 100000 then (rtextR4 k a0_0 a0_1 a0_2 a0_3 a0_4 a0_5 a0_6 a0_7 ((out ++ (⟨#[32]⟩ : ByteArray)) ++ t)) else (none)))
def rtextR2 (k : Nat) (a0_0 a0_1 a0_2 a0_3 a0_4 : Int) (a0_5 a0_6 : Bool) (a0_7 : Int) (out : ByteArray) : Option ByteArray := (wordR k 2 a0_2 a0_5).bind fun t => (if t = (⟨#[]⟩ : ByteArray) then (some (⟨#[]⟩ : ByteArray)) else (if t.size ≤ 100000 then (rtextR3 k a0_0 a0_1 a0_2 a0_3 a0_4 a0_5 a0_6 a0_7 ((out ++ (⟨#[32]⟩ : ByteArray)) ++ t)) else (none)))
def rtextR1 (k : Nat) (a0_0 a0_1 a0_2 a0_3 a0_4 : Int) (a0_5 a0_6 : Bool) (a0_7 : Int) (out : ByteArray) : Option ByteArray := (wordR k 1 a0_1 false).bind fun t => (if t = (⟨#[]⟩ : ByteArray) then (some (⟨#[]⟩ : ByteArray)) else (if t.size ≤ 100000 then (rtextR2 k a0_0 a0_1 a0_2 a0_3 a0_4 a0_5 a0_6 a0_7 ((out ++ (⟨#[32]⟩ : ByteArray)) ++ t)) else (none)))
def rtextR0 (k : Nat) (a0_0 a0_1 a0_2 a0_3 a0_4 : Int) (a0_5 a0_6 : Bool) (a0_7 : Int) (out : ByteArray) : Option ByteArray := (wordR k 0 a0_0 false).bind fun t => (if t = (⟨#[]⟩ : ByteArray) then (some (⟨#[]⟩ : ByteArray)) else (if t.size ≤ 100000 then (rtextR1 k a0_0 a0_1 a0_2 a0_3 a0_4 a0_5 a0_6 a0_7 (out ++ t)) else (none)))
def tompionref04_Text.f (k : Nat) (a0_0 a0_1 a0_2 a0_3 a0_4 : Int) (a0_5 a0_6 : Bool) (a0_7 : Int) : Option ByteArray := if rightB a0_0 a0_1 a0_2 a0_3 a0_4 a0_7 = true then (rtextR0 k a0_0 a0_1 a0_2 a0_3 a0_4 a0_5 a0_6 a0_7 (⟨#[]⟩ : ByteArray)) else (some (⟨#[]⟩ : ByteArray))
theorem wordR_mono : ∀ f x an k, LeO (wordR k f x an) (wordR (k + 1) f x an) := by
  intro f x an k
  unfold wordR
  exact LeO.bind (tompionref04_list.mono _ _) fun t => LeO.ite (tompionref04_any.mono _ _ _) (LeO.refl _)
theorem tompionref04_Text.mono : ∀ a0_0 a0_1 a0_2 a0_3 a0_4 a0_5 a0_6 a0_7 k, LeO (tompionref04_Text.f k a0_0 a0_1 a0_2 a0_3 a0_4 a0_5 a0_6 a0_7) (tompionref04_Text.f (k + 1) a0_0 a0_1 a0_2 a0_3 a0_4 a0_5 a0_6 a0_7) := by
  intro a0_0 a0_1 a0_2 a0_3 a0_4 a0_5 a0_6 a0_7 k
  unfold tompionref04_Text.f rtextR0 rtextR1 rtextR2 rtextR3 rtextR4
  exact LeO.ite (LeO.bind (wordR_mono _ _ _ _) fun _ => LeO.ite (LeO.refl _) (LeO.ite (LeO.bind (wordR_mono _ _ _ _) fun _ => LeO.ite (LeO.refl _) (LeO.ite (LeO.bind (wordR_mono _ _ _ _) fun _ => LeO.ite (LeO.refl _) (LeO.ite (LeO.bind (wordR_mono _ _ _ _) fun _ => LeO.ite (LeO.refl _) (LeO.ite (LeO.bind (wordR_mono _ _ _ _) fun _ => LeO.refl _) (LeO.refl _))) (LeO.refl _))) (LeO.refl _))) (LeO.refl _))) (LeO.refl _)
def rtextR (k : Nat) (a0_0 a0_1 a0_2 a0_3 a0_4 : Int) (a0_5 a0_6 : Bool) (a0_7 : Int) (j : Nat) (out : ByteArray) : Option ByteArray := match j with
  | 0 => rtextR0 k a0_0 a0_1 a0_2 a0_3 a0_4 a0_5 a0_6 a0_7 out
  | 1 => rtextR1 k a0_0 a0_1 a0_2 a0_3 a0_4 a0_5 a0_6 a0_7 out
  | 2 => rtextR2 k a0_0 a0_1 a0_2 a0_3 a0_4 a0_5 a0_6 a0_7 out
  | 3 => rtextR3 k a0_0 a0_1 a0_2 a0_3 a0_4 a0_5 a0_6 a0_7 out
  | 4 => rtextR4 k a0_0 a0_1 a0_2 a0_3 a0_4 a0_5 a0_6 a0_7 out
  | _ => rtextR5 k a0_0 a0_1 a0_2 a0_3 a0_4 a0_5 a0_6 a0_7 out
theorem rtwo_some (n : Int) : ∃ t, tompionref04_two.f n = some t ∧ t.size = 2 := ⟨_, rfl, by simp [strOfNums, ByteArray.size]⟩
/-- What is told of the world inside the loop. -/
structure RTextG (w : World) (g b : Nat) (a0_0 a0_1 a0_2 a0_3 a0_4 : Int) (a0_5 a0_6 : Bool) (a0_7 : Int) (W : World) : Prop where
  box : W.heap[g]? = some (.cells #[.int .u64 a0_0, .int .u64 a0_1, .int .u64 a0_2, .int .u64 a0_3, .int .u64 a0_4, .bool a0_5, .bool a0_6, .int .i64 a0_7] 25 (0, 0))
  arr : W.heap[b]? = some (.cells #[.int .u64 a0_0, .int .u64 a0_1, .int .u64 a0_2, .int .u64 a0_3, .int .u64 a0_4] 50 (0, 0))
  bel : Below w.heap.size w W
theorem RTextG.below {w : World} {g b : Nat} {a0_0 a0_1 a0_2 a0_3 a0_4 : Int} {a0_5 a0_6 : Bool} {a0_7 : Int} {W W' : World} (h : RTextG w g b a0_0 a0_1 a0_2 a0_3 a0_4 a0_5 a0_6 a0_7 W) (hb : Below W.heap.size W W') : RTextG w g b a0_0 a0_1 a0_2 a0_3 a0_4 a0_5 a0_6 a0_7 W' :=
  ⟨(hb.block _ (blk_lt h.box)).trans h.box, (hb.block _ (blk_lt h.arr)).trans h.arr, h.bel.trans (hb.mono h.bel.size)⟩
theorem RTextG.drewN {w : World} {g b : Nat} {a0_0 a0_1 a0_2 a0_3 a0_4 : Int} {a0_5 a0_6 : Bool} {a0_7 : Int} {W : World} (h : RTextG w g b a0_0 a0_1 a0_2 a0_3 a0_4 a0_5 a0_6 a0_7 W) (n : Nat) : RTextG w g b a0_0 a0_1 a0_2 a0_3 a0_4 a0_5 a0_6 a0_7 (W.drewN n) := h.below (pw_below_drewN (Below.refl _ _) n)
set_option maxHeartbeats 8000000 in
set_option maxRecDepth 100000 in
theorem tompionref04_Text.calls (k : Nat) (a0_0 : Int) (a0_1 : Int) (a0_2 : Int) (a0_3 : Int) (a0_4 : Int) (a0_5 : Bool) (a0_6 : Bool) (a0_7 : Int) (r : ByteArray) (w : World) (h : tompionref04_Text.f k a0_0 a0_1 a0_2 a0_3 a0_4 a0_5 a0_6 a0_7 = some r) :
    Calls Tryd.prog 16 #[.agg #[.int .u64 a0_0, .int .u64 a0_1, .int .u64 a0_2, .int .u64 a0_3, .int .u64 a0_4, .bool a0_5, .bool a0_6, .int .i64 a0_7]] w fun e w' => e = .returned (.string r) ∧ Below w.heap.size w w' := by
  unfold tompionref04_Text.f at h
  by_cases hR : rightB a0_0 a0_1 a0_2 a0_3 a0_4 a0_7 = true
  case neg =>
    rw [if_neg hR] at h
    obtain rfl := Option.some.inj h
    replace hR := Bool.eq_false_iff.mpr hR
    clear h
    go_enter Tryd.func16, Tryd.ntmps16
    go_wp2_with (first | (go_at_call 14; refine (tompionref04_Right.calls a0_0 a0_1 a0_2 a0_3 a0_4 a0_5 a0_6 a0_7 (rightB a0_0 a0_1 a0_2 a0_3 a0_4 a0_7) _ rfl).mono ?_; rintro e w1 ⟨rfl, hb1⟩))
    go_ret
    exact ⟨rfl, ((Below.refl _ _).alloc (Nat.le_refl _) _).trans (hb1.mono (by simp))⟩
  case pos =>
    rw [if_pos hR] at h
    have H' := Aside0.mk h
    clear h
    have HBd := Aside0.mk (right_bounds hR)
    go_enter Tryd.func16, Tryd.ntmps16
    go_wp2_with (first | (go_at_call 14; refine (tompionref04_Right.calls a0_0 a0_1 a0_2 a0_3 a0_4 a0_5 a0_6 a0_7 (rightB a0_0 a0_1 a0_2 a0_3 a0_4 a0_7) _ rfl).mono ?_; rintro e w1 ⟨rfl, hb1⟩; have HG1 : TextB w.heap.size a0_0 a0_1 a0_2 a0_3 a0_4 a0_5 a0_6 a0_7 w1 := (hb1.block _ (by simp)).trans (by show (w.heap.push _)[w.heap.size]? = _; rw [Array.getElem?_push, if_pos rfl]); have HB1 : Below w.heap.size w w1 := ((Below.refl _ _).alloc (Nat.le_refl _) _).trans (hb1.mono (by simp)); have hcz0 : w1.cell? ⟨w.heap.size, 0, none⟩ = some (.int .u64 a0_0) := blk_cell HG1 0; have hcz1 : w1.cell? ⟨w.heap.size, 1, none⟩ = some (.int .u64 a0_1) := blk_cell HG1 1; have hcz2 : w1.cell? ⟨w.heap.size, 2, none⟩ = some (.int .u64 a0_2) := blk_cell HG1 2; have hcz3 : w1.cell? ⟨w.heap.size, 3, none⟩ = some (.int .u64 a0_3) := blk_cell HG1 3; have hcz4 : w1.cell? ⟨w.heap.size, 4, none⟩ = some (.int .u64 a0_4) := blk_cell HG1 4; have hcz5 : w1.cell? ⟨w.heap.size, 5, none⟩ = some (.bool a0_5) := blk_cell HG1 5; have hcz6 : w1.cell? ⟨w.heap.size, 6, none⟩ = some (.bool a0_6) := blk_cell HG1 6; have hcz7 : w1.cell? ⟨w.heap.size, 7, none⟩ = some (.int .i64 a0_7) := blk_cell HG1 7; have HG1 := Aside0.mk HG1; clear hb1) | (go_at_call 29; refine (tompionref04_sets.calls a0_0 a0_1 a0_2 a0_3 a0_4 a0_5 a0_6 a0_7 a0_0 a0_1 a0_2 a0_3 a0_4 _ rfl).mono ?_; rintro e w2 ⟨rfl, hb2⟩))
    have HG : Aside0 (RTextG w w.heap.size w2.heap.size a0_0 a0_1 a0_2 a0_3 a0_4 a0_5 a0_6 a0_7 (w2.alloc (.cells #[.int .u64 a0_0, .int .u64 a0_1, .int .u64 a0_2, .int .u64 a0_3, .int .u64 a0_4] 50))) := ⟨⟨(Below.heap_alloc _ _ _ (blk_lt ((hb2.block _ (blk_lt HG1.out)).trans HG1.out))).trans ((hb2.block _ (blk_lt HG1.out)).trans HG1.out), by show (w2.heap.push _)[w2.heap.size]? = _; rw [Array.getElem?_push, if_pos rfl], (HB1.trans (hb2.mono HB1.size)).alloc (HB1.trans (hb2.mono HB1.size)).size _⟩⟩
    clear HG1 HB1 hb2 hcz0 hcz1 hcz2 hcz3 hcz4 hcz5 hcz6 hcz7
    go_loopw [4, 5] (fun v4 v5 w' => ∃ (j : Int) (out : ByteArray), 0 ≤ j ∧ j ≤ 5 ∧ v4 = .string out ∧ v5 = .int .i64 j ∧ Aside0 (rtextR k a0_0 a0_1 a0_2 a0_3 a0_4 a0_5 a0_6 a0_7 j.toNat out = some r) ∧ Aside0 ((out.size : Int) ≤ 100001 * j) ∧ Aside0 (RTextG w w.heap.size w2.heap.size a0_0 a0_1 a0_2 a0_3 a0_4 a0_5 a0_6 a0_7 w')) (fun _ i _ => (5 - intOf i).toNat)
    case atStart => exact ⟨0, ⟨#[]⟩, by decide, by decide, rfl, rfl, H', ⟨by decide⟩, HG⟩
    case round =>
      clear H' HG
      obtain ⟨j, out, hj0, hj5, rfl, rfl, HA, HL, HG⟩ := hrel
      have hj : j = 0 ∨ j = 1 ∨ j = 2 ∨ j = 3 ∨ j = 4 ∨ j = 5 := by omega
      clear hj0 hj5
      rcases hj with rfl | rfl | rfl | rfl | rfl | rfl
      · have H : rtextR0 k a0_0 a0_1 a0_2 a0_3 a0_4 a0_5 a0_6 a0_7 out = some r := HA.out
        clear HA
        unfold rtextR0 wordR at H
        rw [Option.bind_assoc] at H
        obtain ⟨t, A1, H⟩ := Option.bind_eq_some_iff.mp H
        have A1 := Aside0.mk A1
        rw [if_neg (by decide), Option.bind_some] at H
        obtain ⟨u, hu'⟩ : ∃ u, u = t := ⟨_, rfl⟩
        rw [← hu'] at H
        subst hu'
        have hc : _ = some (Value.int .u64 a0_0) := blk_cell HG.out.arr 0
        by_cases hu : u = (⟨#[]⟩ : ByteArray)
        · rw [if_pos hu] at H
          obtain rfl := Option.some.inj H
          have cu := toList_emp hu
          clear H
          go_wp2_with (first | (go_at_call 35; (with_reducible refine (tompionref04_list.calls k a0_0 u _ A1.out).mono ?_); rintro e wl ⟨rfl, hb⟩; have n0_ := Aside0.mk (HG.out.below hb); clear HG; have HG := n0_; clear n0_ hb; have hcb : wl.cell? ⟨w2.heap.size, 0, none⟩ = some (.int .u64 a0_0) := blk_cell HG.out.arr 0; have hc5 : wl.cell? ⟨w.heap.size, 5, none⟩ = some (.bool a0_5) := blk_cell HG.out.box 5; have hc6 : wl.cell? ⟨w.heap.size, 6, none⟩ = some (.bool a0_6) := blk_cell HG.out.box 6))
          go_ret
          exact ⟨rfl, HG.out.bel⟩
        · rw [if_neg hu] at H
          have cu := toList_not_emp hu
          by_cases hs : u.size ≤ 100000
          case neg => rw [if_neg hs] at H; cases H
          rw [if_pos hs] at H
          have H' := Aside0.mk H
          have hl := HL.out
          have s1 := eq_true (show out.size + u.size ≤ 9223372036854775807 by omega)
          have s1' := eq_false (show ¬ 9223372036854775807 < out.size + u.size by omega)
          have HS : Aside0 ((((out ++ u).size : Nat) : Int) ≤ 100001 * 1) := ⟨by rw [ByteArray.size_append]; omega⟩
          clear H hu hs hl
          go_wp2_with (first | (go_at_call 35; (with_reducible refine (tompionref04_list.calls k a0_0 u _ A1.out).mono ?_); rintro e wl ⟨rfl, hb⟩; have n0_ := Aside0.mk (HG.out.below hb); clear HG; have HG := n0_; clear n0_ hb; have hcb : wl.cell? ⟨w2.heap.size, 0, none⟩ = some (.int .u64 a0_0) := blk_cell HG.out.arr 0; have hc5 : wl.cell? ⟨w.heap.size, 5, none⟩ = some (.bool a0_5) := blk_cell HG.out.box 5; have hc6 : wl.cell? ⟨w.heap.size, 6, none⟩ = some (.bool a0_6) := blk_cell HG.out.box 6))
          go_roundw
          case rel => exact ⟨1, out ++ u, by decide, by decide, rfl, rfl, H', HS, ⟨HG.out⟩⟩
          case measure => simp [intOf]
      · have H : rtextR1 k a0_0 a0_1 a0_2 a0_3 a0_4 a0_5 a0_6 a0_7 out = some r := HA.out
        clear HA
        unfold rtextR1 wordR at H
        rw [Option.bind_assoc] at H
        obtain ⟨t, A1, H⟩ := Option.bind_eq_some_iff.mp H
        have A1 := Aside0.mk A1
        rw [if_neg (by decide), Option.bind_some] at H
        obtain ⟨u, hu'⟩ : ∃ u, u = t := ⟨_, rfl⟩
        rw [← hu'] at H
        subst hu'
        have hc : _ = some (Value.int .u64 a0_1) := blk_cell HG.out.arr 1
        by_cases hu : u = (⟨#[]⟩ : ByteArray)
        · rw [if_pos hu] at H
          obtain rfl := Option.some.inj H
          have cu := toList_emp hu
          clear H
          go_wp2_with (first | (go_at_call 35; (with_reducible refine (tompionref04_list.calls k a0_1 u _ A1.out).mono ?_); rintro e wl ⟨rfl, hb⟩; have n0_ := Aside0.mk (HG.out.below hb); clear HG; have HG := n0_; clear n0_ hb; have hcb : wl.cell? ⟨w2.heap.size, 1, none⟩ = some (.int .u64 a0_1) := blk_cell HG.out.arr 1; have hc5 : wl.cell? ⟨w.heap.size, 5, none⟩ = some (.bool a0_5) := blk_cell HG.out.box 5; have hc6 : wl.cell? ⟨w.heap.size, 6, none⟩ = some (.bool a0_6) := blk_cell HG.out.box 6))
          go_ret
          exact ⟨rfl, HG.out.bel⟩
        · rw [if_neg hu] at H
          have cu := toList_not_emp hu
          by_cases hs : u.size ≤ 100000
          case neg => rw [if_neg hs] at H; cases H
          rw [if_pos hs] at H
          have H' := Aside0.mk H
          have hl := HL.out
          have s0 : out.size + 1 ≤ 9223372036854775807 := by omega
          have s2 : out.size + 1 + u.size ≤ 9223372036854775807 := by omega
          have s1 := eq_true s0
          have s1' := eq_false (show ¬ 9223372036854775807 < out.size + 1 by omega)
          have s3 : ((out ++ (⟨#[32]⟩ : ByteArray)).size + u.size ≤ 9223372036854775807) = True := eq_true (by rw [ByteArray.size_append]; exact s2)
          have s4 : (9223372036854775807 < (out ++ (⟨#[32]⟩ : ByteArray)).size + u.size) = False := eq_false (by rw [ByteArray.size_append]; exact (show ¬ 9223372036854775807 < out.size + 1 + u.size by omega))
          have s5 := eq_false (show ¬ 9223372036854775807 < out.size + 1 + u.size by omega)
          have HS : Aside0 (((((out ++ (⟨#[32]⟩ : ByteArray)) ++ u).size : Nat) : Int) ≤ 100001 * 2) := ⟨by rw [ByteArray.size_append, ByteArray.size_append]; show ((out.size + 1 + u.size : Nat) : Int) ≤ _; omega⟩
          clear H hu hs hl s0
          go_wp2_with (first | (go_at_call 35; (with_reducible refine (tompionref04_list.calls k a0_1 u _ A1.out).mono ?_); rintro e wl ⟨rfl, hb⟩; have n0_ := Aside0.mk (HG.out.below hb); clear HG; have HG := n0_; clear n0_ hb; have hcb : wl.cell? ⟨w2.heap.size, 1, none⟩ = some (.int .u64 a0_1) := blk_cell HG.out.arr 1; have hc5 : wl.cell? ⟨w.heap.size, 5, none⟩ = some (.bool a0_5) := blk_cell HG.out.box 5; have hc6 : wl.cell? ⟨w.heap.size, 6, none⟩ = some (.bool a0_6) := blk_cell HG.out.box 6))
          go_roundw
          case rel => exact ⟨2, (out ++ (⟨#[32]⟩ : ByteArray)) ++ u, by decide, by decide, rfl, rfl, H', HS, ⟨HG.out⟩⟩
          case measure => simp [intOf]
      · have H : rtextR2 k a0_0 a0_1 a0_2 a0_3 a0_4 a0_5 a0_6 a0_7 out = some r := HA.out
        clear HA
        unfold rtextR2 wordR at H
        rw [Option.bind_assoc] at H
        obtain ⟨t, A1, H⟩ := Option.bind_eq_some_iff.mp H
        have A1 := Aside0.mk A1
        cases a0_5 with
        | true =>
          rw [if_pos rfl] at H
          obtain ⟨u, A2, H⟩ := Option.bind_eq_some_iff.mp H
          have A2 := Aside0.mk A2
          have hc : _ = some (Value.int .u64 a0_2) := blk_cell HG.out.arr 2
          by_cases hu : u = (⟨#[]⟩ : ByteArray)
          · rw [if_pos hu] at H
            obtain rfl := Option.some.inj H
            have cu := toList_emp hu
            clear H
            go_wp2_with (first | (go_at_call 35; (with_reducible refine (tompionref04_list.calls k a0_2 t _ A1.out).mono ?_); rintro e wl ⟨rfl, hb⟩; have n0_ := Aside0.mk (HG.out.below hb); clear HG; have HG := n0_; clear n0_ hb; have hcb : wl.cell? ⟨w2.heap.size, 2, none⟩ = some (.int .u64 a0_2) := blk_cell HG.out.arr 2; have hc5 : wl.cell? ⟨w.heap.size, 5, none⟩ = some (.bool true) := blk_cell HG.out.box 5; have hc6 : wl.cell? ⟨w.heap.size, 6, none⟩ = some (.bool a0_6) := blk_cell HG.out.box 6) | (go_at_call 36; (with_reducible refine (tompionref04_any.calls k 2 a0_2 u _ A2.out).mono ?_); rintro e wa ⟨rfl, hb⟩; have n0_ : Aside0 (RTextG w w.heap.size w2.heap.size a0_0 a0_1 a0_2 a0_3 a0_4 true a0_6 a0_7 _) := ⟨by first | exact HG.out.below hb | exact (HG.out.drewN _).below hb⟩; clear HG; have HG := n0_; clear n0_ hb))
            go_ret
            exact ⟨rfl, HG.out.bel⟩
          · rw [if_neg hu] at H
            have cu := toList_not_emp hu
            by_cases hs : u.size ≤ 100000
            case neg => rw [if_neg hs] at H; cases H
            rw [if_pos hs] at H
            have H' := Aside0.mk H
            have hl := HL.out
            have s0 : out.size + 1 ≤ 9223372036854775807 := by omega
            have s2 : out.size + 1 + u.size ≤ 9223372036854775807 := by omega
            have s1 := eq_true s0
            have s1' := eq_false (show ¬ 9223372036854775807 < out.size + 1 by omega)
            have s3 : ((out ++ (⟨#[32]⟩ : ByteArray)).size + u.size ≤ 9223372036854775807) = True := eq_true (by rw [ByteArray.size_append]; exact s2)
            have s4 : (9223372036854775807 < (out ++ (⟨#[32]⟩ : ByteArray)).size + u.size) = False := eq_false (by rw [ByteArray.size_append]; exact (show ¬ 9223372036854775807 < out.size + 1 + u.size by omega))
            have s5 := eq_false (show ¬ 9223372036854775807 < out.size + 1 + u.size by omega)
            have HS : Aside0 (((((out ++ (⟨#[32]⟩ : ByteArray)) ++ u).size : Nat) : Int) ≤ 100001 * 3) := ⟨by rw [ByteArray.size_append, ByteArray.size_append]; show ((out.size + 1 + u.size : Nat) : Int) ≤ _; omega⟩
            clear H hu hs hl s0
            go_wp2_with (first | (go_at_call 35; (with_reducible refine (tompionref04_list.calls k a0_2 t _ A1.out).mono ?_); rintro e wl ⟨rfl, hb⟩; have n0_ := Aside0.mk (HG.out.below hb); clear HG; have HG := n0_; clear n0_ hb; have hcb : wl.cell? ⟨w2.heap.size, 2, none⟩ = some (.int .u64 a0_2) := blk_cell HG.out.arr 2; have hc5 : wl.cell? ⟨w.heap.size, 5, none⟩ = some (.bool true) := blk_cell HG.out.box 5; have hc6 : wl.cell? ⟨w.heap.size, 6, none⟩ = some (.bool a0_6) := blk_cell HG.out.box 6) | (go_at_call 36; (with_reducible refine (tompionref04_any.calls k 2 a0_2 u _ A2.out).mono ?_); rintro e wa ⟨rfl, hb⟩; have n0_ : Aside0 (RTextG w w.heap.size w2.heap.size a0_0 a0_1 a0_2 a0_3 a0_4 true a0_6 a0_7 _) := ⟨by first | exact HG.out.below hb | exact (HG.out.drewN _).below hb⟩; clear HG; have HG := n0_; clear n0_ hb))
            go_roundw
            case rel => exact ⟨3, (out ++ (⟨#[32]⟩ : ByteArray)) ++ u, by decide, by decide, rfl, rfl, H', HS, ⟨HG.out⟩⟩
            case measure => simp [intOf]
        | false =>
          rw [if_neg (by decide), Option.bind_some] at H
          obtain ⟨u, hu'⟩ : ∃ u, u = t := ⟨_, rfl⟩
          rw [← hu'] at H
          subst hu'
          have hc : _ = some (Value.int .u64 a0_2) := blk_cell HG.out.arr 2
          by_cases hu : u = (⟨#[]⟩ : ByteArray)
          · rw [if_pos hu] at H
            obtain rfl := Option.some.inj H
            have cu := toList_emp hu
            clear H
            go_wp2_with (first | (go_at_call 35; (with_reducible refine (tompionref04_list.calls k a0_2 u _ A1.out).mono ?_); rintro e wl ⟨rfl, hb⟩; have n0_ := Aside0.mk (HG.out.below hb); clear HG; have HG := n0_; clear n0_ hb; have hcb : wl.cell? ⟨w2.heap.size, 2, none⟩ = some (.int .u64 a0_2) := blk_cell HG.out.arr 2; have hc5 : wl.cell? ⟨w.heap.size, 5, none⟩ = some (.bool false) := blk_cell HG.out.box 5; have hc6 : wl.cell? ⟨w.heap.size, 6, none⟩ = some (.bool a0_6) := blk_cell HG.out.box 6))
            go_ret
            exact ⟨rfl, HG.out.bel⟩
          · rw [if_neg hu] at H
            have cu := toList_not_emp hu
            by_cases hs : u.size ≤ 100000
            case neg => rw [if_neg hs] at H; cases H
            rw [if_pos hs] at H
            have H' := Aside0.mk H
            have hl := HL.out
            have s0 : out.size + 1 ≤ 9223372036854775807 := by omega
            have s2 : out.size + 1 + u.size ≤ 9223372036854775807 := by omega
            have s1 := eq_true s0
            have s1' := eq_false (show ¬ 9223372036854775807 < out.size + 1 by omega)
            have s3 : ((out ++ (⟨#[32]⟩ : ByteArray)).size + u.size ≤ 9223372036854775807) = True := eq_true (by rw [ByteArray.size_append]; exact s2)
            have s4 : (9223372036854775807 < (out ++ (⟨#[32]⟩ : ByteArray)).size + u.size) = False := eq_false (by rw [ByteArray.size_append]; exact (show ¬ 9223372036854775807 < out.size + 1 + u.size by omega))
            have s5 := eq_false (show ¬ 9223372036854775807 < out.size + 1 + u.size by omega)
            have HS : Aside0 (((((out ++ (⟨#[32]⟩ : ByteArray)) ++ u).size : Nat) : Int) ≤ 100001 * 3) := ⟨by rw [ByteArray.size_append, ByteArray.size_append]; show ((out.size + 1 + u.size : Nat) : Int) ≤ _; omega⟩
            clear H hu hs hl s0
            go_wp2_with (first | (go_at_call 35; (with_reducible refine (tompionref04_list.calls k a0_2 u _ A1.out).mono ?_); rintro e wl ⟨rfl, hb⟩; have n0_ := Aside0.mk (HG.out.below hb); clear HG; have HG := n0_; clear n0_ hb; have hcb : wl.cell? ⟨w2.heap.size, 2, none⟩ = some (.int .u64 a0_2) := blk_cell HG.out.arr 2; have hc5 : wl.cell? ⟨w.heap.size, 5, none⟩ = some (.bool false) := blk_cell HG.out.box 5; have hc6 : wl.cell? ⟨w.heap.size, 6, none⟩ = some (.bool a0_6) := blk_cell HG.out.box 6))
            go_roundw
            case rel => exact ⟨3, (out ++ (⟨#[32]⟩ : ByteArray)) ++ u, by decide, by decide, rfl, rfl, H', HS, ⟨HG.out⟩⟩
            case measure => simp [intOf]
      · have H : rtextR3 k a0_0 a0_1 a0_2 a0_3 a0_4 a0_5 a0_6 a0_7 out = some r := HA.out
        clear HA
        unfold rtextR3 wordR at H
        rw [Option.bind_assoc] at H
        obtain ⟨t, A1, H⟩ := Option.bind_eq_some_iff.mp H
        have A1 := Aside0.mk A1
        rw [if_neg (by decide), Option.bind_some] at H
        obtain ⟨u, hu'⟩ : ∃ u, u = t := ⟨_, rfl⟩
        rw [← hu'] at H
        subst hu'
        have hc : _ = some (Value.int .u64 a0_3) := blk_cell HG.out.arr 3
        by_cases hu : u = (⟨#[]⟩ : ByteArray)
        · rw [if_pos hu] at H
          obtain rfl := Option.some.inj H
          have cu := toList_emp hu
          clear H
          go_wp2_with (first | (go_at_call 35; (with_reducible refine (tompionref04_list.calls k a0_3 u _ A1.out).mono ?_); rintro e wl ⟨rfl, hb⟩; have n0_ := Aside0.mk (HG.out.below hb); clear HG; have HG := n0_; clear n0_ hb; have hcb : wl.cell? ⟨w2.heap.size, 3, none⟩ = some (.int .u64 a0_3) := blk_cell HG.out.arr 3; have hc5 : wl.cell? ⟨w.heap.size, 5, none⟩ = some (.bool a0_5) := blk_cell HG.out.box 5; have hc6 : wl.cell? ⟨w.heap.size, 6, none⟩ = some (.bool a0_6) := blk_cell HG.out.box 6))
          go_ret
          exact ⟨rfl, HG.out.bel⟩
        · rw [if_neg hu] at H
          have cu := toList_not_emp hu
          by_cases hs : u.size ≤ 100000
          case neg => rw [if_neg hs] at H; cases H
          rw [if_pos hs] at H
          have H' := Aside0.mk H
          have hl := HL.out
          have s0 : out.size + 1 ≤ 9223372036854775807 := by omega
          have s2 : out.size + 1 + u.size ≤ 9223372036854775807 := by omega
          have s1 := eq_true s0
          have s1' := eq_false (show ¬ 9223372036854775807 < out.size + 1 by omega)
          have s3 : ((out ++ (⟨#[32]⟩ : ByteArray)).size + u.size ≤ 9223372036854775807) = True := eq_true (by rw [ByteArray.size_append]; exact s2)
          have s4 : (9223372036854775807 < (out ++ (⟨#[32]⟩ : ByteArray)).size + u.size) = False := eq_false (by rw [ByteArray.size_append]; exact (show ¬ 9223372036854775807 < out.size + 1 + u.size by omega))
          have s5 := eq_false (show ¬ 9223372036854775807 < out.size + 1 + u.size by omega)
          have HS : Aside0 (((((out ++ (⟨#[32]⟩ : ByteArray)) ++ u).size : Nat) : Int) ≤ 100001 * 4) := ⟨by rw [ByteArray.size_append, ByteArray.size_append]; show ((out.size + 1 + u.size : Nat) : Int) ≤ _; omega⟩
          clear H hu hs hl s0
          go_wp2_with (first | (go_at_call 35; (with_reducible refine (tompionref04_list.calls k a0_3 u _ A1.out).mono ?_); rintro e wl ⟨rfl, hb⟩; have n0_ := Aside0.mk (HG.out.below hb); clear HG; have HG := n0_; clear n0_ hb; have hcb : wl.cell? ⟨w2.heap.size, 3, none⟩ = some (.int .u64 a0_3) := blk_cell HG.out.arr 3; have hc5 : wl.cell? ⟨w.heap.size, 5, none⟩ = some (.bool a0_5) := blk_cell HG.out.box 5; have hc6 : wl.cell? ⟨w.heap.size, 6, none⟩ = some (.bool a0_6) := blk_cell HG.out.box 6))
          go_roundw
          case rel => exact ⟨4, (out ++ (⟨#[32]⟩ : ByteArray)) ++ u, by decide, by decide, rfl, rfl, H', HS, ⟨HG.out⟩⟩
          case measure => simp [intOf]
      · have H : rtextR4 k a0_0 a0_1 a0_2 a0_3 a0_4 a0_5 a0_6 a0_7 out = some r := HA.out
        clear HA
        unfold rtextR4 wordR at H
        rw [Option.bind_assoc] at H
        obtain ⟨t, A1, H⟩ := Option.bind_eq_some_iff.mp H
        have A1 := Aside0.mk A1
        cases a0_6 with
        | true =>
          rw [if_pos rfl] at H
          obtain ⟨u, A2, H⟩ := Option.bind_eq_some_iff.mp H
          have A2 := Aside0.mk A2
          have hc : _ = some (Value.int .u64 a0_4) := blk_cell HG.out.arr 4
          by_cases hu : u = (⟨#[]⟩ : ByteArray)
          · rw [if_pos hu] at H
            obtain rfl := Option.some.inj H
            have cu := toList_emp hu
            clear H
            go_wp2_with (first | (go_at_call 35; (with_reducible refine (tompionref04_list.calls k a0_4 t _ A1.out).mono ?_); rintro e wl ⟨rfl, hb⟩; have n0_ := Aside0.mk (HG.out.below hb); clear HG; have HG := n0_; clear n0_ hb; have hcb : wl.cell? ⟨w2.heap.size, 4, none⟩ = some (.int .u64 a0_4) := blk_cell HG.out.arr 4; have hc5 : wl.cell? ⟨w.heap.size, 5, none⟩ = some (.bool a0_5) := blk_cell HG.out.box 5; have hc6 : wl.cell? ⟨w.heap.size, 6, none⟩ = some (.bool true) := blk_cell HG.out.box 6) | (go_at_call 36; (with_reducible refine (tompionref04_any.calls k 4 a0_4 u _ A2.out).mono ?_); rintro e wa ⟨rfl, hb⟩; have n0_ : Aside0 (RTextG w w.heap.size w2.heap.size a0_0 a0_1 a0_2 a0_3 a0_4 a0_5 true a0_7 _) := ⟨by first | exact HG.out.below hb | exact (HG.out.drewN _).below hb⟩; clear HG; have HG := n0_; clear n0_ hb))
            go_ret
            exact ⟨rfl, HG.out.bel⟩
          · rw [if_neg hu] at H
            have cu := toList_not_emp hu
            by_cases hs : u.size ≤ 100000
            case neg => rw [if_neg hs] at H; cases H
            rw [if_pos hs] at H
            have H' := Aside0.mk H
            have hl := HL.out
            have s0 : out.size + 1 ≤ 9223372036854775807 := by omega
            have s2 : out.size + 1 + u.size ≤ 9223372036854775807 := by omega
            have s1 := eq_true s0
            have s1' := eq_false (show ¬ 9223372036854775807 < out.size + 1 by omega)
            have s3 : ((out ++ (⟨#[32]⟩ : ByteArray)).size + u.size ≤ 9223372036854775807) = True := eq_true (by rw [ByteArray.size_append]; exact s2)
            have s4 : (9223372036854775807 < (out ++ (⟨#[32]⟩ : ByteArray)).size + u.size) = False := eq_false (by rw [ByteArray.size_append]; exact (show ¬ 9223372036854775807 < out.size + 1 + u.size by omega))
            have s5 := eq_false (show ¬ 9223372036854775807 < out.size + 1 + u.size by omega)
            have HS : Aside0 (((((out ++ (⟨#[32]⟩ : ByteArray)) ++ u).size : Nat) : Int) ≤ 100001 * 5) := ⟨by rw [ByteArray.size_append, ByteArray.size_append]; show ((out.size + 1 + u.size : Nat) : Int) ≤ _; omega⟩
            clear H hu hs hl s0
            go_wp2_with (first | (go_at_call 35; (with_reducible refine (tompionref04_list.calls k a0_4 t _ A1.out).mono ?_); rintro e wl ⟨rfl, hb⟩; have n0_ := Aside0.mk (HG.out.below hb); clear HG; have HG := n0_; clear n0_ hb; have hcb : wl.cell? ⟨w2.heap.size, 4, none⟩ = some (.int .u64 a0_4) := blk_cell HG.out.arr 4; have hc5 : wl.cell? ⟨w.heap.size, 5, none⟩ = some (.bool a0_5) := blk_cell HG.out.box 5; have hc6 : wl.cell? ⟨w.heap.size, 6, none⟩ = some (.bool true) := blk_cell HG.out.box 6) | (go_at_call 36; (with_reducible refine (tompionref04_any.calls k 4 a0_4 u _ A2.out).mono ?_); rintro e wa ⟨rfl, hb⟩; have n0_ : Aside0 (RTextG w w.heap.size w2.heap.size a0_0 a0_1 a0_2 a0_3 a0_4 a0_5 true a0_7 _) := ⟨by first | exact HG.out.below hb | exact (HG.out.drewN _).below hb⟩; clear HG; have HG := n0_; clear n0_ hb))
            go_roundw
            case rel => exact ⟨5, (out ++ (⟨#[32]⟩ : ByteArray)) ++ u, by decide, by decide, rfl, rfl, H', HS, ⟨HG.out⟩⟩
            case measure => simp [intOf]
        | false =>
          rw [if_neg (by decide), Option.bind_some] at H
          obtain ⟨u, hu'⟩ : ∃ u, u = t := ⟨_, rfl⟩
          rw [← hu'] at H
          subst hu'
          have hc : _ = some (Value.int .u64 a0_4) := blk_cell HG.out.arr 4
          by_cases hu : u = (⟨#[]⟩ : ByteArray)
          · rw [if_pos hu] at H
            obtain rfl := Option.some.inj H
            have cu := toList_emp hu
            clear H
            go_wp2_with (first | (go_at_call 35; (with_reducible refine (tompionref04_list.calls k a0_4 u _ A1.out).mono ?_); rintro e wl ⟨rfl, hb⟩; have n0_ := Aside0.mk (HG.out.below hb); clear HG; have HG := n0_; clear n0_ hb; have hcb : wl.cell? ⟨w2.heap.size, 4, none⟩ = some (.int .u64 a0_4) := blk_cell HG.out.arr 4; have hc5 : wl.cell? ⟨w.heap.size, 5, none⟩ = some (.bool a0_5) := blk_cell HG.out.box 5; have hc6 : wl.cell? ⟨w.heap.size, 6, none⟩ = some (.bool false) := blk_cell HG.out.box 6))
            go_ret
            exact ⟨rfl, HG.out.bel⟩
          · rw [if_neg hu] at H
            have cu := toList_not_emp hu
            by_cases hs : u.size ≤ 100000
            case neg => rw [if_neg hs] at H; cases H
            rw [if_pos hs] at H
            have H' := Aside0.mk H
            have hl := HL.out
            have s0 : out.size + 1 ≤ 9223372036854775807 := by omega
            have s2 : out.size + 1 + u.size ≤ 9223372036854775807 := by omega
            have s1 := eq_true s0
            have s1' := eq_false (show ¬ 9223372036854775807 < out.size + 1 by omega)
            have s3 : ((out ++ (⟨#[32]⟩ : ByteArray)).size + u.size ≤ 9223372036854775807) = True := eq_true (by rw [ByteArray.size_append]; exact s2)
            have s4 : (9223372036854775807 < (out ++ (⟨#[32]⟩ : ByteArray)).size + u.size) = False := eq_false (by rw [ByteArray.size_append]; exact (show ¬ 9223372036854775807 < out.size + 1 + u.size by omega))
            have s5 := eq_false (show ¬ 9223372036854775807 < out.size + 1 + u.size by omega)
            have HS : Aside0 (((((out ++ (⟨#[32]⟩ : ByteArray)) ++ u).size : Nat) : Int) ≤ 100001 * 5) := ⟨by rw [ByteArray.size_append, ByteArray.size_append]; show ((out.size + 1 + u.size : Nat) : Int) ≤ _; omega⟩
            clear H hu hs hl s0
            go_wp2_with (first | (go_at_call 35; (with_reducible refine (tompionref04_list.calls k a0_4 u _ A1.out).mono ?_); rintro e wl ⟨rfl, hb⟩; have n0_ := Aside0.mk (HG.out.below hb); clear HG; have HG := n0_; clear n0_ hb; have hcb : wl.cell? ⟨w2.heap.size, 4, none⟩ = some (.int .u64 a0_4) := blk_cell HG.out.arr 4; have hc5 : wl.cell? ⟨w.heap.size, 5, none⟩ = some (.bool a0_5) := blk_cell HG.out.box 5; have hc6 : wl.cell? ⟨w.heap.size, 6, none⟩ = some (.bool false) := blk_cell HG.out.box 6))
            go_roundw
            case rel => exact ⟨5, (out ++ (⟨#[32]⟩ : ByteArray)) ++ u, by decide, by decide, rfl, rfl, H', HS, ⟨HG.out⟩⟩
            case measure => simp [intOf]
      · have H : rtextEnd a0_7 out = some r := HA.out
        clear HA
        have hc7 : _ = some (Value.int .i64 a0_7) := blk_cell HG.out.box 7
        obtain ⟨b1, b2⟩ := HBd.out
        have hneg : wrap64 (-a0_7) = -a0_7 := wrap_neg b1 b2
        unfold rtextEnd at H
        by_cases h1 : a0_7 > 0
        · rw [if_pos h1] at H
          obtain ⟨hh, A1, hhs⟩ := rtwo_some (Int.tdiv (a0_7) 60)
          obtain ⟨mm, A2, mms⟩ := rtwo_some (Int.tmod (a0_7) 60)
          rw [A1, Option.bind_some, A2, Option.bind_some] at H
          have A1 := Aside0.mk A1
          have A2 := Aside0.mk A2
          obtain rfl := Option.some.inj H
          clear H
          have Q1 : Aside0 (wrap64 (Int.tdiv (a0_7) 60) = Int.tdiv (a0_7) 60) := ⟨wrap_tdiv (by omega) (by omega)⟩
          have hl := HL.out
          have s1 := eq_true (show 2 + hh.size ≤ 9223372036854775807 by omega)
          have s2 := eq_false (show ¬ 9223372036854775807 < 2 + hh.size by omega)
          have s3 := eq_true (show 2 + hh.size + mm.size ≤ 9223372036854775807 by omega)
          have s4 := eq_false (show ¬ 9223372036854775807 < 2 + hh.size + mm.size by omega)
          have s5 : (((⟨#[32, 43]⟩ : ByteArray) ++ hh).size + mm.size ≤ 9223372036854775807) = True := eq_true (by rw [ByteArray.size_append]; exact (show 2 + hh.size + mm.size ≤ 9223372036854775807 by omega))
          have s6 : (9223372036854775807 < ((⟨#[32, 43]⟩ : ByteArray) ++ hh).size + mm.size) = False := eq_false (by rw [ByteArray.size_append]; exact (show ¬ 9223372036854775807 < 2 + hh.size + mm.size by omega))
          have s7 : out.size + (((⟨#[32, 43]⟩ : ByteArray) ++ hh) ++ mm).size ≤ 9223372036854775807 := by rw [ByteArray.size_append, ByteArray.size_append]; exact (show out.size + (2 + hh.size + mm.size) ≤ 9223372036854775807 by omega)
          have s8 := eq_true s7
          have s9 := eq_false (Nat.not_lt.mpr s7)
          have s10 : (out.size + (2 + hh.size + mm.size) ≤ 9223372036854775807) = True := eq_true (by omega)
          have s11 : (9223372036854775807 < out.size + (2 + hh.size + mm.size)) = False := eq_false (by omega)
          clear hhs mms hl s7
          go_wp2_with (first | (go_at_call 37; (with_reducible refine (tompionref04_two.calls _ hh _ ?cl).mono ?_); (case cl => first | exact A1.out | (rw [Q1.out]; exact A1.out) | (rw [← Int.neg_tdiv, Q1.out]; exact A1.out) | (rw [← Int.neg_tmod]; exact A1.out) | (rw [← Int.tdiv_eq_ediv_of_nonneg (by omega)]; exact A1.out) | (rw [← Int.tmod_eq_emod_of_nonneg (by omega)]; exact A1.out)); rintro e wt ⟨rfl, hb⟩; have n0_ : Aside0 (RTextG w w.heap.size w2.heap.size a0_0 a0_1 a0_2 a0_3 a0_4 a0_5 a0_6 a0_7 _) := ⟨by first | exact HG.out.below hb | exact (HG.out.drewN _).below hb⟩; clear HG; have HG := n0_; clear n0_ hb) | (go_at_call 37; (with_reducible refine (tompionref04_two.calls _ mm _ ?cl).mono ?_); (case cl => first | exact A2.out | (rw [Q1.out]; exact A2.out) | (rw [← Int.neg_tdiv, Q1.out]; exact A2.out) | (rw [← Int.neg_tmod]; exact A2.out) | (rw [← Int.tdiv_eq_ediv_of_nonneg (by omega)]; exact A2.out) | (rw [← Int.tmod_eq_emod_of_nonneg (by omega)]; exact A2.out)); rintro e wt ⟨rfl, hb⟩; have n0_ : Aside0 (RTextG w w.heap.size w2.heap.size a0_0 a0_1 a0_2 a0_3 a0_4 a0_5 a0_6 a0_7 _) := ⟨by first | exact HG.out.below hb | exact (HG.out.drewN _).below hb⟩; clear HG; have HG := n0_; clear n0_ hb))
          go_ret
          exact ⟨rfl, HG.out.bel⟩
        · rw [if_neg h1] at H
          by_cases h2 : a0_7 < 0
          · rw [if_pos h2] at H
            obtain ⟨hh, A1, hhs⟩ := rtwo_some (Int.tdiv (-a0_7) 60)
            obtain ⟨mm, A2, mms⟩ := rtwo_some (Int.tmod (-a0_7) 60)
            rw [A1, Option.bind_some, A2, Option.bind_some] at H
            have A1 := Aside0.mk A1
            have A2 := Aside0.mk A2
            obtain rfl := Option.some.inj H
            clear H
            have Q1 : Aside0 (wrap64 (Int.tdiv (-a0_7) 60) = Int.tdiv (-a0_7) 60) := ⟨wrap_tdiv (by omega) (by omega)⟩
            have hl := HL.out
            have s1 := eq_true (show 2 + hh.size ≤ 9223372036854775807 by omega)
            have s2 := eq_false (show ¬ 9223372036854775807 < 2 + hh.size by omega)
            have s3 := eq_true (show 2 + hh.size + mm.size ≤ 9223372036854775807 by omega)
            have s4 := eq_false (show ¬ 9223372036854775807 < 2 + hh.size + mm.size by omega)
            have s5 : (((⟨#[32, 45]⟩ : ByteArray) ++ hh).size + mm.size ≤ 9223372036854775807) = True := eq_true (by rw [ByteArray.size_append]; exact (show 2 + hh.size + mm.size ≤ 9223372036854775807 by omega))
            have s6 : (9223372036854775807 < ((⟨#[32, 45]⟩ : ByteArray) ++ hh).size + mm.size) = False := eq_false (by rw [ByteArray.size_append]; exact (show ¬ 9223372036854775807 < 2 + hh.size + mm.size by omega))
            have s7 : out.size + (((⟨#[32, 45]⟩ : ByteArray) ++ hh) ++ mm).size ≤ 9223372036854775807 := by rw [ByteArray.size_append, ByteArray.size_append]; exact (show out.size + (2 + hh.size + mm.size) ≤ 9223372036854775807 by omega)
            have s8 := eq_true s7
            have s9 := eq_false (Nat.not_lt.mpr s7)
            have s10 : (out.size + (2 + hh.size + mm.size) ≤ 9223372036854775807) = True := eq_true (by omega)
            have s11 : (9223372036854775807 < out.size + (2 + hh.size + mm.size)) = False := eq_false (by omega)
            clear hhs mms hl s7
            go_wp2_with (first | (go_at_call 37; (with_reducible refine (tompionref04_two.calls _ hh _ ?cl).mono ?_); (case cl => first | exact A1.out | (rw [Q1.out]; exact A1.out) | (rw [← Int.neg_tdiv, Q1.out]; exact A1.out) | (rw [← Int.neg_tmod]; exact A1.out) | (rw [← Int.tdiv_eq_ediv_of_nonneg (by omega)]; exact A1.out) | (rw [← Int.tmod_eq_emod_of_nonneg (by omega)]; exact A1.out)); rintro e wt ⟨rfl, hb⟩; have n0_ : Aside0 (RTextG w w.heap.size w2.heap.size a0_0 a0_1 a0_2 a0_3 a0_4 a0_5 a0_6 a0_7 _) := ⟨by first | exact HG.out.below hb | exact (HG.out.drewN _).below hb⟩; clear HG; have HG := n0_; clear n0_ hb) | (go_at_call 37; (with_reducible refine (tompionref04_two.calls _ mm _ ?cl).mono ?_); (case cl => first | exact A2.out | (rw [Q1.out]; exact A2.out) | (rw [← Int.neg_tdiv, Q1.out]; exact A2.out) | (rw [← Int.neg_tmod]; exact A2.out) | (rw [← Int.tdiv_eq_ediv_of_nonneg (by omega)]; exact A2.out) | (rw [← Int.tmod_eq_emod_of_nonneg (by omega)]; exact A2.out)); rintro e wt ⟨rfl, hb⟩; have n0_ : Aside0 (RTextG w w.heap.size w2.heap.size a0_0 a0_1 a0_2 a0_3 a0_4 a0_5 a0_6 a0_7 _) := ⟨by first | exact HG.out.below hb | exact (HG.out.drewN _).below hb⟩; clear HG; have HG := n0_; clear n0_ hb))
            go_ret
            exact ⟨rfl, HG.out.bel⟩
          · rw [if_neg h2] at H
            have h3 : a0_7 = 0 := by omega
            obtain rfl := Option.some.inj H
            clear H
            subst h3
            go_wp2
            go_ret
            exact ⟨rfl, HG.out.bel⟩

/-! ### cron_Parse: function 11 (given by hand) -/
/-- A word of a list. -/
def wdN (l : List ByteArray) (j : Nat) : ByteArray := l.getD j (⟨#[]⟩ : ByteArray)
/-- What a text says that says no times. -/
def parseBad : (Int × Int × Int × Int × Int × Bool × Bool × Int × Int) := (0, 0, 0, 0, 0, false, false, 0, 7)
/-- Behind the five fields. -/
def parseR5 (k : Nat) (l : List ByteArray) (y0 y1 y2 y3 y4 : Int) : Option (Int × Int × Int × Int × Int × Bool × Bool × Int × Int) := if 0 < (wdN l 2).size then (if 0 < (wdN l 4).size then (if 5 < l.length then ((cron_ahead.f k (wdN l 5)).bind fun n => (if n.2 = true then (some (y0, y1, y2, y3, y4, (bt (wdN l 2) 0) == 42, (bt (wdN l 4) 0) == 42, n.1, 0)) else (some parseBad))) else (some (y0, y1, y2, y3, y4, (bt (wdN l 2) 0) == 42, (bt (wdN l 4) 0) == 42, 0, 0))) else none) else none
def parseR4 (k : Nat) (l : List ByteArray) (y0 y1 y2 y3 : Int) : Option (Int × Int × Int × Int × Int × Bool × Bool × Int × Int) := (cron_field.f k 4 (wdN l 4)).bind fun n => (if n.2 = true then (parseR5 k l y0 y1 y2 y3 n.1) else (some parseBad))
def parseR3 (k : Nat) (l : List ByteArray) (y0 y1 y2 : Int) : Option (Int × Int × Int × Int × Int × Bool × Bool × Int × Int) := (cron_field.f k 3 (wdN l 3)).bind fun n => (if n.2 = true then (parseR4 k l y0 y1 y2 n.1) else (some parseBad))
def parseR2 (k : Nat) (l : List ByteArray) (y0 y1 : Int) : Option (Int × Int × Int × Int × Int × Bool × Bool × Int × Int) := (cron_field.f k 2 (wdN l 2)).bind fun n => (if n.2 = true then (parseR3 k l y0 y1 n.1) else (some parseBad))
def parseR1 (k : Nat) (l : List ByteArray) (y0 : Int) : Option (Int × Int × Int × Int × Int × Bool × Bool × Int × Int) := (cron_field.f k 1 (wdN l 1)).bind fun n => (if n.2 = true then (parseR2 k l y0 n.1) else (some parseBad))
def parseR0 (k : Nat) (l : List ByteArray) : Option (Int × Int × Int × Int × Int × Bool × Bool × Int × Int) := (cron_field.f k 0 (wdN l 0)).bind fun n => (if n.2 = true then (parseR1 k l n.1) else (some parseBad))
def cron_Parse.f (k : Nat) (a0 : ByteArray) : Option (Int × Int × Int × Int × Int × Bool × Bool × Int × Int) := (cron_words.f a0).bind fun l => (if (a0.size : Int) > 256 then (some parseBad) else (if (l.length : Int) < 5 then (some parseBad) else (if (l.length : Int) > 6 then (some parseBad) else (parseR0 k l))))
theorem parseR5_mono : ∀ l y0 y1 y2 y3 y4 k, LeO (parseR5 k l y0 y1 y2 y3 y4) (parseR5 (k + 1) l y0 y1 y2 y3 y4) := by
  intro l y0 y1 y2 y3 y4 k
  unfold parseR5
  exact LeO.ite (LeO.ite (LeO.ite (LeO.bind (cron_ahead.mono _ _) fun _ => LeO.refl _) (LeO.refl _)) (LeO.refl _)) (LeO.refl _)
theorem cron_Parse.mono : ∀ a0 k, LeO (cron_Parse.f k a0) (cron_Parse.f (k + 1) a0) := by
  intro a0 k
  unfold cron_Parse.f parseR0 parseR1 parseR2 parseR3 parseR4
  exact LeO.bind (LeO.refl _) fun _ => LeO.ite (LeO.refl _) (LeO.ite (LeO.refl _) (LeO.ite (LeO.refl _) (LeO.bind (cron_field.mono _ _ _) fun _ => LeO.ite (LeO.bind (cron_field.mono _ _ _) fun _ => LeO.ite (LeO.bind (cron_field.mono _ _ _) fun _ => LeO.ite (LeO.bind (cron_field.mono _ _ _) fun _ => LeO.ite (LeO.bind (cron_field.mono _ _ _) fun _ => LeO.ite (parseR5_mono _ _ _ _ _ _ _) (LeO.refl _)) (LeO.refl _)) (LeO.refl _)) (LeO.refl _)) (LeO.refl _))))
/-- A row of words, read in every world that has its block. -/
theorem row_cells {w : World} {base : Nat} {v : Value} {l : List ByteArray} (h : Kd.R Kd.string 9 w base (fun _ => True) v l) (hn : 0 < l.length) :
    ∃ b c obj, v = .slice (some ⟨b, 0, none⟩) l.length c ∧ l.length ≤ c ∧ base ≤ b ∧ b < w.heap.size ∧ w.heap[b]? = some obj ∧ ∀ W' : World, W'.heap[b]? = some obj → ∀ j, j < l.length → W'.cell? ⟨b, j, none⟩ = some (.string (wdN l j)) := by
  obtain ⟨inner, ho⟩ := Kd.R_own h
  rcases ho.2 with ⟨_, h0⟩ | ⟨g, cap, cur, rfl, hg, hc, hl, _⟩
  · omega
  · refine ⟨g, cap, _, rfl, hl, hg, blk_lt hc, hc, fun W' hW j hj => ?_⟩
    have hr := (Kd.reads_of_C (enc := Value.string) (d := (⟨#[]⟩ : ByteArray)) (h1 := fun _ => rfl) (Kd.R_reads' h).2.2).2.2 hn
    obtain ⟨ad, e, hcell⟩ := hr
    obtain rfl : ad = ⟨g, 0, none⟩ := (Option.some.inj e).symm
    have := hcell j hj
    rw [show Addr.add ⟨g, 0, none⟩ j = ⟨g, j, none⟩ from by unfold Addr.add; split <;> simp_all] at this
    rw [← World.cell?_of_block (w := W') (w' := w) (a := ⟨g, j, none⟩) (hc.trans hW.symm)]
    exact this
/-- What is told of the world inside the loop. -/
structure ParseG (w : World) (g b q : Nat) (RO : Obj) (y0 y1 y2 y3 y4 : Int) (W : World) : Prop where
  box : W.heap[g]? = some (.cells #[.int .u64 y0, .int .u64 y1, .int .u64 y2, .int .u64 y3, .int .u64 y4, .bool false, .bool false, .int .i64 0] 25 (0, 0))
  row : W.heap[b]? = some RO
  ptr : W.heap[q]? = some (.cells #[.pointer (some ⟨g, 0, none⟩), .pointer (some ⟨g, 1, none⟩), .pointer (some ⟨g, 2, none⟩), .pointer (some ⟨g, 3, none⟩), .pointer (some ⟨g, 4, none⟩)] 43 (0, 0))
  bel : Below w.heap.size w W
theorem ParseG.below {w : World} {g b q : Nat} {RO : Obj} {y0 y1 y2 y3 y4 : Int} {W W' : World} (h : ParseG w g b q RO y0 y1 y2 y3 y4 W) (hb : Below W.heap.size W W') : ParseG w g b q RO y0 y1 y2 y3 y4 W' :=
  ⟨(hb.block _ (blk_lt h.box)).trans h.box, (hb.block _ (blk_lt h.row)).trans h.row, (hb.block _ (blk_lt h.ptr)).trans h.ptr, h.bel.trans (hb.mono h.bel.size)⟩
def parseR (k : Nat) (l : List ByteArray) (j : Nat) (y0 y1 y2 y3 y4 : Int) : Option (Int × Int × Int × Int × Int × Bool × Bool × Int × Int) := match j with
  | 0 => parseR0 k l
  | 1 => parseR1 k l y0
  | 2 => parseR2 k l y0 y1
  | 3 => parseR3 k l y0 y1 y2
  | 4 => parseR4 k l y0 y1 y2 y3
  | _ => parseR5 k l y0 y1 y2 y3 y4
theorem ParseG.set0 {w : World} {g b q : Nat} {RO : Obj} {y0 y1 y2 y3 y4 : Int} {W : World} (h : ParseG w g b q RO y0 y1 y2 y3 y4 W) (hb : b ≠ g) (hq : q ≠ g) (hg : w.heap.size ≤ g) (n : Int) : ParseG w g b q RO n y1 y2 y3 y4 (W.setCell ⟨g, 0, none⟩ (.int .u64 n)) := ⟨(blk_set h.box 0 _).trans rfl, (Below.heap_setCell _ _ _ _ hb).trans h.row, (Below.heap_setCell _ _ _ _ hq).trans h.ptr, h.bel.setCell hg _⟩
theorem ParseG.set1 {w : World} {g b q : Nat} {RO : Obj} {y0 y1 y2 y3 y4 : Int} {W : World} (h : ParseG w g b q RO y0 y1 y2 y3 y4 W) (hb : b ≠ g) (hq : q ≠ g) (hg : w.heap.size ≤ g) (n : Int) : ParseG w g b q RO y0 n y2 y3 y4 (W.setCell ⟨g, 1, none⟩ (.int .u64 n)) := ⟨(blk_set h.box 1 _).trans rfl, (Below.heap_setCell _ _ _ _ hb).trans h.row, (Below.heap_setCell _ _ _ _ hq).trans h.ptr, h.bel.setCell hg _⟩
theorem ParseG.set2 {w : World} {g b q : Nat} {RO : Obj} {y0 y1 y2 y3 y4 : Int} {W : World} (h : ParseG w g b q RO y0 y1 y2 y3 y4 W) (hb : b ≠ g) (hq : q ≠ g) (hg : w.heap.size ≤ g) (n : Int) : ParseG w g b q RO y0 y1 n y3 y4 (W.setCell ⟨g, 2, none⟩ (.int .u64 n)) := ⟨(blk_set h.box 2 _).trans rfl, (Below.heap_setCell _ _ _ _ hb).trans h.row, (Below.heap_setCell _ _ _ _ hq).trans h.ptr, h.bel.setCell hg _⟩
theorem ParseG.set3 {w : World} {g b q : Nat} {RO : Obj} {y0 y1 y2 y3 y4 : Int} {W : World} (h : ParseG w g b q RO y0 y1 y2 y3 y4 W) (hb : b ≠ g) (hq : q ≠ g) (hg : w.heap.size ≤ g) (n : Int) : ParseG w g b q RO y0 y1 y2 n y4 (W.setCell ⟨g, 3, none⟩ (.int .u64 n)) := ⟨(blk_set h.box 3 _).trans rfl, (Below.heap_setCell _ _ _ _ hb).trans h.row, (Below.heap_setCell _ _ _ _ hq).trans h.ptr, h.bel.setCell hg _⟩
theorem ParseG.set4 {w : World} {g b q : Nat} {RO : Obj} {y0 y1 y2 y3 y4 : Int} {W : World} (h : ParseG w g b q RO y0 y1 y2 y3 y4 W) (hb : b ≠ g) (hq : q ≠ g) (hg : w.heap.size ≤ g) (n : Int) : ParseG w g b q RO y0 y1 y2 y3 n (W.setCell ⟨g, 4, none⟩ (.int .u64 n)) := ⟨(blk_set h.box 4 _).trans rfl, (Below.heap_setCell _ _ _ _ hb).trans h.row, (Below.heap_setCell _ _ _ _ hq).trans h.ptr, h.bel.setCell hg _⟩
theorem ParseG.wipe {w : World} {g b q : Nat} {RO : Obj} {y0 y1 y2 y3 y4 : Int} {W : World} (h : ParseG w g b q RO y0 y1 y2 y3 y4 W) (hg : w.heap.size ≤ g) : ((((((((W.setCell ⟨g, 0, none⟩ (.int .u64 0)).setCell ⟨g, 1, none⟩ (.int .u64 0)).setCell ⟨g, 2, none⟩ (.int .u64 0)).setCell ⟨g, 3, none⟩ (.int .u64 0)).setCell ⟨g, 4, none⟩ (.int .u64 0)).setCell ⟨g, 5, none⟩ (.bool false)).setCell ⟨g, 6, none⟩ (.bool false)).setCell ⟨g, 7, none⟩ (.int .i64 0)).heap[g]? = some (.cells #[.int .u64 0, .int .u64 0, .int .u64 0, .int .u64 0, .int .u64 0, .bool false, .bool false, .int .i64 0] 25 (0, 0)) ∧ Below w.heap.size w ((((((((W.setCell ⟨g, 0, none⟩ (.int .u64 0)).setCell ⟨g, 1, none⟩ (.int .u64 0)).setCell ⟨g, 2, none⟩ (.int .u64 0)).setCell ⟨g, 3, none⟩ (.int .u64 0)).setCell ⟨g, 4, none⟩ (.int .u64 0)).setCell ⟨g, 5, none⟩ (.bool false)).setCell ⟨g, 6, none⟩ (.bool false)).setCell ⟨g, 7, none⟩ (.int .i64 0)) := ⟨(blk_set (blk_set (blk_set (blk_set (blk_set (blk_set (blk_set (blk_set h.box 0 (.int .u64 0)) 1 (.int .u64 0)) 2 (.int .u64 0)) 3 (.int .u64 0)) 4 (.int .u64 0)) 5 (.bool false)) 6 (.bool false)) 7 (.int .i64 0)).trans (by simp), (Below.setCell (Below.setCell (Below.setCell (Below.setCell (Below.setCell (Below.setCell (Below.setCell (Below.setCell h.bel (p := ⟨g, 0, none⟩) hg (.int .u64 0)) (p := ⟨g, 1, none⟩) hg (.int .u64 0)) (p := ⟨g, 2, none⟩) hg (.int .u64 0)) (p := ⟨g, 3, none⟩) hg (.int .u64 0)) (p := ⟨g, 4, none⟩) hg (.int .u64 0)) (p := ⟨g, 5, none⟩) hg (.bool false)) (p := ⟨g, 6, none⟩) hg (.bool false)) (p := ⟨g, 7, none⟩) hg (.int .i64 0))⟩
theorem set8 {w W : World} {g : Nat} {c0 c1 c2 c3 c4 c5 c6 c7 : Value} (hx : W.heap[g]? = some (.cells #[c0, c1, c2, c3, c4, c5, c6, c7] 25 (0, 0))) (hb : Below w.heap.size w W) (hg : w.heap.size ≤ g) (v0 v1 v2 v3 v4 v5 v6 v7 : Value) : ((((((((W.setCell ⟨g, 0, none⟩ v0).setCell ⟨g, 1, none⟩ v1).setCell ⟨g, 2, none⟩ v2).setCell ⟨g, 3, none⟩ v3).setCell ⟨g, 4, none⟩ v4).setCell ⟨g, 5, none⟩ v5).setCell ⟨g, 6, none⟩ v6).setCell ⟨g, 7, none⟩ v7).heap[g]? = some (.cells #[v0, v1, v2, v3, v4, v5, v6, v7] 25 (0, 0)) ∧ Below w.heap.size w ((((((((W.setCell ⟨g, 0, none⟩ v0).setCell ⟨g, 1, none⟩ v1).setCell ⟨g, 2, none⟩ v2).setCell ⟨g, 3, none⟩ v3).setCell ⟨g, 4, none⟩ v4).setCell ⟨g, 5, none⟩ v5).setCell ⟨g, 6, none⟩ v6).setCell ⟨g, 7, none⟩ v7) := ⟨(blk_set (blk_set (blk_set (blk_set (blk_set (blk_set (blk_set (blk_set hx 0 v0) 1 v1) 2 v2) 3 v3) 4 v4) 5 v5) 6 v6) 7 v7).trans (by simp), (Below.setCell (Below.setCell (Below.setCell (Below.setCell (Below.setCell (Below.setCell (Below.setCell (Below.setCell hb (p := ⟨g, 0, none⟩) hg v0) (p := ⟨g, 1, none⟩) hg v1) (p := ⟨g, 2, none⟩) hg v2) (p := ⟨g, 3, none⟩) hg v3) (p := ⟨g, 4, none⟩) hg v4) (p := ⟨g, 5, none⟩) hg v5) (p := ⟨g, 6, none⟩) hg v6) (p := ⟨g, 7, none⟩) hg v7)⟩
theorem parse_results (g : Nat) (tm : Array Value) (W : World) (y0 y1 y2 y3 y4 y7 e : Int) (y5 y6 : Bool) (h2 : tm[2]? = some (.pointer (some ⟨g, 0, none⟩))) (h3 : tm[3]? = some (.int .i64 e))
    (hb : W.heap[g]? = some (.cells #[.int .u64 y0, .int .u64 y1, .int .u64 y2, .int .u64 y3, .int .u64 y4, .bool y5, .bool y6, .int .i64 y7] 25 (0, 0))) :
    (results Tryd.f11 tm).run Tryd.prog W = .ok (.tuple #[.agg #[.int .u64 y0, .int .u64 y1, .int .u64 y2, .int .u64 y3, .int .u64 y4, .bool y5, .bool y6, .int .i64 y7], .int .i64 e]) W := by
  have q0 : W.cell? ⟨g, 0, none⟩ = some (.int .u64 y0) := blk_cell hb 0
  have q1 : W.cell? ⟨g, 1, none⟩ = some (.int .u64 y1) := blk_cell hb 1
  have q2 : W.cell? ⟨g, 2, none⟩ = some (.int .u64 y2) := blk_cell hb 2
  have q3 : W.cell? ⟨g, 3, none⟩ = some (.int .u64 y3) := blk_cell hb 3
  have q4 : W.cell? ⟨g, 4, none⟩ = some (.int .u64 y4) := blk_cell hb 4
  have q5 : W.cell? ⟨g, 5, none⟩ = some (.bool y5) := blk_cell hb 5
  have q6 : W.cell? ⟨g, 6, none⟩ = some (.bool y6) := blk_cell hb 6
  have q7 : W.cell? ⟨g, 7, none⟩ = some (.int .i64 y7) := blk_cell hb 7
  simp [results, Tryd.results11, go_sem, q0, q1, q2, q3, q4, q5, q6, q7, h2, h3]
set_option maxHeartbeats 2000000 in
set_option maxRecDepth 100000 in
theorem cron_Parse.calls (k : Nat) (a0 : ByteArray) (r1 : Int) (r2 : Int) (r3 : Int) (r4 : Int) (r5 : Int) (r6 : Bool) (r7 : Bool) (r8 : Int) (r9 : Int) (w : World) (h : cron_Parse.f k a0 = some (r1, r2, r3, r4, r5, r6, r7, r8, r9)) :
    Calls Tryd.prog 11 #[.string a0] w fun e w' => e = .returned (.tuple #[.agg #[.int .u64 r1, .int .u64 r2, .int .u64 r3, .int .u64 r4, .int .u64 r5, .bool r6, .bool r7, .int .i64 r8], .int .i64 r9]) ∧ Below w.heap.size w w' := by
  unfold cron_Parse.f at h
  obtain ⟨l, A1, h⟩ := Option.bind_eq_some_iff.mp h
  have A1 := Aside0.mk A1
  by_cases h1 : (a0.size : Int) > 256
  · rw [if_pos h1] at h
    have e := Option.some.inj h
    simp only [parseBad, Prod.mk.injEq] at e
    obtain ⟨rfl, rfl, rfl, rfl, rfl, rfl, rfl, rfl, rfl⟩ := e
    clear h
    go_enter Tryd.func11, Tryd.ntmps11
    go_wp2_with (first | (go_at_call 21; (with_reducible refine (cron_words.calls a0 l _ A1.out).mono ?_); rintro e w1 ⟨v0, rfl, ho, hb⟩; obtain ⟨A, c, rfl⟩ := Kd.R_slice ho; have hbx : w1.heap[w.heap.size]? = some (.cells #[.int .u64 0, .int .u64 0, .int .u64 0, .int .u64 0, .int .u64 0, .bool false, .bool false, .int .i64 0] 25 (0, 0)) := (hb.block _ (by simp)).trans (by show (w.heap.push _)[w.heap.size]? = _; rw [Array.getElem?_push, if_pos rfl]); have hbl : Below w.heap.size w w1 := ((Below.refl _ _).alloc (Nat.le_refl _) _).trans (hb.mono (by simp)); obtain ⟨hcz0, hcz1, hcz2, hcz3, hcz4, hcz5, hcz6, hcz7, hfz0, hfz1, hfz2, hfz3, hfz4, hfz5, hfz6, hfz7⟩ := GB.cells8 hbx))
    refine bodyPost_ret (parse_results w.heap.size _ _ 0 0 0 0 0 0 7 false false rfl rfl ?_) rfl ⟨rfl, (Below.setCell (Below.setCell (Below.setCell (Below.setCell (Below.setCell (Below.setCell (Below.setCell (Below.setCell hbl (Nat.le_refl _) _) (Nat.le_refl _) _) (Nat.le_refl _) _) (Nat.le_refl _) _) (Nat.le_refl _) _) (Nat.le_refl _) _) (Nat.le_refl _) _) (Nat.le_refl _) _)⟩
    exact (blk_set (blk_set (blk_set (blk_set (blk_set (blk_set (blk_set (blk_set hbx 0 _) 1 _) 2 _) 3 _) 4 _) 5 _) 6 _) 7 _).trans rfl
  rw [if_neg h1] at h
  by_cases h2 : (l.length : Int) < 5
  · rw [if_pos h2] at h
    have e := Option.some.inj h
    simp only [parseBad, Prod.mk.injEq] at e
    obtain ⟨rfl, rfl, rfl, rfl, rfl, rfl, rfl, rfl, rfl⟩ := e
    clear h
    go_enter Tryd.func11, Tryd.ntmps11
    go_wp2_with (first | (go_at_call 21; (with_reducible refine (cron_words.calls a0 l _ A1.out).mono ?_); rintro e w1 ⟨v0, rfl, ho, hb⟩; obtain ⟨A, c, rfl⟩ := Kd.R_slice ho; have hbx : w1.heap[w.heap.size]? = some (.cells #[.int .u64 0, .int .u64 0, .int .u64 0, .int .u64 0, .int .u64 0, .bool false, .bool false, .int .i64 0] 25 (0, 0)) := (hb.block _ (by simp)).trans (by show (w.heap.push _)[w.heap.size]? = _; rw [Array.getElem?_push, if_pos rfl]); have hbl : Below w.heap.size w w1 := ((Below.refl _ _).alloc (Nat.le_refl _) _).trans (hb.mono (by simp)); obtain ⟨hcz0, hcz1, hcz2, hcz3, hcz4, hcz5, hcz6, hcz7, hfz0, hfz1, hfz2, hfz3, hfz4, hfz5, hfz6, hfz7⟩ := GB.cells8 hbx))
    refine bodyPost_ret (parse_results w.heap.size _ _ 0 0 0 0 0 0 7 false false rfl rfl ?_) rfl ⟨rfl, (Below.setCell (Below.setCell (Below.setCell (Below.setCell (Below.setCell (Below.setCell (Below.setCell (Below.setCell hbl (Nat.le_refl _) _) (Nat.le_refl _) _) (Nat.le_refl _) _) (Nat.le_refl _) _) (Nat.le_refl _) _) (Nat.le_refl _) _) (Nat.le_refl _) _) (Nat.le_refl _) _)⟩
    exact (blk_set (blk_set (blk_set (blk_set (blk_set (blk_set (blk_set (blk_set hbx 0 _) 1 _) 2 _) 3 _) 4 _) 5 _) 6 _) 7 _).trans rfl
  rw [if_neg h2] at h
  by_cases h3 : (l.length : Int) > 6
  · rw [if_pos h3] at h
    have e := Option.some.inj h
    simp only [parseBad, Prod.mk.injEq] at e
    obtain ⟨rfl, rfl, rfl, rfl, rfl, rfl, rfl, rfl, rfl⟩ := e
    clear h
    go_enter Tryd.func11, Tryd.ntmps11
    go_wp2_with (first | (go_at_call 21; (with_reducible refine (cron_words.calls a0 l _ A1.out).mono ?_); rintro e w1 ⟨v0, rfl, ho, hb⟩; obtain ⟨A, c, rfl⟩ := Kd.R_slice ho; have hbx : w1.heap[w.heap.size]? = some (.cells #[.int .u64 0, .int .u64 0, .int .u64 0, .int .u64 0, .int .u64 0, .bool false, .bool false, .int .i64 0] 25 (0, 0)) := (hb.block _ (by simp)).trans (by show (w.heap.push _)[w.heap.size]? = _; rw [Array.getElem?_push, if_pos rfl]); have hbl : Below w.heap.size w w1 := ((Below.refl _ _).alloc (Nat.le_refl _) _).trans (hb.mono (by simp)); obtain ⟨hcz0, hcz1, hcz2, hcz3, hcz4, hcz5, hcz6, hcz7, hfz0, hfz1, hfz2, hfz3, hfz4, hfz5, hfz6, hfz7⟩ := GB.cells8 hbx))
    refine bodyPost_ret (parse_results w.heap.size _ _ 0 0 0 0 0 0 7 false false rfl rfl ?_) rfl ⟨rfl, (Below.setCell (Below.setCell (Below.setCell (Below.setCell (Below.setCell (Below.setCell (Below.setCell (Below.setCell hbl (Nat.le_refl _) _) (Nat.le_refl _) _) (Nat.le_refl _) _) (Nat.le_refl _) _) (Nat.le_refl _) _) (Nat.le_refl _) _) (Nat.le_refl _) _) (Nat.le_refl _) _)⟩
    exact (blk_set (blk_set (blk_set (blk_set (blk_set (blk_set (blk_set (blk_set hbx 0 _) 1 _) 2 _) 3 _) 4 _) 5 _) 6 _) 7 _).trans rfl
  rw [if_neg h3] at h
  have H' := Aside0.mk h
  clear h
  have hn0 : 0 < l.length := by omega
  go_enter Tryd.func11, Tryd.ntmps11
  go_wp2_with (first | (go_at_call 21; (with_reducible refine (cron_words.calls a0 l _ A1.out).mono ?_); rintro e w1 ⟨v0, rfl, ho, hb⟩; obtain ⟨b, c, RO, rfl, hc, hb0, hb1, hbo, hrow⟩ := row_cells ho hn0; have hbx : w1.heap[w.heap.size]? = some (.cells #[.int .u64 0, .int .u64 0, .int .u64 0, .int .u64 0, .int .u64 0, .bool false, .bool false, .int .i64 0] 25 (0, 0)) := (hb.block _ (by simp)).trans (by show (w.heap.push _)[w.heap.size]? = _; rw [Array.getElem?_push, if_pos rfl]); have hbl : Below w.heap.size w w1 := ((Below.refl _ _).alloc (Nat.le_refl _) _).trans (hb.mono (by simp)); obtain ⟨hcz0, hcz1, hcz2, hcz3, hcz4, hcz5, hcz6, hcz7, hfz0, hfz1, hfz2, hfz3, hfz4, hfz5, hfz6, hfz7⟩ := GB.cells8 hbx))
  have hgb : b ≠ w.heap.size := by have := hb0; simp at this; omega
  have hs1 : w.heap.size < w1.heap.size := blk_lt hbx
  have HG : Aside0 (ParseG w w.heap.size b w1.heap.size RO 0 0 0 0 0 (w1.alloc (.cells #[.pointer (some ⟨w.heap.size, 0, none⟩), .pointer (some ⟨w.heap.size, 1, none⟩), .pointer (some ⟨w.heap.size, 2, none⟩), .pointer (some ⟨w.heap.size, 3, none⟩), .pointer (some ⟨w.heap.size, 4, none⟩)] 43))) := ⟨⟨(Below.heap_alloc _ _ _ hs1).trans hbx, (Below.heap_alloc _ _ _ hb1).trans hbo, by show (w1.heap.push _)[w1.heap.size]? = _; rw [Array.getElem?_push, if_pos rfl], hbl.alloc hbl.size _⟩⟩
  have hgq : w1.heap.size ≠ w.heap.size := by omega
  have HROW := Aside0.mk hrow
  have HGB := Aside0.mk hgb
  have HGQ := Aside0.mk hgq
  have HN3 := Aside0.mk (show 5 ≤ l.length by omega)
  have HC := Aside0.mk hc
  clear hbx hbl hcz0 hcz1 hcz2 hcz3 hcz4 hcz5 hcz6 hcz7 hfz0 hfz1 hfz2 hfz3 hfz4 hfz5 hfz6 hfz7 hb0 hb1 hbo hrow ho hb hgb hgq hs1
  go_loopw [34] (fun v34 w' => ∃ (j y0 y1 y2 y3 y4 : Int), 0 ≤ j ∧ j ≤ 5 ∧ v34 = .int .i64 j ∧ Aside0 (parseR k l j.toNat y0 y1 y2 y3 y4 = some (r1, r2, r3, r4, r5, r6, r7, r8, r9)) ∧ Aside0 (ParseG w w.heap.size b w1.heap.size RO y0 y1 y2 y3 y4 w')) (fun i _ => (5 - intOf i).toNat)
  case atStart => exact ⟨0, 0, 0, 0, 0, 0, by decide, by decide, rfl, H', HG⟩
  case round =>
    clear H' HG
    obtain ⟨j, y0, y1, y2, y3, y4, hj0, hj5, rfl, HA, HG⟩ := hrel
    have hj : j = 0 ∨ j = 1 ∨ j = 2 ∨ j = 3 ∨ j = 4 ∨ j = 5 := by omega
    clear hj0 hj5
    rcases hj with rfl | rfl | rfl | rfl | rfl | rfl
    · have H : parseR0 k l  = some (r1, r2, r3, r4, r5, r6, r7, r8, r9) := HA.out
      clear HA
      unfold parseR0 at H
      obtain ⟨⟨n, ok⟩, A2, H⟩ := Option.bind_eq_some_iff.mp H
      have A2 := Aside0.mk A2
      have hp : _ = some (Value.pointer (some ⟨w.heap.size, 0, none⟩)) := blk_cell HG.out.ptr 0
      have hw := HROW.out _ HG.out.row 0 (Nat.lt_of_lt_of_le (by decide) HN3.out)
      have hil := HN3.out
      cases ok with
      | false =>
        have e := Option.some.inj (show some parseBad = some (r1, r2, r3, r4, r5, r6, r7, r8, r9) from H)
        simp only [parseBad, Prod.mk.injEq] at e
        obtain ⟨rfl, rfl, rfl, rfl, rfl, rfl, rfl, rfl, rfl⟩ := e
        clear H
        go_wp2_with (first | (go_at_call 22; (with_reducible refine (cron_field.calls k 0 (wdN l 0) n false _ A2.out).mono ?_); rintro e wf ⟨rfl, hb⟩; have n0_ := Aside0.mk (HG.out.below hb); clear HG; have HG := n0_; clear n0_ hb; obtain ⟨hcz0, hcz1, hcz2, hcz3, hcz4, hcz5, hcz6, hcz7, hfz0, hfz1, hfz2, hfz3, hfz4, hfz5, hfz6, hfz7⟩ := GB.cells8 HG.out.box))
        exact bodyPost_ret (parse_results w.heap.size _ _ 0 0 0 0 0 0 7 false false rfl rfl (HG.out.wipe (Nat.le_refl _)).1) rfl ⟨rfl, (HG.out.wipe (Nat.le_refl _)).2⟩
      | true =>
        have H' := Aside0.mk (show parseR1 k l  n = some (r1, r2, r3, r4, r5, r6, r7, r8, r9) from H)
        clear H
        go_wp2_with (first | (go_at_call 22; (with_reducible refine (cron_field.calls k 0 (wdN l 0) n true _ A2.out).mono ?_); rintro e wf ⟨rfl, hb⟩; have n0_ := Aside0.mk (HG.out.below hb); clear HG; have HG := n0_; clear n0_ hb; have hcz0 : wf.cell? ⟨w.heap.size, 0, none⟩ = some (.int .u64 y0) := blk_cell HG.out.box 0; have hfz0 : wf.frozen? ⟨w.heap.size, 0, none⟩ = false := blk_frozen HG.out.box 0))
        go_roundw
        case rel => exact ⟨1, n, y1, y2, y3, y4, by decide, by decide, rfl, H', ⟨HG.out.set0 HGB.out HGQ.out (Nat.le_refl _) n⟩⟩
        case measure => simp [intOf]
    · have H : parseR1 k l y0 = some (r1, r2, r3, r4, r5, r6, r7, r8, r9) := HA.out
      clear HA
      unfold parseR1 at H
      obtain ⟨⟨n, ok⟩, A2, H⟩ := Option.bind_eq_some_iff.mp H
      have A2 := Aside0.mk A2
      have hp : _ = some (Value.pointer (some ⟨w.heap.size, 1, none⟩)) := blk_cell HG.out.ptr 1
      have hw := HROW.out _ HG.out.row 1 (Nat.lt_of_lt_of_le (by decide) HN3.out)
      have hil := HN3.out
      cases ok with
      | false =>
        have e := Option.some.inj (show some parseBad = some (r1, r2, r3, r4, r5, r6, r7, r8, r9) from H)
        simp only [parseBad, Prod.mk.injEq] at e
        obtain ⟨rfl, rfl, rfl, rfl, rfl, rfl, rfl, rfl, rfl⟩ := e
        clear H
        go_wp2_with (first | (go_at_call 22; (with_reducible refine (cron_field.calls k 1 (wdN l 1) n false _ A2.out).mono ?_); rintro e wf ⟨rfl, hb⟩; have n0_ := Aside0.mk (HG.out.below hb); clear HG; have HG := n0_; clear n0_ hb; obtain ⟨hcz0, hcz1, hcz2, hcz3, hcz4, hcz5, hcz6, hcz7, hfz0, hfz1, hfz2, hfz3, hfz4, hfz5, hfz6, hfz7⟩ := GB.cells8 HG.out.box))
        exact bodyPost_ret (parse_results w.heap.size _ _ 0 0 0 0 0 0 7 false false rfl rfl (HG.out.wipe (Nat.le_refl _)).1) rfl ⟨rfl, (HG.out.wipe (Nat.le_refl _)).2⟩
      | true =>
        have H' := Aside0.mk (show parseR2 k l y0 n = some (r1, r2, r3, r4, r5, r6, r7, r8, r9) from H)
        clear H
        go_wp2_with (first | (go_at_call 22; (with_reducible refine (cron_field.calls k 1 (wdN l 1) n true _ A2.out).mono ?_); rintro e wf ⟨rfl, hb⟩; have n0_ := Aside0.mk (HG.out.below hb); clear HG; have HG := n0_; clear n0_ hb; have hcz1 : wf.cell? ⟨w.heap.size, 1, none⟩ = some (.int .u64 y1) := blk_cell HG.out.box 1; have hfz1 : wf.frozen? ⟨w.heap.size, 1, none⟩ = false := blk_frozen HG.out.box 1))
        go_roundw
        case rel => exact ⟨2, y0, n, y2, y3, y4, by decide, by decide, rfl, H', ⟨HG.out.set1 HGB.out HGQ.out (Nat.le_refl _) n⟩⟩
        case measure => simp [intOf]
    · have H : parseR2 k l y0 y1 = some (r1, r2, r3, r4, r5, r6, r7, r8, r9) := HA.out
      clear HA
      unfold parseR2 at H
      obtain ⟨⟨n, ok⟩, A2, H⟩ := Option.bind_eq_some_iff.mp H
      have A2 := Aside0.mk A2
      have hp : _ = some (Value.pointer (some ⟨w.heap.size, 2, none⟩)) := blk_cell HG.out.ptr 2
      have hw := HROW.out _ HG.out.row 2 (Nat.lt_of_lt_of_le (by decide) HN3.out)
      have hil := HN3.out
      cases ok with
      | false =>
        have e := Option.some.inj (show some parseBad = some (r1, r2, r3, r4, r5, r6, r7, r8, r9) from H)
        simp only [parseBad, Prod.mk.injEq] at e
        obtain ⟨rfl, rfl, rfl, rfl, rfl, rfl, rfl, rfl, rfl⟩ := e
        clear H
        go_wp2_with (first | (go_at_call 22; (with_reducible refine (cron_field.calls k 2 (wdN l 2) n false _ A2.out).mono ?_); rintro e wf ⟨rfl, hb⟩; have n0_ := Aside0.mk (HG.out.below hb); clear HG; have HG := n0_; clear n0_ hb; obtain ⟨hcz0, hcz1, hcz2, hcz3, hcz4, hcz5, hcz6, hcz7, hfz0, hfz1, hfz2, hfz3, hfz4, hfz5, hfz6, hfz7⟩ := GB.cells8 HG.out.box))
        exact bodyPost_ret (parse_results w.heap.size _ _ 0 0 0 0 0 0 7 false false rfl rfl (HG.out.wipe (Nat.le_refl _)).1) rfl ⟨rfl, (HG.out.wipe (Nat.le_refl _)).2⟩
      | true =>
        have H' := Aside0.mk (show parseR3 k l y0 y1 n = some (r1, r2, r3, r4, r5, r6, r7, r8, r9) from H)
        clear H
        go_wp2_with (first | (go_at_call 22; (with_reducible refine (cron_field.calls k 2 (wdN l 2) n true _ A2.out).mono ?_); rintro e wf ⟨rfl, hb⟩; have n0_ := Aside0.mk (HG.out.below hb); clear HG; have HG := n0_; clear n0_ hb; have hcz2 : wf.cell? ⟨w.heap.size, 2, none⟩ = some (.int .u64 y2) := blk_cell HG.out.box 2; have hfz2 : wf.frozen? ⟨w.heap.size, 2, none⟩ = false := blk_frozen HG.out.box 2))
        go_roundw
        case rel => exact ⟨3, y0, y1, n, y3, y4, by decide, by decide, rfl, H', ⟨HG.out.set2 HGB.out HGQ.out (Nat.le_refl _) n⟩⟩
        case measure => simp [intOf]
    · have H : parseR3 k l y0 y1 y2 = some (r1, r2, r3, r4, r5, r6, r7, r8, r9) := HA.out
      clear HA
      unfold parseR3 at H
      obtain ⟨⟨n, ok⟩, A2, H⟩ := Option.bind_eq_some_iff.mp H
      have A2 := Aside0.mk A2
      have hp : _ = some (Value.pointer (some ⟨w.heap.size, 3, none⟩)) := blk_cell HG.out.ptr 3
      have hw := HROW.out _ HG.out.row 3 (Nat.lt_of_lt_of_le (by decide) HN3.out)
      have hil := HN3.out
      cases ok with
      | false =>
        have e := Option.some.inj (show some parseBad = some (r1, r2, r3, r4, r5, r6, r7, r8, r9) from H)
        simp only [parseBad, Prod.mk.injEq] at e
        obtain ⟨rfl, rfl, rfl, rfl, rfl, rfl, rfl, rfl, rfl⟩ := e
        clear H
        go_wp2_with (first | (go_at_call 22; (with_reducible refine (cron_field.calls k 3 (wdN l 3) n false _ A2.out).mono ?_); rintro e wf ⟨rfl, hb⟩; have n0_ := Aside0.mk (HG.out.below hb); clear HG; have HG := n0_; clear n0_ hb; obtain ⟨hcz0, hcz1, hcz2, hcz3, hcz4, hcz5, hcz6, hcz7, hfz0, hfz1, hfz2, hfz3, hfz4, hfz5, hfz6, hfz7⟩ := GB.cells8 HG.out.box))
        exact bodyPost_ret (parse_results w.heap.size _ _ 0 0 0 0 0 0 7 false false rfl rfl (HG.out.wipe (Nat.le_refl _)).1) rfl ⟨rfl, (HG.out.wipe (Nat.le_refl _)).2⟩
      | true =>
        have H' := Aside0.mk (show parseR4 k l y0 y1 y2 n = some (r1, r2, r3, r4, r5, r6, r7, r8, r9) from H)
        clear H
        go_wp2_with (first | (go_at_call 22; (with_reducible refine (cron_field.calls k 3 (wdN l 3) n true _ A2.out).mono ?_); rintro e wf ⟨rfl, hb⟩; have n0_ := Aside0.mk (HG.out.below hb); clear HG; have HG := n0_; clear n0_ hb; have hcz3 : wf.cell? ⟨w.heap.size, 3, none⟩ = some (.int .u64 y3) := blk_cell HG.out.box 3; have hfz3 : wf.frozen? ⟨w.heap.size, 3, none⟩ = false := blk_frozen HG.out.box 3))
        go_roundw
        case rel => exact ⟨4, y0, y1, y2, n, y4, by decide, by decide, rfl, H', ⟨HG.out.set3 HGB.out HGQ.out (Nat.le_refl _) n⟩⟩
        case measure => simp [intOf]
    · have H : parseR4 k l y0 y1 y2 y3 = some (r1, r2, r3, r4, r5, r6, r7, r8, r9) := HA.out
      clear HA
      unfold parseR4 at H
      obtain ⟨⟨n, ok⟩, A2, H⟩ := Option.bind_eq_some_iff.mp H
      have A2 := Aside0.mk A2
      have hp : _ = some (Value.pointer (some ⟨w.heap.size, 4, none⟩)) := blk_cell HG.out.ptr 4
      have hw := HROW.out _ HG.out.row 4 (Nat.lt_of_lt_of_le (by decide) HN3.out)
      have hil := HN3.out
      cases ok with
      | false =>
        have e := Option.some.inj (show some parseBad = some (r1, r2, r3, r4, r5, r6, r7, r8, r9) from H)
        simp only [parseBad, Prod.mk.injEq] at e
        obtain ⟨rfl, rfl, rfl, rfl, rfl, rfl, rfl, rfl, rfl⟩ := e
        clear H
        go_wp2_with (first | (go_at_call 22; (with_reducible refine (cron_field.calls k 4 (wdN l 4) n false _ A2.out).mono ?_); rintro e wf ⟨rfl, hb⟩; have n0_ := Aside0.mk (HG.out.below hb); clear HG; have HG := n0_; clear n0_ hb; obtain ⟨hcz0, hcz1, hcz2, hcz3, hcz4, hcz5, hcz6, hcz7, hfz0, hfz1, hfz2, hfz3, hfz4, hfz5, hfz6, hfz7⟩ := GB.cells8 HG.out.box))
        exact bodyPost_ret (parse_results w.heap.size _ _ 0 0 0 0 0 0 7 false false rfl rfl (HG.out.wipe (Nat.le_refl _)).1) rfl ⟨rfl, (HG.out.wipe (Nat.le_refl _)).2⟩
      | true =>
        have H' := Aside0.mk (show parseR5 k l y0 y1 y2 y3 n = some (r1, r2, r3, r4, r5, r6, r7, r8, r9) from H)
        clear H
        go_wp2_with (first | (go_at_call 22; (with_reducible refine (cron_field.calls k 4 (wdN l 4) n true _ A2.out).mono ?_); rintro e wf ⟨rfl, hb⟩; have n0_ := Aside0.mk (HG.out.below hb); clear HG; have HG := n0_; clear n0_ hb; have hcz4 : wf.cell? ⟨w.heap.size, 4, none⟩ = some (.int .u64 y4) := blk_cell HG.out.box 4; have hfz4 : wf.frozen? ⟨w.heap.size, 4, none⟩ = false := blk_frozen HG.out.box 4))
        go_roundw
        case rel => exact ⟨5, y0, y1, y2, y3, n, by decide, by decide, rfl, H', ⟨HG.out.set4 HGB.out HGQ.out (Nat.le_refl _) n⟩⟩
        case measure => simp [intOf]
    · have H : parseR5 k l y0 y1 y2 y3 y4 = some (r1, r2, r3, r4, r5, r6, r7, r8, r9) := HA.out
      clear HA
      unfold parseR5 at H
      by_cases z2 : 0 < (wdN l 2).size
      case neg => rw [if_neg z2] at H; cases H
      rw [if_pos z2] at H
      by_cases z4 : 0 < (wdN l 4).size
      case neg => rw [if_neg z4] at H; cases H
      rw [if_pos z4] at H
      have hw2 := HROW.out _ HG.out.row 2 (Nat.lt_of_lt_of_le (by decide) HN3.out)
      have hw4 := HROW.out _ HG.out.row 4 (Nat.lt_of_lt_of_le (by decide) HN3.out)
      have hil := HN3.out
      have hil2 : (2 : Int) < (l.length : Int) := by omega
      have hil4 : (4 : Int) < (l.length : Int) := by omega
      have hz2 : (0 : Int) < ((wdN l 2).size : Int) := by omega
      have hz4 : (0 : Int) < ((wdN l 4).size : Int) := by omega
      have hcz5 : _ = some (Value.bool false) := blk_cell HG.out.box 5
      have hfz5 := blk_frozen HG.out.box 5
      have hcz6 : _ = some (Value.bool false) := blk_cell HG.out.box 6
      have hfz6 := blk_frozen HG.out.box 6
      have e2 : (((wdN l 2)[0]'z2).toNat : Int) = bt (wdN l 2) 0 := bt_at (wdN l 2) 0 z2
      have e4 : (((wdN l 4)[0]'z4).toNat : Int) = bt (wdN l 4) 0 := bt_at (wdN l 4) 0 z4
      obtain ⟨p2, hp2⟩ : ∃ p : Bool, p = (bt (wdN l 2) 0 == 42) := ⟨_, rfl⟩
      obtain ⟨p4, hp4⟩ : ∃ p : Bool, p = (bt (wdN l 4) 0 == 42) := ⟨_, rfl⟩
      have E2 := Aside0.mk (e2)
      have E4 := Aside0.mk (e4)
      have P2 := Aside0.mk hp2
      have P4 := Aside0.mk hp4
      rw [← hp2, ← hp4] at H
      have H' := Aside0.mk H
      clear H e2 e4 hp2 hp4
      go_wp2_with fail
      go_region
      rw [E2.out, E4.out, ← P2.out, ← P4.out]
      obtain ⟨W2, hW2⟩ : ∃ W2, W2 = ((wr.setCell ⟨w.heap.size, 5, none⟩ (.bool p2)).setCell ⟨w.heap.size, 6, none⟩ (.bool p4)).drew := ⟨_, rfl⟩
      have hx : W2.heap[w.heap.size]? = some (.cells #[.int .u64 y0, .int .u64 y1, .int .u64 y2, .int .u64 y3, .int .u64 y4, .bool p2, .bool p4, .int .i64 0] 25 (0, 0)) := by
        rw [hW2]
        exact (blk_set (blk_set HG.out.box 5 (.bool p2)) 6 (.bool p4)).trans (by simp)
      have hr : W2.heap[b]? = some RO := by
        rw [hW2]
        exact ((Below.heap_setCell _ _ _ _ HGB.out).trans (Below.heap_setCell _ _ _ _ HGB.out)).trans HG.out.row
      have hbl : Below w.heap.size w W2 := by
        rw [hW2]
        exact ((HG.out.bel.setCell (p := ⟨w.heap.size, 5, none⟩) (Nat.le_refl _) _).setCell (p := ⟨w.heap.size, 6, none⟩) (Nat.le_refl _) _).drew
      rw [← hW2]
      clear hW2 hw2 hw4 hcz5 hcz6 hfz5 hfz6 HG
      have hcz0 : W2.cell? ⟨w.heap.size, 0, none⟩ = some (.int .u64 y0) := blk_cell hx 0
      have hfz0 : W2.frozen? ⟨w.heap.size, 0, none⟩ = false := blk_frozen hx 0
      have hcz1 : W2.cell? ⟨w.heap.size, 1, none⟩ = some (.int .u64 y1) := blk_cell hx 1
      have hfz1 : W2.frozen? ⟨w.heap.size, 1, none⟩ = false := blk_frozen hx 1
      have hcz2 : W2.cell? ⟨w.heap.size, 2, none⟩ = some (.int .u64 y2) := blk_cell hx 2
      have hfz2 : W2.frozen? ⟨w.heap.size, 2, none⟩ = false := blk_frozen hx 2
      have hcz3 : W2.cell? ⟨w.heap.size, 3, none⟩ = some (.int .u64 y3) := blk_cell hx 3
      have hfz3 : W2.frozen? ⟨w.heap.size, 3, none⟩ = false := blk_frozen hx 3
      have hcz4 : W2.cell? ⟨w.heap.size, 4, none⟩ = some (.int .u64 y4) := blk_cell hx 4
      have hfz4 : W2.frozen? ⟨w.heap.size, 4, none⟩ = false := blk_frozen hx 4
      have hcz5 : W2.cell? ⟨w.heap.size, 5, none⟩ = some (.bool p2) := blk_cell hx 5
      have hfz5 : W2.frozen? ⟨w.heap.size, 5, none⟩ = false := blk_frozen hx 5
      have hcz6 : W2.cell? ⟨w.heap.size, 6, none⟩ = some (.bool p4) := blk_cell hx 6
      have hfz6 : W2.frozen? ⟨w.heap.size, 6, none⟩ = false := blk_frozen hx 6
      have hcz7 : W2.cell? ⟨w.heap.size, 7, none⟩ = some (.int .i64 0) := blk_cell hx 7
      have hfz7 : W2.frozen? ⟨w.heap.size, 7, none⟩ = false := blk_frozen hx 7
      have H := H'.out
      clear H'
      by_cases h5 : 5 < l.length
      · rw [if_pos h5] at H
        obtain ⟨⟨n, ok⟩, A2, H⟩ := Option.bind_eq_some_iff.mp H
        have A2 := Aside0.mk A2
        have hw5 := HROW.out W2 hr 5 h5
        have hil5 : (5 : Int) < (l.length : Int) := by omega
        cases ok with
        | false =>
          have e := Option.some.inj (show some parseBad = some (r1, r2, r3, r4, r5, r6, r7, r8, r9) from H)
          simp only [parseBad, Prod.mk.injEq] at e
          obtain ⟨rfl, rfl, rfl, rfl, rfl, rfl, rfl, rfl, rfl⟩ := e
          clear H
          have hx' := Aside0.mk hx
          have hbl' := Aside0.mk hbl
          clear hx hbl hr
          go_wp2_with (first | (go_at_call 23; (with_reducible refine (cron_ahead.calls k (wdN l 5) n false _ A2.out).mono ?_); rintro e w' ⟨rfl, ⟨nd, rfl⟩⟩))
          have f := set8 (blk_drewN hx'.out nd) (pw_below_drewN hbl'.out nd) (Nat.le_refl _) (.int .u64 0) (.int .u64 0) (.int .u64 0) (.int .u64 0) (.int .u64 0) (.bool false) (.bool false) (.int .i64 0)
          exact bodyPost_ret (parse_results w.heap.size _ _ 0 0 0 0 0 0 7 false false rfl rfl f.1) rfl ⟨rfl, f.2⟩
        | true =>
          have e := Option.some.inj (show some (y0, y1, y2, y3, y4, p2, p4, n, (0 : Int)) = some (r1, r2, r3, r4, r5, r6, r7, r8, r9) from H)
          simp only [Prod.mk.injEq] at e
          obtain ⟨rfl, rfl, rfl, rfl, rfl, rfl, rfl, rfl, rfl⟩ := e
          clear H
          have hx' := Aside0.mk hx
          have hbl' := Aside0.mk hbl
          clear hx hbl hr
          go_wp2_with (first | (go_at_call 23; (with_reducible refine (cron_ahead.calls k (wdN l 5) n true _ A2.out).mono ?_); rintro e w' ⟨rfl, ⟨nd, rfl⟩⟩))
          have hx7 : ((W2.drewN nd).setCell ⟨w.heap.size, 7, none⟩ (.int .i64 n)).heap[w.heap.size]? = some (.cells #[.int .u64 y0, .int .u64 y1, .int .u64 y2, .int .u64 y3, .int .u64 y4, .bool p2, .bool p4, .int .i64 n] 25 (0, 0)) := (blk_set (blk_drewN hx'.out nd) 7 (.int .i64 n)).trans (by simp)
          have f := set8 hx7 ((pw_below_drewN hbl'.out nd).setCell (p := ⟨w.heap.size, 7, none⟩) (Nat.le_refl _) _) (Nat.le_refl _) (.int .u64 y0) (.int .u64 y1) (.int .u64 y2) (.int .u64 y3) (.int .u64 y4) (.bool p2) (.bool p4) (.int .i64 n)
          exact bodyPost_ret (parse_results w.heap.size _ _ y0 y1 y2 y3 y4 n 0 p2 p4 rfl rfl f.1) rfl ⟨rfl, f.2⟩
      · rw [if_neg h5] at H
        have e := Option.some.inj H
        simp only [Prod.mk.injEq] at e
        obtain ⟨rfl, rfl, rfl, rfl, rfl, rfl, rfl, rfl, rfl⟩ := e
        clear H
        have hx' := Aside0.mk hx
        have hbl' := Aside0.mk hbl
        have hil5 : ¬ (5 : Int) < (l.length : Int) := by omega
        clear hx hbl hr
        go_wp2_with fail
        have f := set8 hx'.out hbl'.out (Nat.le_refl _) (.int .u64 y0) (.int .u64 y1) (.int .u64 y2) (.int .u64 y3) (.int .u64 y4) (.bool p2) (.bool p4) (.int .i64 0)
        exact bodyPost_ret (parse_results w.heap.size _ _ y0 y1 y2 y3 y4 0 0 p2 p4 rfl rfl f.1) rfl ⟨rfl, f.2⟩

/-! ### cron_in: function 38 -/
def cron_in.f (a0 : Int) (a1 : Int) : Option (Bool) := if a1 ≥ 0 then (if a1 < 64 then (if 0 ≤ a1 then (some ((Go.bits .and .u64 (shr .u64 a0 a1) 1) == 1)) else (none)) else (some false)) else (some false)
set_option maxHeartbeats 8000000 in
set_option maxRecDepth 100000 in
theorem cron_in.calls (a0 : Int) (a1 : Int) (r : Bool) (w : World) (h : cron_in.f a0 a1 = some r) :
    Calls Tryd.prog 38 #[.int .u64 a0, .int .i64 a1] w fun e w' => e = .returned (.bool r) ∧ Drawn0 w w' := by
  have H : (if a1 ≥ 0 then (if a1 < 64 then (if 0 ≤ a1 then (some ((Go.bits .and .u64 (shr .u64 a0 a1) 1) == 1)) else (none)) else (some false)) else (some false)) = some r := h
  clear h
  by_cases c3 : a1 ≥ 0
  · rw [if_pos c3] at H
    have c3b0 : decide (0 ≤ a1) = true := decide_eq_true c3
    clear c3
    by_cases c4 : a1 < 64
    · rw [if_pos c4] at H
      have c4b0 : decide (a1 < 64) = true := decide_eq_true c4
      clear c4
      by_cases c5 : 0 ≤ a1
      · rw [if_pos c5] at H
        have c5b0 := eq_true c5
        have c5b1 : decide (0 ≤ a1) = true := decide_eq_true c5
        clear c5
        obtain ⟨ji6, hji6⟩ : ∃ j_ : Int, (shr .u64 a0 a1) = j_ := ⟨_, rfl⟩
        replace H : (some ((Go.bits .and .u64 (ji6) 1) == 1)) = some r := by first | (rw [hji6] at H; exact H) | (simp only [hji6] at H ⊢; exact H)
        have hji6_ : (a0 / 2 ^ min a1.toNat 64) = ji6 := hji6
        have hji6z : a1 ≤ 64 → (a0 / 2 ^ a1.toNat) = ji6 := shr_small hji6
        obtain rfl := Option.some.inj H
        go_enter Tryd.func38, Tryd.ntmps38
        go_wp2
        go_ret
        exact ⟨by first | rfl | (simp; done) | (simp only [← hji6] <;> (first | rfl | simp)) | (simp [*]; done), by repeat (first | exact Drawn0.refl _ | apply Drawn0.step)⟩
      · rw [if_neg c5] at H
        exact absurd H (by simp)
    · rw [if_neg c4] at H
      have c4b0 : decide (a1 < 64) = false := decide_eq_false c4
      clear c4
      obtain rfl := Option.some.inj H
      go_enter Tryd.func38, Tryd.ntmps38
      go_wp2
      go_ret
      exact ⟨by first | rfl | (simp; done) | (simp [*]; done), by repeat (first | exact Drawn0.refl _ | apply Drawn0.step)⟩
  · rw [if_neg c3] at H
    have c3b0 : decide (0 ≤ a1) = false := decide_eq_false c3
    clear c3
    obtain rfl := Option.some.inj H
    go_enter Tryd.func38, Tryd.ntmps38
    go_wp2
    go_ret
    exact ⟨by first | rfl | (simp; done) | (simp [*]; done), by repeat (first | exact Drawn0.refl _ | apply Drawn0.step)⟩

end Go.Proofs.YtmjfocfdbodmpaaDoor.X
