/- The functions of the program as plain Lean functions, and the walks that show that the Go text answers so: written by a program (xprint.py) out of the translation; conditions: none beyond those that each theorem names. -/
import Derived.Test.YtmjfocfdbodmpaaDoorX0
import Derived.Test.YtmjfocfdbodmpaaDoorX2
import Derived.Test.YtmjfocfdbodmpaaDoorX4
namespace Go.Proofs.YtmjfocfdbodmpaaDoor.X
open Go.RowKit Go.Proofs.YtmjfocfdbodmpaaDoorW.PrintWords Go.Proofs.YtmjfocfdbodmpaaDoorW.PrintLast Go.Proofs.YtmjfocfdbodmpaaDoorW.PrintMore
attribute [local go_sem] max2_int min2_int max_two min_two max_three min_three max_four min_four   -- for this text's walks alone
set_option linter.unusedVariables false
set_option linter.unusedSimpArgs false

/-! ### cron_Right: function 13 (given by hand) -/
/-- All numbers of a field, as bits. -/
def fullM (f : Nat) : Int := match f with | 0 => 1152921504606846975 | 1 => 16777215 | 2 => 4294967294 | 3 => 8190 | _ => 127
/-- May a field's set be said? -/
def setOk (f : Nat) (x : Int) : Bool := !(x == 0) && (Go.bits .andNot .u64 x (fullM f) == 0)
/-- May it be said? -/
def rightB (x0 x1 x2 x3 x4 x7 : Int) : Bool := setOk 0 x0 && (setOk 1 x1 && (setOk 2 x2 && (setOk 3 x3 && (setOk 4 x4 && (decide (-899 ≤ x7) && decide (x7 ≤ 899))))))
theorem full_0 : cron_full.f 70 0 1 = some (fullM 0) := by decide +kernel
theorem full_1 : cron_full.f 70 1 1 = some (fullM 1) := by decide +kernel
theorem full_2 : cron_full.f 70 2 1 = some (fullM 2) := by decide +kernel
theorem full_3 : cron_full.f 70 3 1 = some (fullM 3) := by decide +kernel
theorem full_4 : cron_full.f 70 4 1 = some (fullM 4) := by decide +kernel
def cron_Right.f (a0_0 a0_1 a0_2 a0_3 a0_4 : Int) (_a0_5 _a0_6 : Bool) (a0_7 : Int) : Option Bool := some (rightB a0_0 a0_1 a0_2 a0_3 a0_4 a0_7)
/-- The fields ahead of one may be said. -/
def passN (k x0 x1 x2 x3 x4 : Int) : Prop := (0 < k → setOk 0 x0 = true) ∧ (1 < k → setOk 1 x1 = true) ∧ (2 < k → setOk 2 x2 = true) ∧ (3 < k → setOk 3 x3 = true) ∧ (4 < k → setOk 4 x4 = true)
theorem arr_at0 (x0 x1 x2 x3 x4 : Int) (w : World) : (Instr.index 50 (.agg #[.int .u64 x0, .int .u64 x1, .int .u64 x2, .int .u64 x3, .int .u64 x4]) (.int .i64 0)).run Tryd.prog w = .ok (.int .u64 x0) w := by kernel_rfl
theorem right_no0 {x0 x1 x2 x3 x4 x7 : Int} (h : setOk 0 x0 = false) : rightB x0 x1 x2 x3 x4 x7 = false := by simp [rightB, h]
theorem pass_0 {x0 x1 x2 x3 x4 : Int} (h : passN 0 x0 x1 x2 x3 x4) (hx : setOk 0 x0 = true) : passN 1 x0 x1 x2 x3 x4 := by
  obtain ⟨h0, h1, h2, h3, h4⟩ := h
  exact ⟨fun _ => hx, fun q => absurd q (by decide), fun q => absurd q (by decide), fun q => absurd q (by decide), fun q => absurd q (by decide)⟩
theorem arr_at1 (x0 x1 x2 x3 x4 : Int) (w : World) : (Instr.index 50 (.agg #[.int .u64 x0, .int .u64 x1, .int .u64 x2, .int .u64 x3, .int .u64 x4]) (.int .i64 1)).run Tryd.prog w = .ok (.int .u64 x1) w := by kernel_rfl
theorem right_no1 {x0 x1 x2 x3 x4 x7 : Int} (h : setOk 1 x1 = false) : rightB x0 x1 x2 x3 x4 x7 = false := by simp [rightB, h]
theorem pass_1 {x0 x1 x2 x3 x4 : Int} (h : passN 1 x0 x1 x2 x3 x4) (hx : setOk 1 x1 = true) : passN 2 x0 x1 x2 x3 x4 := by
  obtain ⟨h0, h1, h2, h3, h4⟩ := h
  exact ⟨fun _ => h0 (by decide), fun _ => hx, fun q => absurd q (by decide), fun q => absurd q (by decide), fun q => absurd q (by decide)⟩
theorem arr_at2 (x0 x1 x2 x3 x4 : Int) (w : World) : (Instr.index 50 (.agg #[.int .u64 x0, .int .u64 x1, .int .u64 x2, .int .u64 x3, .int .u64 x4]) (.int .i64 2)).run Tryd.prog w = .ok (.int .u64 x2) w := by kernel_rfl
theorem right_no2 {x0 x1 x2 x3 x4 x7 : Int} (h : setOk 2 x2 = false) : rightB x0 x1 x2 x3 x4 x7 = false := by simp [rightB, h]
theorem pass_2 {x0 x1 x2 x3 x4 : Int} (h : passN 2 x0 x1 x2 x3 x4) (hx : setOk 2 x2 = true) : passN 3 x0 x1 x2 x3 x4 := by
  obtain ⟨h0, h1, h2, h3, h4⟩ := h
  exact ⟨fun _ => h0 (by decide), fun _ => h1 (by decide), fun _ => hx, fun q => absurd q (by decide), fun q => absurd q (by decide)⟩
theorem arr_at3 (x0 x1 x2 x3 x4 : Int) (w : World) : (Instr.index 50 (.agg #[.int .u64 x0, .int .u64 x1, .int .u64 x2, .int .u64 x3, .int .u64 x4]) (.int .i64 3)).run Tryd.prog w = .ok (.int .u64 x3) w := by kernel_rfl
theorem right_no3 {x0 x1 x2 x3 x4 x7 : Int} (h : setOk 3 x3 = false) : rightB x0 x1 x2 x3 x4 x7 = false := by simp [rightB, h]
theorem pass_3 {x0 x1 x2 x3 x4 : Int} (h : passN 3 x0 x1 x2 x3 x4) (hx : setOk 3 x3 = true) : passN 4 x0 x1 x2 x3 x4 := by
  obtain ⟨h0, h1, h2, h3, h4⟩ := h
  exact ⟨fun _ => h0 (by decide), fun _ => h1 (by decide), fun _ => h2 (by decide), fun _ => hx, fun q => absurd q (by decide)⟩
theorem arr_at4 (x0 x1 x2 x3 x4 : Int) (w : World) : (Instr.index 50 (.agg #[.int .u64 x0, .int .u64 x1, .int .u64 x2, .int .u64 x3, .int .u64 x4]) (.int .i64 4)).run Tryd.prog w = .ok (.int .u64 x4) w := by kernel_rfl
theorem right_no4 {x0 x1 x2 x3 x4 x7 : Int} (h : setOk 4 x4 = false) : rightB x0 x1 x2 x3 x4 x7 = false := by simp [rightB, h]
theorem pass_4 {x0 x1 x2 x3 x4 : Int} (h : passN 4 x0 x1 x2 x3 x4) (hx : setOk 4 x4 = true) : passN 5 x0 x1 x2 x3 x4 := by
  obtain ⟨h0, h1, h2, h3, h4⟩ := h
  exact ⟨fun _ => h0 (by decide), fun _ => h1 (by decide), fun _ => h2 (by decide), fun _ => h3 (by decide), fun _ => hx⟩
theorem right_yes {x0 x1 x2 x3 x4 x7 : Int} (h : passN 5 x0 x1 x2 x3 x4) : rightB x0 x1 x2 x3 x4 x7 = (decide (-899 ≤ x7) && decide (x7 ≤ 899)) := by
  obtain ⟨h0, h1, h2, h3, h4⟩ := h
  simp [rightB, h0, h1, h2, h3, h4]
theorem setOk_zero (f : Nat) {x : Int} (h : x = 0) : setOk f x = false := by simp [setOk, h]
theorem setOk_more (f : Nat) {x : Int} (h : ¬ Go.bits .andNot .u64 x (fullM f) = 0) : setOk f x = false := by simp [setOk, h]
theorem setOk_yes (f : Nat) {x : Int} (h0 : ¬ x = 0) (h : Go.bits .andNot .u64 x (fullM f) = 0) : setOk f x = true := by simp [setOk, h, h0]
set_option maxHeartbeats 8000000 in
set_option maxRecDepth 100000 in
theorem cron_Right.calls (a0_0 : Int) (a0_1 : Int) (a0_2 : Int) (a0_3 : Int) (a0_4 : Int) (a0_5 : Bool) (a0_6 : Bool) (a0_7 : Int) (r : Bool) (w : World) (h : cron_Right.f a0_0 a0_1 a0_2 a0_3 a0_4 a0_5 a0_6 a0_7 = some r) :
    Calls Tryd.prog 13 #[.agg #[.int .u64 a0_0, .int .u64 a0_1, .int .u64 a0_2, .int .u64 a0_3, .int .u64 a0_4, .bool a0_5, .bool a0_6, .int .i64 a0_7]] w fun e w' => e = .returned (.bool r) ∧ Below w.heap.size w w' := by
  unfold cron_Right.f at h
  obtain rfl := Option.some.inj h
  clear h
  go_enter Tryd.func13, Tryd.ntmps13
  go_wp2_with (first | (go_at_call 27; refine (sets_any w.heap.size a0_0 a0_1 a0_2 a0_3 a0_4 _ (by simp) (by go_simp) (by go_simp) (by go_simp) (by go_simp) (by go_simp)).mono ?_; rintro e w1 ⟨rfl, o, rfl⟩))
  obtain ⟨W, hW⟩ : ∃ W, W = (w.alloc (.cells #[.int .u64 a0_0, .int .u64 a0_1, .int .u64 a0_2, .int .u64 a0_3, .int .u64 a0_4, .bool a0_5, .bool a0_6, .int .i64 a0_7] 25)).alloc o := ⟨_, rfl⟩
  have hc7 : ∀ n, (W.drewN n).cell? ⟨w.heap.size, 7, none⟩ = some (.int .i64 a0_7) := by
    intro n
    rw [hW]
    refine (((pw_below_drewN ((Below.refl _ _).alloc (Nat.le_refl _) o) n) : Below (w.alloc (.cells #[.int .u64 a0_0, .int .u64 a0_1, .int .u64 a0_2, .int .u64 a0_3, .int .u64 a0_4, .bool a0_5, .bool a0_6, .int .i64 a0_7] 25)).heap.size _ _).cell (p := ⟨w.heap.size, 7, none⟩) (by simp)).trans (by go_simp)
  have hbel : ∀ n, Below w.heap.size w (W.drewN n) := fun n => by rw [hW]; exact pw_below_drewN (((Below.refl _ _).alloc (Nat.le_refl _) _).alloc (by simp) o) n
  have hd : W.drew = W.drewN 1 := rfl
  rw [← hW, hd]
  have HC := Aside0.mk hc7
  have HB := Aside0.mk hbel
  clear hc7 hbel hd hW
  go_loopw [6] (fun i wr => ∃ (j : Int) (n : Nat), 0 ≤ j ∧ j ≤ 5 ∧ i = .int .i64 j ∧ Aside0 (passN j a0_0 a0_1 a0_2 a0_3 a0_4) ∧ wr = W.drewN n) (fun i _ => (5 - intOf i).toNat)
  case atStart => exact ⟨0, 1, by decide, by decide, rfl, ⟨⟨fun q => absurd q (by decide), fun q => absurd q (by decide), fun q => absurd q (by decide), fun q => absurd q (by decide), fun q => absurd q (by decide)⟩⟩, rfl⟩
  case round =>
    obtain ⟨j, n, hj0, hj5, rfl, HP, rfl⟩ := hrel
    have hj : j = 0 ∨ j = 1 ∨ j = 2 ∨ j = 3 ∨ j = 4 ∨ j = 5 := by omega
    clear hj0 hj5
    rcases hj with rfl | rfl | rfl | rfl | rfl | rfl
    · have ix := arr_at0 a0_0 a0_1 a0_2 a0_3 a0_4
      by_cases h0 : a0_0 = 0
      · have c1 : (a0_0 == 0) = true := beq_iff_eq.mpr h0
        have E := Aside0.mk (right_no0 (x0 := a0_0) (x1 := a0_1) (x2 := a0_2) (x3 := a0_3) (x4 := a0_4) (x7 := a0_7) (setOk_zero 0 h0))
        clear h0
        go_wp2
        go_ret
        exact ⟨by rw [E.out] <;> rfl, HB.out _⟩
      · have c1 : (a0_0 == 0) = false := beq_eq_false_iff_ne.mpr h0
        have F := Aside0.mk full_0
        by_cases h1 : Go.bits .andNot .u64 a0_0 (fullM 0) = 0
        · have c2 : (Go.bits .andNot .u64 a0_0 (fullM 0) != 0) = false := bne_eq_false_iff_eq.mpr h1
          have E := Aside0.mk (pass_0 HP.out (setOk_yes 0 h0 h1))
          clear h0 h1
          go_wp2_with (go_at_call 28; (with_reducible refine (cron_full.calls 70 0 1 (fullM 0) _ F.out).mono ?_); rintro e w' ⟨rfl, ⟨nd, rfl⟩⟩)
          go_roundw
          case rel => exact ⟨1, _, by decide, by decide, rfl, E, rfl⟩
          case measure => simp [intOf]
        · have c2 : (Go.bits .andNot .u64 a0_0 (fullM 0) != 0) = true := bne_iff_ne.mpr h1
          have E := Aside0.mk (right_no0 (x0 := a0_0) (x1 := a0_1) (x2 := a0_2) (x3 := a0_3) (x4 := a0_4) (x7 := a0_7) (setOk_more 0 h1))
          clear h0 h1
          go_wp2_with (go_at_call 28; (with_reducible refine (cron_full.calls 70 0 1 (fullM 0) _ F.out).mono ?_); rintro e w' ⟨rfl, ⟨nd, rfl⟩⟩)
          go_ret
          exact ⟨by rw [E.out] <;> rfl, HB.out _⟩
    · have ix := arr_at1 a0_0 a0_1 a0_2 a0_3 a0_4
      by_cases h0 : a0_1 = 0
      · have c1 : (a0_1 == 0) = true := beq_iff_eq.mpr h0
        have E := Aside0.mk (right_no1 (x0 := a0_0) (x1 := a0_1) (x2 := a0_2) (x3 := a0_3) (x4 := a0_4) (x7 := a0_7) (setOk_zero 1 h0))
        clear h0
        go_wp2
        go_ret
        exact ⟨by rw [E.out] <;> rfl, HB.out _⟩
      · have c1 : (a0_1 == 0) = false := beq_eq_false_iff_ne.mpr h0
        have F := Aside0.mk full_1
        by_cases h1 : Go.bits .andNot .u64 a0_1 (fullM 1) = 0
        · have c2 : (Go.bits .andNot .u64 a0_1 (fullM 1) != 0) = false := bne_eq_false_iff_eq.mpr h1
          have E := Aside0.mk (pass_1 HP.out (setOk_yes 1 h0 h1))
          clear h0 h1
          go_wp2_with (go_at_call 28; (with_reducible refine (cron_full.calls 70 1 1 (fullM 1) _ F.out).mono ?_); rintro e w' ⟨rfl, ⟨nd, rfl⟩⟩)
          go_roundw
          case rel => exact ⟨2, _, by decide, by decide, rfl, E, rfl⟩
          case measure => simp [intOf]
        · have c2 : (Go.bits .andNot .u64 a0_1 (fullM 1) != 0) = true := bne_iff_ne.mpr h1
          have E := Aside0.mk (right_no1 (x0 := a0_0) (x1 := a0_1) (x2 := a0_2) (x3 := a0_3) (x4 := a0_4) (x7 := a0_7) (setOk_more 1 h1))
          clear h0 h1
          go_wp2_with (go_at_call 28; (with_reducible refine (cron_full.calls 70 1 1 (fullM 1) _ F.out).mono ?_); rintro e w' ⟨rfl, ⟨nd, rfl⟩⟩)
          go_ret
          exact ⟨by rw [E.out] <;> rfl, HB.out _⟩
    · have ix := arr_at2 a0_0 a0_1 a0_2 a0_3 a0_4
      by_cases h0 : a0_2 = 0
      · have c1 : (a0_2 == 0) = true := beq_iff_eq.mpr h0
        have E := Aside0.mk (right_no2 (x0 := a0_0) (x1 := a0_1) (x2 := a0_2) (x3 := a0_3) (x4 := a0_4) (x7 := a0_7) (setOk_zero 2 h0))
        clear h0
        go_wp2
        go_ret
        exact ⟨by rw [E.out] <;> rfl, HB.out _⟩
      · have c1 : (a0_2 == 0) = false := beq_eq_false_iff_ne.mpr h0
        have F := Aside0.mk full_2
        by_cases h1 : Go.bits .andNot .u64 a0_2 (fullM 2) = 0
        · have c2 : (Go.bits .andNot .u64 a0_2 (fullM 2) != 0) = false := bne_eq_false_iff_eq.mpr h1
          have E := Aside0.mk (pass_2 HP.out (setOk_yes 2 h0 h1))
          clear h0 h1
          go_wp2_with (go_at_call 28; (with_reducible refine (cron_full.calls 70 2 1 (fullM 2) _ F.out).mono ?_); rintro e w' ⟨rfl, ⟨nd, rfl⟩⟩)
          go_roundw
          case rel => exact ⟨3, _, by decide, by decide, rfl, E, rfl⟩
          case measure => simp [intOf]
        · have c2 : (Go.bits .andNot .u64 a0_2 (fullM 2) != 0) = true := bne_iff_ne.mpr h1
          have E := Aside0.mk (right_no2 (x0 := a0_0) (x1 := a0_1) (x2 := a0_2) (x3 := a0_3) (x4 := a0_4) (x7 := a0_7) (setOk_more 2 h1))
          clear h0 h1
          go_wp2_with (go_at_call 28; (with_reducible refine (cron_full.calls 70 2 1 (fullM 2) _ F.out).mono ?_); rintro e w' ⟨rfl, ⟨nd, rfl⟩⟩)
          go_ret
          exact ⟨by rw [E.out] <;> rfl, HB.out _⟩
    · have ix := arr_at3 a0_0 a0_1 a0_2 a0_3 a0_4
      by_cases h0 : a0_3 = 0
      · have c1 : (a0_3 == 0) = true := beq_iff_eq.mpr h0
        have E := Aside0.mk (right_no3 (x0 := a0_0) (x1 := a0_1) (x2 := a0_2) (x3 := a0_3) (x4 := a0_4) (x7 := a0_7) (setOk_zero 3 h0))
        clear h0
        go_wp2
        go_ret
        exact ⟨by rw [E.out] <;> rfl, HB.out _⟩
      · have c1 : (a0_3 == 0) = false := beq_eq_false_iff_ne.mpr h0
        have F := Aside0.mk full_3
        by_cases h1 : Go.bits .andNot .u64 a0_3 (fullM 3) = 0
        · have c2 : (Go.bits .andNot .u64 a0_3 (fullM 3) != 0) = false := bne_eq_false_iff_eq.mpr h1
          have E := Aside0.mk (pass_3 HP.out (setOk_yes 3 h0 h1))
          clear h0 h1
          go_wp2_with (go_at_call 28; (with_reducible refine (cron_full.calls 70 3 1 (fullM 3) _ F.out).mono ?_); rintro e w' ⟨rfl, ⟨nd, rfl⟩⟩)
          go_roundw
          case rel => exact ⟨4, _, by decide, by decide, rfl, E, rfl⟩
          case measure => simp [intOf]
        · have c2 : (Go.bits .andNot .u64 a0_3 (fullM 3) != 0) = true := bne_iff_ne.mpr h1
          have E := Aside0.mk (right_no3 (x0 := a0_0) (x1 := a0_1) (x2 := a0_2) (x3 := a0_3) (x4 := a0_4) (x7 := a0_7) (setOk_more 3 h1))
          clear h0 h1
          go_wp2_with (go_at_call 28; (with_reducible refine (cron_full.calls 70 3 1 (fullM 3) _ F.out).mono ?_); rintro e w' ⟨rfl, ⟨nd, rfl⟩⟩)
          go_ret
          exact ⟨by rw [E.out] <;> rfl, HB.out _⟩
    · have ix := arr_at4 a0_0 a0_1 a0_2 a0_3 a0_4
      by_cases h0 : a0_4 = 0
      · have c1 : (a0_4 == 0) = true := beq_iff_eq.mpr h0
        have E := Aside0.mk (right_no4 (x0 := a0_0) (x1 := a0_1) (x2 := a0_2) (x3 := a0_3) (x4 := a0_4) (x7 := a0_7) (setOk_zero 4 h0))
        clear h0
        go_wp2
        go_ret
        exact ⟨by rw [E.out] <;> rfl, HB.out _⟩
      · have c1 : (a0_4 == 0) = false := beq_eq_false_iff_ne.mpr h0
        have F := Aside0.mk full_4
        by_cases h1 : Go.bits .andNot .u64 a0_4 (fullM 4) = 0
        · have c2 : (Go.bits .andNot .u64 a0_4 (fullM 4) != 0) = false := bne_eq_false_iff_eq.mpr h1
          have E := Aside0.mk (pass_4 HP.out (setOk_yes 4 h0 h1))
          clear h0 h1
          go_wp2_with (go_at_call 28; (with_reducible refine (cron_full.calls 70 4 1 (fullM 4) _ F.out).mono ?_); rintro e w' ⟨rfl, ⟨nd, rfl⟩⟩)
          go_roundw
          case rel => exact ⟨5, _, by decide, by decide, rfl, E, rfl⟩
          case measure => simp [intOf]
        · have c2 : (Go.bits .andNot .u64 a0_4 (fullM 4) != 0) = true := bne_iff_ne.mpr h1
          have E := Aside0.mk (right_no4 (x0 := a0_0) (x1 := a0_1) (x2 := a0_2) (x3 := a0_3) (x4 := a0_4) (x7 := a0_7) (setOk_more 4 h1))
          clear h0 h1
          go_wp2_with (go_at_call 28; (with_reducible refine (cron_full.calls 70 4 1 (fullM 4) _ F.out).mono ?_); rintro e w' ⟨rfl, ⟨nd, rfl⟩⟩)
          go_ret
          exact ⟨by rw [E.out] <;> rfl, HB.out _⟩
    · have E := Aside0.mk (right_yes (x7 := a0_7) HP.out)
      have hc7 := HC.out n
      by_cases h0 : -899 ≤ a0_7
      · have c1 : decide (-899 ≤ a0_7) = true := decide_eq_true h0
        clear h0
        go_wp2
        go_ret
        exact ⟨by rw [E.out, c1]; first | done | rfl | (simp; done), HB.out _⟩
      · have c1 : decide (-899 ≤ a0_7) = false := decide_eq_false h0
        clear h0
        go_wp2
        go_ret
        exact ⟨by rw [E.out, c1]; first | done | rfl | (simp; done), HB.out _⟩

/-! ### tompionref04_Right: function 14 (given by hand) -/
theorem all_0 : tompionref04_all.f 70 0 1 = some (fullM 0) := by decide +kernel
theorem all_1 : tompionref04_all.f 70 1 1 = some (fullM 1) := by decide +kernel
theorem all_2 : tompionref04_all.f 70 2 1 = some (fullM 2) := by decide +kernel
theorem all_3 : tompionref04_all.f 70 3 1 = some (fullM 3) := by decide +kernel
theorem all_4 : tompionref04_all.f 70 4 1 = some (fullM 4) := by decide +kernel
/-- What is told of the world inside the loop. -/
structure RightG (w : World) (g b : Nat) (x0 x1 x2 x3 x4 x7 : Int) (W : World) : Prop where
  lt : b < W.heap.size
  gb : g < W.heap.size
  c0 : W.cell? ⟨b, 0, none⟩ = some (.int .u64 x0)
  c1 : W.cell? ⟨b, 1, none⟩ = some (.int .u64 x1)
  c2 : W.cell? ⟨b, 2, none⟩ = some (.int .u64 x2)
  c3 : W.cell? ⟨b, 3, none⟩ = some (.int .u64 x3)
  c4 : W.cell? ⟨b, 4, none⟩ = some (.int .u64 x4)
  c7 : W.cell? ⟨g, 7, none⟩ = some (.int .i64 x7)
  bel : Below w.heap.size w W
theorem RightG.below {w : World} {g b : Nat} {x0 x1 x2 x3 x4 x7 : Int} {W W' : World} (h : RightG w g b x0 x1 x2 x3 x4 x7 W) (hb : Below W.heap.size W W') : RightG w g b x0 x1 x2 x3 x4 x7 W' :=
  ⟨Nat.lt_of_lt_of_le h.lt hb.size, Nat.lt_of_lt_of_le h.gb hb.size, (hb.cell (p := ⟨b, 0, none⟩) h.lt).trans h.c0, (hb.cell (p := ⟨b, 1, none⟩) h.lt).trans h.c1, (hb.cell (p := ⟨b, 2, none⟩) h.lt).trans h.c2, (hb.cell (p := ⟨b, 3, none⟩) h.lt).trans h.c3, (hb.cell (p := ⟨b, 4, none⟩) h.lt).trans h.c4, (hb.cell (p := ⟨g, 7, none⟩) h.gb).trans h.c7, h.bel.trans (hb.mono h.bel.size)⟩
theorem RightG.drew {w : World} {g b : Nat} {x0 x1 x2 x3 x4 x7 : Int} {W : World} (h : RightG w g b x0 x1 x2 x3 x4 x7 W) : RightG w g b x0 x1 x2 x3 x4 x7 W.drew := h.below (Below.refl _ _).drew
def tompionref04_Right.f (a0_0 a0_1 a0_2 a0_3 a0_4 : Int) (_a0_5 _a0_6 : Bool) (a0_7 : Int) : Option Bool := some (rightB a0_0 a0_1 a0_2 a0_3 a0_4 a0_7)
set_option maxHeartbeats 8000000 in
set_option maxRecDepth 100000 in
theorem tompionref04_Right.calls (a0_0 : Int) (a0_1 : Int) (a0_2 : Int) (a0_3 : Int) (a0_4 : Int) (a0_5 : Bool) (a0_6 : Bool) (a0_7 : Int) (r : Bool) (w : World) (h : tompionref04_Right.f a0_0 a0_1 a0_2 a0_3 a0_4 a0_5 a0_6 a0_7 = some r) :
    Calls Tryd.prog 14 #[.agg #[.int .u64 a0_0, .int .u64 a0_1, .int .u64 a0_2, .int .u64 a0_3, .int .u64 a0_4, .bool a0_5, .bool a0_6, .int .i64 a0_7]] w fun e w' => e = .returned (.bool r) ∧ Below w.heap.size w w' := by
  unfold tompionref04_Right.f at h
  obtain rfl := Option.some.inj h
  clear h
  go_enter Tryd.func14, Tryd.ntmps14
  go_wp2_with (first | (go_at_call 29; (with_reducible refine (tompionref04_sets.calls a0_0 a0_1 a0_2 a0_3 a0_4 a0_5 a0_6 a0_7 a0_0 a0_1 a0_2 a0_3 a0_4 _ rfl).mono ?_); rintro e w1 ⟨rfl, hb1⟩))
  have hg0 : Aside0 (RightG w w.heap.size w1.heap.size a0_0 a0_1 a0_2 a0_3 a0_4 a0_7 (w1.alloc (.cells #[.int .u64 a0_0, .int .u64 a0_1, .int .u64 a0_2, .int .u64 a0_3, .int .u64 a0_4] 50))) := by
    have hs := hb1.size
    simp at hs
    have hq : Below w1.heap.size w1 (w1.alloc (.cells #[.int .u64 a0_0, .int .u64 a0_1, .int .u64 a0_2, .int .u64 a0_3, .int .u64 a0_4] 50)) := (Below.refl _ _).alloc (Nat.le_refl _) _
    refine ⟨⟨by simp, by simp; omega, by go_simp, by go_simp, by go_simp, by go_simp, by go_simp, ?_, ?_⟩⟩
    · refine (hq.cell (p := ⟨w.heap.size, 7, none⟩) (by show w.heap.size < _; omega)).trans ?_
      refine (hb1.cell (p := ⟨w.heap.size, 7, none⟩) (by simp)).trans (by go_simp)
    · exact (((Below.refl _ _).alloc (Nat.le_refl _) _).trans (hb1.mono (by simp))).alloc (by omega) _
  clear hb1
  go_loopw [4] (fun i wr => ∃ (j : Int), 0 ≤ j ∧ j ≤ 5 ∧ i = .int .i64 j ∧ Aside0 (passN j a0_0 a0_1 a0_2 a0_3 a0_4) ∧ Aside0 (RightG w w.heap.size w1.heap.size a0_0 a0_1 a0_2 a0_3 a0_4 a0_7 wr)) (fun i _ => (5 - intOf i).toNat)
  case atStart => exact ⟨0, by decide, by decide, rfl, ⟨⟨fun q => absurd q (by decide), fun q => absurd q (by decide), fun q => absurd q (by decide), fun q => absurd q (by decide), fun q => absurd q (by decide)⟩⟩, hg0⟩
  case round =>
    clear hg0
    obtain ⟨j, hj0, hj5, rfl, HP, HG⟩ := hrel
    have hj : j = 0 ∨ j = 1 ∨ j = 2 ∨ j = 3 ∨ j = 4 ∨ j = 5 := by omega
    clear hj0 hj5
    rcases hj with rfl | rfl | rfl | rfl | rfl | rfl
    · have hc := HG.out.c0
      by_cases h0 : a0_0 = 0
      · have c1 : (a0_0 == 0) = true := beq_iff_eq.mpr h0
        have E := Aside0.mk (right_no0 (x0 := a0_0) (x1 := a0_1) (x2 := a0_2) (x3 := a0_3) (x4 := a0_4) (x7 := a0_7) (setOk_zero 0 h0))
        clear h0
        go_wp2_with fail
        go_quiet (fail)
        go_wp2
        go_ret
        exact ⟨by rw [E.out] <;> rfl, pw_below_drewN HG.out.bel _⟩
      · have c1 : (a0_0 == 0) = false := beq_eq_false_iff_ne.mpr h0
        have F := Aside0.mk all_0
        have cc : ∀ (W : World), RightG w w.heap.size w1.heap.size a0_0 a0_1 a0_2 a0_3 a0_4 a0_7 W → W.cell? ⟨w1.heap.size, 0, none⟩ = some (.int .u64 a0_0) := fun W h => h.c0
        by_cases h1 : Go.bits .andNot .u64 a0_0 (fullM 0) = 0
        · have c2 : (Go.bits .andNot .u64 a0_0 (fullM 0) != 0) = false := bne_eq_false_iff_eq.mpr h1
          have E := Aside0.mk (pass_0 HP.out (setOk_yes 0 h0 h1))
          clear h0 h1
          go_wp2_with fail
          go_region_held3 (fun w' => w'.cell? ⟨w1.heap.size, 0, none⟩ = some (.int .u64 a0_0) ∧ Aside0 (RightG w w.heap.size w1.heap.size a0_0 a0_1 a0_2 a0_3 a0_4 a0_7 w')) (first | (go_keep; done) | exact ⟨cc _ (RightG.drew HG.out), ⟨RightG.drew HG.out⟩⟩ | exact ⟨cc _ (RightG.below (Aside0.out (And.right (by assumption))) hb), ⟨RightG.below (Aside0.out (And.right (by assumption))) hb⟩⟩) (first | (go_at_call 30; refine (tompionref04_all.calls 70 0 1 (fullM 0) _ F.out).mono ?_; rintro e w' ⟨rfl, hb⟩))
          have HG2 : Aside0 (RightG w w.heap.size w1.heap.size a0_0 a0_1 a0_2 a0_3 a0_4 a0_7 _) := And.right (by assumption)
          clear cc HG hc
          go_wp2
          go_roundw
          case rel => exact ⟨1, by decide, by decide, rfl, E, HG2⟩
          case measure => simp [intOf]
        · have c2 : (Go.bits .andNot .u64 a0_0 (fullM 0) != 0) = true := bne_iff_ne.mpr h1
          have E := Aside0.mk (right_no0 (x0 := a0_0) (x1 := a0_1) (x2 := a0_2) (x3 := a0_3) (x4 := a0_4) (x7 := a0_7) (setOk_more 0 h1))
          clear h0 h1
          go_wp2_with fail
          go_region_held3 (fun w' => w'.cell? ⟨w1.heap.size, 0, none⟩ = some (.int .u64 a0_0) ∧ Aside0 (RightG w w.heap.size w1.heap.size a0_0 a0_1 a0_2 a0_3 a0_4 a0_7 w')) (first | (go_keep; done) | exact ⟨cc _ (RightG.drew HG.out), ⟨RightG.drew HG.out⟩⟩ | exact ⟨cc _ (RightG.below (Aside0.out (And.right (by assumption))) hb), ⟨RightG.below (Aside0.out (And.right (by assumption))) hb⟩⟩) (first | (go_at_call 30; refine (tompionref04_all.calls 70 0 1 (fullM 0) _ F.out).mono ?_; rintro e w' ⟨rfl, hb⟩))
          have HG2 : Aside0 (RightG w w.heap.size w1.heap.size a0_0 a0_1 a0_2 a0_3 a0_4 a0_7 _) := And.right (by assumption)
          clear cc HG hc
          go_wp2
          go_ret
          exact ⟨by rw [E.out] <;> rfl, HG2.out.bel⟩
    · have hc := HG.out.c1
      by_cases h0 : a0_1 = 0
      · have c1 : (a0_1 == 0) = true := beq_iff_eq.mpr h0
        have E := Aside0.mk (right_no1 (x0 := a0_0) (x1 := a0_1) (x2 := a0_2) (x3 := a0_3) (x4 := a0_4) (x7 := a0_7) (setOk_zero 1 h0))
        clear h0
        go_wp2_with fail
        go_quiet (fail)
        go_wp2
        go_ret
        exact ⟨by rw [E.out] <;> rfl, pw_below_drewN HG.out.bel _⟩
      · have c1 : (a0_1 == 0) = false := beq_eq_false_iff_ne.mpr h0
        have F := Aside0.mk all_1
        have cc : ∀ (W : World), RightG w w.heap.size w1.heap.size a0_0 a0_1 a0_2 a0_3 a0_4 a0_7 W → W.cell? ⟨w1.heap.size, 1, none⟩ = some (.int .u64 a0_1) := fun W h => h.c1
        by_cases h1 : Go.bits .andNot .u64 a0_1 (fullM 1) = 0
        · have c2 : (Go.bits .andNot .u64 a0_1 (fullM 1) != 0) = false := bne_eq_false_iff_eq.mpr h1
          have E := Aside0.mk (pass_1 HP.out (setOk_yes 1 h0 h1))
          clear h0 h1
          go_wp2_with fail
          go_region_held3 (fun w' => w'.cell? ⟨w1.heap.size, 1, none⟩ = some (.int .u64 a0_1) ∧ Aside0 (RightG w w.heap.size w1.heap.size a0_0 a0_1 a0_2 a0_3 a0_4 a0_7 w')) (first | (go_keep; done) | exact ⟨cc _ (RightG.drew HG.out), ⟨RightG.drew HG.out⟩⟩ | exact ⟨cc _ (RightG.below (Aside0.out (And.right (by assumption))) hb), ⟨RightG.below (Aside0.out (And.right (by assumption))) hb⟩⟩) (first | (go_at_call 30; refine (tompionref04_all.calls 70 1 1 (fullM 1) _ F.out).mono ?_; rintro e w' ⟨rfl, hb⟩))
          have HG2 : Aside0 (RightG w w.heap.size w1.heap.size a0_0 a0_1 a0_2 a0_3 a0_4 a0_7 _) := And.right (by assumption)
          clear cc HG hc
          go_wp2
          go_roundw
          case rel => exact ⟨2, by decide, by decide, rfl, E, HG2⟩
          case measure => simp [intOf]
        · have c2 : (Go.bits .andNot .u64 a0_1 (fullM 1) != 0) = true := bne_iff_ne.mpr h1
          have E := Aside0.mk (right_no1 (x0 := a0_0) (x1 := a0_1) (x2 := a0_2) (x3 := a0_3) (x4 := a0_4) (x7 := a0_7) (setOk_more 1 h1))
          clear h0 h1
          go_wp2_with fail
          go_region_held3 (fun w' => w'.cell? ⟨w1.heap.size, 1, none⟩ = some (.int .u64 a0_1) ∧ Aside0 (RightG w w.heap.size w1.heap.size a0_0 a0_1 a0_2 a0_3 a0_4 a0_7 w')) (first | (go_keep; done) | exact ⟨cc _ (RightG.drew HG.out), ⟨RightG.drew HG.out⟩⟩ | exact ⟨cc _ (RightG.below (Aside0.out (And.right (by assumption))) hb), ⟨RightG.below (Aside0.out (And.right (by assumption))) hb⟩⟩) (first | (go_at_call 30; refine (tompionref04_all.calls 70 1 1 (fullM 1) _ F.out).mono ?_; rintro e w' ⟨rfl, hb⟩))
          have HG2 : Aside0 (RightG w w.heap.size w1.heap.size a0_0 a0_1 a0_2 a0_3 a0_4 a0_7 _) := And.right (by assumption)
          clear cc HG hc
          go_wp2
          go_ret
          exact ⟨by rw [E.out] <;> rfl, HG2.out.bel⟩
    · have hc := HG.out.c2
      by_cases h0 : a0_2 = 0
      · have c1 : (a0_2 == 0) = true := beq_iff_eq.mpr h0
        have E := Aside0.mk (right_no2 (x0 := a0_0) (x1 := a0_1) (x2 := a0_2) (x3 := a0_3) (x4 := a0_4) (x7 := a0_7) (setOk_zero 2 h0))
        clear h0
        go_wp2_with fail
        go_quiet (fail)
        go_wp2
        go_ret
        exact ⟨by rw [E.out] <;> rfl, pw_below_drewN HG.out.bel _⟩
      · have c1 : (a0_2 == 0) = false := beq_eq_false_iff_ne.mpr h0
        have F := Aside0.mk all_2
        have cc : ∀ (W : World), RightG w w.heap.size w1.heap.size a0_0 a0_1 a0_2 a0_3 a0_4 a0_7 W → W.cell? ⟨w1.heap.size, 2, none⟩ = some (.int .u64 a0_2) := fun W h => h.c2
        by_cases h1 : Go.bits .andNot .u64 a0_2 (fullM 2) = 0
        · have c2 : (Go.bits .andNot .u64 a0_2 (fullM 2) != 0) = false := bne_eq_false_iff_eq.mpr h1
          have E := Aside0.mk (pass_2 HP.out (setOk_yes 2 h0 h1))
          clear h0 h1
          go_wp2_with fail
          go_region_held3 (fun w' => w'.cell? ⟨w1.heap.size, 2, none⟩ = some (.int .u64 a0_2) ∧ Aside0 (RightG w w.heap.size w1.heap.size a0_0 a0_1 a0_2 a0_3 a0_4 a0_7 w')) (first | (go_keep; done) | exact ⟨cc _ (RightG.drew HG.out), ⟨RightG.drew HG.out⟩⟩ | exact ⟨cc _ (RightG.below (Aside0.out (And.right (by assumption))) hb), ⟨RightG.below (Aside0.out (And.right (by assumption))) hb⟩⟩) (first | (go_at_call 30; refine (tompionref04_all.calls 70 2 1 (fullM 2) _ F.out).mono ?_; rintro e w' ⟨rfl, hb⟩))
          have HG2 : Aside0 (RightG w w.heap.size w1.heap.size a0_0 a0_1 a0_2 a0_3 a0_4 a0_7 _) := And.right (by assumption)
          clear cc HG hc
          go_wp2
          go_roundw
          case rel => exact ⟨3, by decide, by decide, rfl, E, HG2⟩
          case measure => simp [intOf]
        · have c2 : (Go.bits .andNot .u64 a0_2 (fullM 2) != 0) = true := bne_iff_ne.mpr h1
          have E := Aside0.mk (right_no2 (x0 := a0_0) (x1 := a0_1) (x2 := a0_2) (x3 := a0_3) (x4 := a0_4) (x7 := a0_7) (setOk_more 2 h1))
          clear h0 h1
          go_wp2_with fail
          go_region_held3 (fun w' => w'.cell? ⟨w1.heap.size, 2, none⟩ = some (.int .u64 a0_2) ∧ Aside0 (RightG w w.heap.size w1.heap.size a0_0 a0_1 a0_2 a0_3 a0_4 a0_7 w')) (first | (go_keep; done) | exact ⟨cc _ (RightG.drew HG.out), ⟨RightG.drew HG.out⟩⟩ | exact ⟨cc _ (RightG.below (Aside0.out (And.right (by assumption))) hb), ⟨RightG.below (Aside0.out (And.right (by assumption))) hb⟩⟩) (first | (go_at_call 30; refine (tompionref04_all.calls 70 2 1 (fullM 2) _ F.out).mono ?_; rintro e w' ⟨rfl, hb⟩))
          have HG2 : Aside0 (RightG w w.heap.size w1.heap.size a0_0 a0_1 a0_2 a0_3 a0_4 a0_7 _) := And.right (by assumption)
          clear cc HG hc
          go_wp2
          go_ret
          exact ⟨by rw [E.out] <;> rfl, HG2.out.bel⟩
    · have hc := HG.out.c3
      by_cases h0 : a0_3 = 0
      · have c1 : (a0_3 == 0) = true := beq_iff_eq.mpr h0
        have E := Aside0.mk (right_no3 (x0 := a0_0) (x1 := a0_1) (x2 := a0_2) (x3 := a0_3) (x4 := a0_4) (x7 := a0_7) (setOk_zero 3 h0))
        clear h0
        go_wp2_with fail
        go_quiet (fail)
        go_wp2
        go_ret
        exact ⟨by rw [E.out] <;> rfl, pw_below_drewN HG.out.bel _⟩
      · have c1 : (a0_3 == 0) = false := beq_eq_false_iff_ne.mpr h0
        have F := Aside0.mk all_3
        have cc : ∀ (W : World), RightG w w.heap.size w1.heap.size a0_0 a0_1 a0_2 a0_3 a0_4 a0_7 W → W.cell? ⟨w1.heap.size, 3, none⟩ = some (.int .u64 a0_3) := fun W h => h.c3
        by_cases h1 : Go.bits .andNot .u64 a0_3 (fullM 3) = 0
        · have c2 : (Go.bits .andNot .u64 a0_3 (fullM 3) != 0) = false := bne_eq_false_iff_eq.mpr h1
          have E := Aside0.mk (pass_3 HP.out (setOk_yes 3 h0 h1))
          clear h0 h1
          go_wp2_with fail
          go_region_held3 (fun w' => w'.cell? ⟨w1.heap.size, 3, none⟩ = some (.int .u64 a0_3) ∧ Aside0 (RightG w w.heap.size w1.heap.size a0_0 a0_1 a0_2 a0_3 a0_4 a0_7 w')) (first | (go_keep; done) | exact ⟨cc _ (RightG.drew HG.out), ⟨RightG.drew HG.out⟩⟩ | exact ⟨cc _ (RightG.below (Aside0.out (And.right (by assumption))) hb), ⟨RightG.below (Aside0.out (And.right (by assumption))) hb⟩⟩) (first | (go_at_call 30; refine (tompionref04_all.calls 70 3 1 (fullM 3) _ F.out).mono ?_; rintro e w' ⟨rfl, hb⟩))
          have HG2 : Aside0 (RightG w w.heap.size w1.heap.size a0_0 a0_1 a0_2 a0_3 a0_4 a0_7 _) := And.right (by assumption)
          clear cc HG hc
          go_wp2
          go_roundw
          case rel => exact ⟨4, by decide, by decide, rfl, E, HG2⟩
          case measure => simp [intOf]
        · have c2 : (Go.bits .andNot .u64 a0_3 (fullM 3) != 0) = true := bne_iff_ne.mpr h1
          have E := Aside0.mk (right_no3 (x0 := a0_0) (x1 := a0_1) (x2 := a0_2) (x3 := a0_3) (x4 := a0_4) (x7 := a0_7) (setOk_more 3 h1))
          clear h0 h1
          go_wp2_with fail
          go_region_held3 (fun w' => w'.cell? ⟨w1.heap.size, 3, none⟩ = some (.int .u64 a0_3) ∧ Aside0 (RightG w w.heap.size w1.heap.size a0_0 a0_1 a0_2 a0_3 a0_4 a0_7 w')) (first | (go_keep; done) | exact ⟨cc _ (RightG.drew HG.out), ⟨RightG.drew HG.out⟩⟩ | exact ⟨cc _ (RightG.below (Aside0.out (And.right (by assumption))) hb), ⟨RightG.below (Aside0.out (And.right (by assumption))) hb⟩⟩) (first | (go_at_call 30; refine (tompionref04_all.calls 70 3 1 (fullM 3) _ F.out).mono ?_; rintro e w' ⟨rfl, hb⟩))
          have HG2 : Aside0 (RightG w w.heap.size w1.heap.size a0_0 a0_1 a0_2 a0_3 a0_4 a0_7 _) := And.right (by assumption)
          clear cc HG hc
          go_wp2
          go_ret
          exact ⟨by rw [E.out] <;> rfl, HG2.out.bel⟩
    · have hc := HG.out.c4
      by_cases h0 : a0_4 = 0
      · have c1 : (a0_4 == 0) = true := beq_iff_eq.mpr h0
        have E := Aside0.mk (right_no4 (x0 := a0_0) (x1 := a0_1) (x2 := a0_2) (x3 := a0_3) (x4 := a0_4) (x7 := a0_7) (setOk_zero 4 h0))
        clear h0
        go_wp2_with fail
        go_quiet (fail)
        go_wp2
        go_ret
        exact ⟨by rw [E.out] <;> rfl, pw_below_drewN HG.out.bel _⟩
      · have c1 : (a0_4 == 0) = false := beq_eq_false_iff_ne.mpr h0
        have F := Aside0.mk all_4
        have cc : ∀ (W : World), RightG w w.heap.size w1.heap.size a0_0 a0_1 a0_2 a0_3 a0_4 a0_7 W → W.cell? ⟨w1.heap.size, 4, none⟩ = some (.int .u64 a0_4) := fun W h => h.c4
        by_cases h1 : Go.bits .andNot .u64 a0_4 (fullM 4) = 0
        · have c2 : (Go.bits .andNot .u64 a0_4 (fullM 4) != 0) = false := bne_eq_false_iff_eq.mpr h1
          have E := Aside0.mk (pass_4 HP.out (setOk_yes 4 h0 h1))
          clear h0 h1
          go_wp2_with fail
          go_region_held3 (fun w' => w'.cell? ⟨w1.heap.size, 4, none⟩ = some (.int .u64 a0_4) ∧ Aside0 (RightG w w.heap.size w1.heap.size a0_0 a0_1 a0_2 a0_3 a0_4 a0_7 w')) (first | (go_keep; done) | exact ⟨cc _ (RightG.drew HG.out), ⟨RightG.drew HG.out⟩⟩ | exact ⟨cc _ (RightG.below (Aside0.out (And.right (by assumption))) hb), ⟨RightG.below (Aside0.out (And.right (by assumption))) hb⟩⟩) (first | (go_at_call 30; refine (tompionref04_all.calls 70 4 1 (fullM 4) _ F.out).mono ?_; rintro e w' ⟨rfl, hb⟩))
          have HG2 : Aside0 (RightG w w.heap.size w1.heap.size a0_0 a0_1 a0_2 a0_3 a0_4 a0_7 _) := And.right (by assumption)
          clear cc HG hc
          go_wp2
          go_roundw
          case rel => exact ⟨5, by decide, by decide, rfl, E, HG2⟩
          case measure => simp [intOf]
        · have c2 : (Go.bits .andNot .u64 a0_4 (fullM 4) != 0) = true := bne_iff_ne.mpr h1
          have E := Aside0.mk (right_no4 (x0 := a0_0) (x1 := a0_1) (x2 := a0_2) (x3 := a0_3) (x4 := a0_4) (x7 := a0_7) (setOk_more 4 h1))
          clear h0 h1
          go_wp2_with fail
          go_region_held3 (fun w' => w'.cell? ⟨w1.heap.size, 4, none⟩ = some (.int .u64 a0_4) ∧ Aside0 (RightG w w.heap.size w1.heap.size a0_0 a0_1 a0_2 a0_3 a0_4 a0_7 w')) (first | (go_keep; done) | exact ⟨cc _ (RightG.drew HG.out), ⟨RightG.drew HG.out⟩⟩ | exact ⟨cc _ (RightG.below (Aside0.out (And.right (by assumption))) hb), ⟨RightG.below (Aside0.out (And.right (by assumption))) hb⟩⟩) (first | (go_at_call 30; refine (tompionref04_all.calls 70 4 1 (fullM 4) _ F.out).mono ?_; rintro e w' ⟨rfl, hb⟩))
          have HG2 : Aside0 (RightG w w.heap.size w1.heap.size a0_0 a0_1 a0_2 a0_3 a0_4 a0_7 _) := And.right (by assumption)
          clear cc HG hc
          go_wp2
          go_ret
          exact ⟨by rw [E.out] <;> rfl, HG2.out.bel⟩
    · have E := Aside0.mk (right_yes (x7 := a0_7) HP.out)
      have hc7 := HG.out.c7
      by_cases h0 : -899 ≤ a0_7
      · have c1 : decide (-899 ≤ a0_7) = true := decide_eq_true h0
        clear h0
        go_wp2
        go_ret
        exact ⟨by rw [E.out, c1]; first | done | rfl | (simp; done), HG.out.bel⟩
      · have c1 : decide (-899 ≤ a0_7) = false := decide_eq_false h0
        clear h0
        go_wp2
        go_ret
        exact ⟨by rw [E.out, c1]; first | done | rfl | (simp; done), HG.out.bel⟩

/-! ### tompionref04_two: function 37 -/
def tompionref04_two.f (a0 : Int) : Option (ByteArray) := some (strOfNums (([(wrap64 (48 + (wrap64 (Int.tdiv a0 10)))) % 256, (wrap64 (48 + (Int.tmod a0 10))) % 256] : List Int)))
set_option maxHeartbeats 8000000 in
set_option maxRecDepth 100000 in
theorem tompionref04_two.calls (a0 : Int) (r : ByteArray) (w : World) (h : tompionref04_two.f a0 = some r) :
    Calls Tryd.prog 37 #[.int .i64 a0] w fun e w' => e = .returned (.string r) ∧ Below w.heap.size w w' := by
  have HB := Aside0.mk (Below.refl w.heap.size w)
  have H : (some (strOfNums (([(wrap64 (48 + (wrap64 (Int.tdiv a0 10)))) % 256, (wrap64 (48 + (Int.tmod a0 10))) % 256] : List Int)))) = some r := h
  clear h
  obtain ⟨y142, hy142⟩ : ∃ y_ : List Int, y_ = (([(wrap64 (48 + (wrap64 (Int.tdiv a0 10)))) % 256, (wrap64 (48 + (Int.tmod a0 10))) % 256] : List Int)) := ⟨_, rfl⟩
  replace H : (some (strOfNums y142)) = some r := by first | (rw [hy142]; with_reducible exact H) | (have H2_ := (Option.bind_some _ _).symm.trans H; rw [hy142]; with_reducible exact H2_) | (have H2_ := (Option.bind_some _ _).symm.trans H; with_reducible exact H2_) | with_reducible exact H | (rw [hy142]; exact H) | exact H
  have Ny142 := Aside0.mk hy142
  clear hy142
  obtain rfl := Option.some.inj H
  go_enter Tryd.func37, Tryd.ntmps37
  go_wp2_with (first | ((with_reducible refine gate_dst (N := 11) rfl ?_); refine Kd.R_lit (Kd.int .u8) _ 5 ?hg (N := 11) ?hd (xs := ([(wrap64 (48 + (wrap64 (Int.tdiv a0 10)))) % 256, (wrap64 (48 + (Int.tmod a0 10))) % 256] : List Int)) (inner := [.int .u8 ((wrap64 (48 + (wrap64 (Int.tdiv a0 10)))) % 256), .int .u8 ((wrap64 (48 + (Int.tmod a0 10))) % 256)]) (ok := fun _ => True) (okp := fun _ => True) ?hr ?hp (fun _ hk => hk) trivial (Below.refl _ _) (Nat.le_refl _) (by simp) ?_; (case hd => rfl); (case hg => rfl); (case hr => first | (go_simp; done) | (go_simp; rfl)); (case hp => exact (Reps.one (show Kd.M (Kd.int .u8) _ _ _ ((wrap64 (48 + (wrap64 (Int.tdiv a0 10)))) % 256) [.int .u8 ((wrap64 (48 + (wrap64 (Int.tdiv a0 10)))) % 256)] from rfl) (Reps.one (show Kd.M (Kd.int .u8) _ _ _ ((wrap64 (48 + (Int.tmod a0 10))) % 256) [.int .u8 ((wrap64 (48 + (Int.tmod a0 10))) % 256)] from rfl) (Reps.none _ _)))); intro v143 w2 ho3 hb hg_ hnew_; clear hg_ hnew_; (first | rw [← Ny142.out] at ho3 | (simp only [Int.reduceToNat] at ho3; rw [← Ny142.out] at ho3)); have n0_ := Aside0.mk (Kd.R_lower ho3 (below_size (by repeat (first | (with_reducible first | exact HB.out | apply below_alloc | apply pw_below_drewN | apply below_drew1) | exact HB.out)))); have n1_ := Aside0.mk (below_step (by repeat (first | (with_reducible first | exact HB.out | apply below_alloc | apply pw_below_drewN | apply below_drew1) | exact HB.out)) hb); clear HB; have HO144 := n0_; have HB := n1_; clear n0_ n1_; clear hb ho3; have hcv4 := own_string (P := Tryd.prog) Tryd.underlying34 Tryd.underlying5 Tryd.underlying9 (Kd.own_of_R HO144.out)))
  go_ret
  exact ⟨by first | rfl | (simp [errW_none, errW_some] <;> rfl) | (simp [*, errW_none, errW_some] <;> rfl), by repeat (first | (with_reducible first | exact HB.out | apply below_alloc | apply pw_below_drewN | apply below_drew1) | exact HB.out)⟩

/-! ### tompionref04_list: function 35 -/
def tompionref04_list.l0 : Nat → Int → ByteArray → Int → Option (ByteArray)
  | 0, _, _, _ => none
  | k + 1, x0, x3, x4 => if x4 < 64 then (if 0 ≤ x4 then (if (Go.bits .and .u64 (shr .u64 x0 x4) 1) = 1 then (if x3.toList = ([] : List UInt8) then (if x4 ≥ 10 then ((tompionref04_two.f x4).bind fun t145 => (if x3.size + t145.size ≤ 9223372036854775807 then (tompionref04_list.l0 k x0 (x3 ++ t145) (wrap64 (x4 + 1))) else (none))) else ((some (([(wrap64 (48 + x4)) % 256] : List Int) : List Int)).bind fun y146 => (if x3.size + (strOfNums y146).size ≤ 9223372036854775807 then (tompionref04_list.l0 k x0 (x3 ++ (strOfNums y146)) (wrap64 (x4 + 1))) else (none)))) else (if x3.size + 1 ≤ 9223372036854775807 then (if x4 ≥ 10 then ((tompionref04_two.f x4).bind fun t149 => (if (x3 ++ (⟨#[44]⟩ : ByteArray)).size + t149.size ≤ 9223372036854775807 then (tompionref04_list.l0 k x0 ((x3 ++ (⟨#[44]⟩ : ByteArray)) ++ t149) (wrap64 (x4 + 1))) else (none))) else ((some (([(wrap64 (48 + x4)) % 256] : List Int) : List Int)).bind fun y150 => (if (x3 ++ (⟨#[44]⟩ : ByteArray)).size + (strOfNums y150).size ≤ 9223372036854775807 then (tompionref04_list.l0 k x0 ((x3 ++ (⟨#[44]⟩ : ByteArray)) ++ (strOfNums y150)) (wrap64 (x4 + 1))) else (none)))) else (none))) else (tompionref04_list.l0 k x0 x3 (wrap64 (x4 + 1)))) else (none)) else (some x3)
def tompionref04_list.f (k : Nat) (a0 : Int) : Option (ByteArray) := tompionref04_list.l0 k a0 (⟨#[]⟩ : ByteArray) 0
theorem tompionref04_list.mono_l : ∀ k, (∀ y0 y1 y2, LeO (tompionref04_list.l0 k y0 y1 y2) (tompionref04_list.l0 (k + 1) y0 y1 y2))
  | 0 => fun _ _ _ r h => by simp [tompionref04_list.l0] at h
  | k + 1 => by
    have ih0 := tompionref04_list.mono_l k
    · intro y0 y1 y2
      unfold tompionref04_list.l0
      repeat' first
      | (with_reducible exact ih0 _ _ _)
      | (with_reducible exact LeO.refl _)
      | (with_reducible exact LeO.none _)
      | (with_reducible refine LeO.ite ?_ ?_)
      | (with_reducible refine LeO.bind ?_ (fun _ => ?_))
      | exact ih0 _ _ _
      | exact LeO.none _
      | refine LeO.ite ?_ ?_
      | refine LeO.bind ?_ (fun _ => ?_)
theorem tompionref04_list.mono : ∀ a0 k, LeO (tompionref04_list.f k a0) (tompionref04_list.f (k + 1) a0) := by
  intro a0 k
  have ih0 := tompionref04_list.mono_l k
  unfold tompionref04_list.f
  repeat' first
      | (with_reducible exact ih0 _ _ _)
      | (with_reducible exact LeO.refl _)
      | (with_reducible exact LeO.none _)
      | (with_reducible refine LeO.ite ?_ ?_)
      | (with_reducible refine LeO.bind ?_ (fun _ => ?_))
      | exact ih0 _ _ _
      | exact LeO.none _
      | refine LeO.ite ?_ ?_
      | refine LeO.bind ?_ (fun _ => ?_)
set_option maxHeartbeats 8000000 in
set_option maxRecDepth 100000 in
theorem tompionref04_list.calls (k : Nat) (a0 : Int) (r : ByteArray) (w : World) (h : tompionref04_list.f k a0 = some r) :
    Calls Tryd.prog 35 #[.int .u64 a0] w fun e w' => e = .returned (.string r) ∧ Below w.heap.size w w' := by
  have HB := Aside0.mk (Below.refl w.heap.size w)
  have H : (tompionref04_list.l0 k a0 (⟨#[]⟩ : ByteArray) 0) = some r := h
  clear h
  have H' := Aside0.mk H
  clear H
  go_enter Tryd.func35, Tryd.ntmps35
  go_wp2
  go_loopg [3, 4] k (fun kq v3 v4 w' => ∃ (x3_1 : ByteArray) (x4_1 : Int), v3 = .string x3_1 ∧ v4 = .int .i64 x4_1 ∧ Aside0 (tompionref04_list.l0 kq a0 x3_1 x4_1 = some r) ∧ Aside0 (kq ≤ k) ∧ Aside0 (Below w.heap.size w w'))
  case atStart => exact ⟨((⟨#[]⟩ : ByteArray)), (0), (by first | rfl | (simp; done) | (simp [*]; done)), (by first | rfl | (simp; done) | (simp [*]; done)), H', ⟨Nat.le_refl _⟩, ⟨by repeat (first | (with_reducible first | exact HB.out | apply below_alloc | apply pw_below_drewN | apply below_drew1) | exact HB.out)⟩⟩
  case round =>
    clear H'
    obtain ⟨x3_1, x4_1, rfl, rfl, HA, HK1, HB⟩ := hrel
    cases gk with
    | zero => exact absurd HA.out (by simp [tompionref04_list.l0])
    | succ k1 =>
      have H := HA.out
      clear HA
      simp only [tompionref04_list.l0] at H
      by_cases c2 : x4_1 < 64
      · rw [if_pos c2] at H
        have c2b0 : decide (x4_1 < 64) = true := decide_eq_true c2
        clear c2
        by_cases c3 : 0 ≤ x4_1
        · rw [if_pos c3] at H
          have c3b0 := eq_true c3
          have c3b1 : decide (0 ≤ x4_1) = true := decide_eq_true c3
          clear c3
          obtain ⟨ji4, hji4⟩ : ∃ j_ : Int, (shr .u64 a0 x4_1) = j_ := ⟨_, rfl⟩
          replace H : (if (Go.bits .and .u64 (ji4) 1) = 1 then (if x3_1.toList = ([] : List UInt8) then (if x4_1 ≥ 10 then ((tompionref04_two.f x4_1).bind fun t145 => (if x3_1.size + t145.size ≤ 9223372036854775807 then (tompionref04_list.l0 k1 a0 (x3_1 ++ t145) (wrap64 (x4_1 + 1))) else (none))) else ((some (([(wrap64 (48 + x4_1)) % 256] : List Int) : List Int)).bind fun y146 => (if x3_1.size + (strOfNums y146).size ≤ 9223372036854775807 then (tompionref04_list.l0 k1 a0 (x3_1 ++ (strOfNums y146)) (wrap64 (x4_1 + 1))) else (none)))) else (if x3_1.size + 1 ≤ 9223372036854775807 then (if x4_1 ≥ 10 then ((tompionref04_two.f x4_1).bind fun t149 => (if (x3_1 ++ (⟨#[44]⟩ : ByteArray)).size + t149.size ≤ 9223372036854775807 then (tompionref04_list.l0 k1 a0 ((x3_1 ++ (⟨#[44]⟩ : ByteArray)) ++ t149) (wrap64 (x4_1 + 1))) else (none))) else ((some (([(wrap64 (48 + x4_1)) % 256] : List Int) : List Int)).bind fun y150 => (if (x3_1 ++ (⟨#[44]⟩ : ByteArray)).size + (strOfNums y150).size ≤ 9223372036854775807 then (tompionref04_list.l0 k1 a0 ((x3_1 ++ (⟨#[44]⟩ : ByteArray)) ++ (strOfNums y150)) (wrap64 (x4_1 + 1))) else (none)))) else (none))) else (tompionref04_list.l0 k1 a0 x3_1 (wrap64 (x4_1 + 1)))) = some r := by first | (rw [hji4] at H; exact H) | (simp only [hji4] at H ⊢; exact H)
          have hji4_ : (a0 / 2 ^ min x4_1.toNat 64) = ji4 := hji4
          have hji4z : x4_1 ≤ 64 → (a0 / 2 ^ x4_1.toNat) = ji4 := shr_small hji4
          by_cases c5 : (Go.bits .and .u64 (ji4) 1) = 1
          · rw [if_pos c5] at H
            have c5b0 : ((Go.bits .and .u64 (ji4) 1) == 1) = true := beq_iff_eq.mpr c5
            have c5b1 : ((Go.bits .and .u64 (ji4) 1) != 1) = false := bne_eq_false_iff_eq.mpr c5
            clear c5
            by_cases c6 : x3_1.toList = ([] : List UInt8)
            · rw [if_pos c6] at H
              have c6b0 : (x3_1.toList == ([] : List UInt8)) = true := beq_iff_eq.mpr c6
              have c6b1 : (x3_1.toList != ([] : List UInt8)) = false := bne_eq_false_iff_eq.mpr c6
              clear c6
              by_cases c7 : x4_1 ≥ 10
              · rw [if_pos c7] at H
                have c7b0 : decide (10 ≤ x4_1) = true := decide_eq_true c7
                clear c7
                replace H := Option.bind_eq_some_iff.mp H
                obtain ⟨t145, A80, H⟩ := H
                replace H : (if x3_1.size + t145.size ≤ 9223372036854775807 then (tompionref04_list.l0 k1 a0 (x3_1 ++ t145) (wrap64 (x4_1 + 1))) else (none)) = some r := H
                have A8 := Aside0.mk A80
                clear A80
                by_cases c9 : x3_1.size + t145.size ≤ 9223372036854775807
                · rw [if_pos c9] at H
                  have c9b0 := eq_true c9
                  have c9b1 : decide (x3_1.size + t145.size ≤ 9223372036854775807) = true := decide_eq_true c9
                  try have c9b2 : (9223372036854775807 < x3_1.size + t145.size) = False := eq_false (Nat.not_lt.2 c9)
                  have H' := Aside0.mk H
                  clear H
                  go_wp2_with (first | ((with_reducible refine gate_callee (f := 37) rfl ?_); refine goesL_ (some 22) rfl rfl Tryd.func37 (by kernel_rfl) rfl #[.int .i64 x4_1] rfl (by (try simp only [List.map_toArray, List.map_cons, List.map_nil]); first | done | rfl | (simp only [List.length_drop, List.length_take]; rfl)) ?_; (with_reducible refine (tompionref04_two.calls x4_1 t145 _ A8.out).mono ?_); rintro e w10 ⟨rfl, hb⟩; refine ⟨_, rfl, ?_⟩; have n0_ := Aside0.mk (below_step (by repeat (first | (with_reducible first | exact HB.out | apply below_alloc | apply pw_below_drewN | apply below_drew1) | exact HB.out)) hb); clear HB; have HB := n0_; clear n0_; (try clear hb); (try clear hb2); (try clear hk); (try clear hi)))
                  go_roundg k1
                  case measure => have := HK1.out; omega
                  case rel => exact ⟨(x3_1 ++ t145), (wrap64 (x4_1 + 1)), (by first | rfl | (simp; done) | (simp [*]; done)), (by first | rfl | (simp; done) | (simp [*]; done)), H', ⟨by have := HK1.out; omega⟩, ⟨by repeat (first | (with_reducible first | exact HB.out | apply below_alloc | apply pw_below_drewN | apply below_drew1) | exact HB.out)⟩⟩
                · rw [if_neg c9] at H
                  exact absurd H (by simp)
              · rw [if_neg c7] at H
                have c7b0 : decide (10 ≤ x4_1) = false := decide_eq_false c7
                clear c7
                obtain ⟨y146, hy146⟩ : ∃ y_ : List Int, y_ = (([(wrap64 (48 + x4_1)) % 256] : List Int)) := ⟨_, rfl⟩
                replace H : (if x3_1.size + (strOfNums y146).size ≤ 9223372036854775807 then (tompionref04_list.l0 k1 a0 (x3_1 ++ (strOfNums y146)) (wrap64 (x4_1 + 1))) else (none)) = some r := by first | (rw [hy146]; with_reducible exact H) | (have H2_ := (Option.bind_some _ _).symm.trans H; rw [hy146]; with_reducible exact H2_) | (have H2_ := (Option.bind_some _ _).symm.trans H; with_reducible exact H2_) | with_reducible exact H | (rw [hy146]; exact H) | exact H
                have Ny146 := Aside0.mk hy146
                clear hy146
                by_cases c11 : x3_1.size + (strOfNums y146).size ≤ 9223372036854775807
                · rw [if_pos c11] at H
                  have c11b0 := eq_true c11
                  have c11b1 : decide (x3_1.size + (strOfNums y146).size ≤ 9223372036854775807) = true := decide_eq_true c11
                  try have c11b2 : (9223372036854775807 < x3_1.size + (strOfNums y146).size) = False := eq_false (Nat.not_lt.2 c11)
                  have H' := Aside0.mk H
                  clear H
                  go_wp2_with (first | ((with_reducible refine gate_dst (N := 28) rfl ?_); refine Kd.R_lit (Kd.int .u8) _ 5 ?hg (N := 28) ?hd (xs := ([(wrap64 (48 + x4_1)) % 256] : List Int)) (inner := [.int .u8 ((wrap64 (48 + x4_1)) % 256)]) (ok := fun _ => True) (okp := fun _ => True) ?hr ?hp (fun _ hk => hk) trivial (Below.refl _ _) (Nat.le_refl _) (by simp) ?_; (case hd => rfl); (case hg => rfl); (case hr => first | (go_simp; done) | (go_simp; rfl)); (case hp => exact (Reps.one (show Kd.M (Kd.int .u8) _ _ _ ((wrap64 (48 + x4_1)) % 256) [.int .u8 ((wrap64 (48 + x4_1)) % 256)] from rfl) (Reps.none _ _))); intro v147 w12 ho13 hb hg_ hnew_; clear hg_ hnew_; (first | rw [← Ny146.out] at ho13 | (simp only [Int.reduceToNat] at ho13; rw [← Ny146.out] at ho13)); have n0_ := Aside0.mk (Kd.R_lower ho13 (below_size (by repeat (first | (with_reducible first | exact HB.out | apply below_alloc | apply pw_below_drewN | apply below_drew1) | exact HB.out)))); have n1_ := Aside0.mk (below_step (by repeat (first | (with_reducible first | exact HB.out | apply below_alloc | apply pw_below_drewN | apply below_drew1) | exact HB.out)) hb); clear HB; have HO148 := n0_; have HB := n1_; clear n0_ n1_; clear hb ho13; have hcv14 := own_string (P := Tryd.prog) Tryd.underlying34 Tryd.underlying5 Tryd.underlying9 (Kd.own_of_R HO148.out)))
                  go_roundg k1
                  case measure => have := HK1.out; omega
                  case rel => exact ⟨(x3_1 ++ (strOfNums y146)), (wrap64 (x4_1 + 1)), (by first | rfl | (simp; done) | (simp [*]; done)), (by first | rfl | (simp; done) | (simp [*]; done)), H', ⟨by have := HK1.out; omega⟩, ⟨by repeat (first | (with_reducible first | exact HB.out | apply below_alloc | apply pw_below_drewN | apply below_drew1) | exact HB.out)⟩⟩
                · rw [if_neg c11] at H
                  exact absurd H (by simp)
            · rw [if_neg c6] at H
              have c6b0 : (x3_1.toList == ([] : List UInt8)) = false := beq_eq_false_iff_ne.mpr c6
              have c6b1 : (x3_1.toList != ([] : List UInt8)) = true := bne_iff_ne.mpr c6
              by_cases c15 : x3_1.size + 1 ≤ 9223372036854775807
              · rw [if_pos c15] at H
                have c15b0 := eq_true c15
                have c15b1 : decide (x3_1.size + 1 ≤ 9223372036854775807) = true := decide_eq_true c15
                try have c15b2 : (9223372036854775807 < x3_1.size + 1) = False := eq_false (Nat.not_lt.2 c15)
                by_cases c16 : x4_1 ≥ 10
                · rw [if_pos c16] at H
                  have c16b0 : decide (10 ≤ x4_1) = true := decide_eq_true c16
                  clear c16
                  replace H := Option.bind_eq_some_iff.mp H
                  obtain ⟨t149, A170, H⟩ := H
                  replace H : (if (x3_1 ++ (⟨#[44]⟩ : ByteArray)).size + t149.size ≤ 9223372036854775807 then (tompionref04_list.l0 k1 a0 ((x3_1 ++ (⟨#[44]⟩ : ByteArray)) ++ t149) (wrap64 (x4_1 + 1))) else (none)) = some r := H
                  have A17 := Aside0.mk A170
                  clear A170
                  by_cases c18 : (x3_1 ++ (⟨#[44]⟩ : ByteArray)).size + t149.size ≤ 9223372036854775807
                  · rw [if_pos c18] at H
                    have c18b0 := eq_true c18
                    have c18b1 : decide ((x3_1 ++ (⟨#[44]⟩ : ByteArray)).size + t149.size ≤ 9223372036854775807) = true := decide_eq_true c18
                    try have c18b2 : (9223372036854775807 < (x3_1 ++ (⟨#[44]⟩ : ByteArray)).size + t149.size) = False := eq_false (Nat.not_lt.2 c18)
                    have c18b3 : (x3_1.size + 1) + t149.size ≤ 9223372036854775807 := by have h_ := c18; simp only [ByteArray.size_append] at h_; exact h_
                    have H' := Aside0.mk H
                    clear H
                    go_wp2_with (first | ((with_reducible refine gate_callee (f := 37) rfl ?_); refine goesL_ (some 22) rfl rfl Tryd.func37 (by kernel_rfl) rfl #[.int .i64 x4_1] rfl (by (try simp only [List.map_toArray, List.map_cons, List.map_nil]); first | done | rfl | (simp only [List.length_drop, List.length_take]; rfl)) ?_; (with_reducible refine (tompionref04_two.calls x4_1 t149 _ A17.out).mono ?_); rintro e w19 ⟨rfl, hb⟩; refine ⟨_, rfl, ?_⟩; have n0_ := Aside0.mk (below_step (by repeat (first | (with_reducible first | exact HB.out | apply below_alloc | apply pw_below_drewN | apply below_drew1) | exact HB.out)) hb); clear HB; have HB := n0_; clear n0_; (try clear hb); (try clear hb2); (try clear hk); (try clear hi)))
                    go_roundg k1
                    case measure => have := HK1.out; omega
                    case rel => exact ⟨((x3_1 ++ (⟨#[44]⟩ : ByteArray)) ++ t149), (wrap64 (x4_1 + 1)), (by first | rfl | (simp; done) | (simp [*]; done)), (by first | rfl | (simp; done) | (simp [*]; done)), H', ⟨by have := HK1.out; omega⟩, ⟨by repeat (first | (with_reducible first | exact HB.out | apply below_alloc | apply pw_below_drewN | apply below_drew1) | exact HB.out)⟩⟩
                  · rw [if_neg c18] at H
                    exact absurd H (by simp)
                · rw [if_neg c16] at H
                  have c16b0 : decide (10 ≤ x4_1) = false := decide_eq_false c16
                  clear c16
                  obtain ⟨y150, hy150⟩ : ∃ y_ : List Int, y_ = (([(wrap64 (48 + x4_1)) % 256] : List Int)) := ⟨_, rfl⟩
                  replace H : (if (x3_1 ++ (⟨#[44]⟩ : ByteArray)).size + (strOfNums y150).size ≤ 9223372036854775807 then (tompionref04_list.l0 k1 a0 ((x3_1 ++ (⟨#[44]⟩ : ByteArray)) ++ (strOfNums y150)) (wrap64 (x4_1 + 1))) else (none)) = some r := by first | (rw [hy150]; with_reducible exact H) | (have H2_ := (Option.bind_some _ _).symm.trans H; rw [hy150]; with_reducible exact H2_) | (have H2_ := (Option.bind_some _ _).symm.trans H; with_reducible exact H2_) | with_reducible exact H | (rw [hy150]; exact H) | exact H
                  have Ny150 := Aside0.mk hy150
                  clear hy150
                  by_cases c20 : (x3_1 ++ (⟨#[44]⟩ : ByteArray)).size + (strOfNums y150).size ≤ 9223372036854775807
                  · rw [if_pos c20] at H
                    have c20b0 := eq_true c20
                    have c20b1 : decide ((x3_1 ++ (⟨#[44]⟩ : ByteArray)).size + (strOfNums y150).size ≤ 9223372036854775807) = true := decide_eq_true c20
                    try have c20b2 : (9223372036854775807 < (x3_1 ++ (⟨#[44]⟩ : ByteArray)).size + (strOfNums y150).size) = False := eq_false (Nat.not_lt.2 c20)
                    have c20b3 : (x3_1.size + 1) + (strOfNums y150).size ≤ 9223372036854775807 := by have h_ := c20; simp only [ByteArray.size_append] at h_; exact h_
                    have H' := Aside0.mk H
                    clear H
                    go_wp2_with (first | ((with_reducible refine gate_dst (N := 28) rfl ?_); refine Kd.R_lit (Kd.int .u8) _ 5 ?hg (N := 28) ?hd (xs := ([(wrap64 (48 + x4_1)) % 256] : List Int)) (inner := [.int .u8 ((wrap64 (48 + x4_1)) % 256)]) (ok := fun _ => True) (okp := fun _ => True) ?hr ?hp (fun _ hk => hk) trivial (Below.refl _ _) (Nat.le_refl _) (by simp) ?_; (case hd => rfl); (case hg => rfl); (case hr => first | (go_simp; done) | (go_simp; rfl)); (case hp => exact (Reps.one (show Kd.M (Kd.int .u8) _ _ _ ((wrap64 (48 + x4_1)) % 256) [.int .u8 ((wrap64 (48 + x4_1)) % 256)] from rfl) (Reps.none _ _))); intro v151 w21 ho22 hb hg_ hnew_; clear hg_ hnew_; (first | rw [← Ny150.out] at ho22 | (simp only [Int.reduceToNat] at ho22; rw [← Ny150.out] at ho22)); have n0_ := Aside0.mk (Kd.R_lower ho22 (below_size (by repeat (first | (with_reducible first | exact HB.out | apply below_alloc | apply pw_below_drewN | apply below_drew1) | exact HB.out)))); have n1_ := Aside0.mk (below_step (by repeat (first | (with_reducible first | exact HB.out | apply below_alloc | apply pw_below_drewN | apply below_drew1) | exact HB.out)) hb); clear HB; have HO152 := n0_; have HB := n1_; clear n0_ n1_; clear hb ho22; have hcv23 := own_string (P := Tryd.prog) Tryd.underlying34 Tryd.underlying5 Tryd.underlying9 (Kd.own_of_R HO152.out)))
                    go_roundg k1
                    case measure => have := HK1.out; omega
                    case rel => exact ⟨((x3_1 ++ (⟨#[44]⟩ : ByteArray)) ++ (strOfNums y150)), (wrap64 (x4_1 + 1)), (by first | rfl | (simp; done) | (simp [*]; done)), (by first | rfl | (simp; done) | (simp [*]; done)), H', ⟨by have := HK1.out; omega⟩, ⟨by repeat (first | (with_reducible first | exact HB.out | apply below_alloc | apply pw_below_drewN | apply below_drew1) | exact HB.out)⟩⟩
                  · rw [if_neg c20] at H
                    exact absurd H (by simp)
              · rw [if_neg c15] at H
                exact absurd H (by simp)
          · rw [if_neg c5] at H
            have c5b0 : ((Go.bits .and .u64 (ji4) 1) == 1) = false := beq_eq_false_iff_ne.mpr c5
            have c5b1 : ((Go.bits .and .u64 (ji4) 1) != 1) = true := bne_iff_ne.mpr c5
            have H' := Aside0.mk H
            clear H
            go_wp2
            go_roundg k1
            case measure => have := HK1.out; omega
            case rel => exact ⟨(x3_1), (wrap64 (x4_1 + 1)), (by first | rfl | (simp; done) | (simp [*]; done)), (by first | rfl | (simp; done) | (simp [*]; done)), H', ⟨by have := HK1.out; omega⟩, ⟨by repeat (first | (with_reducible first | exact HB.out | apply below_alloc | apply pw_below_drewN | apply below_drew1) | exact HB.out)⟩⟩
        · rw [if_neg c3] at H
          exact absurd H (by simp)
      · rw [if_neg c2] at H
        have c2b0 : decide (x4_1 < 64) = false := decide_eq_false c2
        clear c2
        obtain rfl := Option.some.inj H
        go_wp2
        go_ret
        exact ⟨by first | rfl | (simp [errW_none, errW_some] <;> rfl) | (simp [*, errW_none, errW_some] <;> rfl), by repeat (first | (with_reducible first | exact HB.out | apply below_alloc | apply pw_below_drewN | apply below_drew1) | exact HB.out)⟩

/-! ### tompionref04_any: function 36 -/
def tompionref04_any.l0 : Nat → Int → Int → Int → Option (ByteArray)
  | 0, _, _, _ => none
  | k + 1, x0, x1, x5 => if x5 < 100 then ((tompionref04_all.f k x0 x5).bind fun t154 => (if x1 = t154 then (if 0 ≤ (Int.tmod x5 64) then ((tompionref04_list.f k (shl .u64 1 (Int.tmod x5 64))).bind fun t155 => (if 2 + t155.size ≤ 9223372036854775807 then (some ((⟨#[42, 47]⟩ : ByteArray) ++ t155)) else (none))) else (none)) else (tompionref04_any.l0 k x0 x1 (wrap64 (x5 + 1))))) else (some (⟨#[]⟩ : ByteArray))
def tompionref04_any.f (k : Nat) (a0 : Int) (a1 : Int) : Option (ByteArray) := (tompionref04_all.f k a0 1).bind fun t153 => (if a1 = t153 then (some (⟨#[42]⟩ : ByteArray)) else (tompionref04_any.l0 k a0 a1 1))
theorem tompionref04_any.mono_l : ∀ k, (∀ y0 y1 y2, LeO (tompionref04_any.l0 k y0 y1 y2) (tompionref04_any.l0 (k + 1) y0 y1 y2))
  | 0 => fun _ _ _ r h => by simp [tompionref04_any.l0] at h
  | k + 1 => by
    have ih0 := tompionref04_any.mono_l k
    · intro y0 y1 y2
      unfold tompionref04_any.l0
      repeat' first
      | (with_reducible exact ih0 _ _ _)
      | (with_reducible exact tompionref04_all.mono _ _ _)
      | (with_reducible exact tompionref04_list.mono _ _)
      | (with_reducible exact LeO.refl _)
      | (with_reducible exact LeO.none _)
      | (with_reducible refine LeO.ite ?_ ?_)
      | (with_reducible refine LeO.bind ?_ (fun _ => ?_))
      | exact ih0 _ _ _
      | exact tompionref04_all.mono _ _ _
      | exact tompionref04_list.mono _ _
      | exact LeO.none _
      | refine LeO.ite ?_ ?_
      | refine LeO.bind ?_ (fun _ => ?_)
theorem tompionref04_any.mono : ∀ a0 a1 k, LeO (tompionref04_any.f k a0 a1) (tompionref04_any.f (k + 1) a0 a1) := by
  intro a0 a1 k
  have ih0 := tompionref04_any.mono_l k
  unfold tompionref04_any.f
  repeat' first
      | (with_reducible exact ih0 _ _ _)
      | (with_reducible exact tompionref04_all.mono _ _ _)
      | (with_reducible exact tompionref04_list.mono _ _)
      | (with_reducible exact LeO.refl _)
      | (with_reducible exact LeO.none _)
      | (with_reducible refine LeO.ite ?_ ?_)
      | (with_reducible refine LeO.bind ?_ (fun _ => ?_))
      | exact ih0 _ _ _
      | exact tompionref04_all.mono _ _ _
      | exact tompionref04_list.mono _ _
      | exact LeO.none _
      | refine LeO.ite ?_ ?_
      | refine LeO.bind ?_ (fun _ => ?_)
set_option maxHeartbeats 8000000 in
set_option maxRecDepth 100000 in
theorem tompionref04_any.calls (k : Nat) (a0 : Int) (a1 : Int) (r : ByteArray) (w : World) (h : tompionref04_any.f k a0 a1 = some r) :
    Calls Tryd.prog 36 #[.int .i64 a0, .int .u64 a1] w fun e w' => e = .returned (.string r) ∧ Below w.heap.size w w' := by
  have HB := Aside0.mk (Below.refl w.heap.size w)
  have H : ((tompionref04_all.f k a0 1).bind fun t153 => (if a1 = t153 then (some (⟨#[42]⟩ : ByteArray)) else (tompionref04_any.l0 k a0 a1 1))) = some r := h
  clear h
  replace H := Option.bind_eq_some_iff.mp H
  obtain ⟨t153, A30, H⟩ := H
  replace H : (if a1 = t153 then (some (⟨#[42]⟩ : ByteArray)) else (tompionref04_any.l0 k a0 a1 1)) = some r := H
  have A3 := Aside0.mk A30
  clear A30
  by_cases c4 : a1 = t153
  · rw [if_pos c4] at H
    have c4b0 : (a1 == t153) = true := beq_iff_eq.mpr c4
    have c4b1 : (a1 != t153) = false := bne_eq_false_iff_eq.mpr c4
    clear c4
    obtain rfl := Option.some.inj H
    go_enter Tryd.func36, Tryd.ntmps36
    go_wp2_with (first | ((with_reducible refine gate_callee (f := 30) rfl ?_); refine goesL_ (some 8) rfl rfl Tryd.func30 (by kernel_rfl) rfl #[.int .i64 a0, .int .i64 1] rfl (by (try simp only [List.map_toArray, List.map_cons, List.map_nil]); first | done | rfl | (simp only [List.length_drop, List.length_take]; rfl)) ?_; (with_reducible refine (tompionref04_all.calls k a0 1 t153 _ A3.out).mono ?_); rintro e w5 ⟨rfl, hb⟩; refine ⟨_, rfl, ?_⟩; have n0_ := Aside0.mk (below_step (by repeat (first | (with_reducible first | exact HB.out | apply below_alloc | apply pw_below_drewN | apply below_drew1) | exact HB.out)) hb); clear HB; have HB := n0_; clear n0_; (try clear hb); (try clear hb2); (try clear hk); (try clear hi)))
    go_ret
    exact ⟨by first | rfl | (simp [errW_none, errW_some] <;> rfl) | (simp [*, errW_none, errW_some] <;> rfl), by repeat (first | (with_reducible first | exact HB.out | apply below_alloc | apply pw_below_drewN | apply below_drew1) | exact HB.out)⟩
  · rw [if_neg c4] at H
    have c4b0 : (a1 == t153) = false := beq_eq_false_iff_ne.mpr c4
    have c4b1 : (a1 != t153) = true := bne_iff_ne.mpr c4
    have H' := Aside0.mk H
    clear H
    go_enter Tryd.func36, Tryd.ntmps36
    go_wp2_with (first | ((with_reducible refine gate_callee (f := 30) rfl ?_); refine goesL_ (some 8) rfl rfl Tryd.func30 (by kernel_rfl) rfl #[.int .i64 a0, .int .i64 1] rfl (by (try simp only [List.map_toArray, List.map_cons, List.map_nil]); first | done | rfl | (simp only [List.length_drop, List.length_take]; rfl)) ?_; (with_reducible refine (tompionref04_all.calls k a0 1 t153 _ A3.out).mono ?_); rintro e w6 ⟨rfl, hb⟩; refine ⟨_, rfl, ?_⟩; have n0_ := Aside0.mk (below_step (by repeat (first | (with_reducible first | exact HB.out | apply below_alloc | apply pw_below_drewN | apply below_drew1) | exact HB.out)) hb); clear HB; have HB := n0_; clear n0_; (try clear hb); (try clear hb2); (try clear hk); (try clear hi)))
    go_loopg [5] k (fun kq v5 w' => ∃ (x5_1 : Int), v5 = .int .i64 x5_1 ∧ Aside0 (tompionref04_any.l0 kq a0 a1 x5_1 = some r) ∧ Aside0 (kq ≤ k) ∧ Aside0 (Below w.heap.size w w'))
    case atStart => exact ⟨(1), (by first | rfl | (simp; done) | (simp [*]; done)), H', ⟨Nat.le_refl _⟩, ⟨by repeat (first | (with_reducible first | exact HB.out | apply below_alloc | apply pw_below_drewN | apply below_drew1) | exact HB.out)⟩⟩
    case round =>
      clear H'
      try clear p2
      try clear c3
      try clear c4
      try clear c4b0
      try clear c4b1
      obtain ⟨x5_1, rfl, HA, HK1, HB⟩ := hrel
      cases gk with
      | zero => exact absurd HA.out (by simp [tompionref04_any.l0])
      | succ k1 =>
        have H := HA.out
        clear HA
        simp only [tompionref04_any.l0] at H
        by_cases c7 : x5_1 < 100
        · rw [if_pos c7] at H
          have c7b0 : decide (x5_1 < 100) = true := decide_eq_true c7
          clear c7
          replace H := Option.bind_eq_some_iff.mp H
          obtain ⟨t154, A80, H⟩ := H
          replace H : (if a1 = t154 then (if 0 ≤ (Int.tmod x5_1 64) then ((tompionref04_list.f k1 (shl .u64 1 (Int.tmod x5_1 64))).bind fun t155 => (if 2 + t155.size ≤ 9223372036854775807 then (some ((⟨#[42, 47]⟩ : ByteArray) ++ t155)) else (none))) else (none)) else (tompionref04_any.l0 k1 a0 a1 (wrap64 (x5_1 + 1)))) = some r := H
          have A8 := Aside0.mk A80
          clear A80
          by_cases c9 : a1 = t154
          · rw [if_pos c9] at H
            have c9b0 : (a1 == t154) = true := beq_iff_eq.mpr c9
            have c9b1 : (a1 != t154) = false := bne_eq_false_iff_eq.mpr c9
            clear c9
            obtain ⟨ji10, hji10⟩ : ∃ j_ : Int, (Int.tmod x5_1 64) = j_ := ⟨_, rfl⟩
            replace H : (if 0 ≤ (ji10) then ((tompionref04_list.f k1 (shl .u64 1 (ji10))).bind fun t155 => (if 2 + t155.size ≤ 9223372036854775807 then (some ((⟨#[42, 47]⟩ : ByteArray) ++ t155)) else (none))) else (none)) = some r := by first | (rw [hji10] at H; exact H) | (simp only [hji10] at H ⊢; exact H)
            (try rw [hji10] at A8)
            by_cases c11 : 0 ≤ (ji10)
            · rw [if_pos c11] at H
              have c11b0 := eq_true c11
              have c11b1 : decide (0 ≤ (ji10)) = true := decide_eq_true c11
              clear c11
              obtain ⟨ji12, hji12⟩ : ∃ j_ : Int, (shl .u64 1 (ji10)) = j_ := ⟨_, rfl⟩
              replace H : ((tompionref04_list.f k1 (ji12)).bind fun t155 => (if 2 + t155.size ≤ 9223372036854775807 then (some ((⟨#[42, 47]⟩ : ByteArray) ++ t155)) else (none))) = some r := by first | (rw [hji12] at H; exact H) | (simp only [hji12] at H ⊢; exact H)
              (try rw [hji12] at A8)
              have hji12_ : (IntKind.u64.wrap (1 * 2 ^ min (ji10).toNat 64)) = ji12 := hji12
              have hji12z : (ji10) ≤ 64 → (IntKind.u64.wrap (1 * 2 ^ (ji10).toNat)) = ji12 := shl_small hji12
              have hji12u : (IntKind.u64.wrap (2 ^ min (ji10).toNat 64)) = ji12 := by have h_ := hji12_; rw [Int.one_mul] at h_; exact h_
              have hji12v : (ji10) ≤ 64 → (IntKind.u64.wrap (2 ^ (ji10).toNat)) = ji12 := fun hle_ => by have h_ := hji12z hle_; rw [Int.one_mul] at h_; exact h_
              replace H := Option.bind_eq_some_iff.mp H
              obtain ⟨t155, A130, H⟩ := H
              replace H : (if 2 + t155.size ≤ 9223372036854775807 then (some ((⟨#[42, 47]⟩ : ByteArray) ++ t155)) else (none)) = some r := H
              have A13 := Aside0.mk A130
              clear A130
              by_cases c14 : 2 + t155.size ≤ 9223372036854775807
              · rw [if_pos c14] at H
                have c14b0 := eq_true c14
                have c14b1 : decide (2 + t155.size ≤ 9223372036854775807) = true := decide_eq_true c14
                try have c14b2 : (9223372036854775807 < 2 + t155.size) = False := eq_false (Nat.not_lt.2 c14)
                obtain rfl := Option.some.inj H
                go_wp2_with (first | ((with_reducible refine gate_callee (f := 30) rfl ?_); refine goesL_ (some 17) rfl rfl Tryd.func30 (by kernel_rfl) rfl #[.int .i64 a0, .int .i64 x5_1] rfl (by (try simp only [List.map_toArray, List.map_cons, List.map_nil]); first | done | rfl | (simp only [List.length_drop, List.length_take]; rfl)) ?_; (with_reducible refine (tompionref04_all.calls k1 a0 x5_1 t154 _ A8.out).mono ?_); rintro e w15 ⟨rfl, hb⟩; refine ⟨_, rfl, ?_⟩; have n0_ := Aside0.mk (below_step (by repeat (first | (with_reducible first | exact HB.out | apply below_alloc | apply pw_below_drewN | apply below_drew1) | exact HB.out)) hb); clear HB; have HB := n0_; clear n0_; (try clear hb); (try clear hb2); (try clear hk); (try clear hi)) | ((with_reducible refine gate_callee (f := 35) rfl ?_); refine goesL_ (some 22) rfl rfl Tryd.func35 (by kernel_rfl) rfl #[.int .u64 ji12] rfl (by (try simp only [List.map_toArray, List.map_cons, List.map_nil]); first | done | (simp only [hji12]; rfl) | rfl | (simp only [List.length_drop, List.length_take]; rfl)) ?_; (with_reducible refine (tompionref04_list.calls k1 ji12 t155 _ A13.out).mono ?_); rintro e w16 ⟨rfl, hb⟩; refine ⟨_, rfl, ?_⟩; have n0_ := Aside0.mk (below_step (by repeat (first | (with_reducible first | exact HB.out | apply below_alloc | apply pw_below_drewN | apply below_drew1) | exact HB.out)) hb); clear HB; have HB := n0_; clear n0_; (try clear hb); (try clear hb2); (try clear hk); (try clear hi)))
                go_ret
                exact ⟨by first | rfl | (simp [errW_none, errW_some] <;> rfl) | (simp only [← hji10, ← hji12]; first | rfl | (simp [errW_none, errW_some] <;> rfl)) | (simp [*, errW_none, errW_some] <;> rfl), by repeat (first | (with_reducible first | exact HB.out | apply below_alloc | apply pw_below_drewN | apply below_drew1) | exact HB.out)⟩
              · rw [if_neg c14] at H
                exact absurd H (by simp)
            · rw [if_neg c11] at H
              exact absurd H (by simp)
          · rw [if_neg c9] at H
            have c9b0 : (a1 == t154) = false := beq_eq_false_iff_ne.mpr c9
            have c9b1 : (a1 != t154) = true := bne_iff_ne.mpr c9
            have H' := Aside0.mk H
            clear H
            go_wp2_with (first | ((with_reducible refine gate_callee (f := 30) rfl ?_); refine goesL_ (some 17) rfl rfl Tryd.func30 (by kernel_rfl) rfl #[.int .i64 a0, .int .i64 x5_1] rfl (by (try simp only [List.map_toArray, List.map_cons, List.map_nil]); first | done | rfl | (simp only [List.length_drop, List.length_take]; rfl)) ?_; (with_reducible refine (tompionref04_all.calls k1 a0 x5_1 t154 _ A8.out).mono ?_); rintro e w17 ⟨rfl, hb⟩; refine ⟨_, rfl, ?_⟩; have n0_ := Aside0.mk (below_step (by repeat (first | (with_reducible first | exact HB.out | apply below_alloc | apply pw_below_drewN | apply below_drew1) | exact HB.out)) hb); clear HB; have HB := n0_; clear n0_; (try clear hb); (try clear hb2); (try clear hk); (try clear hi)))
            go_roundg k1
            case measure => have := HK1.out; omega
            case rel => exact ⟨(wrap64 (x5_1 + 1)), (by first | rfl | (simp; done) | (simp [*]; done)), H', ⟨by have := HK1.out; omega⟩, ⟨by repeat (first | (with_reducible first | exact HB.out | apply below_alloc | apply pw_below_drewN | apply below_drew1) | exact HB.out)⟩⟩
        · rw [if_neg c7] at H
          have c7b0 : decide (x5_1 < 100) = false := decide_eq_false c7
          clear c7
          obtain rfl := Option.some.inj H
          go_wp2
          go_ret
          exact ⟨by first | rfl | (simp [errW_none, errW_some] <;> rfl) | (simp [*, errW_none, errW_some] <;> rfl), by repeat (first | (with_reducible first | exact HB.out | apply below_alloc | apply pw_below_drewN | apply below_drew1) | exact HB.out)⟩

/-! ### strings_Join: function 34 (given by hand) -/
def strings_Join.f (l0 : List ByteArray) (a1 : ByteArray) : Option (ByteArray) := if l0.length ≤ 100000 then (if (Lib.join (l0.map (·.data.toList)) a1.data.toList).length ≤ 140737488355328 then some ⟨(Lib.join (l0.map (·.data.toList)) a1.data.toList).toArray⟩ else none) else none
theorem strings_Join.calls (A0 : Option Addr) (c0 : Nat) (l0 : List ByteArray) (a1 : ByteArray) (r : ByteArray) (w : World) (hr0 : Kd.C Kd.string w A0 l0.length l0) (hc0 : l0.length ≤ c0) (h : strings_Join.f l0 a1 = some r) :
    Calls Tryd.prog 34 #[.slice A0 l0.length c0, .string a1] w fun e w' => e = .returned (.string r) ∧ Below w.heap.size w w' := by
  unfold strings_Join.f at h
  split at h
  case isFalse => cases h
  split at h
  case isFalse => cases h
  rename_i h0 h1
  obtain rfl := Option.some.inj h
  have hd := Kd.reads_of_C (enc := Value.string) (d := ByteArray.empty) (h1 := fun _ => rfl) hr0
  by_cases hn : 0 < l0.length
  · obtain ⟨ad, rfl, hc⟩ := hd.2.2 hn
    have k0 := hc 0 hn
    have hs : ad.spot = none := by
      have : ad.add 0 = ad := by simp [Addr.add]
      rw [this] at k0
      unfold World.cell? at k0
      cases q : ad.spot with
      | none => rfl
      | some z =>
        rw [q] at k0
        split at k0 <;> simp at k0
    obtain ⟨b, o, sp⟩ := ad
    have hs' : sp = none := hs
    subst hs'
    have hb : b < w.heap.size := by
      rcases Nat.lt_or_ge b w.heap.size with q | q
      · exact q
      · simp [World.cell?, Addr.add, Array.getElem?_eq_none q] at k0
    refine Tryd.strings_Join b o c0 l0 a1 w (fun j x hj => ?_) hb (by omega) hc0 h1
    obtain ⟨hjl, rfl⟩ := List.getElem?_eq_some_iff.mp hj
    have := hc j hjl
    have e : (⟨b, o, none⟩ : Addr).add j = ⟨b, o + j, none⟩ := by
      unfold Addr.add
      split
      · rename_i z; simp [z]
      · rfl
    rw [e] at this
    rw [this, List.getD_eq_getElem?_getD, List.getElem?_eq_getElem hjl]; rfl
  · have e : l0 = [] := List.eq_nil_of_length_eq_zero (by omega)
    subst e
    exact (Tryd.strings_Join_none A0 c0 a1 w).mono fun e w' ⟨he, hw⟩ => ⟨he, hw ▸ Below.refl _ _⟩

/-! ### strconv_Itoa: function 51 (given by hand) -/
def strconv_Itoa.f (a0 : Int) : Option (ByteArray) := if 0 ≤ a0 then (if a0 < 100 then some ⟨(Lib.decDigits a0.toNat).toArray⟩ else none) else none
theorem strconv_Itoa.calls (a0 : Int) (r : ByteArray) (w : World) (h : strconv_Itoa.f a0 = some r) :
    Calls Tryd.prog 51 #[.int .i64 a0] w fun e w' => e = .returned (.string r) ∧ Drawn0 w w' := by
  unfold strconv_Itoa.f at h
  split at h
  case isFalse => cases h
  split at h
  case isFalse => cases h
  rename_i h0 h1
  obtain rfl := Option.some.inj h
  obtain ⟨i, rfl⟩ := Int.eq_ofNat_of_zero_le h0
  exact (Tryd.strconv_Itoa_small i (by omega) w).mono fun e w' ⟨he, hw⟩ => ⟨he, hw ▸ Drawn0.refl _⟩

end Go.Proofs.YtmjfocfdbodmpaaDoor.X
