/- The functions of the program as plain Lean functions, and the walks that show that the Go text answers so: written by a program (xprint.py) out of the translation; conditions: none beyond those that each theorem names. -/
import Derived.Test.YteeemnnbgahnkaaX0
import Derived.Test.YteeemnnbgahnkaaX1
import Derived.Test.YteeemnnbgahnkaaX2
namespace Go.Proofs.Yteeemnnbgahnkaa.X
open Go.RowKit Go.Proofs.YteeemnnbgahnkaaW.PrintWords Go.Proofs.YteeemnnbgahnkaaW.PrintLast Go.Proofs.YteeemnnbgahnkaaW.PrintMore
attribute [local go_sem] max2_int min2_int max_two min_two max_three min_three max_four min_four   -- for this text's walks alone
set_option linter.unusedVariables false
set_option linter.unusedSimpArgs false

/-! ### tompionlaw03_CivilYears: function 6 -/
def tompionlaw03_CivilYears.l0 : Nat → Int → Int → Int → Option (Bool)
  | 0, _, _, _ => none
  | k + 1, x0, x3, x4 => if x4 ≤ 12 then ((civil_Long.f x0 x4).bind fun t155 => (tompionlaw03_CivilYears.l0 k x0 (wrap64 (x3 + t155)) (wrap64 (x4 + 1)))) else ((civil_Days.f x0 1 1).bind fun bt156 => ((civil_Days.f x0 12 31).bind fun bt158 => ((tompionlaw03_awake.f k).bind fun t160 => (if t160 = true then (if bt156.2 = 0 then (if bt158.2 = 0 then (if (wrap64 ((wrap64 (bt158.1 - bt156.1)) + 1)) = x3 then ((civil_Long.f x0 2).bind fun t161 => (if x3 = (wrap64 ((wrap64 (365 + t161)) - 28)) then ((civil_Days.f (wrap64 (x0 + 400)) 1 1).bind fun bt162 => (if (wrap64 (x0 + 400)) > 9999 then (if bt162.2 = 2 then (some true) else (if bt162.2 = 0 then (some ((wrap64 (bt162.1 - bt156.1)) == 146097)) else (some false))) else (if bt162.2 = 0 then (some ((wrap64 (bt162.1 - bt156.1)) == 146097)) else (some false)))) else (some false))) else (some false)) else (some false)) else (some false)) else (some false)))))
def tompionlaw03_CivilYears.f (k : Nat) (a0 : Int) : Option (Bool) := tompionlaw03_CivilYears.l0 k (wrap64 (1970 + (wrap64 (Int.tmod (IntKind.u64.wrap (a0)) 8030)))) 0 1
theorem tompionlaw03_CivilYears.mono_l : ∀ k, (∀ y0 y1 y2, LeO (tompionlaw03_CivilYears.l0 k y0 y1 y2) (tompionlaw03_CivilYears.l0 (k + 1) y0 y1 y2))
  | 0 => fun _ _ _ r h => by simp [tompionlaw03_CivilYears.l0] at h
  | k + 1 => by
    have ih0 := tompionlaw03_CivilYears.mono_l k
    · intro y0 y1 y2
      unfold tompionlaw03_CivilYears.l0
      repeat' first
      | (with_reducible exact ih0 _ _ _)
      | (with_reducible exact tompionlaw03_awake.mono _)
      | (with_reducible exact LeO.refl _)
      | (with_reducible exact LeO.none _)
      | (with_reducible refine LeO.ite ?_ ?_)
      | (with_reducible refine LeO.bind ?_ (fun _ => ?_))
      | exact ih0 _ _ _
      | exact tompionlaw03_awake.mono _
      | exact LeO.none _
      | refine LeO.ite ?_ ?_
      | refine LeO.bind ?_ (fun _ => ?_)
theorem tompionlaw03_CivilYears.mono : ∀ a0 k, LeO (tompionlaw03_CivilYears.f k a0) (tompionlaw03_CivilYears.f (k + 1) a0) := by
  intro a0 k
  have ih0 := tompionlaw03_CivilYears.mono_l k
  unfold tompionlaw03_CivilYears.f
  repeat' first
      | (with_reducible exact ih0 _ _ _)
      | (with_reducible exact tompionlaw03_awake.mono _)
      | (with_reducible exact LeO.refl _)
      | (with_reducible exact LeO.none _)
      | (with_reducible refine LeO.ite ?_ ?_)
      | (with_reducible refine LeO.bind ?_ (fun _ => ?_))
      | exact ih0 _ _ _
      | exact tompionlaw03_awake.mono _
      | exact LeO.none _
      | refine LeO.ite ?_ ?_
      | refine LeO.bind ?_ (fun _ => ?_)
set_option maxHeartbeats 8000000 in
set_option maxRecDepth 100000 in
theorem tompionlaw03_CivilYears.calls (k : Nat) (a0 : Int) (r : Bool) (w : World) (h : tompionlaw03_CivilYears.f k a0 = some r) :
    Calls Try.prog 6 #[.int .i64 a0] w fun e w' => e = .returned (.bool r) ∧ Drawn0 w w' := by
  have H : (tompionlaw03_CivilYears.l0 k (wrap64 (1970 + (wrap64 (Int.tmod (IntKind.u64.wrap (a0)) 8030)))) 0 1) = some r := h
  clear h
  have H' := Aside0.mk H
  clear H
  go_enter Try.func6, Try.ntmps6
  go_wp2
  go_loopg [3, 4] k (fun kq v3 v4 w' => ∃ (x3_1 : Int) (x4_1 : Int), v3 = .int .i64 x3_1 ∧ v4 = .int .i64 x4_1 ∧ Aside0 (tompionlaw03_CivilYears.l0 kq (wrap64 (1970 + (wrap64 (Int.tmod (IntKind.u64.wrap (a0)) 8030)))) x3_1 x4_1 = some r) ∧ Aside0 (kq ≤ k) ∧ Drawn0 w w')
  case atStart => exact ⟨(0), (1), (by first | rfl | (simp; done) | (simp [*]; done)), (by first | rfl | (simp; done) | (simp [*]; done)), H', ⟨Nat.le_refl _⟩, by repeat (first | exact Drawn0.refl _ | apply Drawn0.step)⟩
  case round =>
    clear H'
    obtain ⟨x3_1, x4_1, rfl, rfl, HA, HK1, ⟨m1, rfl⟩⟩ := hrel
    cases gk with
    | zero => exact absurd HA.out (by simp [tompionlaw03_CivilYears.l0])
    | succ k1 =>
      have H := HA.out
      clear HA
      simp only [tompionlaw03_CivilYears.l0] at H
      by_cases c2 : x4_1 ≤ 12
      · rw [if_pos c2] at H
        have c2b0 : decide (x4_1 ≤ 12) = true := decide_eq_true c2
        clear c2
        replace H := Option.bind_eq_some_iff.mp H
        obtain ⟨t155, A30, H⟩ := H
        replace H : (tompionlaw03_CivilYears.l0 k1 (wrap64 (1970 + (wrap64 (Int.tmod (IntKind.u64.wrap (a0)) 8030)))) (wrap64 (x3_1 + t155)) (wrap64 (x4_1 + 1))) = some r := H
        have A3 := Aside0.mk A30
        clear A30
        have H' := Aside0.mk H
        clear H
        go_wp2_with (first | ((with_reducible refine gate_callee (f := 12) rfl ?_); refine goesL_ (some 23) rfl rfl Try.func12 (by kernel_rfl) rfl #[.int .i64 (wrap64 (1970 + (wrap64 (Int.tmod (IntKind.u64.wrap (a0)) 8030)))), .int .i64 x4_1] rfl (by (try simp only [List.map_toArray, List.map_cons, List.map_nil]); first | done | rfl | (simp only [List.length_drop, List.length_take]; rfl)) ?_; (with_reducible refine (civil_Long.calls (wrap64 (1970 + (wrap64 (Int.tmod (IntKind.u64.wrap (a0)) 8030)))) x4_1 t155 _ A3.out).mono ?_); rintro e w' ⟨rfl, ⟨nd, rfl⟩⟩; refine ⟨_, rfl, ?_⟩))
        go_roundg k1
        case measure => have := HK1.out; omega
        case rel => exact ⟨(wrap64 (x3_1 + t155)), (wrap64 (x4_1 + 1)), (by first | rfl | (simp; done) | (simp [*]; done)), (by first | rfl | (simp; done) | (simp [*]; done)), H', ⟨by have := HK1.out; omega⟩, by repeat (first | exact Drawn0.refl _ | apply Drawn0.step)⟩
      · rw [if_neg c2] at H
        have c2b0 : decide (x4_1 ≤ 12) = false := decide_eq_false c2
        clear c2
        replace H := Option.bind_eq_some_iff.mp H
        obtain ⟨⟨t156, t157⟩, A40, H⟩ := H
        replace H : ((civil_Days.f (wrap64 (1970 + (wrap64 (Int.tmod (IntKind.u64.wrap (a0)) 8030)))) 12 31).bind fun bt158 => ((tompionlaw03_awake.f k1).bind fun t160 => (if t160 = true then (if t157 = 0 then (if bt158.2 = 0 then (if (wrap64 ((wrap64 (bt158.1 - t156)) + 1)) = x3_1 then ((civil_Long.f (wrap64 (1970 + (wrap64 (Int.tmod (IntKind.u64.wrap (a0)) 8030)))) 2).bind fun t161 => (if x3_1 = (wrap64 ((wrap64 (365 + t161)) - 28)) then ((civil_Days.f (wrap64 ((wrap64 (1970 + (wrap64 (Int.tmod (IntKind.u64.wrap (a0)) 8030)))) + 400)) 1 1).bind fun bt162 => (if (wrap64 ((wrap64 (1970 + (wrap64 (Int.tmod (IntKind.u64.wrap (a0)) 8030)))) + 400)) > 9999 then (if bt162.2 = 2 then (some true) else (if bt162.2 = 0 then (some ((wrap64 (bt162.1 - t156)) == 146097)) else (some false))) else (if bt162.2 = 0 then (some ((wrap64 (bt162.1 - t156)) == 146097)) else (some false)))) else (some false))) else (some false)) else (some false)) else (some false)) else (some false)))) = some r := H
        have A4 := Aside0.mk A40
        clear A40
        replace H := Option.bind_eq_some_iff.mp H
        obtain ⟨⟨t158, t159⟩, A50, H⟩ := H
        replace H : ((tompionlaw03_awake.f k1).bind fun t160 => (if t160 = true then (if t157 = 0 then (if t159 = 0 then (if (wrap64 ((wrap64 (t158 - t156)) + 1)) = x3_1 then ((civil_Long.f (wrap64 (1970 + (wrap64 (Int.tmod (IntKind.u64.wrap (a0)) 8030)))) 2).bind fun t161 => (if x3_1 = (wrap64 ((wrap64 (365 + t161)) - 28)) then ((civil_Days.f (wrap64 ((wrap64 (1970 + (wrap64 (Int.tmod (IntKind.u64.wrap (a0)) 8030)))) + 400)) 1 1).bind fun bt162 => (if (wrap64 ((wrap64 (1970 + (wrap64 (Int.tmod (IntKind.u64.wrap (a0)) 8030)))) + 400)) > 9999 then (if bt162.2 = 2 then (some true) else (if bt162.2 = 0 then (some ((wrap64 (bt162.1 - t156)) == 146097)) else (some false))) else (if bt162.2 = 0 then (some ((wrap64 (bt162.1 - t156)) == 146097)) else (some false)))) else (some false))) else (some false)) else (some false)) else (some false)) else (some false))) = some r := H
        have A5 := Aside0.mk A50
        clear A50
        replace H := Option.bind_eq_some_iff.mp H
        obtain ⟨t160, A60, H⟩ := H
        replace H : (if t160 = true then (if t157 = 0 then (if t159 = 0 then (if (wrap64 ((wrap64 (t158 - t156)) + 1)) = x3_1 then ((civil_Long.f (wrap64 (1970 + (wrap64 (Int.tmod (IntKind.u64.wrap (a0)) 8030)))) 2).bind fun t161 => (if x3_1 = (wrap64 ((wrap64 (365 + t161)) - 28)) then ((civil_Days.f (wrap64 ((wrap64 (1970 + (wrap64 (Int.tmod (IntKind.u64.wrap (a0)) 8030)))) + 400)) 1 1).bind fun bt162 => (if (wrap64 ((wrap64 (1970 + (wrap64 (Int.tmod (IntKind.u64.wrap (a0)) 8030)))) + 400)) > 9999 then (if bt162.2 = 2 then (some true) else (if bt162.2 = 0 then (some ((wrap64 (bt162.1 - t156)) == 146097)) else (some false))) else (if bt162.2 = 0 then (some ((wrap64 (bt162.1 - t156)) == 146097)) else (some false)))) else (some false))) else (some false)) else (some false)) else (some false)) else (some false)) = some r := H
        have A6 := Aside0.mk A60
        clear A60
        by_cases c7 : t160 = true
        · subst c7
          have H1 : (if t157 = 0 then (if t159 = 0 then (if (wrap64 ((wrap64 (t158 - t156)) + 1)) = x3_1 then ((civil_Long.f (wrap64 (1970 + (wrap64 (Int.tmod (IntKind.u64.wrap (a0)) 8030)))) 2).bind fun t161 => (if x3_1 = (wrap64 ((wrap64 (365 + t161)) - 28)) then ((civil_Days.f (wrap64 ((wrap64 (1970 + (wrap64 (Int.tmod (IntKind.u64.wrap (a0)) 8030)))) + 400)) 1 1).bind fun bt162 => (if (wrap64 ((wrap64 (1970 + (wrap64 (Int.tmod (IntKind.u64.wrap (a0)) 8030)))) + 400)) > 9999 then (if bt162.2 = 2 then (some true) else (if bt162.2 = 0 then (some ((wrap64 (bt162.1 - t156)) == 146097)) else (some false))) else (if bt162.2 = 0 then (some ((wrap64 (bt162.1 - t156)) == 146097)) else (some false)))) else (some false))) else (some false)) else (some false)) else (some false)) = some r := by rw [if_pos rfl] at H; exact H
          clear H
          have H := H1
          clear H1
          by_cases c8 : t157 = 0
          · rw [if_pos c8] at H
            have c8b0 : (t157 == 0) = true := beq_iff_eq.mpr c8
            have c8b1 : (t157 != 0) = false := bne_eq_false_iff_eq.mpr c8
            clear c8
            by_cases c9 : t159 = 0
            · rw [if_pos c9] at H
              have c9b0 : (t159 == 0) = true := beq_iff_eq.mpr c9
              have c9b1 : (t159 != 0) = false := bne_eq_false_iff_eq.mpr c9
              clear c9
              by_cases c10 : (wrap64 ((wrap64 (t158 - t156)) + 1)) = x3_1
              · rw [if_pos c10] at H
                have c10b0 : ((wrap64 ((wrap64 (t158 - t156)) + 1)) == x3_1) = true := beq_iff_eq.mpr c10
                have c10b1 : ((wrap64 ((wrap64 (t158 - t156)) + 1)) != x3_1) = false := bne_eq_false_iff_eq.mpr c10
                clear c10
                replace H := Option.bind_eq_some_iff.mp H
                obtain ⟨t161, A110, H⟩ := H
                replace H : (if x3_1 = (wrap64 ((wrap64 (365 + t161)) - 28)) then ((civil_Days.f (wrap64 ((wrap64 (1970 + (wrap64 (Int.tmod (IntKind.u64.wrap (a0)) 8030)))) + 400)) 1 1).bind fun bt162 => (if (wrap64 ((wrap64 (1970 + (wrap64 (Int.tmod (IntKind.u64.wrap (a0)) 8030)))) + 400)) > 9999 then (if bt162.2 = 2 then (some true) else (if bt162.2 = 0 then (some ((wrap64 (bt162.1 - t156)) == 146097)) else (some false))) else (if bt162.2 = 0 then (some ((wrap64 (bt162.1 - t156)) == 146097)) else (some false)))) else (some false)) = some r := H
                have A11 := Aside0.mk A110
                clear A110
                by_cases c12 : x3_1 = (wrap64 ((wrap64 (365 + t161)) - 28))
                · rw [if_pos c12] at H
                  have c12b0 : (x3_1 == (wrap64 ((wrap64 (365 + t161)) - 28))) = true := beq_iff_eq.mpr c12
                  have c12b1 : (x3_1 != (wrap64 ((wrap64 (365 + t161)) - 28))) = false := bne_eq_false_iff_eq.mpr c12
                  clear c12
                  replace H := Option.bind_eq_some_iff.mp H
                  obtain ⟨⟨t162, t163⟩, A130, H⟩ := H
                  replace H : (if (wrap64 ((wrap64 (1970 + (wrap64 (Int.tmod (IntKind.u64.wrap (a0)) 8030)))) + 400)) > 9999 then (if t163 = 2 then (some true) else (if t163 = 0 then (some ((wrap64 (t162 - t156)) == 146097)) else (some false))) else (if t163 = 0 then (some ((wrap64 (t162 - t156)) == 146097)) else (some false))) = some r := H
                  have A13 := Aside0.mk A130
                  clear A130
                  by_cases c14 : (wrap64 ((wrap64 (1970 + (wrap64 (Int.tmod (IntKind.u64.wrap (a0)) 8030)))) + 400)) > 9999
                  · rw [if_pos c14] at H
                    have c14b0 : decide (9999 < (wrap64 ((wrap64 (1970 + (wrap64 (Int.tmod (IntKind.u64.wrap (a0)) 8030)))) + 400))) = true := decide_eq_true c14
                    clear c14
                    by_cases c15 : t163 = 2
                    · rw [if_pos c15] at H
                      have c15b0 : (t163 == 2) = true := beq_iff_eq.mpr c15
                      have c15b1 : (t163 != 2) = false := bne_eq_false_iff_eq.mpr c15
                      clear c15
                      obtain rfl := Option.some.inj H
                      go_wp2_with (first | ((with_reducible refine gate_callee (f := 9) rfl ?_); refine goesL_ (some 27) rfl rfl Try.func9 (by kernel_rfl) rfl #[.int .i64 (wrap64 (1970 + (wrap64 (Int.tmod (IntKind.u64.wrap (a0)) 8030)))), .int .i64 1, .int .i64 1] rfl (by (try simp only [List.map_toArray, List.map_cons, List.map_nil]); first | done | rfl | (simp only [List.length_drop, List.length_take]; rfl)) ?_; (with_reducible refine (civil_Days.calls (wrap64 (1970 + (wrap64 (Int.tmod (IntKind.u64.wrap (a0)) 8030)))) 1 1 t156 t157 _ A4.out).mono ?_); rintro e w' ⟨rfl, ⟨nd, rfl⟩⟩; refine ⟨_, rfl, ?_⟩) | ((with_reducible refine gate_callee (f := 9) rfl ?_); refine goesL_ (some 32) rfl rfl Try.func9 (by kernel_rfl) rfl #[.int .i64 (wrap64 (1970 + (wrap64 (Int.tmod (IntKind.u64.wrap (a0)) 8030)))), .int .i64 12, .int .i64 31] rfl (by (try simp only [List.map_toArray, List.map_cons, List.map_nil]); first | done | rfl | (simp only [List.length_drop, List.length_take]; rfl)) ?_; (with_reducible refine (civil_Days.calls (wrap64 (1970 + (wrap64 (Int.tmod (IntKind.u64.wrap (a0)) 8030)))) 12 31 t158 t159 _ A5.out).mono ?_); rintro e w' ⟨rfl, ⟨nd, rfl⟩⟩; refine ⟨_, rfl, ?_⟩) | ((with_reducible refine gate_callee (f := 11) rfl ?_); refine goesL_ (some 35) rfl rfl Try.func11 (by kernel_rfl) rfl #[] rfl (by (try simp only [List.map_toArray, List.map_cons, List.map_nil]); first | done | rfl | (simp only [List.length_drop, List.length_take]; rfl)) ?_; (with_reducible refine (tompionlaw03_awake.calls k1  true _ A6.out).mono ?_); rintro e w' ⟨rfl, ⟨nd, rfl⟩⟩; refine ⟨_, rfl, ?_⟩) | (go_at_call 12; (with_reducible refine (civil_Long.calls (wrap64 (1970 + (wrap64 (Int.tmod (IntKind.u64.wrap (a0)) 8030)))) 2 t161 _ A11.out).mono ?_); rintro e w' ⟨rfl, ⟨nd, rfl⟩⟩) | ((with_reducible refine gate_callee (f := 9) rfl ?_); refine goesL_ (some 64) rfl rfl Try.func9 (by kernel_rfl) rfl #[.int .i64 (wrap64 ((wrap64 (1970 + (wrap64 (Int.tmod (IntKind.u64.wrap (a0)) 8030)))) + 400)), .int .i64 1, .int .i64 1] rfl (by (try simp only [List.map_toArray, List.map_cons, List.map_nil]); first | done | rfl | (simp only [List.length_drop, List.length_take]; rfl)) ?_; (with_reducible refine (civil_Days.calls (wrap64 ((wrap64 (1970 + (wrap64 (Int.tmod (IntKind.u64.wrap (a0)) 8030)))) + 400)) 1 1 t162 t163 _ A13.out).mono ?_); rintro e w' ⟨rfl, ⟨nd, rfl⟩⟩; refine ⟨_, rfl, ?_⟩))
                      go_ret
                      exact ⟨by first | rfl | (simp; done) | (simp [*]; done), by repeat (first | exact Drawn0.refl _ | apply Drawn0.step)⟩
                    · rw [if_neg c15] at H
                      have c15b0 : (t163 == 2) = false := beq_eq_false_iff_ne.mpr c15
                      have c15b1 : (t163 != 2) = true := bne_iff_ne.mpr c15
                      by_cases c16 : t163 = 0
                      · rw [if_pos c16] at H
                        have c16b0 : (t163 == 0) = true := beq_iff_eq.mpr c16
                        have c16b1 : (t163 != 0) = false := bne_eq_false_iff_eq.mpr c16
                        clear c16
                        obtain rfl := Option.some.inj H
                        go_wp2_with (first | ((with_reducible refine gate_callee (f := 9) rfl ?_); refine goesL_ (some 27) rfl rfl Try.func9 (by kernel_rfl) rfl #[.int .i64 (wrap64 (1970 + (wrap64 (Int.tmod (IntKind.u64.wrap (a0)) 8030)))), .int .i64 1, .int .i64 1] rfl (by (try simp only [List.map_toArray, List.map_cons, List.map_nil]); first | done | rfl | (simp only [List.length_drop, List.length_take]; rfl)) ?_; (with_reducible refine (civil_Days.calls (wrap64 (1970 + (wrap64 (Int.tmod (IntKind.u64.wrap (a0)) 8030)))) 1 1 t156 t157 _ A4.out).mono ?_); rintro e w' ⟨rfl, ⟨nd, rfl⟩⟩; refine ⟨_, rfl, ?_⟩) | ((with_reducible refine gate_callee (f := 9) rfl ?_); refine goesL_ (some 32) rfl rfl Try.func9 (by kernel_rfl) rfl #[.int .i64 (wrap64 (1970 + (wrap64 (Int.tmod (IntKind.u64.wrap (a0)) 8030)))), .int .i64 12, .int .i64 31] rfl (by (try simp only [List.map_toArray, List.map_cons, List.map_nil]); first | done | rfl | (simp only [List.length_drop, List.length_take]; rfl)) ?_; (with_reducible refine (civil_Days.calls (wrap64 (1970 + (wrap64 (Int.tmod (IntKind.u64.wrap (a0)) 8030)))) 12 31 t158 t159 _ A5.out).mono ?_); rintro e w' ⟨rfl, ⟨nd, rfl⟩⟩; refine ⟨_, rfl, ?_⟩) | ((with_reducible refine gate_callee (f := 11) rfl ?_); refine goesL_ (some 35) rfl rfl Try.func11 (by kernel_rfl) rfl #[] rfl (by (try simp only [List.map_toArray, List.map_cons, List.map_nil]); first | done | rfl | (simp only [List.length_drop, List.length_take]; rfl)) ?_; (with_reducible refine (tompionlaw03_awake.calls k1  true _ A6.out).mono ?_); rintro e w' ⟨rfl, ⟨nd, rfl⟩⟩; refine ⟨_, rfl, ?_⟩) | (go_at_call 12; (with_reducible refine (civil_Long.calls (wrap64 (1970 + (wrap64 (Int.tmod (IntKind.u64.wrap (a0)) 8030)))) 2 t161 _ A11.out).mono ?_); rintro e w' ⟨rfl, ⟨nd, rfl⟩⟩) | ((with_reducible refine gate_callee (f := 9) rfl ?_); refine goesL_ (some 64) rfl rfl Try.func9 (by kernel_rfl) rfl #[.int .i64 (wrap64 ((wrap64 (1970 + (wrap64 (Int.tmod (IntKind.u64.wrap (a0)) 8030)))) + 400)), .int .i64 1, .int .i64 1] rfl (by (try simp only [List.map_toArray, List.map_cons, List.map_nil]); first | done | rfl | (simp only [List.length_drop, List.length_take]; rfl)) ?_; (with_reducible refine (civil_Days.calls (wrap64 ((wrap64 (1970 + (wrap64 (Int.tmod (IntKind.u64.wrap (a0)) 8030)))) + 400)) 1 1 t162 t163 _ A13.out).mono ?_); rintro e w' ⟨rfl, ⟨nd, rfl⟩⟩; refine ⟨_, rfl, ?_⟩))
                        go_ret
                        exact ⟨by first | rfl | (simp; done) | (simp [*]; done), by repeat (first | exact Drawn0.refl _ | apply Drawn0.step)⟩
                      · rw [if_neg c16] at H
                        have c16b0 : (t163 == 0) = false := beq_eq_false_iff_ne.mpr c16
                        have c16b1 : (t163 != 0) = true := bne_iff_ne.mpr c16
                        obtain rfl := Option.some.inj H
                        go_wp2_with (first | ((with_reducible refine gate_callee (f := 9) rfl ?_); refine goesL_ (some 27) rfl rfl Try.func9 (by kernel_rfl) rfl #[.int .i64 (wrap64 (1970 + (wrap64 (Int.tmod (IntKind.u64.wrap (a0)) 8030)))), .int .i64 1, .int .i64 1] rfl (by (try simp only [List.map_toArray, List.map_cons, List.map_nil]); first | done | rfl | (simp only [List.length_drop, List.length_take]; rfl)) ?_; (with_reducible refine (civil_Days.calls (wrap64 (1970 + (wrap64 (Int.tmod (IntKind.u64.wrap (a0)) 8030)))) 1 1 t156 t157 _ A4.out).mono ?_); rintro e w' ⟨rfl, ⟨nd, rfl⟩⟩; refine ⟨_, rfl, ?_⟩) | ((with_reducible refine gate_callee (f := 9) rfl ?_); refine goesL_ (some 32) rfl rfl Try.func9 (by kernel_rfl) rfl #[.int .i64 (wrap64 (1970 + (wrap64 (Int.tmod (IntKind.u64.wrap (a0)) 8030)))), .int .i64 12, .int .i64 31] rfl (by (try simp only [List.map_toArray, List.map_cons, List.map_nil]); first | done | rfl | (simp only [List.length_drop, List.length_take]; rfl)) ?_; (with_reducible refine (civil_Days.calls (wrap64 (1970 + (wrap64 (Int.tmod (IntKind.u64.wrap (a0)) 8030)))) 12 31 t158 t159 _ A5.out).mono ?_); rintro e w' ⟨rfl, ⟨nd, rfl⟩⟩; refine ⟨_, rfl, ?_⟩) | ((with_reducible refine gate_callee (f := 11) rfl ?_); refine goesL_ (some 35) rfl rfl Try.func11 (by kernel_rfl) rfl #[] rfl (by (try simp only [List.map_toArray, List.map_cons, List.map_nil]); first | done | rfl | (simp only [List.length_drop, List.length_take]; rfl)) ?_; (with_reducible refine (tompionlaw03_awake.calls k1  true _ A6.out).mono ?_); rintro e w' ⟨rfl, ⟨nd, rfl⟩⟩; refine ⟨_, rfl, ?_⟩) | (go_at_call 12; (with_reducible refine (civil_Long.calls (wrap64 (1970 + (wrap64 (Int.tmod (IntKind.u64.wrap (a0)) 8030)))) 2 t161 _ A11.out).mono ?_); rintro e w' ⟨rfl, ⟨nd, rfl⟩⟩) | ((with_reducible refine gate_callee (f := 9) rfl ?_); refine goesL_ (some 64) rfl rfl Try.func9 (by kernel_rfl) rfl #[.int .i64 (wrap64 ((wrap64 (1970 + (wrap64 (Int.tmod (IntKind.u64.wrap (a0)) 8030)))) + 400)), .int .i64 1, .int .i64 1] rfl (by (try simp only [List.map_toArray, List.map_cons, List.map_nil]); first | done | rfl | (simp only [List.length_drop, List.length_take]; rfl)) ?_; (with_reducible refine (civil_Days.calls (wrap64 ((wrap64 (1970 + (wrap64 (Int.tmod (IntKind.u64.wrap (a0)) 8030)))) + 400)) 1 1 t162 t163 _ A13.out).mono ?_); rintro e w' ⟨rfl, ⟨nd, rfl⟩⟩; refine ⟨_, rfl, ?_⟩))
                        go_ret
                        exact ⟨by first | rfl | (simp; done) | (simp [*]; done), by repeat (first | exact Drawn0.refl _ | apply Drawn0.step)⟩
                  · rw [if_neg c14] at H
                    have c14b0 : decide (9999 < (wrap64 ((wrap64 (1970 + (wrap64 (Int.tmod (IntKind.u64.wrap (a0)) 8030)))) + 400))) = false := decide_eq_false c14
                    clear c14
                    by_cases c17 : t163 = 0
                    · rw [if_pos c17] at H
                      have c17b0 : (t163 == 0) = true := beq_iff_eq.mpr c17
                      have c17b1 : (t163 != 0) = false := bne_eq_false_iff_eq.mpr c17
                      clear c17
                      obtain rfl := Option.some.inj H
                      go_wp2_with (first | ((with_reducible refine gate_callee (f := 9) rfl ?_); refine goesL_ (some 27) rfl rfl Try.func9 (by kernel_rfl) rfl #[.int .i64 (wrap64 (1970 + (wrap64 (Int.tmod (IntKind.u64.wrap (a0)) 8030)))), .int .i64 1, .int .i64 1] rfl (by (try simp only [List.map_toArray, List.map_cons, List.map_nil]); first | done | rfl | (simp only [List.length_drop, List.length_take]; rfl)) ?_; (with_reducible refine (civil_Days.calls (wrap64 (1970 + (wrap64 (Int.tmod (IntKind.u64.wrap (a0)) 8030)))) 1 1 t156 t157 _ A4.out).mono ?_); rintro e w' ⟨rfl, ⟨nd, rfl⟩⟩; refine ⟨_, rfl, ?_⟩) | ((with_reducible refine gate_callee (f := 9) rfl ?_); refine goesL_ (some 32) rfl rfl Try.func9 (by kernel_rfl) rfl #[.int .i64 (wrap64 (1970 + (wrap64 (Int.tmod (IntKind.u64.wrap (a0)) 8030)))), .int .i64 12, .int .i64 31] rfl (by (try simp only [List.map_toArray, List.map_cons, List.map_nil]); first | done | rfl | (simp only [List.length_drop, List.length_take]; rfl)) ?_; (with_reducible refine (civil_Days.calls (wrap64 (1970 + (wrap64 (Int.tmod (IntKind.u64.wrap (a0)) 8030)))) 12 31 t158 t159 _ A5.out).mono ?_); rintro e w' ⟨rfl, ⟨nd, rfl⟩⟩; refine ⟨_, rfl, ?_⟩) | ((with_reducible refine gate_callee (f := 11) rfl ?_); refine goesL_ (some 35) rfl rfl Try.func11 (by kernel_rfl) rfl #[] rfl (by (try simp only [List.map_toArray, List.map_cons, List.map_nil]); first | done | rfl | (simp only [List.length_drop, List.length_take]; rfl)) ?_; (with_reducible refine (tompionlaw03_awake.calls k1  true _ A6.out).mono ?_); rintro e w' ⟨rfl, ⟨nd, rfl⟩⟩; refine ⟨_, rfl, ?_⟩) | (go_at_call 12; (with_reducible refine (civil_Long.calls (wrap64 (1970 + (wrap64 (Int.tmod (IntKind.u64.wrap (a0)) 8030)))) 2 t161 _ A11.out).mono ?_); rintro e w' ⟨rfl, ⟨nd, rfl⟩⟩) | ((with_reducible refine gate_callee (f := 9) rfl ?_); refine goesL_ (some 64) rfl rfl Try.func9 (by kernel_rfl) rfl #[.int .i64 (wrap64 ((wrap64 (1970 + (wrap64 (Int.tmod (IntKind.u64.wrap (a0)) 8030)))) + 400)), .int .i64 1, .int .i64 1] rfl (by (try simp only [List.map_toArray, List.map_cons, List.map_nil]); first | done | rfl | (simp only [List.length_drop, List.length_take]; rfl)) ?_; (with_reducible refine (civil_Days.calls (wrap64 ((wrap64 (1970 + (wrap64 (Int.tmod (IntKind.u64.wrap (a0)) 8030)))) + 400)) 1 1 t162 t163 _ A13.out).mono ?_); rintro e w' ⟨rfl, ⟨nd, rfl⟩⟩; refine ⟨_, rfl, ?_⟩))
                      go_ret
                      exact ⟨by first | rfl | (simp; done) | (simp [*]; done), by repeat (first | exact Drawn0.refl _ | apply Drawn0.step)⟩
                    · rw [if_neg c17] at H
                      have c17b0 : (t163 == 0) = false := beq_eq_false_iff_ne.mpr c17
                      have c17b1 : (t163 != 0) = true := bne_iff_ne.mpr c17
                      obtain rfl := Option.some.inj H
                      go_wp2_with (first | ((with_reducible refine gate_callee (f := 9) rfl ?_); refine goesL_ (some 27) rfl rfl Try.func9 (by kernel_rfl) rfl #[.int .i64 (wrap64 (1970 + (wrap64 (Int.tmod (IntKind.u64.wrap (a0)) 8030)))), .int .i64 1, .int .i64 1] rfl (by (try simp only [List.map_toArray, List.map_cons, List.map_nil]); first | done | rfl | (simp only [List.length_drop, List.length_take]; rfl)) ?_; (with_reducible refine (civil_Days.calls (wrap64 (1970 + (wrap64 (Int.tmod (IntKind.u64.wrap (a0)) 8030)))) 1 1 t156 t157 _ A4.out).mono ?_); rintro e w' ⟨rfl, ⟨nd, rfl⟩⟩; refine ⟨_, rfl, ?_⟩) | ((with_reducible refine gate_callee (f := 9) rfl ?_); refine goesL_ (some 32) rfl rfl Try.func9 (by kernel_rfl) rfl #[.int .i64 (wrap64 (1970 + (wrap64 (Int.tmod (IntKind.u64.wrap (a0)) 8030)))), .int .i64 12, .int .i64 31] rfl (by (try simp only [List.map_toArray, List.map_cons, List.map_nil]); first | done | rfl | (simp only [List.length_drop, List.length_take]; rfl)) ?_; (with_reducible refine (civil_Days.calls (wrap64 (1970 + (wrap64 (Int.tmod (IntKind.u64.wrap (a0)) 8030)))) 12 31 t158 t159 _ A5.out).mono ?_); rintro e w' ⟨rfl, ⟨nd, rfl⟩⟩; refine ⟨_, rfl, ?_⟩) | ((with_reducible refine gate_callee (f := 11) rfl ?_); refine goesL_ (some 35) rfl rfl Try.func11 (by kernel_rfl) rfl #[] rfl (by (try simp only [List.map_toArray, List.map_cons, List.map_nil]); first | done | rfl | (simp only [List.length_drop, List.length_take]; rfl)) ?_; (with_reducible refine (tompionlaw03_awake.calls k1  true _ A6.out).mono ?_); rintro e w' ⟨rfl, ⟨nd, rfl⟩⟩; refine ⟨_, rfl, ?_⟩) | (go_at_call 12; (with_reducible refine (civil_Long.calls (wrap64 (1970 + (wrap64 (Int.tmod (IntKind.u64.wrap (a0)) 8030)))) 2 t161 _ A11.out).mono ?_); rintro e w' ⟨rfl, ⟨nd, rfl⟩⟩) | ((with_reducible refine gate_callee (f := 9) rfl ?_); refine goesL_ (some 64) rfl rfl Try.func9 (by kernel_rfl) rfl #[.int .i64 (wrap64 ((wrap64 (1970 + (wrap64 (Int.tmod (IntKind.u64.wrap (a0)) 8030)))) + 400)), .int .i64 1, .int .i64 1] rfl (by (try simp only [List.map_toArray, List.map_cons, List.map_nil]); first | done | rfl | (simp only [List.length_drop, List.length_take]; rfl)) ?_; (with_reducible refine (civil_Days.calls (wrap64 ((wrap64 (1970 + (wrap64 (Int.tmod (IntKind.u64.wrap (a0)) 8030)))) + 400)) 1 1 t162 t163 _ A13.out).mono ?_); rintro e w' ⟨rfl, ⟨nd, rfl⟩⟩; refine ⟨_, rfl, ?_⟩))
                      go_ret
                      exact ⟨by first | rfl | (simp; done) | (simp [*]; done), by repeat (first | exact Drawn0.refl _ | apply Drawn0.step)⟩
                · rw [if_neg c12] at H
                  have c12b0 : (x3_1 == (wrap64 ((wrap64 (365 + t161)) - 28))) = false := beq_eq_false_iff_ne.mpr c12
                  have c12b1 : (x3_1 != (wrap64 ((wrap64 (365 + t161)) - 28))) = true := bne_iff_ne.mpr c12
                  obtain rfl := Option.some.inj H
                  go_wp2_with (first | ((with_reducible refine gate_callee (f := 9) rfl ?_); refine goesL_ (some 27) rfl rfl Try.func9 (by kernel_rfl) rfl #[.int .i64 (wrap64 (1970 + (wrap64 (Int.tmod (IntKind.u64.wrap (a0)) 8030)))), .int .i64 1, .int .i64 1] rfl (by (try simp only [List.map_toArray, List.map_cons, List.map_nil]); first | done | rfl | (simp only [List.length_drop, List.length_take]; rfl)) ?_; (with_reducible refine (civil_Days.calls (wrap64 (1970 + (wrap64 (Int.tmod (IntKind.u64.wrap (a0)) 8030)))) 1 1 t156 t157 _ A4.out).mono ?_); rintro e w' ⟨rfl, ⟨nd, rfl⟩⟩; refine ⟨_, rfl, ?_⟩) | ((with_reducible refine gate_callee (f := 9) rfl ?_); refine goesL_ (some 32) rfl rfl Try.func9 (by kernel_rfl) rfl #[.int .i64 (wrap64 (1970 + (wrap64 (Int.tmod (IntKind.u64.wrap (a0)) 8030)))), .int .i64 12, .int .i64 31] rfl (by (try simp only [List.map_toArray, List.map_cons, List.map_nil]); first | done | rfl | (simp only [List.length_drop, List.length_take]; rfl)) ?_; (with_reducible refine (civil_Days.calls (wrap64 (1970 + (wrap64 (Int.tmod (IntKind.u64.wrap (a0)) 8030)))) 12 31 t158 t159 _ A5.out).mono ?_); rintro e w' ⟨rfl, ⟨nd, rfl⟩⟩; refine ⟨_, rfl, ?_⟩) | ((with_reducible refine gate_callee (f := 11) rfl ?_); refine goesL_ (some 35) rfl rfl Try.func11 (by kernel_rfl) rfl #[] rfl (by (try simp only [List.map_toArray, List.map_cons, List.map_nil]); first | done | rfl | (simp only [List.length_drop, List.length_take]; rfl)) ?_; (with_reducible refine (tompionlaw03_awake.calls k1  true _ A6.out).mono ?_); rintro e w' ⟨rfl, ⟨nd, rfl⟩⟩; refine ⟨_, rfl, ?_⟩) | (go_at_call 12; (with_reducible refine (civil_Long.calls (wrap64 (1970 + (wrap64 (Int.tmod (IntKind.u64.wrap (a0)) 8030)))) 2 t161 _ A11.out).mono ?_); rintro e w' ⟨rfl, ⟨nd, rfl⟩⟩))
                  go_ret
                  exact ⟨by first | rfl | (simp; done) | (simp [*]; done), by repeat (first | exact Drawn0.refl _ | apply Drawn0.step)⟩
              · rw [if_neg c10] at H
                have c10b0 : ((wrap64 ((wrap64 (t158 - t156)) + 1)) == x3_1) = false := beq_eq_false_iff_ne.mpr c10
                have c10b1 : ((wrap64 ((wrap64 (t158 - t156)) + 1)) != x3_1) = true := bne_iff_ne.mpr c10
                obtain rfl := Option.some.inj H
                go_wp2_with (first | ((with_reducible refine gate_callee (f := 9) rfl ?_); refine goesL_ (some 27) rfl rfl Try.func9 (by kernel_rfl) rfl #[.int .i64 (wrap64 (1970 + (wrap64 (Int.tmod (IntKind.u64.wrap (a0)) 8030)))), .int .i64 1, .int .i64 1] rfl (by (try simp only [List.map_toArray, List.map_cons, List.map_nil]); first | done | rfl | (simp only [List.length_drop, List.length_take]; rfl)) ?_; (with_reducible refine (civil_Days.calls (wrap64 (1970 + (wrap64 (Int.tmod (IntKind.u64.wrap (a0)) 8030)))) 1 1 t156 t157 _ A4.out).mono ?_); rintro e w' ⟨rfl, ⟨nd, rfl⟩⟩; refine ⟨_, rfl, ?_⟩) | ((with_reducible refine gate_callee (f := 9) rfl ?_); refine goesL_ (some 32) rfl rfl Try.func9 (by kernel_rfl) rfl #[.int .i64 (wrap64 (1970 + (wrap64 (Int.tmod (IntKind.u64.wrap (a0)) 8030)))), .int .i64 12, .int .i64 31] rfl (by (try simp only [List.map_toArray, List.map_cons, List.map_nil]); first | done | rfl | (simp only [List.length_drop, List.length_take]; rfl)) ?_; (with_reducible refine (civil_Days.calls (wrap64 (1970 + (wrap64 (Int.tmod (IntKind.u64.wrap (a0)) 8030)))) 12 31 t158 t159 _ A5.out).mono ?_); rintro e w' ⟨rfl, ⟨nd, rfl⟩⟩; refine ⟨_, rfl, ?_⟩) | ((with_reducible refine gate_callee (f := 11) rfl ?_); refine goesL_ (some 35) rfl rfl Try.func11 (by kernel_rfl) rfl #[] rfl (by (try simp only [List.map_toArray, List.map_cons, List.map_nil]); first | done | rfl | (simp only [List.length_drop, List.length_take]; rfl)) ?_; (with_reducible refine (tompionlaw03_awake.calls k1  true _ A6.out).mono ?_); rintro e w' ⟨rfl, ⟨nd, rfl⟩⟩; refine ⟨_, rfl, ?_⟩))
                go_ret
                exact ⟨by first | rfl | (simp; done) | (simp [*]; done), by repeat (first | exact Drawn0.refl _ | apply Drawn0.step)⟩
            · rw [if_neg c9] at H
              have c9b0 : (t159 == 0) = false := beq_eq_false_iff_ne.mpr c9
              have c9b1 : (t159 != 0) = true := bne_iff_ne.mpr c9
              obtain rfl := Option.some.inj H
              go_wp2_with (first | ((with_reducible refine gate_callee (f := 9) rfl ?_); refine goesL_ (some 27) rfl rfl Try.func9 (by kernel_rfl) rfl #[.int .i64 (wrap64 (1970 + (wrap64 (Int.tmod (IntKind.u64.wrap (a0)) 8030)))), .int .i64 1, .int .i64 1] rfl (by (try simp only [List.map_toArray, List.map_cons, List.map_nil]); first | done | rfl | (simp only [List.length_drop, List.length_take]; rfl)) ?_; (with_reducible refine (civil_Days.calls (wrap64 (1970 + (wrap64 (Int.tmod (IntKind.u64.wrap (a0)) 8030)))) 1 1 t156 t157 _ A4.out).mono ?_); rintro e w' ⟨rfl, ⟨nd, rfl⟩⟩; refine ⟨_, rfl, ?_⟩) | ((with_reducible refine gate_callee (f := 9) rfl ?_); refine goesL_ (some 32) rfl rfl Try.func9 (by kernel_rfl) rfl #[.int .i64 (wrap64 (1970 + (wrap64 (Int.tmod (IntKind.u64.wrap (a0)) 8030)))), .int .i64 12, .int .i64 31] rfl (by (try simp only [List.map_toArray, List.map_cons, List.map_nil]); first | done | rfl | (simp only [List.length_drop, List.length_take]; rfl)) ?_; (with_reducible refine (civil_Days.calls (wrap64 (1970 + (wrap64 (Int.tmod (IntKind.u64.wrap (a0)) 8030)))) 12 31 t158 t159 _ A5.out).mono ?_); rintro e w' ⟨rfl, ⟨nd, rfl⟩⟩; refine ⟨_, rfl, ?_⟩) | ((with_reducible refine gate_callee (f := 11) rfl ?_); refine goesL_ (some 35) rfl rfl Try.func11 (by kernel_rfl) rfl #[] rfl (by (try simp only [List.map_toArray, List.map_cons, List.map_nil]); first | done | rfl | (simp only [List.length_drop, List.length_take]; rfl)) ?_; (with_reducible refine (tompionlaw03_awake.calls k1  true _ A6.out).mono ?_); rintro e w' ⟨rfl, ⟨nd, rfl⟩⟩; refine ⟨_, rfl, ?_⟩))
              go_ret
              exact ⟨by first | rfl | (simp; done) | (simp [*]; done), by repeat (first | exact Drawn0.refl _ | apply Drawn0.step)⟩
          · rw [if_neg c8] at H
            have c8b0 : (t157 == 0) = false := beq_eq_false_iff_ne.mpr c8
            have c8b1 : (t157 != 0) = true := bne_iff_ne.mpr c8
            obtain rfl := Option.some.inj H
            go_wp2_with (first | ((with_reducible refine gate_callee (f := 9) rfl ?_); refine goesL_ (some 27) rfl rfl Try.func9 (by kernel_rfl) rfl #[.int .i64 (wrap64 (1970 + (wrap64 (Int.tmod (IntKind.u64.wrap (a0)) 8030)))), .int .i64 1, .int .i64 1] rfl (by (try simp only [List.map_toArray, List.map_cons, List.map_nil]); first | done | rfl | (simp only [List.length_drop, List.length_take]; rfl)) ?_; (with_reducible refine (civil_Days.calls (wrap64 (1970 + (wrap64 (Int.tmod (IntKind.u64.wrap (a0)) 8030)))) 1 1 t156 t157 _ A4.out).mono ?_); rintro e w' ⟨rfl, ⟨nd, rfl⟩⟩; refine ⟨_, rfl, ?_⟩) | ((with_reducible refine gate_callee (f := 9) rfl ?_); refine goesL_ (some 32) rfl rfl Try.func9 (by kernel_rfl) rfl #[.int .i64 (wrap64 (1970 + (wrap64 (Int.tmod (IntKind.u64.wrap (a0)) 8030)))), .int .i64 12, .int .i64 31] rfl (by (try simp only [List.map_toArray, List.map_cons, List.map_nil]); first | done | rfl | (simp only [List.length_drop, List.length_take]; rfl)) ?_; (with_reducible refine (civil_Days.calls (wrap64 (1970 + (wrap64 (Int.tmod (IntKind.u64.wrap (a0)) 8030)))) 12 31 t158 t159 _ A5.out).mono ?_); rintro e w' ⟨rfl, ⟨nd, rfl⟩⟩; refine ⟨_, rfl, ?_⟩) | ((with_reducible refine gate_callee (f := 11) rfl ?_); refine goesL_ (some 35) rfl rfl Try.func11 (by kernel_rfl) rfl #[] rfl (by (try simp only [List.map_toArray, List.map_cons, List.map_nil]); first | done | rfl | (simp only [List.length_drop, List.length_take]; rfl)) ?_; (with_reducible refine (tompionlaw03_awake.calls k1  true _ A6.out).mono ?_); rintro e w' ⟨rfl, ⟨nd, rfl⟩⟩; refine ⟨_, rfl, ?_⟩))
            go_ret
            exact ⟨by first | rfl | (simp; done) | (simp [*]; done), by repeat (first | exact Drawn0.refl _ | apply Drawn0.step)⟩
        · replace c7 := Bool.eq_false_iff.mpr c7
          subst c7
          have H1 : (some false) = some r := by rw [if_neg (show ¬ (false = true) by decide)] at H; exact H
          clear H
          have H := H1
          clear H1
          obtain rfl := Option.some.inj H
          go_wp2_with (first | ((with_reducible refine gate_callee (f := 9) rfl ?_); refine goesL_ (some 27) rfl rfl Try.func9 (by kernel_rfl) rfl #[.int .i64 (wrap64 (1970 + (wrap64 (Int.tmod (IntKind.u64.wrap (a0)) 8030)))), .int .i64 1, .int .i64 1] rfl (by (try simp only [List.map_toArray, List.map_cons, List.map_nil]); first | done | rfl | (simp only [List.length_drop, List.length_take]; rfl)) ?_; (with_reducible refine (civil_Days.calls (wrap64 (1970 + (wrap64 (Int.tmod (IntKind.u64.wrap (a0)) 8030)))) 1 1 t156 t157 _ A4.out).mono ?_); rintro e w' ⟨rfl, ⟨nd, rfl⟩⟩; refine ⟨_, rfl, ?_⟩) | ((with_reducible refine gate_callee (f := 9) rfl ?_); refine goesL_ (some 32) rfl rfl Try.func9 (by kernel_rfl) rfl #[.int .i64 (wrap64 (1970 + (wrap64 (Int.tmod (IntKind.u64.wrap (a0)) 8030)))), .int .i64 12, .int .i64 31] rfl (by (try simp only [List.map_toArray, List.map_cons, List.map_nil]); first | done | rfl | (simp only [List.length_drop, List.length_take]; rfl)) ?_; (with_reducible refine (civil_Days.calls (wrap64 (1970 + (wrap64 (Int.tmod (IntKind.u64.wrap (a0)) 8030)))) 12 31 t158 t159 _ A5.out).mono ?_); rintro e w' ⟨rfl, ⟨nd, rfl⟩⟩; refine ⟨_, rfl, ?_⟩) | ((with_reducible refine gate_callee (f := 11) rfl ?_); refine goesL_ (some 35) rfl rfl Try.func11 (by kernel_rfl) rfl #[] rfl (by (try simp only [List.map_toArray, List.map_cons, List.map_nil]); first | done | rfl | (simp only [List.length_drop, List.length_take]; rfl)) ?_; (with_reducible refine (tompionlaw03_awake.calls k1  false _ A6.out).mono ?_); rintro e w' ⟨rfl, ⟨nd, rfl⟩⟩; refine ⟨_, rfl, ?_⟩))
          go_ret
          exact ⟨by first | rfl | (simp; done) | (simp [*]; done), by repeat (first | exact Drawn0.refl _ | apply Drawn0.step)⟩

/-- THE ONE PURE STATEMENT of tompionlaw03_CivilYears: yours. -/
def tompionlaw03_CivilYears.Pure : Prop := ∀ (a0 : Int), (Lit.int .i64 a0).wf = true → ∃ k, tompionlaw03_CivilYears.f k a0 = some true
theorem tompionlaw03_CivilYears.walk (P : tompionlaw03_CivilYears.Pure) (a0 : Int) (w : World) (w0 : (Lit.int .i64 a0).wf = true) :
    Calls Try.prog 6 #[.int .i64 a0] w fun e w' => e = .returned (.bool true) ∧ Below w.heap.size w w' := by
  obtain ⟨k, h⟩ := P a0 w0
  refine (tompionlaw03_CivilYears.calls k a0 true w h).mono ?_
  rintro e w' ⟨rfl, hd⟩
  exact ⟨rfl, hd.below⟩

/-! ### tompionlaw03_CivilWeeks: function 7 -/
def tompionlaw03_CivilWeeks.f (k : Nat) (a0 : Int) (a1 : Int) : Option (Bool) := (civil_Weekday.f (wrap64 (Int.tmod (IntKind.u64.wrap (a0)) 2900000))).bind fun bt164 => ((civil_Weekday.f (wrap64 ((wrap64 (Int.tmod (IntKind.u64.wrap (a0)) 2900000)) + (wrap64 (7 * (wrap64 (Int.tmod (IntKind.u64.wrap (a1)) 4000))))))).bind fun bt166 => ((civil_Weekday.f (wrap64 ((wrap64 ((wrap64 (Int.tmod (IntKind.u64.wrap (a0)) 2900000)) + (wrap64 (7 * (wrap64 (Int.tmod (IntKind.u64.wrap (a1)) 4000)))))) + 1))).bind fun bt168 => ((tompionlaw03_awake.f k).bind fun t170 => (if t170 = true then (if bt164.2 = 0 then (if bt166.2 = 0 then (if bt168.2 = 0 then (if bt164.1 = bt166.1 then (some (bt168.1 == (Int.tmod (wrap64 (bt164.1 + 1)) 7))) else (some false)) else (some false)) else (some false)) else (some false)) else (some false)))))
theorem tompionlaw03_CivilWeeks.mono : ∀ a0 a1 k, LeO (tompionlaw03_CivilWeeks.f k a0 a1) (tompionlaw03_CivilWeeks.f (k + 1) a0 a1) := by
  intro a0 a1 k
  unfold tompionlaw03_CivilWeeks.f
  repeat' first
      | (with_reducible exact tompionlaw03_awake.mono _)
      | (with_reducible exact LeO.refl _)
      | (with_reducible exact LeO.none _)
      | (with_reducible refine LeO.ite ?_ ?_)
      | (with_reducible refine LeO.bind ?_ (fun _ => ?_))
      | exact tompionlaw03_awake.mono _
      | exact LeO.none _
      | refine LeO.ite ?_ ?_
      | refine LeO.bind ?_ (fun _ => ?_)
set_option maxHeartbeats 8000000 in
set_option maxRecDepth 100000 in
theorem tompionlaw03_CivilWeeks.calls (k : Nat) (a0 : Int) (a1 : Int) (r : Bool) (w : World) (h : tompionlaw03_CivilWeeks.f k a0 a1 = some r) :
    Calls Try.prog 7 #[.int .i64 a0, .int .i64 a1] w fun e w' => e = .returned (.bool r) ∧ Drawn0 w w' := by
  have H : ((civil_Weekday.f (wrap64 (Int.tmod (IntKind.u64.wrap (a0)) 2900000))).bind fun bt164 => ((civil_Weekday.f (wrap64 ((wrap64 (Int.tmod (IntKind.u64.wrap (a0)) 2900000)) + (wrap64 (7 * (wrap64 (Int.tmod (IntKind.u64.wrap (a1)) 4000))))))).bind fun bt166 => ((civil_Weekday.f (wrap64 ((wrap64 ((wrap64 (Int.tmod (IntKind.u64.wrap (a0)) 2900000)) + (wrap64 (7 * (wrap64 (Int.tmod (IntKind.u64.wrap (a1)) 4000)))))) + 1))).bind fun bt168 => ((tompionlaw03_awake.f k).bind fun t170 => (if t170 = true then (if bt164.2 = 0 then (if bt166.2 = 0 then (if bt168.2 = 0 then (if bt164.1 = bt166.1 then (some (bt168.1 == (Int.tmod (wrap64 (bt164.1 + 1)) 7))) else (some false)) else (some false)) else (some false)) else (some false)) else (some false)))))) = some r := h
  clear h
  replace H := Option.bind_eq_some_iff.mp H
  obtain ⟨⟨t164, t165⟩, A30, H⟩ := H
  replace H : ((civil_Weekday.f (wrap64 ((wrap64 (Int.tmod (IntKind.u64.wrap (a0)) 2900000)) + (wrap64 (7 * (wrap64 (Int.tmod (IntKind.u64.wrap (a1)) 4000))))))).bind fun bt166 => ((civil_Weekday.f (wrap64 ((wrap64 ((wrap64 (Int.tmod (IntKind.u64.wrap (a0)) 2900000)) + (wrap64 (7 * (wrap64 (Int.tmod (IntKind.u64.wrap (a1)) 4000)))))) + 1))).bind fun bt168 => ((tompionlaw03_awake.f k).bind fun t170 => (if t170 = true then (if t165 = 0 then (if bt166.2 = 0 then (if bt168.2 = 0 then (if t164 = bt166.1 then (some (bt168.1 == (Int.tmod (wrap64 (t164 + 1)) 7))) else (some false)) else (some false)) else (some false)) else (some false)) else (some false))))) = some r := H
  have A3 := Aside0.mk A30
  clear A30
  replace H := Option.bind_eq_some_iff.mp H
  obtain ⟨⟨t166, t167⟩, A40, H⟩ := H
  replace H : ((civil_Weekday.f (wrap64 ((wrap64 ((wrap64 (Int.tmod (IntKind.u64.wrap (a0)) 2900000)) + (wrap64 (7 * (wrap64 (Int.tmod (IntKind.u64.wrap (a1)) 4000)))))) + 1))).bind fun bt168 => ((tompionlaw03_awake.f k).bind fun t170 => (if t170 = true then (if t165 = 0 then (if t167 = 0 then (if bt168.2 = 0 then (if t164 = t166 then (some (bt168.1 == (Int.tmod (wrap64 (t164 + 1)) 7))) else (some false)) else (some false)) else (some false)) else (some false)) else (some false)))) = some r := H
  have A4 := Aside0.mk A40
  clear A40
  replace H := Option.bind_eq_some_iff.mp H
  obtain ⟨⟨t168, t169⟩, A50, H⟩ := H
  replace H : ((tompionlaw03_awake.f k).bind fun t170 => (if t170 = true then (if t165 = 0 then (if t167 = 0 then (if t169 = 0 then (if t164 = t166 then (some (t168 == (Int.tmod (wrap64 (t164 + 1)) 7))) else (some false)) else (some false)) else (some false)) else (some false)) else (some false))) = some r := H
  have A5 := Aside0.mk A50
  clear A50
  replace H := Option.bind_eq_some_iff.mp H
  obtain ⟨t170, A60, H⟩ := H
  replace H : (if t170 = true then (if t165 = 0 then (if t167 = 0 then (if t169 = 0 then (if t164 = t166 then (some (t168 == (Int.tmod (wrap64 (t164 + 1)) 7))) else (some false)) else (some false)) else (some false)) else (some false)) else (some false)) = some r := H
  have A6 := Aside0.mk A60
  clear A60
  by_cases c7 : t170 = true
  · subst c7
    have H1 : (if t165 = 0 then (if t167 = 0 then (if t169 = 0 then (if t164 = t166 then (some (t168 == (Int.tmod (wrap64 (t164 + 1)) 7))) else (some false)) else (some false)) else (some false)) else (some false)) = some r := by rw [if_pos rfl] at H; exact H
    clear H
    have H := H1
    clear H1
    by_cases c8 : t165 = 0
    · rw [if_pos c8] at H
      have c8b0 : (t165 == 0) = true := beq_iff_eq.mpr c8
      have c8b1 : (t165 != 0) = false := bne_eq_false_iff_eq.mpr c8
      clear c8
      by_cases c9 : t167 = 0
      · rw [if_pos c9] at H
        have c9b0 : (t167 == 0) = true := beq_iff_eq.mpr c9
        have c9b1 : (t167 != 0) = false := bne_eq_false_iff_eq.mpr c9
        clear c9
        by_cases c10 : t169 = 0
        · rw [if_pos c10] at H
          have c10b0 : (t169 == 0) = true := beq_iff_eq.mpr c10
          have c10b1 : (t169 != 0) = false := bne_eq_false_iff_eq.mpr c10
          clear c10
          by_cases c11 : t164 = t166
          · rw [if_pos c11] at H
            have c11b0 : (t164 == t166) = true := beq_iff_eq.mpr c11
            have c11b1 : (t164 != t166) = false := bne_eq_false_iff_eq.mpr c11
            clear c11
            obtain rfl := Option.some.inj H
            go_enter Try.func7, Try.ntmps7
            go_wp2_with (first | ((with_reducible refine gate_callee (f := 15) rfl ?_); refine goesL_ (some 21) rfl rfl Try.func15 (by kernel_rfl) rfl #[.int .i64 (wrap64 (Int.tmod (IntKind.u64.wrap (a0)) 2900000))] rfl (by (try simp only [List.map_toArray, List.map_cons, List.map_nil]); first | done | rfl | (simp only [List.length_drop, List.length_take]; rfl)) ?_; (with_reducible refine (civil_Weekday.calls (wrap64 (Int.tmod (IntKind.u64.wrap (a0)) 2900000)) t164 t165 _ A3.out).mono ?_); rintro e w' ⟨rfl, ⟨nd, rfl⟩⟩; refine ⟨_, rfl, ?_⟩) | ((with_reducible refine gate_callee (f := 15) rfl ?_); refine goesL_ (some 29) rfl rfl Try.func15 (by kernel_rfl) rfl #[.int .i64 (wrap64 ((wrap64 (Int.tmod (IntKind.u64.wrap (a0)) 2900000)) + (wrap64 (7 * (wrap64 (Int.tmod (IntKind.u64.wrap (a1)) 4000))))))] rfl (by (try simp only [List.map_toArray, List.map_cons, List.map_nil]); first | done | rfl | (simp only [List.length_drop, List.length_take]; rfl)) ?_; (with_reducible refine (civil_Weekday.calls (wrap64 ((wrap64 (Int.tmod (IntKind.u64.wrap (a0)) 2900000)) + (wrap64 (7 * (wrap64 (Int.tmod (IntKind.u64.wrap (a1)) 4000)))))) t166 t167 _ A4.out).mono ?_); rintro e w' ⟨rfl, ⟨nd, rfl⟩⟩; refine ⟨_, rfl, ?_⟩) | ((with_reducible refine gate_callee (f := 15) rfl ?_); refine goesL_ (some 38) rfl rfl Try.func15 (by kernel_rfl) rfl #[.int .i64 (wrap64 ((wrap64 ((wrap64 (Int.tmod (IntKind.u64.wrap (a0)) 2900000)) + (wrap64 (7 * (wrap64 (Int.tmod (IntKind.u64.wrap (a1)) 4000)))))) + 1))] rfl (by (try simp only [List.map_toArray, List.map_cons, List.map_nil]); first | done | rfl | (simp only [List.length_drop, List.length_take]; rfl)) ?_; (with_reducible refine (civil_Weekday.calls (wrap64 ((wrap64 ((wrap64 (Int.tmod (IntKind.u64.wrap (a0)) 2900000)) + (wrap64 (7 * (wrap64 (Int.tmod (IntKind.u64.wrap (a1)) 4000)))))) + 1)) t168 t169 _ A5.out).mono ?_); rintro e w' ⟨rfl, ⟨nd, rfl⟩⟩; refine ⟨_, rfl, ?_⟩) | ((with_reducible refine gate_callee (f := 11) rfl ?_); refine goesL_ (some 41) rfl rfl Try.func11 (by kernel_rfl) rfl #[] rfl (by (try simp only [List.map_toArray, List.map_cons, List.map_nil]); first | done | rfl | (simp only [List.length_drop, List.length_take]; rfl)) ?_; (with_reducible refine (tompionlaw03_awake.calls k  true _ A6.out).mono ?_); rintro e w' ⟨rfl, ⟨nd, rfl⟩⟩; refine ⟨_, rfl, ?_⟩))
            go_ret
            exact ⟨by first | rfl | (simp; done) | (simp [*]; done), by repeat (first | exact Drawn0.refl _ | apply Drawn0.step)⟩
          · rw [if_neg c11] at H
            have c11b0 : (t164 == t166) = false := beq_eq_false_iff_ne.mpr c11
            have c11b1 : (t164 != t166) = true := bne_iff_ne.mpr c11
            obtain rfl := Option.some.inj H
            go_enter Try.func7, Try.ntmps7
            go_wp2_with (first | ((with_reducible refine gate_callee (f := 15) rfl ?_); refine goesL_ (some 21) rfl rfl Try.func15 (by kernel_rfl) rfl #[.int .i64 (wrap64 (Int.tmod (IntKind.u64.wrap (a0)) 2900000))] rfl (by (try simp only [List.map_toArray, List.map_cons, List.map_nil]); first | done | rfl | (simp only [List.length_drop, List.length_take]; rfl)) ?_; (with_reducible refine (civil_Weekday.calls (wrap64 (Int.tmod (IntKind.u64.wrap (a0)) 2900000)) t164 t165 _ A3.out).mono ?_); rintro e w' ⟨rfl, ⟨nd, rfl⟩⟩; refine ⟨_, rfl, ?_⟩) | ((with_reducible refine gate_callee (f := 15) rfl ?_); refine goesL_ (some 29) rfl rfl Try.func15 (by kernel_rfl) rfl #[.int .i64 (wrap64 ((wrap64 (Int.tmod (IntKind.u64.wrap (a0)) 2900000)) + (wrap64 (7 * (wrap64 (Int.tmod (IntKind.u64.wrap (a1)) 4000))))))] rfl (by (try simp only [List.map_toArray, List.map_cons, List.map_nil]); first | done | rfl | (simp only [List.length_drop, List.length_take]; rfl)) ?_; (with_reducible refine (civil_Weekday.calls (wrap64 ((wrap64 (Int.tmod (IntKind.u64.wrap (a0)) 2900000)) + (wrap64 (7 * (wrap64 (Int.tmod (IntKind.u64.wrap (a1)) 4000)))))) t166 t167 _ A4.out).mono ?_); rintro e w' ⟨rfl, ⟨nd, rfl⟩⟩; refine ⟨_, rfl, ?_⟩) | ((with_reducible refine gate_callee (f := 15) rfl ?_); refine goesL_ (some 38) rfl rfl Try.func15 (by kernel_rfl) rfl #[.int .i64 (wrap64 ((wrap64 ((wrap64 (Int.tmod (IntKind.u64.wrap (a0)) 2900000)) + (wrap64 (7 * (wrap64 (Int.tmod (IntKind.u64.wrap (a1)) 4000)))))) + 1))] rfl (by (try simp only [List.map_toArray, List.map_cons, List.map_nil]); first | done | rfl | (simp only [List.length_drop, List.length_take]; rfl)) ?_; (with_reducible refine (civil_Weekday.calls (wrap64 ((wrap64 ((wrap64 (Int.tmod (IntKind.u64.wrap (a0)) 2900000)) + (wrap64 (7 * (wrap64 (Int.tmod (IntKind.u64.wrap (a1)) 4000)))))) + 1)) t168 t169 _ A5.out).mono ?_); rintro e w' ⟨rfl, ⟨nd, rfl⟩⟩; refine ⟨_, rfl, ?_⟩) | ((with_reducible refine gate_callee (f := 11) rfl ?_); refine goesL_ (some 41) rfl rfl Try.func11 (by kernel_rfl) rfl #[] rfl (by (try simp only [List.map_toArray, List.map_cons, List.map_nil]); first | done | rfl | (simp only [List.length_drop, List.length_take]; rfl)) ?_; (with_reducible refine (tompionlaw03_awake.calls k  true _ A6.out).mono ?_); rintro e w' ⟨rfl, ⟨nd, rfl⟩⟩; refine ⟨_, rfl, ?_⟩))
            go_ret
            exact ⟨by first | rfl | (simp; done) | (simp [*]; done), by repeat (first | exact Drawn0.refl _ | apply Drawn0.step)⟩
        · rw [if_neg c10] at H
          have c10b0 : (t169 == 0) = false := beq_eq_false_iff_ne.mpr c10
          have c10b1 : (t169 != 0) = true := bne_iff_ne.mpr c10
          obtain rfl := Option.some.inj H
          go_enter Try.func7, Try.ntmps7
          go_wp2_with (first | ((with_reducible refine gate_callee (f := 15) rfl ?_); refine goesL_ (some 21) rfl rfl Try.func15 (by kernel_rfl) rfl #[.int .i64 (wrap64 (Int.tmod (IntKind.u64.wrap (a0)) 2900000))] rfl (by (try simp only [List.map_toArray, List.map_cons, List.map_nil]); first | done | rfl | (simp only [List.length_drop, List.length_take]; rfl)) ?_; (with_reducible refine (civil_Weekday.calls (wrap64 (Int.tmod (IntKind.u64.wrap (a0)) 2900000)) t164 t165 _ A3.out).mono ?_); rintro e w' ⟨rfl, ⟨nd, rfl⟩⟩; refine ⟨_, rfl, ?_⟩) | ((with_reducible refine gate_callee (f := 15) rfl ?_); refine goesL_ (some 29) rfl rfl Try.func15 (by kernel_rfl) rfl #[.int .i64 (wrap64 ((wrap64 (Int.tmod (IntKind.u64.wrap (a0)) 2900000)) + (wrap64 (7 * (wrap64 (Int.tmod (IntKind.u64.wrap (a1)) 4000))))))] rfl (by (try simp only [List.map_toArray, List.map_cons, List.map_nil]); first | done | rfl | (simp only [List.length_drop, List.length_take]; rfl)) ?_; (with_reducible refine (civil_Weekday.calls (wrap64 ((wrap64 (Int.tmod (IntKind.u64.wrap (a0)) 2900000)) + (wrap64 (7 * (wrap64 (Int.tmod (IntKind.u64.wrap (a1)) 4000)))))) t166 t167 _ A4.out).mono ?_); rintro e w' ⟨rfl, ⟨nd, rfl⟩⟩; refine ⟨_, rfl, ?_⟩) | ((with_reducible refine gate_callee (f := 15) rfl ?_); refine goesL_ (some 38) rfl rfl Try.func15 (by kernel_rfl) rfl #[.int .i64 (wrap64 ((wrap64 ((wrap64 (Int.tmod (IntKind.u64.wrap (a0)) 2900000)) + (wrap64 (7 * (wrap64 (Int.tmod (IntKind.u64.wrap (a1)) 4000)))))) + 1))] rfl (by (try simp only [List.map_toArray, List.map_cons, List.map_nil]); first | done | rfl | (simp only [List.length_drop, List.length_take]; rfl)) ?_; (with_reducible refine (civil_Weekday.calls (wrap64 ((wrap64 ((wrap64 (Int.tmod (IntKind.u64.wrap (a0)) 2900000)) + (wrap64 (7 * (wrap64 (Int.tmod (IntKind.u64.wrap (a1)) 4000)))))) + 1)) t168 t169 _ A5.out).mono ?_); rintro e w' ⟨rfl, ⟨nd, rfl⟩⟩; refine ⟨_, rfl, ?_⟩) | ((with_reducible refine gate_callee (f := 11) rfl ?_); refine goesL_ (some 41) rfl rfl Try.func11 (by kernel_rfl) rfl #[] rfl (by (try simp only [List.map_toArray, List.map_cons, List.map_nil]); first | done | rfl | (simp only [List.length_drop, List.length_take]; rfl)) ?_; (with_reducible refine (tompionlaw03_awake.calls k  true _ A6.out).mono ?_); rintro e w' ⟨rfl, ⟨nd, rfl⟩⟩; refine ⟨_, rfl, ?_⟩))
          go_ret
          exact ⟨by first | rfl | (simp; done) | (simp [*]; done), by repeat (first | exact Drawn0.refl _ | apply Drawn0.step)⟩
      · rw [if_neg c9] at H
        have c9b0 : (t167 == 0) = false := beq_eq_false_iff_ne.mpr c9
        have c9b1 : (t167 != 0) = true := bne_iff_ne.mpr c9
        obtain rfl := Option.some.inj H
        go_enter Try.func7, Try.ntmps7
        go_wp2_with (first | ((with_reducible refine gate_callee (f := 15) rfl ?_); refine goesL_ (some 21) rfl rfl Try.func15 (by kernel_rfl) rfl #[.int .i64 (wrap64 (Int.tmod (IntKind.u64.wrap (a0)) 2900000))] rfl (by (try simp only [List.map_toArray, List.map_cons, List.map_nil]); first | done | rfl | (simp only [List.length_drop, List.length_take]; rfl)) ?_; (with_reducible refine (civil_Weekday.calls (wrap64 (Int.tmod (IntKind.u64.wrap (a0)) 2900000)) t164 t165 _ A3.out).mono ?_); rintro e w' ⟨rfl, ⟨nd, rfl⟩⟩; refine ⟨_, rfl, ?_⟩) | ((with_reducible refine gate_callee (f := 15) rfl ?_); refine goesL_ (some 29) rfl rfl Try.func15 (by kernel_rfl) rfl #[.int .i64 (wrap64 ((wrap64 (Int.tmod (IntKind.u64.wrap (a0)) 2900000)) + (wrap64 (7 * (wrap64 (Int.tmod (IntKind.u64.wrap (a1)) 4000))))))] rfl (by (try simp only [List.map_toArray, List.map_cons, List.map_nil]); first | done | rfl | (simp only [List.length_drop, List.length_take]; rfl)) ?_; (with_reducible refine (civil_Weekday.calls (wrap64 ((wrap64 (Int.tmod (IntKind.u64.wrap (a0)) 2900000)) + (wrap64 (7 * (wrap64 (Int.tmod (IntKind.u64.wrap (a1)) 4000)))))) t166 t167 _ A4.out).mono ?_); rintro e w' ⟨rfl, ⟨nd, rfl⟩⟩; refine ⟨_, rfl, ?_⟩) | ((with_reducible refine gate_callee (f := 15) rfl ?_); refine goesL_ (some 38) rfl rfl Try.func15 (by kernel_rfl) rfl #[.int .i64 (wrap64 ((wrap64 ((wrap64 (Int.tmod (IntKind.u64.wrap (a0)) 2900000)) + (wrap64 (7 * (wrap64 (Int.tmod (IntKind.u64.wrap (a1)) 4000)))))) + 1))] rfl (by (try simp only [List.map_toArray, List.map_cons, List.map_nil]); first | done | rfl | (simp only [List.length_drop, List.length_take]; rfl)) ?_; (with_reducible refine (civil_Weekday.calls (wrap64 ((wrap64 ((wrap64 (Int.tmod (IntKind.u64.wrap (a0)) 2900000)) + (wrap64 (7 * (wrap64 (Int.tmod (IntKind.u64.wrap (a1)) 4000)))))) + 1)) t168 t169 _ A5.out).mono ?_); rintro e w' ⟨rfl, ⟨nd, rfl⟩⟩; refine ⟨_, rfl, ?_⟩) | ((with_reducible refine gate_callee (f := 11) rfl ?_); refine goesL_ (some 41) rfl rfl Try.func11 (by kernel_rfl) rfl #[] rfl (by (try simp only [List.map_toArray, List.map_cons, List.map_nil]); first | done | rfl | (simp only [List.length_drop, List.length_take]; rfl)) ?_; (with_reducible refine (tompionlaw03_awake.calls k  true _ A6.out).mono ?_); rintro e w' ⟨rfl, ⟨nd, rfl⟩⟩; refine ⟨_, rfl, ?_⟩))
        go_ret
        exact ⟨by first | rfl | (simp; done) | (simp [*]; done), by repeat (first | exact Drawn0.refl _ | apply Drawn0.step)⟩
    · rw [if_neg c8] at H
      have c8b0 : (t165 == 0) = false := beq_eq_false_iff_ne.mpr c8
      have c8b1 : (t165 != 0) = true := bne_iff_ne.mpr c8
      obtain rfl := Option.some.inj H
      go_enter Try.func7, Try.ntmps7
      go_wp2_with (first | ((with_reducible refine gate_callee (f := 15) rfl ?_); refine goesL_ (some 21) rfl rfl Try.func15 (by kernel_rfl) rfl #[.int .i64 (wrap64 (Int.tmod (IntKind.u64.wrap (a0)) 2900000))] rfl (by (try simp only [List.map_toArray, List.map_cons, List.map_nil]); first | done | rfl | (simp only [List.length_drop, List.length_take]; rfl)) ?_; (with_reducible refine (civil_Weekday.calls (wrap64 (Int.tmod (IntKind.u64.wrap (a0)) 2900000)) t164 t165 _ A3.out).mono ?_); rintro e w' ⟨rfl, ⟨nd, rfl⟩⟩; refine ⟨_, rfl, ?_⟩) | ((with_reducible refine gate_callee (f := 15) rfl ?_); refine goesL_ (some 29) rfl rfl Try.func15 (by kernel_rfl) rfl #[.int .i64 (wrap64 ((wrap64 (Int.tmod (IntKind.u64.wrap (a0)) 2900000)) + (wrap64 (7 * (wrap64 (Int.tmod (IntKind.u64.wrap (a1)) 4000))))))] rfl (by (try simp only [List.map_toArray, List.map_cons, List.map_nil]); first | done | rfl | (simp only [List.length_drop, List.length_take]; rfl)) ?_; (with_reducible refine (civil_Weekday.calls (wrap64 ((wrap64 (Int.tmod (IntKind.u64.wrap (a0)) 2900000)) + (wrap64 (7 * (wrap64 (Int.tmod (IntKind.u64.wrap (a1)) 4000)))))) t166 t167 _ A4.out).mono ?_); rintro e w' ⟨rfl, ⟨nd, rfl⟩⟩; refine ⟨_, rfl, ?_⟩) | ((with_reducible refine gate_callee (f := 15) rfl ?_); refine goesL_ (some 38) rfl rfl Try.func15 (by kernel_rfl) rfl #[.int .i64 (wrap64 ((wrap64 ((wrap64 (Int.tmod (IntKind.u64.wrap (a0)) 2900000)) + (wrap64 (7 * (wrap64 (Int.tmod (IntKind.u64.wrap (a1)) 4000)))))) + 1))] rfl (by (try simp only [List.map_toArray, List.map_cons, List.map_nil]); first | done | rfl | (simp only [List.length_drop, List.length_take]; rfl)) ?_; (with_reducible refine (civil_Weekday.calls (wrap64 ((wrap64 ((wrap64 (Int.tmod (IntKind.u64.wrap (a0)) 2900000)) + (wrap64 (7 * (wrap64 (Int.tmod (IntKind.u64.wrap (a1)) 4000)))))) + 1)) t168 t169 _ A5.out).mono ?_); rintro e w' ⟨rfl, ⟨nd, rfl⟩⟩; refine ⟨_, rfl, ?_⟩) | ((with_reducible refine gate_callee (f := 11) rfl ?_); refine goesL_ (some 41) rfl rfl Try.func11 (by kernel_rfl) rfl #[] rfl (by (try simp only [List.map_toArray, List.map_cons, List.map_nil]); first | done | rfl | (simp only [List.length_drop, List.length_take]; rfl)) ?_; (with_reducible refine (tompionlaw03_awake.calls k  true _ A6.out).mono ?_); rintro e w' ⟨rfl, ⟨nd, rfl⟩⟩; refine ⟨_, rfl, ?_⟩))
      go_ret
      exact ⟨by first | rfl | (simp; done) | (simp [*]; done), by repeat (first | exact Drawn0.refl _ | apply Drawn0.step)⟩
  · replace c7 := Bool.eq_false_iff.mpr c7
    subst c7
    have H1 : (some false) = some r := by rw [if_neg (show ¬ (false = true) by decide)] at H; exact H
    clear H
    have H := H1
    clear H1
    obtain rfl := Option.some.inj H
    go_enter Try.func7, Try.ntmps7
    go_wp2_with (first | ((with_reducible refine gate_callee (f := 15) rfl ?_); refine goesL_ (some 21) rfl rfl Try.func15 (by kernel_rfl) rfl #[.int .i64 (wrap64 (Int.tmod (IntKind.u64.wrap (a0)) 2900000))] rfl (by (try simp only [List.map_toArray, List.map_cons, List.map_nil]); first | done | rfl | (simp only [List.length_drop, List.length_take]; rfl)) ?_; (with_reducible refine (civil_Weekday.calls (wrap64 (Int.tmod (IntKind.u64.wrap (a0)) 2900000)) t164 t165 _ A3.out).mono ?_); rintro e w' ⟨rfl, ⟨nd, rfl⟩⟩; refine ⟨_, rfl, ?_⟩) | ((with_reducible refine gate_callee (f := 15) rfl ?_); refine goesL_ (some 29) rfl rfl Try.func15 (by kernel_rfl) rfl #[.int .i64 (wrap64 ((wrap64 (Int.tmod (IntKind.u64.wrap (a0)) 2900000)) + (wrap64 (7 * (wrap64 (Int.tmod (IntKind.u64.wrap (a1)) 4000))))))] rfl (by (try simp only [List.map_toArray, List.map_cons, List.map_nil]); first | done | rfl | (simp only [List.length_drop, List.length_take]; rfl)) ?_; (with_reducible refine (civil_Weekday.calls (wrap64 ((wrap64 (Int.tmod (IntKind.u64.wrap (a0)) 2900000)) + (wrap64 (7 * (wrap64 (Int.tmod (IntKind.u64.wrap (a1)) 4000)))))) t166 t167 _ A4.out).mono ?_); rintro e w' ⟨rfl, ⟨nd, rfl⟩⟩; refine ⟨_, rfl, ?_⟩) | ((with_reducible refine gate_callee (f := 15) rfl ?_); refine goesL_ (some 38) rfl rfl Try.func15 (by kernel_rfl) rfl #[.int .i64 (wrap64 ((wrap64 ((wrap64 (Int.tmod (IntKind.u64.wrap (a0)) 2900000)) + (wrap64 (7 * (wrap64 (Int.tmod (IntKind.u64.wrap (a1)) 4000)))))) + 1))] rfl (by (try simp only [List.map_toArray, List.map_cons, List.map_nil]); first | done | rfl | (simp only [List.length_drop, List.length_take]; rfl)) ?_; (with_reducible refine (civil_Weekday.calls (wrap64 ((wrap64 ((wrap64 (Int.tmod (IntKind.u64.wrap (a0)) 2900000)) + (wrap64 (7 * (wrap64 (Int.tmod (IntKind.u64.wrap (a1)) 4000)))))) + 1)) t168 t169 _ A5.out).mono ?_); rintro e w' ⟨rfl, ⟨nd, rfl⟩⟩; refine ⟨_, rfl, ?_⟩) | ((with_reducible refine gate_callee (f := 11) rfl ?_); refine goesL_ (some 41) rfl rfl Try.func11 (by kernel_rfl) rfl #[] rfl (by (try simp only [List.map_toArray, List.map_cons, List.map_nil]); first | done | rfl | (simp only [List.length_drop, List.length_take]; rfl)) ?_; (with_reducible refine (tompionlaw03_awake.calls k  false _ A6.out).mono ?_); rintro e w' ⟨rfl, ⟨nd, rfl⟩⟩; refine ⟨_, rfl, ?_⟩))
    go_ret
    exact ⟨by first | rfl | (simp; done) | (simp [*]; done), by repeat (first | exact Drawn0.refl _ | apply Drawn0.step)⟩

/-- THE ONE PURE STATEMENT of tompionlaw03_CivilWeeks: yours. -/
def tompionlaw03_CivilWeeks.Pure : Prop := ∀ (a0 : Int) (a1 : Int), (Lit.int .i64 a0).wf = true → (Lit.int .i64 a1).wf = true → ∃ k, tompionlaw03_CivilWeeks.f k a0 a1 = some true
theorem tompionlaw03_CivilWeeks.walk (P : tompionlaw03_CivilWeeks.Pure) (a0 : Int) (a1 : Int) (w : World) (w0 : (Lit.int .i64 a0).wf = true) (w1 : (Lit.int .i64 a1).wf = true) :
    Calls Try.prog 7 #[.int .i64 a0, .int .i64 a1] w fun e w' => e = .returned (.bool true) ∧ Below w.heap.size w w' := by
  obtain ⟨k, h⟩ := P a0 a1 w0 w1
  refine (tompionlaw03_CivilWeeks.calls k a0 a1 true w h).mono ?_
  rintro e w' ⟨rfl, hd⟩
  exact ⟨rfl, hd.below⟩

/-! ### tompionref03_Most: function 18 -/
def tompionref03_Most.f (k : Nat)  : Option (Int) := (tompionref03_Days.f k 9999 12 31).bind fun t171 => (some t171)
theorem tompionref03_Most.mono : ∀ k, LeO (tompionref03_Most.f k ) (tompionref03_Most.f (k + 1) ) := by
  intro  k
  unfold tompionref03_Most.f
  repeat' first
      | (with_reducible exact tompionref03_Days.mono _ _ _ _)
      | (with_reducible exact LeO.refl _)
      | (with_reducible exact LeO.none _)
      | (with_reducible refine LeO.ite ?_ ?_)
      | (with_reducible refine LeO.bind ?_ (fun _ => ?_))
      | exact tompionref03_Days.mono _ _ _ _
      | exact LeO.none _
      | refine LeO.ite ?_ ?_
      | refine LeO.bind ?_ (fun _ => ?_)
set_option maxHeartbeats 8000000 in
set_option maxRecDepth 100000 in
theorem tompionref03_Most.calls (k : Nat)  (r : Int) (w : World) (h : tompionref03_Most.f k  = some r) :
    Calls Try.prog 18 #[] w fun e w' => e = .returned (.int .i64 r) ∧ Drawn0 w w' := by
  have H : ((tompionref03_Days.f k 9999 12 31).bind fun t171 => (some t171)) = some r := h
  clear h
  replace H := Option.bind_eq_some_iff.mp H
  obtain ⟨t171, A10, H⟩ := H
  replace H : (some t171) = some r := H
  have A1 := Aside0.mk A10
  clear A10
  obtain rfl := Option.some.inj H
  go_enter Try.func18, Try.ntmps18
  go_wp2_with (first | ((with_reducible refine gate_callee (f := 10) rfl ?_); refine goesL_ (some 1) rfl rfl Try.func10 (by kernel_rfl) rfl #[.int .i64 9999, .int .i64 12, .int .i64 31] rfl (by (try simp only [List.map_toArray, List.map_cons, List.map_nil]); first | done | rfl | (simp only [List.length_drop, List.length_take]; rfl)) ?_; (with_reducible refine (tompionref03_Days.calls k 9999 12 31 t171 _ A1.out).mono ?_); rintro e w' ⟨rfl, ⟨nd, rfl⟩⟩; refine ⟨_, rfl, ?_⟩))
  go_ret
  exact ⟨by first | rfl | (simp; done) | (simp [*]; done), by repeat (first | exact Drawn0.refl _ | apply Drawn0.step)⟩

/-! ### tompionref03_Date: function 16 -/
mutual
def tompionref03_Date.j0 : Nat → Int → Bool → Option (Int × Int × Int × Bool)
  | 0, _, _ => none
  | k + 1, x0, x14 => if x14 = true then (some (0, 0, 0, false)) else (tompionref03_Date.l0 k x0 1970)
def tompionref03_Date.l0 : Nat → Int → Int → Option (Int × Int × Int × Bool)
  | 0, _, _ => none
  | k + 1, x0, x6 => (tompionref03_year.f x6).bind fun t173 => (if x0 ≥ t173 then ((tompionref03_year.f x6).bind fun t174 => (tompionref03_Date.l0 k (wrap64 (x0 - t174)) (wrap64 (x6 + 1)))) else (tompionref03_Date.l1 k x0 x6 1))
def tompionref03_Date.l1 : Nat → Int → Int → Int → Option (Int × Int × Int × Bool)
  | 0, _, _, _ => none
  | k + 1, x0, x6, x7 => (tompionref03_Long.f k x6 x7).bind fun t175 => (if x0 ≥ t175 then ((tompionref03_Long.f k x6 x7).bind fun t176 => (tompionref03_Date.l1 k (wrap64 (x0 - t176)) x6 (wrap64 (x7 + 1)))) else (some (x6, x7, wrap64 (x0 + 1), true)))
end
def tompionref03_Date.f (k : Nat) (a0 : Int) : Option (Int × Int × Int × Bool) := if a0 < 0 then (tompionref03_Date.j0 k a0 true) else ((tompionref03_Most.f k).bind fun t172 => (tompionref03_Date.j0 k a0 (decide (a0 > t172))))
theorem tompionref03_Date.mono_l : ∀ k, (∀ y0 y1, LeO (tompionref03_Date.j0 k y0 y1) (tompionref03_Date.j0 (k + 1) y0 y1)) ∧ (∀ y0 y1, LeO (tompionref03_Date.l0 k y0 y1) (tompionref03_Date.l0 (k + 1) y0 y1)) ∧ (∀ y0 y1 y2, LeO (tompionref03_Date.l1 k y0 y1 y2) (tompionref03_Date.l1 (k + 1) y0 y1 y2))
  | 0 => ⟨fun _ _ r h => by simp [tompionref03_Date.j0] at h, fun _ _ r h => by simp [tompionref03_Date.l0] at h, fun _ _ _ r h => by simp [tompionref03_Date.l1] at h⟩
  | k + 1 => by
    obtain ⟨ih0, ih1, ih2⟩ := tompionref03_Date.mono_l k
    refine ⟨?_, ?_, ?_⟩
    · intro y0 y1
      unfold tompionref03_Date.j0
      repeat' first
      | (with_reducible exact ih0 _ _)
      | (with_reducible exact ih1 _ _)
      | (with_reducible exact ih2 _ _ _)
      | (with_reducible exact tompionref03_Long.mono _ _ _)
      | (with_reducible exact tompionref03_Most.mono _)
      | (with_reducible exact LeO.refl _)
      | (with_reducible exact LeO.none _)
      | (with_reducible refine LeO.ite ?_ ?_)
      | (with_reducible refine LeO.bind ?_ (fun _ => ?_))
      | exact ih0 _ _
      | exact ih1 _ _
      | exact ih2 _ _ _
      | exact tompionref03_Long.mono _ _ _
      | exact tompionref03_Most.mono _
      | exact LeO.none _
      | refine LeO.ite ?_ ?_
      | refine LeO.bind ?_ (fun _ => ?_)
    · intro y0 y1
      unfold tompionref03_Date.l0
      repeat' first
      | (with_reducible exact ih0 _ _)
      | (with_reducible exact ih1 _ _)
      | (with_reducible exact ih2 _ _ _)
      | (with_reducible exact tompionref03_Long.mono _ _ _)
      | (with_reducible exact tompionref03_Most.mono _)
      | (with_reducible exact LeO.refl _)
      | (with_reducible exact LeO.none _)
      | (with_reducible refine LeO.ite ?_ ?_)
      | (with_reducible refine LeO.bind ?_ (fun _ => ?_))
      | exact ih0 _ _
      | exact ih1 _ _
      | exact ih2 _ _ _
      | exact tompionref03_Long.mono _ _ _
      | exact tompionref03_Most.mono _
      | exact LeO.none _
      | refine LeO.ite ?_ ?_
      | refine LeO.bind ?_ (fun _ => ?_)
    · intro y0 y1 y2
      unfold tompionref03_Date.l1
      repeat' first
      | (with_reducible exact ih0 _ _)
      | (with_reducible exact ih1 _ _)
      | (with_reducible exact ih2 _ _ _)
      | (with_reducible exact tompionref03_Long.mono _ _ _)
      | (with_reducible exact tompionref03_Most.mono _)
      | (with_reducible exact LeO.refl _)
      | (with_reducible exact LeO.none _)
      | (with_reducible refine LeO.ite ?_ ?_)
      | (with_reducible refine LeO.bind ?_ (fun _ => ?_))
      | exact ih0 _ _
      | exact ih1 _ _
      | exact ih2 _ _ _
      | exact tompionref03_Long.mono _ _ _
      | exact tompionref03_Most.mono _
      | exact LeO.none _
      | refine LeO.ite ?_ ?_
      | refine LeO.bind ?_ (fun _ => ?_)
theorem tompionref03_Date.mono : ∀ a0 k, LeO (tompionref03_Date.f k a0) (tompionref03_Date.f (k + 1) a0) := by
  intro a0 k
  obtain ⟨ih0, ih1, ih2⟩ := tompionref03_Date.mono_l k
  unfold tompionref03_Date.f
  repeat' first
      | (with_reducible exact ih0 _ _)
      | (with_reducible exact ih1 _ _)
      | (with_reducible exact ih2 _ _ _)
      | (with_reducible exact tompionref03_Long.mono _ _ _)
      | (with_reducible exact tompionref03_Most.mono _)
      | (with_reducible exact LeO.refl _)
      | (with_reducible exact LeO.none _)
      | (with_reducible refine LeO.ite ?_ ?_)
      | (with_reducible refine LeO.bind ?_ (fun _ => ?_))
      | exact ih0 _ _
      | exact ih1 _ _
      | exact ih2 _ _ _
      | exact tompionref03_Long.mono _ _ _
      | exact tompionref03_Most.mono _
      | exact LeO.none _
      | refine LeO.ite ?_ ?_
      | refine LeO.bind ?_ (fun _ => ?_)
set_option maxHeartbeats 8000000 in
set_option maxRecDepth 100000 in
theorem tompionref03_Date.calls (k : Nat) (a0 : Int) (r1 : Int) (r2 : Int) (r3 : Int) (r4 : Bool) (w : World) (h : tompionref03_Date.f k a0 = some (r1, r2, r3, r4)) :
    Calls Try.prog 16 #[.int .i64 a0] w fun e w' => e = .returned (.tuple #[.int .i64 r1, .int .i64 r2, .int .i64 r3, .bool r4]) ∧ Drawn0 w w' := by
  have H : (if a0 < 0 then (tompionref03_Date.j0 k a0 true) else ((tompionref03_Most.f k).bind fun t172 => (tompionref03_Date.j0 k a0 (decide (a0 > t172))))) = some (r1, r2, r3, r4) := h
  clear h
  have HC2 := Aside0.mk H
  clear H
  go_enter Try.func16, Try.ntmps16
  go_upto_region 1 with (fail)
  go_cut [14] (fun v14 wc => ∃ (kq : Nat) (x14_1 : Bool), v14 = .bool x14_1 ∧ Aside0 (tompionref03_Date.j0 kq a0 x14_1 = some (r1, r2, r3, r4)) ∧ Aside0 (kq ≤ k) ∧ Drawn0 w wc)
  case first =>
    have H := HC2.out
    clear HC2
    by_cases c3 : a0 < 0
    · rw [if_pos c3] at H
      have c3b0 : decide (a0 < 0) = true := decide_eq_true c3
      clear c3
      (first | rw [c3b0] | (simp only [i64_w, i32_w]; rw [c3b0]) | skip)
      have H' := Aside0.mk H
      clear H
      go_wp2
      go_meet
      case rel => exact ⟨_, (true), (by first | rfl | (simp; done) | (simp [*]; done)), H', ⟨by first | omega | exact Nat.le_refl _⟩, by repeat (first | exact Drawn0.refl _ | apply Drawn0.step)⟩
    · rw [if_neg c3] at H
      have c3b0 : decide (a0 < 0) = false := decide_eq_false c3
      clear c3
      (first | rw [c3b0] | (simp only [i64_w, i32_w]; rw [c3b0]) | skip)
      replace H := Option.bind_eq_some_iff.mp H
      obtain ⟨t172, A40, H⟩ := H
      replace H : (tompionref03_Date.j0 k a0 (decide (a0 > t172))) = some (r1, r2, r3, r4) := H
      have A4 := Aside0.mk A40
      clear A40
      have H' := Aside0.mk H
      clear H
      go_wp2_with (first | (go_at_call 18; (with_reducible refine (tompionref03_Most.calls k  t172 _ A4.out).mono ?_); rintro e w' ⟨rfl, ⟨nd, rfl⟩⟩))
      go_meet
      case rel => exact ⟨_, (decide (a0 > t172)), (by first | rfl | (simp; done) | (simp [*]; done)), H', ⟨by first | omega | exact Nat.le_refl _⟩, by repeat (first | exact Drawn0.refl _ | apply Drawn0.step)⟩
  case rest =>
    clear HC2
    try clear c1
    try clear p2
    try clear c3
    try clear c3b0
    obtain ⟨kq, x14_1, rfl, HA, HJ1, ⟨mc1, rfl⟩⟩ := hcut
    cases kq with
    | zero => exact absurd HA.out (by simp [tompionref03_Date.j0])
    | succ kj1 =>
      have H := HA.out
      clear HA
      simp only [tompionref03_Date.j0] at H
      by_cases c5 : x14_1 = true
      · subst c5
        have H1 : (some (0, 0, 0, false)) = some (r1, r2, r3, r4) := by rw [if_pos rfl] at H; exact H
        clear H
        have H := H1
        clear H1
        simp only [Option.some.injEq, Prod.mk.injEq] at H
        obtain ⟨rfl, rfl, rfl, rfl⟩ := H
        go_wp2
        refine bodyPost_ret (results_list (rs := [.tmp 2, .tmp 3, .tmp 4, .tmp 5]) rfl (by simp) (.tmp (.tmp (.tmp (.tmp .nil))))) rfl ?_
        exact ⟨by first | rfl | (simp; done) | (simp [*]; done), by repeat (first | exact Drawn0.refl _ | apply Drawn0.step)⟩
      · replace c5 := Bool.eq_false_iff.mpr c5
        subst c5
        have H1 : (tompionref03_Date.l0 kj1 a0 1970) = some (r1, r2, r3, r4) := by rw [if_neg (show ¬ (false = true) by decide)] at H; exact H
        clear H
        have H := H1
        clear H1
        have H' := Aside0.mk H
        clear H
        go_wp2
        go_loopg [0, 6] kj1 (fun kq v0 v6 w' => ∃ (x0_2 : Int) (x6_2 : Int), v0 = .int .i64 x0_2 ∧ v6 = .int .i64 x6_2 ∧ Aside0 (tompionref03_Date.l0 kq x0_2 x6_2 = some (r1, r2, r3, r4)) ∧ Aside0 (kq ≤ kj1) ∧ Drawn0 w w')
        case atStart => exact ⟨(a0), (1970), (by first | rfl | (simp; done) | (simp [*]; done)), (by first | rfl | (simp; done) | (simp [*]; done)), H', ⟨Nat.le_refl _⟩, by repeat (first | exact Drawn0.refl _ | apply Drawn0.step)⟩
        case round =>
          clear H'
          try clear c1
          try clear p2
          try clear c3
          try clear c3b0
          try clear c5
          try clear p2
          obtain ⟨x0_2, x6_2, rfl, rfl, HA, HK2, ⟨m2, rfl⟩⟩ := hrel
          cases gk with
          | zero => exact absurd HA.out (by simp [tompionref03_Date.l0])
          | succ k2 =>
            have H := HA.out
            clear HA
            simp only [tompionref03_Date.l0] at H
            replace H := Option.bind_eq_some_iff.mp H
            obtain ⟨t173, A60, H⟩ := H
            replace H : (if x0_2 ≥ t173 then ((tompionref03_year.f x6_2).bind fun t174 => (tompionref03_Date.l0 k2 (wrap64 (x0_2 - t174)) (wrap64 (x6_2 + 1)))) else (tompionref03_Date.l1 k2 x0_2 x6_2 1)) = some (r1, r2, r3, r4) := H
            have A6 := Aside0.mk A60
            clear A60
            by_cases c7 : x0_2 ≥ t173
            · rw [if_pos c7] at H
              have c7b0 : decide (t173 ≤ x0_2) = true := decide_eq_true c7
              clear c7
              replace H := Option.bind_eq_some_iff.mp H
              obtain ⟨t174, A80, H⟩ := H
              replace H : (tompionref03_Date.l0 k2 (wrap64 (x0_2 - t174)) (wrap64 (x6_2 + 1))) = some (r1, r2, r3, r4) := H
              have A8 := Aside0.mk A80
              clear A80
              have H' := Aside0.mk H
              clear H
              go_wp2_with (first | ((with_reducible refine gate_callee (f := 21) rfl ?_); refine goesL_ (some 17) rfl rfl Try.func21 (by kernel_rfl) rfl #[.int .i64 x6_2] rfl (by (try simp only [List.map_toArray, List.map_cons, List.map_nil]); first | done | rfl | (simp only [List.length_drop, List.length_take]; rfl)) ?_; (with_reducible refine (tompionref03_year.calls x6_2 t173 _ A6.out).mono ?_); rintro e w' ⟨rfl, ⟨nd, rfl⟩⟩; refine ⟨_, rfl, ?_⟩) | ((with_reducible refine gate_callee (f := 21) rfl ?_); refine goesL_ (some 21) rfl rfl Try.func21 (by kernel_rfl) rfl #[.int .i64 x6_2] rfl (by (try simp only [List.map_toArray, List.map_cons, List.map_nil]); first | done | rfl | (simp only [List.length_drop, List.length_take]; rfl)) ?_; (with_reducible refine (tompionref03_year.calls x6_2 t174 _ A8.out).mono ?_); rintro e w' ⟨rfl, ⟨nd, rfl⟩⟩; refine ⟨_, rfl, ?_⟩))
              go_roundg k2
              case measure => have := HJ1.out; have := HK2.out; omega
              case rel => exact ⟨(wrap64 (x0_2 - t174)), (wrap64 (x6_2 + 1)), (by first | rfl | (simp; done) | (simp [*]; done)), (by first | rfl | (simp; done) | (simp [*]; done)), H', ⟨by have := HJ1.out; have := HK2.out; omega⟩, by repeat (first | exact Drawn0.refl _ | apply Drawn0.step)⟩
            · rw [if_neg c7] at H
              have c7b0 : decide (t173 ≤ x0_2) = false := decide_eq_false c7
              clear c7
              have H' := Aside0.mk H
              clear H
              go_wp2_with (first | ((with_reducible refine gate_callee (f := 21) rfl ?_); refine goesL_ (some 17) rfl rfl Try.func21 (by kernel_rfl) rfl #[.int .i64 x6_2] rfl (by (try simp only [List.map_toArray, List.map_cons, List.map_nil]); first | done | rfl | (simp only [List.length_drop, List.length_take]; rfl)) ?_; (with_reducible refine (tompionref03_year.calls x6_2 t173 _ A6.out).mono ?_); rintro e w' ⟨rfl, ⟨nd, rfl⟩⟩; refine ⟨_, rfl, ?_⟩))
              go_loopg [0, 7] k2 (fun kq v0 v7 w' => ∃ (x0_3 : Int) (x7_3 : Int), v0 = .int .i64 x0_3 ∧ v7 = .int .i64 x7_3 ∧ Aside0 (tompionref03_Date.l1 kq x0_3 x6_2 x7_3 = some (r1, r2, r3, r4)) ∧ Aside0 (kq ≤ k2) ∧ Drawn0 w w')
              case atStart => exact ⟨(x0_2), (1), (by first | rfl | (simp; done) | (simp [*]; done)), (by first | rfl | (simp; done) | (simp [*]; done)), H', ⟨Nat.le_refl _⟩, by repeat (first | exact Drawn0.refl _ | apply Drawn0.step)⟩
              case round =>
                clear H'
                try clear c1
                try clear c2
                try clear p2
                try clear c3
                try clear c3b0
                try clear c5
                try clear p6
                try clear c7
                try clear c7b0
                try clear p2
                obtain ⟨x0_3, x7_3, rfl, rfl, HA, HK3, ⟨m3, rfl⟩⟩ := hrel
                cases gk with
                | zero => exact absurd HA.out (by simp [tompionref03_Date.l1])
                | succ k3 =>
                  have H := HA.out
                  clear HA
                  simp only [tompionref03_Date.l1] at H
                  replace H := Option.bind_eq_some_iff.mp H
                  obtain ⟨t175, A90, H⟩ := H
                  replace H : (if x0_3 ≥ t175 then ((tompionref03_Long.f k3 x6_2 x7_3).bind fun t176 => (tompionref03_Date.l1 k3 (wrap64 (x0_3 - t176)) x6_2 (wrap64 (x7_3 + 1)))) else (some (x6_2, x7_3, wrap64 (x0_3 + 1), true))) = some (r1, r2, r3, r4) := H
                  have A9 := Aside0.mk A90
                  clear A90
                  by_cases c10 : x0_3 ≥ t175
                  · rw [if_pos c10] at H
                    have c10b0 : decide (t175 ≤ x0_3) = true := decide_eq_true c10
                    clear c10
                    replace H := Option.bind_eq_some_iff.mp H
                    obtain ⟨t176, A110, H⟩ := H
                    replace H : (tompionref03_Date.l1 k3 (wrap64 (x0_3 - t176)) x6_2 (wrap64 (x7_3 + 1))) = some (r1, r2, r3, r4) := H
                    have A11 := Aside0.mk A110
                    clear A110
                    have H' := Aside0.mk H
                    clear H
                    go_wp2_with (first | ((with_reducible refine gate_callee (f := 13) rfl ?_); refine goesL_ (some 28) rfl rfl Try.func13 (by kernel_rfl) rfl #[.int .i64 x6_2, .int .i64 x7_3] rfl (by (try simp only [List.map_toArray, List.map_cons, List.map_nil]); first | done | rfl | (simp only [List.length_drop, List.length_take]; rfl)) ?_; (with_reducible refine (tompionref03_Long.calls k3 x6_2 x7_3 t175 _ A9.out).mono ?_); rintro e w' ⟨rfl, ⟨nd, rfl⟩⟩; refine ⟨_, rfl, ?_⟩) | ((with_reducible refine gate_callee (f := 13) rfl ?_); refine goesL_ (some 33) rfl rfl Try.func13 (by kernel_rfl) rfl #[.int .i64 x6_2, .int .i64 x7_3] rfl (by (try simp only [List.map_toArray, List.map_cons, List.map_nil]); first | done | rfl | (simp only [List.length_drop, List.length_take]; rfl)) ?_; (with_reducible refine (tompionref03_Long.calls k3 x6_2 x7_3 t176 _ A11.out).mono ?_); rintro e w' ⟨rfl, ⟨nd, rfl⟩⟩; refine ⟨_, rfl, ?_⟩))
                    go_roundg k3
                    case measure => have := HJ1.out; have := HK2.out; have := HK3.out; omega
                    case rel => exact ⟨(wrap64 (x0_3 - t176)), (wrap64 (x7_3 + 1)), (by first | rfl | (simp; done) | (simp [*]; done)), (by first | rfl | (simp; done) | (simp [*]; done)), H', ⟨by have := HJ1.out; have := HK2.out; have := HK3.out; omega⟩, by repeat (first | exact Drawn0.refl _ | apply Drawn0.step)⟩
                  · rw [if_neg c10] at H
                    have c10b0 : decide (t175 ≤ x0_3) = false := decide_eq_false c10
                    clear c10
                    simp only [Option.some.injEq, Prod.mk.injEq] at H
                    obtain ⟨rfl, rfl, rfl, rfl⟩ := H
                    go_wp2_with (first | ((with_reducible refine gate_callee (f := 13) rfl ?_); refine goesL_ (some 28) rfl rfl Try.func13 (by kernel_rfl) rfl #[.int .i64 x6_2, .int .i64 x7_3] rfl (by (try simp only [List.map_toArray, List.map_cons, List.map_nil]); first | done | rfl | (simp only [List.length_drop, List.length_take]; rfl)) ?_; (with_reducible refine (tompionref03_Long.calls k3 x6_2 x7_3 t175 _ A9.out).mono ?_); rintro e w' ⟨rfl, ⟨nd, rfl⟩⟩; refine ⟨_, rfl, ?_⟩))
                    refine bodyPost_ret (results_list (rs := [.tmp 2, .tmp 3, .tmp 4, .tmp 5]) rfl (by simp) (.tmp (.tmp (.tmp (.tmp .nil))))) rfl ?_
                    exact ⟨by first | rfl | (simp; done) | (simp [*]; done), by repeat (first | exact Drawn0.refl _ | apply Drawn0.step)⟩

/-! ### civil_Last: function 17 -/
def civil_Last.f  : Option (Int) := (civil_most.f).bind fun t177 => (some (wrap64 ((wrap64 ((wrap64 (t177 + 1)) * 86400)) - 1)))
set_option maxHeartbeats 8000000 in
set_option maxRecDepth 100000 in
theorem civil_Last.calls  (r : Int) (w : World) (h : civil_Last.f  = some r) :
    Calls Try.prog 17 #[] w fun e w' => e = .returned (.int .i64 r) ∧ Drawn0 w w' := by
  have H : ((civil_most.f).bind fun t177 => (some (wrap64 ((wrap64 ((wrap64 (t177 + 1)) * 86400)) - 1)))) = some r := h
  clear h
  replace H := Option.bind_eq_some_iff.mp H
  obtain ⟨t177, A10, H⟩ := H
  replace H : (some (wrap64 ((wrap64 ((wrap64 (t177 + 1)) * 86400)) - 1))) = some r := H
  have A1 := Aside0.mk A10
  clear A10
  obtain rfl := Option.some.inj H
  go_enter Try.func17, Try.ntmps17
  go_wp2_with (first | ((with_reducible refine gate_callee (f := 23) rfl ?_); refine goesL_ (some 1) rfl rfl Try.func23 (by kernel_rfl) rfl #[] rfl (by (try simp only [List.map_toArray, List.map_cons, List.map_nil]); first | done | rfl | (simp only [List.length_drop, List.length_take]; rfl)) ?_; (with_reducible refine (civil_most.calls  t177 _ A1.out).mono ?_); rintro e w' ⟨rfl, ⟨nd, rfl⟩⟩; refine ⟨_, rfl, ?_⟩))
  go_ret
  exact ⟨by first | rfl | (simp; done) | (simp [*]; done), by repeat (first | exact Drawn0.refl _ | apply Drawn0.step)⟩

end Go.Proofs.Yteeemnnbgahnkaa.X
