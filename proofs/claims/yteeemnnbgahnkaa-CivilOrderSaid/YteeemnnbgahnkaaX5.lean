/- The functions of the program as plain Lean functions, and the walks that show that the Go text answers so: written by a program (xprint.py) out of the translation; conditions: none beyond those that each theorem names. -/
import Derived.Test.YteeemnnbgahnkaaX0
import Derived.Test.YteeemnnbgahnkaaX1
import Derived.Test.YteeemnnbgahnkaaX2
import Derived.Test.YteeemnnbgahnkaaX4
namespace Go.Proofs.Yteeemnnbgahnkaa.X
open Go.RowKit Go.Proofs.YteeemnnbgahnkaaW.PrintWords Go.Proofs.YteeemnnbgahnkaaW.PrintLast Go.Proofs.YteeemnnbgahnkaaW.PrintMore
attribute [local go_sem] max2_int min2_int max_two min_two max_three min_three max_four min_four   -- for this text's walks alone
set_option linter.unusedVariables false
set_option linter.unusedSimpArgs false

/-! ### tompionlaw03_CivilDate: function 8 -/
def tompionlaw03_CivilDate.j0 : Nat → Int → Int → Int → Int → Int → Bool → Int → Bool → Option (Bool)
  | 0, _, _, _, _, _, _, _, _ => none
  | k + 1, x0, x3, x4, x5, x6, x10, x11, x69 => if x69 = true then (some false) else (if x10 = true then ((civil_Days.f x3 x4 x5).bind fun bt191 => (if bt191.1 = x0 then (if bt191.2 = 0 then (some (x11 == (Int.tmod (wrap64 (x0 + 4)) 7))) else (some false)) else (some false))) else (if x6 = 2 then (some (x11 == 0)) else (some false)))
def tompionlaw03_CivilDate.f (k : Nat) (a0 : Int) : Option (Bool) := (civil_Date.f k a0).bind fun bt178 => ((tompionref03_Date.f k a0).bind fun bt182 => ((civil_Weekday.f a0).bind fun bt186 => ((tompionlaw03_awake.f k).bind fun t188 => (if t188 = true then (if bt178.1 = bt182.1 then (if bt178.2.1 = bt182.2.1 then (if bt178.2.2.1 = bt182.2.2.1 then (if ((bt178.2.2.2 == 0) != bt182.2.2.2) = true then (tompionlaw03_CivilDate.j0 k a0 bt178.1 bt178.2.1 bt178.2.2.1 bt178.2.2.2 bt182.2.2.2 bt186.1 true) else (if bt178.2.2.2 = bt186.2 then ((civil_Last.f).bind fun t189 => ((tompionref03_Most.f k).bind fun t190 => (tompionlaw03_CivilDate.j0 k a0 bt178.1 bt178.2.1 bt178.2.2.1 bt178.2.2.2 bt182.2.2.2 bt186.1 (t189 != (wrap64 ((wrap64 ((wrap64 (t190 + 1)) * 86400)) - 1)))))) else (tompionlaw03_CivilDate.j0 k a0 bt178.1 bt178.2.1 bt178.2.2.1 bt178.2.2.2 bt182.2.2.2 bt186.1 true))) else (tompionlaw03_CivilDate.j0 k a0 bt178.1 bt178.2.1 bt178.2.2.1 bt178.2.2.2 bt182.2.2.2 bt186.1 true)) else (tompionlaw03_CivilDate.j0 k a0 bt178.1 bt178.2.1 bt178.2.2.1 bt178.2.2.2 bt182.2.2.2 bt186.1 true)) else (tompionlaw03_CivilDate.j0 k a0 bt178.1 bt178.2.1 bt178.2.2.1 bt178.2.2.2 bt182.2.2.2 bt186.1 true)) else (tompionlaw03_CivilDate.j0 k a0 bt178.1 bt178.2.1 bt178.2.2.1 bt178.2.2.2 bt182.2.2.2 bt186.1 true)))))
theorem tompionlaw03_CivilDate.mono_l : ∀ k, (∀ y0 y1 y2 y3 y4 y5 y6 y7, LeO (tompionlaw03_CivilDate.j0 k y0 y1 y2 y3 y4 y5 y6 y7) (tompionlaw03_CivilDate.j0 (k + 1) y0 y1 y2 y3 y4 y5 y6 y7))
  | 0 => fun _ _ _ _ _ _ _ _ r h => by simp [tompionlaw03_CivilDate.j0] at h
  | k + 1 => by
    have ih0 := tompionlaw03_CivilDate.mono_l k
    · intro y0 y1 y2 y3 y4 y5 y6 y7
      unfold tompionlaw03_CivilDate.j0
      repeat' first
      | (with_reducible exact ih0 _ _ _ _ _ _ _ _)
      | (with_reducible exact civil_Date.mono _ _)
      | (with_reducible exact tompionlaw03_awake.mono _)
      | (with_reducible exact tompionref03_Date.mono _ _)
      | (with_reducible exact tompionref03_Most.mono _)
      | (with_reducible exact LeO.refl _)
      | (with_reducible exact LeO.none _)
      | (with_reducible refine LeO.ite ?_ ?_)
      | (with_reducible refine LeO.bind ?_ (fun _ => ?_))
      | exact ih0 _ _ _ _ _ _ _ _
      | exact civil_Date.mono _ _
      | exact tompionlaw03_awake.mono _
      | exact tompionref03_Date.mono _ _
      | exact tompionref03_Most.mono _
      | exact LeO.none _
      | refine LeO.ite ?_ ?_
      | refine LeO.bind ?_ (fun _ => ?_)
theorem tompionlaw03_CivilDate.mono : ∀ a0 k, LeO (tompionlaw03_CivilDate.f k a0) (tompionlaw03_CivilDate.f (k + 1) a0) := by
  intro a0 k
  have ih0 := tompionlaw03_CivilDate.mono_l k
  unfold tompionlaw03_CivilDate.f
  repeat' first
      | (with_reducible exact ih0 _ _ _ _ _ _ _ _)
      | (with_reducible exact civil_Date.mono _ _)
      | (with_reducible exact tompionlaw03_awake.mono _)
      | (with_reducible exact tompionref03_Date.mono _ _)
      | (with_reducible exact tompionref03_Most.mono _)
      | (with_reducible exact LeO.refl _)
      | (with_reducible exact LeO.none _)
      | (with_reducible refine LeO.ite ?_ ?_)
      | (with_reducible refine LeO.bind ?_ (fun _ => ?_))
      | exact ih0 _ _ _ _ _ _ _ _
      | exact civil_Date.mono _ _
      | exact tompionlaw03_awake.mono _
      | exact tompionref03_Date.mono _ _
      | exact tompionref03_Most.mono _
      | exact LeO.none _
      | refine LeO.ite ?_ ?_
      | refine LeO.bind ?_ (fun _ => ?_)
set_option maxHeartbeats 8000000 in
set_option maxRecDepth 100000 in
theorem tompionlaw03_CivilDate.calls (k : Nat) (a0 : Int) (r : Bool) (w : World) (h : tompionlaw03_CivilDate.f k a0 = some r) :
    Calls Try.prog 8 #[.int .i64 a0] w fun e w' => e = .returned (.bool r) ∧ Drawn0 w w' := by
  have H : ((civil_Date.f k a0).bind fun bt178 => ((tompionref03_Date.f k a0).bind fun bt182 => ((civil_Weekday.f a0).bind fun bt186 => ((tompionlaw03_awake.f k).bind fun t188 => (if t188 = true then (if bt178.1 = bt182.1 then (if bt178.2.1 = bt182.2.1 then (if bt178.2.2.1 = bt182.2.2.1 then (if ((bt178.2.2.2 == 0) != bt182.2.2.2) = true then (tompionlaw03_CivilDate.j0 k a0 bt178.1 bt178.2.1 bt178.2.2.1 bt178.2.2.2 bt182.2.2.2 bt186.1 true) else (if bt178.2.2.2 = bt186.2 then ((civil_Last.f).bind fun t189 => ((tompionref03_Most.f k).bind fun t190 => (tompionlaw03_CivilDate.j0 k a0 bt178.1 bt178.2.1 bt178.2.2.1 bt178.2.2.2 bt182.2.2.2 bt186.1 (t189 != (wrap64 ((wrap64 ((wrap64 (t190 + 1)) * 86400)) - 1)))))) else (tompionlaw03_CivilDate.j0 k a0 bt178.1 bt178.2.1 bt178.2.2.1 bt178.2.2.2 bt182.2.2.2 bt186.1 true))) else (tompionlaw03_CivilDate.j0 k a0 bt178.1 bt178.2.1 bt178.2.2.1 bt178.2.2.2 bt182.2.2.2 bt186.1 true)) else (tompionlaw03_CivilDate.j0 k a0 bt178.1 bt178.2.1 bt178.2.2.1 bt178.2.2.2 bt182.2.2.2 bt186.1 true)) else (tompionlaw03_CivilDate.j0 k a0 bt178.1 bt178.2.1 bt178.2.2.1 bt178.2.2.2 bt182.2.2.2 bt186.1 true)) else (tompionlaw03_CivilDate.j0 k a0 bt178.1 bt178.2.1 bt178.2.2.1 bt178.2.2.2 bt182.2.2.2 bt186.1 true)))))) = some r := h
  clear h
  replace H := Option.bind_eq_some_iff.mp H
  obtain ⟨⟨t178, t179, t180, t181⟩, A20, H⟩ := H
  replace H : ((tompionref03_Date.f k a0).bind fun bt182 => ((civil_Weekday.f a0).bind fun bt186 => ((tompionlaw03_awake.f k).bind fun t188 => (if t188 = true then (if t178 = bt182.1 then (if t179 = bt182.2.1 then (if t180 = bt182.2.2.1 then (if ((t181 == 0) != bt182.2.2.2) = true then (tompionlaw03_CivilDate.j0 k a0 t178 t179 t180 t181 bt182.2.2.2 bt186.1 true) else (if t181 = bt186.2 then ((civil_Last.f).bind fun t189 => ((tompionref03_Most.f k).bind fun t190 => (tompionlaw03_CivilDate.j0 k a0 t178 t179 t180 t181 bt182.2.2.2 bt186.1 (t189 != (wrap64 ((wrap64 ((wrap64 (t190 + 1)) * 86400)) - 1)))))) else (tompionlaw03_CivilDate.j0 k a0 t178 t179 t180 t181 bt182.2.2.2 bt186.1 true))) else (tompionlaw03_CivilDate.j0 k a0 t178 t179 t180 t181 bt182.2.2.2 bt186.1 true)) else (tompionlaw03_CivilDate.j0 k a0 t178 t179 t180 t181 bt182.2.2.2 bt186.1 true)) else (tompionlaw03_CivilDate.j0 k a0 t178 t179 t180 t181 bt182.2.2.2 bt186.1 true)) else (tompionlaw03_CivilDate.j0 k a0 t178 t179 t180 t181 bt182.2.2.2 bt186.1 true))))) = some r := H
  have A2 := Aside0.mk A20
  clear A20
  replace H := Option.bind_eq_some_iff.mp H
  obtain ⟨⟨t182, t183, t184, t185⟩, A30, H⟩ := H
  replace H : ((civil_Weekday.f a0).bind fun bt186 => ((tompionlaw03_awake.f k).bind fun t188 => (if t188 = true then (if t178 = t182 then (if t179 = t183 then (if t180 = t184 then (if ((t181 == 0) != t185) = true then (tompionlaw03_CivilDate.j0 k a0 t178 t179 t180 t181 t185 bt186.1 true) else (if t181 = bt186.2 then ((civil_Last.f).bind fun t189 => ((tompionref03_Most.f k).bind fun t190 => (tompionlaw03_CivilDate.j0 k a0 t178 t179 t180 t181 t185 bt186.1 (t189 != (wrap64 ((wrap64 ((wrap64 (t190 + 1)) * 86400)) - 1)))))) else (tompionlaw03_CivilDate.j0 k a0 t178 t179 t180 t181 t185 bt186.1 true))) else (tompionlaw03_CivilDate.j0 k a0 t178 t179 t180 t181 t185 bt186.1 true)) else (tompionlaw03_CivilDate.j0 k a0 t178 t179 t180 t181 t185 bt186.1 true)) else (tompionlaw03_CivilDate.j0 k a0 t178 t179 t180 t181 t185 bt186.1 true)) else (tompionlaw03_CivilDate.j0 k a0 t178 t179 t180 t181 t185 bt186.1 true)))) = some r := H
  have A3 := Aside0.mk A30
  clear A30
  replace H := Option.bind_eq_some_iff.mp H
  obtain ⟨⟨t186, t187⟩, A40, H⟩ := H
  replace H : ((tompionlaw03_awake.f k).bind fun t188 => (if t188 = true then (if t178 = t182 then (if t179 = t183 then (if t180 = t184 then (if ((t181 == 0) != t185) = true then (tompionlaw03_CivilDate.j0 k a0 t178 t179 t180 t181 t185 t186 true) else (if t181 = t187 then ((civil_Last.f).bind fun t189 => ((tompionref03_Most.f k).bind fun t190 => (tompionlaw03_CivilDate.j0 k a0 t178 t179 t180 t181 t185 t186 (t189 != (wrap64 ((wrap64 ((wrap64 (t190 + 1)) * 86400)) - 1)))))) else (tompionlaw03_CivilDate.j0 k a0 t178 t179 t180 t181 t185 t186 true))) else (tompionlaw03_CivilDate.j0 k a0 t178 t179 t180 t181 t185 t186 true)) else (tompionlaw03_CivilDate.j0 k a0 t178 t179 t180 t181 t185 t186 true)) else (tompionlaw03_CivilDate.j0 k a0 t178 t179 t180 t181 t185 t186 true)) else (tompionlaw03_CivilDate.j0 k a0 t178 t179 t180 t181 t185 t186 true))) = some r := H
  have A4 := Aside0.mk A40
  clear A40
  have HC5 := Aside0.mk H
  clear H
  go_enter Try.func8, Try.ntmps8
  go_upto_region 4 with (first | ((with_reducible refine gate_callee (f := 14) rfl ?_); refine goesL_ (some 17) rfl rfl Try.func14 (by kernel_rfl) rfl #[.int .i64 a0] rfl (by (try simp only [List.map_toArray, List.map_cons, List.map_nil]); first | done | rfl | (simp only [List.length_drop, List.length_take]; rfl)) ?_; (with_reducible refine (civil_Date.calls k a0 t178 t179 t180 t181 _ A2.out).mono ?_); rintro e w' ⟨rfl, ⟨nd, rfl⟩⟩; refine ⟨_, rfl, ?_⟩) | ((with_reducible refine gate_callee (f := 16) rfl ?_); refine goesL_ (some 24) rfl rfl Try.func16 (by kernel_rfl) rfl #[.int .i64 a0] rfl (by (try simp only [List.map_toArray, List.map_cons, List.map_nil]); first | done | rfl | (simp only [List.length_drop, List.length_take]; rfl)) ?_; (with_reducible refine (tompionref03_Date.calls k a0 t182 t183 t184 t185 _ A3.out).mono ?_); rintro e w' ⟨rfl, ⟨nd, rfl⟩⟩; refine ⟨_, rfl, ?_⟩) | ((with_reducible refine gate_callee (f := 15) rfl ?_); refine goesL_ (some 31) rfl rfl Try.func15 (by kernel_rfl) rfl #[.int .i64 a0] rfl (by (try simp only [List.map_toArray, List.map_cons, List.map_nil]); first | done | rfl | (simp only [List.length_drop, List.length_take]; rfl)) ?_; (with_reducible refine (civil_Weekday.calls a0 t186 t187 _ A4.out).mono ?_); rintro e w' ⟨rfl, ⟨nd, rfl⟩⟩; refine ⟨_, rfl, ?_⟩))
  (try simp only [Act.put, List.setIfInBounds_toArray, List.set_cons_zero, List.set_cons_succ])
  go_cut [69] (fun v69 wc => ∃ (kq : Nat) (x69_4 : Bool), v69 = .bool x69_4 ∧ Aside0 (tompionlaw03_CivilDate.j0 kq a0 t178 t179 t180 t181 t185 t186 x69_4 = some r) ∧ Aside0 (kq ≤ k) ∧ Drawn0 w wc)
  case first =>
    have H := HC5.out
    clear HC5
    replace H := Option.bind_eq_some_iff.mp H
    obtain ⟨t188, A60, H⟩ := H
    replace H : (if t188 = true then (if t178 = t182 then (if t179 = t183 then (if t180 = t184 then (if ((t181 == 0) != t185) = true then (tompionlaw03_CivilDate.j0 k a0 t178 t179 t180 t181 t185 t186 true) else (if t181 = t187 then ((civil_Last.f).bind fun t189 => ((tompionref03_Most.f k).bind fun t190 => (tompionlaw03_CivilDate.j0 k a0 t178 t179 t180 t181 t185 t186 (t189 != (wrap64 ((wrap64 ((wrap64 (t190 + 1)) * 86400)) - 1)))))) else (tompionlaw03_CivilDate.j0 k a0 t178 t179 t180 t181 t185 t186 true))) else (tompionlaw03_CivilDate.j0 k a0 t178 t179 t180 t181 t185 t186 true)) else (tompionlaw03_CivilDate.j0 k a0 t178 t179 t180 t181 t185 t186 true)) else (tompionlaw03_CivilDate.j0 k a0 t178 t179 t180 t181 t185 t186 true)) else (tompionlaw03_CivilDate.j0 k a0 t178 t179 t180 t181 t185 t186 true)) = some r := H
    have A6 := Aside0.mk A60
    clear A60
    by_cases c7 : t188 = true
    · subst c7
      have H1 : (if t178 = t182 then (if t179 = t183 then (if t180 = t184 then (if ((t181 == 0) != t185) = true then (tompionlaw03_CivilDate.j0 k a0 t178 t179 t180 t181 t185 t186 true) else (if t181 = t187 then ((civil_Last.f).bind fun t189 => ((tompionref03_Most.f k).bind fun t190 => (tompionlaw03_CivilDate.j0 k a0 t178 t179 t180 t181 t185 t186 (t189 != (wrap64 ((wrap64 ((wrap64 (t190 + 1)) * 86400)) - 1)))))) else (tompionlaw03_CivilDate.j0 k a0 t178 t179 t180 t181 t185 t186 true))) else (tompionlaw03_CivilDate.j0 k a0 t178 t179 t180 t181 t185 t186 true)) else (tompionlaw03_CivilDate.j0 k a0 t178 t179 t180 t181 t185 t186 true)) else (tompionlaw03_CivilDate.j0 k a0 t178 t179 t180 t181 t185 t186 true)) = some r := by rw [if_pos rfl] at H; exact H
      clear H
      have H := H1
      clear H1
      by_cases c8 : t178 = t182
      · rw [if_pos c8] at H
        have c8b0 : (t178 == t182) = true := beq_iff_eq.mpr c8
        have c8b1 : (t178 != t182) = false := bne_eq_false_iff_eq.mpr c8
        clear c8
        (first | rw [c8b0] | (simp only [i64_w, i32_w]; rw [c8b0]) | skip)
        by_cases c9 : t179 = t183
        · rw [if_pos c9] at H
          have c9b0 : (t179 == t183) = true := beq_iff_eq.mpr c9
          have c9b1 : (t179 != t183) = false := bne_eq_false_iff_eq.mpr c9
          clear c9
          by_cases c10 : t180 = t184
          · rw [if_pos c10] at H
            have c10b0 : (t180 == t184) = true := beq_iff_eq.mpr c10
            have c10b1 : (t180 != t184) = false := bne_eq_false_iff_eq.mpr c10
            clear c10
            by_cases c11 : ((t181 == 0) != t185) = true
            · rw [if_pos c11] at H
              have c11b0 : ((t181 == 0) != t185) = true := c11
              (try (have c11b1 : decide ((t181 == 0) = t185) = false := by simpa using c11))
              (try (have c11b2 : ((t181 == 0) == t185) = false := by simpa using c11))
              (try (have c11b3 : ¬ ((t181 == 0) = t185) := by simpa using c11))
              clear c11
              have H' := Aside0.mk H
              clear H
              go_wp2_with (first | ((with_reducible refine gate_callee (f := 11) rfl ?_); refine goesL_ (some 34) rfl rfl Try.func11 (by kernel_rfl) rfl #[] rfl (by (try simp only [List.map_toArray, List.map_cons, List.map_nil]); first | done | rfl | (simp only [List.length_drop, List.length_take]; rfl)) ?_; (with_reducible refine (tompionlaw03_awake.calls k  true _ A6.out).mono ?_); rintro e w' ⟨rfl, ⟨nd, rfl⟩⟩; refine ⟨_, rfl, ?_⟩))
              go_meet
              case rel => exact ⟨_, (true), (by first | rfl | (simp; done) | (simp [*]; done)), H', ⟨by first | omega | exact Nat.le_refl _⟩, by repeat (first | exact Drawn0.refl _ | apply Drawn0.step)⟩
            · rw [if_neg c11] at H
              have c11b0 : ((t181 == 0) != t185) = false := by simpa using c11
              (try (have c11b1 : decide ((t181 == 0) = t185) = true := by simpa using c11))
              (try (have c11b2 : ((t181 == 0) == t185) = true := by simpa using c11))
              clear c11
              by_cases c12 : t181 = t187
              · rw [if_pos c12] at H
                have c12b0 : (t181 == t187) = true := beq_iff_eq.mpr c12
                have c12b1 : (t181 != t187) = false := bne_eq_false_iff_eq.mpr c12
                clear c12
                replace H := Option.bind_eq_some_iff.mp H
                obtain ⟨t189, A130, H⟩ := H
                replace H : ((tompionref03_Most.f k).bind fun t190 => (tompionlaw03_CivilDate.j0 k a0 t178 t179 t180 t181 t185 t186 (t189 != (wrap64 ((wrap64 ((wrap64 (t190 + 1)) * 86400)) - 1))))) = some r := H
                have A13 := Aside0.mk A130
                clear A130
                replace H := Option.bind_eq_some_iff.mp H
                obtain ⟨t190, A140, H⟩ := H
                replace H : (tompionlaw03_CivilDate.j0 k a0 t178 t179 t180 t181 t185 t186 (t189 != (wrap64 ((wrap64 ((wrap64 (t190 + 1)) * 86400)) - 1)))) = some r := H
                have A14 := Aside0.mk A140
                clear A140
                have H' := Aside0.mk H
                clear H
                go_wp2_with (first | ((with_reducible refine gate_callee (f := 11) rfl ?_); refine goesL_ (some 34) rfl rfl Try.func11 (by kernel_rfl) rfl #[] rfl (by (try simp only [List.map_toArray, List.map_cons, List.map_nil]); first | done | rfl | (simp only [List.length_drop, List.length_take]; rfl)) ?_; (with_reducible refine (tompionlaw03_awake.calls k  true _ A6.out).mono ?_); rintro e w' ⟨rfl, ⟨nd, rfl⟩⟩; refine ⟨_, rfl, ?_⟩) | (go_at_call 17; (with_reducible refine (civil_Last.calls  t189 _ A13.out).mono ?_); rintro e w' ⟨rfl, ⟨nd, rfl⟩⟩) | (go_at_call 18; (with_reducible refine (tompionref03_Most.calls k  t190 _ A14.out).mono ?_); rintro e w' ⟨rfl, ⟨nd, rfl⟩⟩))
                go_meet
                case rel => exact ⟨_, ((t189 != (wrap64 ((wrap64 ((wrap64 (t190 + 1)) * 86400)) - 1)))), (by first | rfl | (simp; done) | (simp [*]; done)), H', ⟨by first | omega | exact Nat.le_refl _⟩, by repeat (first | exact Drawn0.refl _ | apply Drawn0.step)⟩
              · rw [if_neg c12] at H
                have c12b0 : (t181 == t187) = false := beq_eq_false_iff_ne.mpr c12
                have c12b1 : (t181 != t187) = true := bne_iff_ne.mpr c12
                have H' := Aside0.mk H
                clear H
                go_wp2_with (first | ((with_reducible refine gate_callee (f := 11) rfl ?_); refine goesL_ (some 34) rfl rfl Try.func11 (by kernel_rfl) rfl #[] rfl (by (try simp only [List.map_toArray, List.map_cons, List.map_nil]); first | done | rfl | (simp only [List.length_drop, List.length_take]; rfl)) ?_; (with_reducible refine (tompionlaw03_awake.calls k  true _ A6.out).mono ?_); rintro e w' ⟨rfl, ⟨nd, rfl⟩⟩; refine ⟨_, rfl, ?_⟩))
                go_meet
                case rel => exact ⟨_, (true), (by first | rfl | (simp; done) | (simp [*]; done)), H', ⟨by first | omega | exact Nat.le_refl _⟩, by repeat (first | exact Drawn0.refl _ | apply Drawn0.step)⟩
          · rw [if_neg c10] at H
            have c10b0 : (t180 == t184) = false := beq_eq_false_iff_ne.mpr c10
            have c10b1 : (t180 != t184) = true := bne_iff_ne.mpr c10
            have H' := Aside0.mk H
            clear H
            go_wp2_with (first | ((with_reducible refine gate_callee (f := 11) rfl ?_); refine goesL_ (some 34) rfl rfl Try.func11 (by kernel_rfl) rfl #[] rfl (by (try simp only [List.map_toArray, List.map_cons, List.map_nil]); first | done | rfl | (simp only [List.length_drop, List.length_take]; rfl)) ?_; (with_reducible refine (tompionlaw03_awake.calls k  true _ A6.out).mono ?_); rintro e w' ⟨rfl, ⟨nd, rfl⟩⟩; refine ⟨_, rfl, ?_⟩))
            go_meet
            case rel => exact ⟨_, (true), (by first | rfl | (simp; done) | (simp [*]; done)), H', ⟨by first | omega | exact Nat.le_refl _⟩, by repeat (first | exact Drawn0.refl _ | apply Drawn0.step)⟩
        · rw [if_neg c9] at H
          have c9b0 : (t179 == t183) = false := beq_eq_false_iff_ne.mpr c9
          have c9b1 : (t179 != t183) = true := bne_iff_ne.mpr c9
          have H' := Aside0.mk H
          clear H
          go_wp2_with (first | ((with_reducible refine gate_callee (f := 11) rfl ?_); refine goesL_ (some 34) rfl rfl Try.func11 (by kernel_rfl) rfl #[] rfl (by (try simp only [List.map_toArray, List.map_cons, List.map_nil]); first | done | rfl | (simp only [List.length_drop, List.length_take]; rfl)) ?_; (with_reducible refine (tompionlaw03_awake.calls k  true _ A6.out).mono ?_); rintro e w' ⟨rfl, ⟨nd, rfl⟩⟩; refine ⟨_, rfl, ?_⟩))
          go_meet
          case rel => exact ⟨_, (true), (by first | rfl | (simp; done) | (simp [*]; done)), H', ⟨by first | omega | exact Nat.le_refl _⟩, by repeat (first | exact Drawn0.refl _ | apply Drawn0.step)⟩
      · rw [if_neg c8] at H
        have c8b0 : (t178 == t182) = false := beq_eq_false_iff_ne.mpr c8
        have c8b1 : (t178 != t182) = true := bne_iff_ne.mpr c8
        (first | rw [c8b0] | (simp only [i64_w, i32_w]; rw [c8b0]) | skip)
        have H' := Aside0.mk H
        clear H
        go_wp2_with (first | ((with_reducible refine gate_callee (f := 11) rfl ?_); refine goesL_ (some 34) rfl rfl Try.func11 (by kernel_rfl) rfl #[] rfl (by (try simp only [List.map_toArray, List.map_cons, List.map_nil]); first | done | rfl | (simp only [List.length_drop, List.length_take]; rfl)) ?_; (with_reducible refine (tompionlaw03_awake.calls k  true _ A6.out).mono ?_); rintro e w' ⟨rfl, ⟨nd, rfl⟩⟩; refine ⟨_, rfl, ?_⟩))
        go_meet
        case rel => exact ⟨_, (true), (by first | rfl | (simp; done) | (simp [*]; done)), H', ⟨by first | omega | exact Nat.le_refl _⟩, by repeat (first | exact Drawn0.refl _ | apply Drawn0.step)⟩
    · replace c7 := Bool.eq_false_iff.mpr c7
      subst c7
      have H1 : (tompionlaw03_CivilDate.j0 k a0 t178 t179 t180 t181 t185 t186 true) = some r := by rw [if_neg (show ¬ (false = true) by decide)] at H; exact H
      clear H
      have H := H1
      clear H1
      have H' := Aside0.mk H
      clear H
      go_wp2_with (first | ((with_reducible refine gate_callee (f := 11) rfl ?_); refine goesL_ (some 34) rfl rfl Try.func11 (by kernel_rfl) rfl #[] rfl (by (try simp only [List.map_toArray, List.map_cons, List.map_nil]); first | done | rfl | (simp only [List.length_drop, List.length_take]; rfl)) ?_; (with_reducible refine (tompionlaw03_awake.calls k  false _ A6.out).mono ?_); rintro e w' ⟨rfl, ⟨nd, rfl⟩⟩; refine ⟨_, rfl, ?_⟩))
      go_meet
      case rel => exact ⟨_, (true), (by first | rfl | (simp; done) | (simp [*]; done)), H', ⟨by first | omega | exact Nat.le_refl _⟩, by repeat (first | exact Drawn0.refl _ | apply Drawn0.step)⟩
  case rest =>
    clear HC5
    try clear c1
    try clear p2
    try clear p6
    try clear c7
    try clear c8
    try clear c8b0
    try clear c8b1
    try clear c9
    try clear c9b0
    try clear c9b1
    try clear c10
    try clear c10b0
    try clear c10b1
    try clear c11
    try clear c11b0
    try clear c11b1
    try clear c11b2
    try clear c12
    try clear c12b0
    try clear c12b1
    try clear c14
    obtain ⟨kq, x69_4, rfl, HA, HJ4, ⟨mc4, rfl⟩⟩ := hcut
    cases kq with
    | zero => exact absurd HA.out (by simp [tompionlaw03_CivilDate.j0])
    | succ kj4 =>
      have H := HA.out
      clear HA
      simp only [tompionlaw03_CivilDate.j0] at H
      by_cases c15 : x69_4 = true
      · subst c15
        have H1 : (some false) = some r := by rw [if_pos rfl] at H; exact H
        clear H
        have H := H1
        clear H1
        obtain rfl := Option.some.inj H
        go_wp2
        go_ret
        exact ⟨by first | rfl | (simp; done) | (simp [*]; done), by repeat (first | exact Drawn0.refl _ | apply Drawn0.step)⟩
      · replace c15 := Bool.eq_false_iff.mpr c15
        subst c15
        have H1 : (if t185 = true then ((civil_Days.f t178 t179 t180).bind fun bt191 => (if bt191.1 = a0 then (if bt191.2 = 0 then (some (t186 == (Int.tmod (wrap64 (a0 + 4)) 7))) else (some false)) else (some false))) else (if t181 = 2 then (some (t186 == 0)) else (some false))) = some r := by rw [if_neg (show ¬ (false = true) by decide)] at H; exact H
        clear H
        have H := H1
        clear H1
        by_cases c16 : t185 = true
        · subst c16
          have H1 : ((civil_Days.f t178 t179 t180).bind fun bt191 => (if bt191.1 = a0 then (if bt191.2 = 0 then (some (t186 == (Int.tmod (wrap64 (a0 + 4)) 7))) else (some false)) else (some false))) = some r := by rw [if_pos rfl] at H; exact H
          clear H
          have H := H1
          clear H1
          replace H := Option.bind_eq_some_iff.mp H
          obtain ⟨⟨t191, t192⟩, A170, H⟩ := H
          replace H : (if t191 = a0 then (if t192 = 0 then (some (t186 == (Int.tmod (wrap64 (a0 + 4)) 7))) else (some false)) else (some false)) = some r := H
          have A17 := Aside0.mk A170
          clear A170
          by_cases c18 : t191 = a0
          · rw [if_pos c18] at H
            have c18b0 : (t191 == a0) = true := beq_iff_eq.mpr c18
            have c18b1 : (t191 != a0) = false := bne_eq_false_iff_eq.mpr c18
            clear c18
            by_cases c19 : t192 = 0
            · rw [if_pos c19] at H
              have c19b0 : (t192 == 0) = true := beq_iff_eq.mpr c19
              have c19b1 : (t192 != 0) = false := bne_eq_false_iff_eq.mpr c19
              clear c19
              obtain rfl := Option.some.inj H
              go_wp2_with (first | ((with_reducible refine gate_callee (f := 9) rfl ?_); refine goesL_ (some 82) rfl rfl Try.func9 (by kernel_rfl) rfl #[.int .i64 t178, .int .i64 t179, .int .i64 t180] rfl (by (try simp only [List.map_toArray, List.map_cons, List.map_nil]); first | done | rfl | (simp only [List.length_drop, List.length_take]; rfl)) ?_; (with_reducible refine (civil_Days.calls t178 t179 t180 t191 t192 _ A17.out).mono ?_); rintro e w' ⟨rfl, ⟨nd, rfl⟩⟩; refine ⟨_, rfl, ?_⟩))
              go_ret
              exact ⟨by first | rfl | (simp; done) | (simp [*]; done), by repeat (first | exact Drawn0.refl _ | apply Drawn0.step)⟩
            · rw [if_neg c19] at H
              have c19b0 : (t192 == 0) = false := beq_eq_false_iff_ne.mpr c19
              have c19b1 : (t192 != 0) = true := bne_iff_ne.mpr c19
              obtain rfl := Option.some.inj H
              go_wp2_with (first | ((with_reducible refine gate_callee (f := 9) rfl ?_); refine goesL_ (some 82) rfl rfl Try.func9 (by kernel_rfl) rfl #[.int .i64 t178, .int .i64 t179, .int .i64 t180] rfl (by (try simp only [List.map_toArray, List.map_cons, List.map_nil]); first | done | rfl | (simp only [List.length_drop, List.length_take]; rfl)) ?_; (with_reducible refine (civil_Days.calls t178 t179 t180 t191 t192 _ A17.out).mono ?_); rintro e w' ⟨rfl, ⟨nd, rfl⟩⟩; refine ⟨_, rfl, ?_⟩))
              go_ret
              exact ⟨by first | rfl | (simp; done) | (simp [*]; done), by repeat (first | exact Drawn0.refl _ | apply Drawn0.step)⟩
          · rw [if_neg c18] at H
            have c18b0 : (t191 == a0) = false := beq_eq_false_iff_ne.mpr c18
            have c18b1 : (t191 != a0) = true := bne_iff_ne.mpr c18
            obtain rfl := Option.some.inj H
            go_wp2_with (first | ((with_reducible refine gate_callee (f := 9) rfl ?_); refine goesL_ (some 82) rfl rfl Try.func9 (by kernel_rfl) rfl #[.int .i64 t178, .int .i64 t179, .int .i64 t180] rfl (by (try simp only [List.map_toArray, List.map_cons, List.map_nil]); first | done | rfl | (simp only [List.length_drop, List.length_take]; rfl)) ?_; (with_reducible refine (civil_Days.calls t178 t179 t180 t191 t192 _ A17.out).mono ?_); rintro e w' ⟨rfl, ⟨nd, rfl⟩⟩; refine ⟨_, rfl, ?_⟩))
            go_ret
            exact ⟨by first | rfl | (simp; done) | (simp [*]; done), by repeat (first | exact Drawn0.refl _ | apply Drawn0.step)⟩
        · replace c16 := Bool.eq_false_iff.mpr c16
          subst c16
          have H1 : (if t181 = 2 then (some (t186 == 0)) else (some false)) = some r := by rw [if_neg (show ¬ (false = true) by decide)] at H; exact H
          clear H
          have H := H1
          clear H1
          by_cases c20 : t181 = 2
          · rw [if_pos c20] at H
            have c20b0 : (t181 == 2) = true := beq_iff_eq.mpr c20
            have c20b1 : (t181 != 2) = false := bne_eq_false_iff_eq.mpr c20
            clear c20
            obtain rfl := Option.some.inj H
            go_wp2
            go_ret
            exact ⟨by first | rfl | (simp; done) | (simp [*]; done), by repeat (first | exact Drawn0.refl _ | apply Drawn0.step)⟩
          · rw [if_neg c20] at H
            have c20b0 : (t181 == 2) = false := beq_eq_false_iff_ne.mpr c20
            have c20b1 : (t181 != 2) = true := bne_iff_ne.mpr c20
            obtain rfl := Option.some.inj H
            go_wp2
            go_ret
            exact ⟨by first | rfl | (simp; done) | (simp [*]; done), by repeat (first | exact Drawn0.refl _ | apply Drawn0.step)⟩

/-- THE ONE PURE STATEMENT of tompionlaw03_CivilDate: yours. -/
def tompionlaw03_CivilDate.Pure : Prop := ∀ (a0 : Int), (Lit.int .i64 a0).wf = true → ∃ k, tompionlaw03_CivilDate.f k a0 = some true
theorem tompionlaw03_CivilDate.walk (P : tompionlaw03_CivilDate.Pure) (a0 : Int) (w : World) (w0 : (Lit.int .i64 a0).wf = true) :
    Calls Try.prog 8 #[.int .i64 a0] w fun e w' => e = .returned (.bool true) ∧ Below w.heap.size w w' := by
  obtain ⟨k, h⟩ := P a0 w0
  refine (tompionlaw03_CivilDate.calls k a0 true w h).mono ?_
  rintro e w' ⟨rfl, hd⟩
  exact ⟨rfl, hd.below⟩

end Go.Proofs.Yteeemnnbgahnkaa.X
