/- The functions of the program as plain Lean functions, and the walks that show that the Go text answers so: written by a program (xprint.py) out of the translation; conditions: none beyond those that each theorem names. -/
import Derived.Test.YteeemnnbgahnkaaX0
import Derived.Test.YteeemnnbgahnkaaX1
import Derived.Test.YteeemnnbgahnkaaX2
namespace Go.Proofs.Yteeemnnbgahnkaa.X
open Go.RowKit Go.Proofs.YteeemnnbgahnkaaW.PrintWords Go.Proofs.YteeemnnbgahnkaaW.PrintLast Go.Proofs.YteeemnnbgahnkaaW.PrintMore
attribute [local go_sem] max2_int min2_int max_two min_two max_three min_three max_four min_four   -- for this text's walks alone
set_option linter.unusedVariables false
set_option linter.unusedSimpArgs false

/-! ### tompionlaw03_CivilDays: function 3 -/
def tompionlaw03_CivilDays.j0 : Nat → Int → Int → Int → Bool → Option (Bool)
  | 0, _, _, _, _ => none
  | k + 1, x7, x8, x9, x31 => if x31 = true then (some false) else (if x9 < 0 then (if x7 = 0 then (some (x8 == 2)) else (some false)) else (if x7 = x9 then (some (x8 == 0)) else (some false)))
def tompionlaw03_CivilDays.f (k : Nat) (a0 : Int) (a1 : Int) (a2 : Int) : Option (Bool) := (civil_Days.f a0 a1 a2).bind fun bt132 => ((tompionref03_Days.f k a0 a1 a2).bind fun t134 => ((tompionlaw03_awake.f k).bind fun t135 => (if t135 = true then ((civil_Long.f a0 a1).bind fun t136 => ((tompionref03_Long.f k a0 a1).bind fun t137 => (tompionlaw03_CivilDays.j0 k bt132.1 bt132.2 t134 (t136 != t137)))) else (tompionlaw03_CivilDays.j0 k bt132.1 bt132.2 t134 true))))
theorem tompionlaw03_CivilDays.mono_l : ∀ k, (∀ y0 y1 y2 y3, LeO (tompionlaw03_CivilDays.j0 k y0 y1 y2 y3) (tompionlaw03_CivilDays.j0 (k + 1) y0 y1 y2 y3))
  | 0 => fun _ _ _ _ r h => by simp [tompionlaw03_CivilDays.j0] at h
  | k + 1 => by
    have ih0 := tompionlaw03_CivilDays.mono_l k
    · intro y0 y1 y2 y3
      unfold tompionlaw03_CivilDays.j0
      repeat' first
      | (with_reducible exact ih0 _ _ _ _)
      | (with_reducible exact tompionlaw03_awake.mono _)
      | (with_reducible exact tompionref03_Days.mono _ _ _ _)
      | (with_reducible exact tompionref03_Long.mono _ _ _)
      | (with_reducible exact LeO.refl _)
      | (with_reducible exact LeO.none _)
      | (with_reducible refine LeO.ite ?_ ?_)
      | (with_reducible refine LeO.bind ?_ (fun _ => ?_))
      | exact ih0 _ _ _ _
      | exact tompionlaw03_awake.mono _
      | exact tompionref03_Days.mono _ _ _ _
      | exact tompionref03_Long.mono _ _ _
      | exact LeO.none _
      | refine LeO.ite ?_ ?_
      | refine LeO.bind ?_ (fun _ => ?_)
theorem tompionlaw03_CivilDays.mono : ∀ a0 a1 a2 k, LeO (tompionlaw03_CivilDays.f k a0 a1 a2) (tompionlaw03_CivilDays.f (k + 1) a0 a1 a2) := by
  intro a0 a1 a2 k
  have ih0 := tompionlaw03_CivilDays.mono_l k
  unfold tompionlaw03_CivilDays.f
  repeat' first
      | (with_reducible exact ih0 _ _ _ _)
      | (with_reducible exact tompionlaw03_awake.mono _)
      | (with_reducible exact tompionref03_Days.mono _ _ _ _)
      | (with_reducible exact tompionref03_Long.mono _ _ _)
      | (with_reducible exact LeO.refl _)
      | (with_reducible exact LeO.none _)
      | (with_reducible refine LeO.ite ?_ ?_)
      | (with_reducible refine LeO.bind ?_ (fun _ => ?_))
      | exact ih0 _ _ _ _
      | exact tompionlaw03_awake.mono _
      | exact tompionref03_Days.mono _ _ _ _
      | exact tompionref03_Long.mono _ _ _
      | exact LeO.none _
      | refine LeO.ite ?_ ?_
      | refine LeO.bind ?_ (fun _ => ?_)
set_option maxHeartbeats 8000000 in
set_option maxRecDepth 100000 in
theorem tompionlaw03_CivilDays.calls (k : Nat) (a0 : Int) (a1 : Int) (a2 : Int) (r : Bool) (w : World) (h : tompionlaw03_CivilDays.f k a0 a1 a2 = some r) :
    Calls Try.prog 3 #[.int .i64 a0, .int .i64 a1, .int .i64 a2] w fun e w' => e = .returned (.bool r) ∧ Drawn0 w w' := by
  have H : ((civil_Days.f a0 a1 a2).bind fun bt132 => ((tompionref03_Days.f k a0 a1 a2).bind fun t134 => ((tompionlaw03_awake.f k).bind fun t135 => (if t135 = true then ((civil_Long.f a0 a1).bind fun t136 => ((tompionref03_Long.f k a0 a1).bind fun t137 => (tompionlaw03_CivilDays.j0 k bt132.1 bt132.2 t134 (t136 != t137)))) else (tompionlaw03_CivilDays.j0 k bt132.1 bt132.2 t134 true))))) = some r := h
  clear h
  replace H := Option.bind_eq_some_iff.mp H
  obtain ⟨⟨t132, t133⟩, A40, H⟩ := H
  replace H : ((tompionref03_Days.f k a0 a1 a2).bind fun t134 => ((tompionlaw03_awake.f k).bind fun t135 => (if t135 = true then ((civil_Long.f a0 a1).bind fun t136 => ((tompionref03_Long.f k a0 a1).bind fun t137 => (tompionlaw03_CivilDays.j0 k t132 t133 t134 (t136 != t137)))) else (tompionlaw03_CivilDays.j0 k t132 t133 t134 true)))) = some r := H
  have A4 := Aside0.mk A40
  clear A40
  replace H := Option.bind_eq_some_iff.mp H
  obtain ⟨t134, A50, H⟩ := H
  replace H : ((tompionlaw03_awake.f k).bind fun t135 => (if t135 = true then ((civil_Long.f a0 a1).bind fun t136 => ((tompionref03_Long.f k a0 a1).bind fun t137 => (tompionlaw03_CivilDays.j0 k t132 t133 t134 (t136 != t137)))) else (tompionlaw03_CivilDays.j0 k t132 t133 t134 true))) = some r := H
  have A5 := Aside0.mk A50
  clear A50
  have HC6 := Aside0.mk H
  clear H
  go_enter Try.func3, Try.ntmps3
  go_upto_region 3 with (first | ((with_reducible refine gate_callee (f := 9) rfl ?_); refine goesL_ (some 14) rfl rfl Try.func9 (by kernel_rfl) rfl #[.int .i64 a0, .int .i64 a1, .int .i64 a2] rfl (by (try simp only [List.map_toArray, List.map_cons, List.map_nil]); first | done | rfl | (simp only [List.length_drop, List.length_take]; rfl)) ?_; (with_reducible refine (civil_Days.calls a0 a1 a2 t132 t133 _ A4.out).mono ?_); rintro e w' ⟨rfl, ⟨nd, rfl⟩⟩; refine ⟨_, rfl, ?_⟩) | ((with_reducible refine gate_callee (f := 10) rfl ?_); refine goesL_ (some 20) rfl rfl Try.func10 (by kernel_rfl) rfl #[.int .i64 a0, .int .i64 a1, .int .i64 a2] rfl (by (try simp only [List.map_toArray, List.map_cons, List.map_nil]); first | done | rfl | (simp only [List.length_drop, List.length_take]; rfl)) ?_; (with_reducible refine (tompionref03_Days.calls k a0 a1 a2 t134 _ A5.out).mono ?_); rintro e w' ⟨rfl, ⟨nd, rfl⟩⟩; refine ⟨_, rfl, ?_⟩))
  (try simp only [Act.put, List.setIfInBounds_toArray, List.set_cons_zero, List.set_cons_succ])
  go_cut [31] (fun v31 wc => ∃ (kq : Nat) (x31_5 : Bool), v31 = .bool x31_5 ∧ Aside0 (tompionlaw03_CivilDays.j0 kq t132 t133 t134 x31_5 = some r) ∧ Aside0 (kq ≤ k) ∧ Drawn0 w wc)
  case first =>
    have H := HC6.out
    clear HC6
    replace H := Option.bind_eq_some_iff.mp H
    obtain ⟨t135, A70, H⟩ := H
    replace H : (if t135 = true then ((civil_Long.f a0 a1).bind fun t136 => ((tompionref03_Long.f k a0 a1).bind fun t137 => (tompionlaw03_CivilDays.j0 k t132 t133 t134 (t136 != t137)))) else (tompionlaw03_CivilDays.j0 k t132 t133 t134 true)) = some r := H
    have A7 := Aside0.mk A70
    clear A70
    by_cases c8 : t135 = true
    · subst c8
      have H1 : ((civil_Long.f a0 a1).bind fun t136 => ((tompionref03_Long.f k a0 a1).bind fun t137 => (tompionlaw03_CivilDays.j0 k t132 t133 t134 (t136 != t137)))) = some r := by rw [if_pos rfl] at H; exact H
      clear H
      have H := H1
      clear H1
      replace H := Option.bind_eq_some_iff.mp H
      obtain ⟨t136, A90, H⟩ := H
      replace H : ((tompionref03_Long.f k a0 a1).bind fun t137 => (tompionlaw03_CivilDays.j0 k t132 t133 t134 (t136 != t137))) = some r := H
      have A9 := Aside0.mk A90
      clear A90
      replace H := Option.bind_eq_some_iff.mp H
      obtain ⟨t137, A100, H⟩ := H
      replace H : (tompionlaw03_CivilDays.j0 k t132 t133 t134 (t136 != t137)) = some r := H
      have A10 := Aside0.mk A100
      clear A100
      have H' := Aside0.mk H
      clear H
      go_wp2_with (first | ((with_reducible refine gate_callee (f := 11) rfl ?_); refine goesL_ (some 21) rfl rfl Try.func11 (by kernel_rfl) rfl #[] rfl (by (try simp only [List.map_toArray, List.map_cons, List.map_nil]); first | done | rfl | (simp only [List.length_drop, List.length_take]; rfl)) ?_; (with_reducible refine (tompionlaw03_awake.calls k  true _ A7.out).mono ?_); rintro e w' ⟨rfl, ⟨nd, rfl⟩⟩; refine ⟨_, rfl, ?_⟩) | (go_at_call 12; (with_reducible refine (civil_Long.calls a0 a1 t136 _ A9.out).mono ?_); rintro e w' ⟨rfl, ⟨nd, rfl⟩⟩) | (go_at_call 13; (with_reducible refine (tompionref03_Long.calls k a0 a1 t137 _ A10.out).mono ?_); rintro e w' ⟨rfl, ⟨nd, rfl⟩⟩))
      go_meet
      case rel => exact ⟨_, ((t136 != t137)), (by first | rfl | (simp; done) | (simp [*]; done)), H', ⟨by first | omega | exact Nat.le_refl _⟩, by repeat (first | exact Drawn0.refl _ | apply Drawn0.step)⟩
    · replace c8 := Bool.eq_false_iff.mpr c8
      subst c8
      have H1 : (tompionlaw03_CivilDays.j0 k t132 t133 t134 true) = some r := by rw [if_neg (show ¬ (false = true) by decide)] at H; exact H
      clear H
      have H := H1
      clear H1
      have H' := Aside0.mk H
      clear H
      go_wp2_with (first | ((with_reducible refine gate_callee (f := 11) rfl ?_); refine goesL_ (some 21) rfl rfl Try.func11 (by kernel_rfl) rfl #[] rfl (by (try simp only [List.map_toArray, List.map_cons, List.map_nil]); first | done | rfl | (simp only [List.length_drop, List.length_take]; rfl)) ?_; (with_reducible refine (tompionlaw03_awake.calls k  false _ A7.out).mono ?_); rintro e w' ⟨rfl, ⟨nd, rfl⟩⟩; refine ⟨_, rfl, ?_⟩))
      go_meet
      case rel => exact ⟨_, (true), (by first | rfl | (simp; done) | (simp [*]; done)), H', ⟨by first | omega | exact Nat.le_refl _⟩, by repeat (first | exact Drawn0.refl _ | apply Drawn0.step)⟩
  case rest =>
    clear HC6
    try clear c1
    try clear p2
    try clear c3
    try clear c8
    try clear c9
    try clear c10
    obtain ⟨kq, x31_5, rfl, HA, HJ5, ⟨mc5, rfl⟩⟩ := hcut
    cases kq with
    | zero => exact absurd HA.out (by simp [tompionlaw03_CivilDays.j0])
    | succ kj5 =>
      have H := HA.out
      clear HA
      simp only [tompionlaw03_CivilDays.j0] at H
      by_cases c11 : x31_5 = true
      · subst c11
        have H1 : (some false) = some r := by rw [if_pos rfl] at H; exact H
        clear H
        have H := H1
        clear H1
        obtain rfl := Option.some.inj H
        go_wp2
        go_ret
        exact ⟨by first | rfl | (simp; done) | (simp [*]; done), by repeat (first | exact Drawn0.refl _ | apply Drawn0.step)⟩
      · replace c11 := Bool.eq_false_iff.mpr c11
        subst c11
        have H1 : (if t134 < 0 then (if t132 = 0 then (some (t133 == 2)) else (some false)) else (if t132 = t134 then (some (t133 == 0)) else (some false))) = some r := by rw [if_neg (show ¬ (false = true) by decide)] at H; exact H
        clear H
        have H := H1
        clear H1
        by_cases c12 : t134 < 0
        · rw [if_pos c12] at H
          have c12b0 : decide (t134 < 0) = true := decide_eq_true c12
          clear c12
          by_cases c13 : t132 = 0
          · rw [if_pos c13] at H
            have c13b0 : (t132 == 0) = true := beq_iff_eq.mpr c13
            have c13b1 : (t132 != 0) = false := bne_eq_false_iff_eq.mpr c13
            clear c13
            obtain rfl := Option.some.inj H
            go_wp2
            go_ret
            exact ⟨by first | rfl | (simp; done) | (simp [*]; done), by repeat (first | exact Drawn0.refl _ | apply Drawn0.step)⟩
          · rw [if_neg c13] at H
            have c13b0 : (t132 == 0) = false := beq_eq_false_iff_ne.mpr c13
            have c13b1 : (t132 != 0) = true := bne_iff_ne.mpr c13
            obtain rfl := Option.some.inj H
            go_wp2
            go_ret
            exact ⟨by first | rfl | (simp; done) | (simp [*]; done), by repeat (first | exact Drawn0.refl _ | apply Drawn0.step)⟩
        · rw [if_neg c12] at H
          have c12b0 : decide (t134 < 0) = false := decide_eq_false c12
          clear c12
          by_cases c14 : t132 = t134
          · rw [if_pos c14] at H
            have c14b0 : (t132 == t134) = true := beq_iff_eq.mpr c14
            have c14b1 : (t132 != t134) = false := bne_eq_false_iff_eq.mpr c14
            clear c14
            obtain rfl := Option.some.inj H
            go_wp2
            go_ret
            exact ⟨by first | rfl | (simp; done) | (simp [*]; done), by repeat (first | exact Drawn0.refl _ | apply Drawn0.step)⟩
          · rw [if_neg c14] at H
            have c14b0 : (t132 == t134) = false := beq_eq_false_iff_ne.mpr c14
            have c14b1 : (t132 != t134) = true := bne_iff_ne.mpr c14
            obtain rfl := Option.some.inj H
            go_wp2
            go_ret
            exact ⟨by first | rfl | (simp; done) | (simp [*]; done), by repeat (first | exact Drawn0.refl _ | apply Drawn0.step)⟩

/-- THE ONE PURE STATEMENT of tompionlaw03_CivilDays: yours. -/
def tompionlaw03_CivilDays.Pure : Prop := ∀ (a0 : Int) (a1 : Int) (a2 : Int), (Lit.int .i64 a0).wf = true → (Lit.int .i64 a1).wf = true → (Lit.int .i64 a2).wf = true → ∃ k, tompionlaw03_CivilDays.f k a0 a1 a2 = some true
theorem tompionlaw03_CivilDays.walk (P : tompionlaw03_CivilDays.Pure) (a0 : Int) (a1 : Int) (a2 : Int) (w : World) (w0 : (Lit.int .i64 a0).wf = true) (w1 : (Lit.int .i64 a1).wf = true) (w2 : (Lit.int .i64 a2).wf = true) :
    Calls Try.prog 3 #[.int .i64 a0, .int .i64 a1, .int .i64 a2] w fun e w' => e = .returned (.bool true) ∧ Below w.heap.size w w' := by
  obtain ⟨k, h⟩ := P a0 a1 a2 w0 w1 w2
  refine (tompionlaw03_CivilDays.calls k a0 a1 a2 true w h).mono ?_
  rintro e w' ⟨rfl, hd⟩
  exact ⟨rfl, hd.below⟩

/-! ### tompionlaw03_CivilNext: function 4 -/
def tompionlaw03_CivilNext.j0 : Nat → Int → Int → Int → Int → Bool → Option (Bool)
  | 0, _, _, _, _, _ => none
  | k + 1, x0, x3, x4, x5, x29 => if x29 = true then ((tompionlaw03_awake.f k).bind fun t143 => (some t143)) else ((civil_Date.f k (wrap64 (x0 + 1))).bind fun bt144 => (if bt144.2.2.2 = 0 then ((civil_Weekday.f x0).bind fun bt148 => ((civil_Weekday.f (wrap64 (x0 + 1))).bind fun bt150 => (if bt144.1 = x3 then (if bt144.2.1 = x4 then ((civil_Long.f x3 x4).bind fun t152 => (if x5 = t152 then (if bt144.2.2.1 = 1 then (if bt144.2.1 = (wrap64 (x4 + 1)) then (if bt144.2.2.1 = (wrap64 (x5 + 1)) then (some (bt150.1 == (Int.tmod (wrap64 (bt148.1 + 1)) 7))) else (some (bt150.1 == (Int.tmod (wrap64 (bt148.1 + 1)) 7)))) else (if x4 = 12 then (if bt144.2.1 = 1 then (if bt144.2.2.1 = (wrap64 (x5 + 1)) then (some (bt150.1 == (Int.tmod (wrap64 (bt148.1 + 1)) 7))) else (if bt144.1 = (wrap64 (x3 + 1)) then (some (bt150.1 == (Int.tmod (wrap64 (bt148.1 + 1)) 7))) else (some false))) else (if bt144.2.2.1 = (wrap64 (x5 + 1)) then (some (bt150.1 == (Int.tmod (wrap64 (bt148.1 + 1)) 7))) else (some false))) else (if bt144.2.2.1 = (wrap64 (x5 + 1)) then (some (bt150.1 == (Int.tmod (wrap64 (bt148.1 + 1)) 7))) else (some false)))) else (if bt144.2.2.1 = (wrap64 (x5 + 1)) then (some (bt150.1 == (Int.tmod (wrap64 (bt148.1 + 1)) 7))) else (some false))) else (if bt144.2.2.1 = (wrap64 (x5 + 1)) then (some (bt150.1 == (Int.tmod (wrap64 (bt148.1 + 1)) 7))) else (some false)))) else ((civil_Long.f x3 x4).bind fun t153 => (if x5 = t153 then (if bt144.2.2.1 = 1 then (if bt144.2.1 = (wrap64 (x4 + 1)) then (some (bt150.1 == (Int.tmod (wrap64 (bt148.1 + 1)) 7))) else (if x4 = 12 then (if bt144.2.1 = 1 then (if bt144.1 = (wrap64 (x3 + 1)) then (some (bt150.1 == (Int.tmod (wrap64 (bt148.1 + 1)) 7))) else (some false)) else (some false)) else (some false))) else (some false)) else (some false)))) else ((civil_Long.f x3 x4).bind fun t154 => (if x5 = t154 then (if bt144.2.2.1 = 1 then (if x4 = 12 then (if bt144.2.1 = 1 then (if bt144.1 = (wrap64 (x3 + 1)) then (some (bt150.1 == (Int.tmod (wrap64 (bt148.1 + 1)) 7))) else (some false)) else (some false)) else (some false)) else (some false)) else (some false)))))) else (if x3 = 9999 then (if x4 = 12 then (some (x5 == 31)) else (some false)) else (some false))))
def tompionlaw03_CivilNext.f (k : Nat) (a0 : Int) : Option (Bool) := (civil_Date.f k a0).bind fun bt138 => ((tompionlaw03_awake.f k).bind fun t142 => (if t142 = true then (tompionlaw03_CivilNext.j0 k a0 bt138.1 bt138.2.1 bt138.2.2.1 (bt138.2.2.2 != 0)) else (tompionlaw03_CivilNext.j0 k a0 bt138.1 bt138.2.1 bt138.2.2.1 true)))
theorem tompionlaw03_CivilNext.mono_l : ∀ k, (∀ y0 y1 y2 y3 y4, LeO (tompionlaw03_CivilNext.j0 k y0 y1 y2 y3 y4) (tompionlaw03_CivilNext.j0 (k + 1) y0 y1 y2 y3 y4))
  | 0 => fun _ _ _ _ _ r h => by simp [tompionlaw03_CivilNext.j0] at h
  | k + 1 => by
    have ih0 := tompionlaw03_CivilNext.mono_l k
    · intro y0 y1 y2 y3 y4
      unfold tompionlaw03_CivilNext.j0
      repeat' first
      | (with_reducible exact ih0 _ _ _ _ _)
      | (with_reducible exact civil_Date.mono _ _)
      | (with_reducible exact tompionlaw03_awake.mono _)
      | (with_reducible exact LeO.refl _)
      | (with_reducible exact LeO.none _)
      | (with_reducible refine LeO.ite ?_ ?_)
      | (with_reducible refine LeO.bind ?_ (fun _ => ?_))
      | exact ih0 _ _ _ _ _
      | exact civil_Date.mono _ _
      | exact tompionlaw03_awake.mono _
      | exact LeO.none _
      | refine LeO.ite ?_ ?_
      | refine LeO.bind ?_ (fun _ => ?_)
theorem tompionlaw03_CivilNext.mono : ∀ a0 k, LeO (tompionlaw03_CivilNext.f k a0) (tompionlaw03_CivilNext.f (k + 1) a0) := by
  intro a0 k
  have ih0 := tompionlaw03_CivilNext.mono_l k
  unfold tompionlaw03_CivilNext.f
  repeat' first
      | (with_reducible exact ih0 _ _ _ _ _)
      | (with_reducible exact civil_Date.mono _ _)
      | (with_reducible exact tompionlaw03_awake.mono _)
      | (with_reducible exact LeO.refl _)
      | (with_reducible exact LeO.none _)
      | (with_reducible refine LeO.ite ?_ ?_)
      | (with_reducible refine LeO.bind ?_ (fun _ => ?_))
      | exact ih0 _ _ _ _ _
      | exact civil_Date.mono _ _
      | exact tompionlaw03_awake.mono _
      | exact LeO.none _
      | refine LeO.ite ?_ ?_
      | refine LeO.bind ?_ (fun _ => ?_)
set_option maxHeartbeats 8000000 in
set_option maxRecDepth 100000 in
theorem tompionlaw03_CivilNext.calls (k : Nat) (a0 : Int) (r : Bool) (w : World) (h : tompionlaw03_CivilNext.f k a0 = some r) :
    Calls Try.prog 4 #[.int .i64 a0] w fun e w' => e = .returned (.bool r) ∧ Drawn0 w w' := by
  have H : ((civil_Date.f k a0).bind fun bt138 => ((tompionlaw03_awake.f k).bind fun t142 => (if t142 = true then (tompionlaw03_CivilNext.j0 k a0 bt138.1 bt138.2.1 bt138.2.2.1 (bt138.2.2.2 != 0)) else (tompionlaw03_CivilNext.j0 k a0 bt138.1 bt138.2.1 bt138.2.2.1 true)))) = some r := h
  clear h
  replace H := Option.bind_eq_some_iff.mp H
  obtain ⟨⟨t138, t139, t140, t141⟩, A20, H⟩ := H
  replace H : ((tompionlaw03_awake.f k).bind fun t142 => (if t142 = true then (tompionlaw03_CivilNext.j0 k a0 t138 t139 t140 (t141 != 0)) else (tompionlaw03_CivilNext.j0 k a0 t138 t139 t140 true))) = some r := H
  have A2 := Aside0.mk A20
  clear A20
  have HC3 := Aside0.mk H
  clear H
  go_enter Try.func4, Try.ntmps4
  go_upto_region 2 with (first | ((with_reducible refine gate_callee (f := 14) rfl ?_); refine goesL_ (some 19) rfl rfl Try.func14 (by kernel_rfl) rfl #[.int .i64 a0] rfl (by (try simp only [List.map_toArray, List.map_cons, List.map_nil]); first | done | rfl | (simp only [List.length_drop, List.length_take]; rfl)) ?_; (with_reducible refine (civil_Date.calls k a0 t138 t139 t140 t141 _ A2.out).mono ?_); rintro e w' ⟨rfl, ⟨nd, rfl⟩⟩; refine ⟨_, rfl, ?_⟩))
  (try simp only [Act.put, List.setIfInBounds_toArray, List.set_cons_zero, List.set_cons_succ])
  go_cut [29] (fun v29 wc => ∃ (kq : Nat) (x29_2 : Bool), v29 = .bool x29_2 ∧ Aside0 (tompionlaw03_CivilNext.j0 kq a0 t138 t139 t140 x29_2 = some r) ∧ Aside0 (kq ≤ k) ∧ Drawn0 w wc)
  case first =>
    have H := HC3.out
    clear HC3
    replace H := Option.bind_eq_some_iff.mp H
    obtain ⟨t142, A40, H⟩ := H
    replace H : (if t142 = true then (tompionlaw03_CivilNext.j0 k a0 t138 t139 t140 (t141 != 0)) else (tompionlaw03_CivilNext.j0 k a0 t138 t139 t140 true)) = some r := H
    have A4 := Aside0.mk A40
    clear A40
    by_cases c5 : t142 = true
    · subst c5
      have H1 : (tompionlaw03_CivilNext.j0 k a0 t138 t139 t140 (t141 != 0)) = some r := by rw [if_pos rfl] at H; exact H
      clear H
      have H := H1
      clear H1
      have H' := Aside0.mk H
      clear H
      go_wp2_with (first | ((with_reducible refine gate_callee (f := 11) rfl ?_); refine goesL_ (some 24) rfl rfl Try.func11 (by kernel_rfl) rfl #[] rfl (by (try simp only [List.map_toArray, List.map_cons, List.map_nil]); first | done | rfl | (simp only [List.length_drop, List.length_take]; rfl)) ?_; (with_reducible refine (tompionlaw03_awake.calls k  true _ A4.out).mono ?_); rintro e w' ⟨rfl, ⟨nd, rfl⟩⟩; refine ⟨_, rfl, ?_⟩))
      go_meet
      case rel => exact ⟨_, ((t141 != 0)), (by first | rfl | (simp; done) | (simp [*]; done)), H', ⟨by first | omega | exact Nat.le_refl _⟩, by repeat (first | exact Drawn0.refl _ | apply Drawn0.step)⟩
    · replace c5 := Bool.eq_false_iff.mpr c5
      subst c5
      have H1 : (tompionlaw03_CivilNext.j0 k a0 t138 t139 t140 true) = some r := by rw [if_neg (show ¬ (false = true) by decide)] at H; exact H
      clear H
      have H := H1
      clear H1
      have H' := Aside0.mk H
      clear H
      go_wp2_with (first | ((with_reducible refine gate_callee (f := 11) rfl ?_); refine goesL_ (some 24) rfl rfl Try.func11 (by kernel_rfl) rfl #[] rfl (by (try simp only [List.map_toArray, List.map_cons, List.map_nil]); first | done | rfl | (simp only [List.length_drop, List.length_take]; rfl)) ?_; (with_reducible refine (tompionlaw03_awake.calls k  false _ A4.out).mono ?_); rintro e w' ⟨rfl, ⟨nd, rfl⟩⟩; refine ⟨_, rfl, ?_⟩))
      go_meet
      case rel => exact ⟨_, (true), (by first | rfl | (simp; done) | (simp [*]; done)), H', ⟨by first | omega | exact Nat.le_refl _⟩, by repeat (first | exact Drawn0.refl _ | apply Drawn0.step)⟩
  case rest =>
    clear HC3
    try clear c1
    try clear p2
    try clear c4
    try clear c5
    obtain ⟨kq, x29_2, rfl, HA, HJ2, ⟨mc2, rfl⟩⟩ := hcut
    cases kq with
    | zero => exact absurd HA.out (by simp [tompionlaw03_CivilNext.j0])
    | succ kj2 =>
      have H := HA.out
      clear HA
      simp only [tompionlaw03_CivilNext.j0] at H
      by_cases c6 : x29_2 = true
      · subst c6
        have H1 : ((tompionlaw03_awake.f kj2).bind fun t143 => (some t143)) = some r := by rw [if_pos rfl] at H; exact H
        clear H
        have H := H1
        clear H1
        replace H := Option.bind_eq_some_iff.mp H
        obtain ⟨t143, A70, H⟩ := H
        replace H : (some t143) = some r := H
        have A7 := Aside0.mk A70
        clear A70
        obtain rfl := Option.some.inj H
        go_wp2_with (first | ((with_reducible refine gate_callee (f := 11) rfl ?_); refine goesL_ (some 30) rfl rfl Try.func11 (by kernel_rfl) rfl #[] rfl (by (try simp only [List.map_toArray, List.map_cons, List.map_nil]); first | done | rfl | (simp only [List.length_drop, List.length_take]; rfl)) ?_; (with_reducible refine (tompionlaw03_awake.calls kj2  t143 _ A7.out).mono ?_); rintro e w' ⟨rfl, ⟨nd, rfl⟩⟩; refine ⟨_, rfl, ?_⟩))
        go_ret
        exact ⟨by first | rfl | (simp; done) | (simp [*]; done), by repeat (first | exact Drawn0.refl _ | apply Drawn0.step)⟩
      · replace c6 := Bool.eq_false_iff.mpr c6
        subst c6
        have H1 : ((civil_Date.f kj2 (wrap64 (a0 + 1))).bind fun bt144 => (if bt144.2.2.2 = 0 then ((civil_Weekday.f a0).bind fun bt148 => ((civil_Weekday.f (wrap64 (a0 + 1))).bind fun bt150 => (if bt144.1 = t138 then (if bt144.2.1 = t139 then ((civil_Long.f t138 t139).bind fun t152 => (if t140 = t152 then (if bt144.2.2.1 = 1 then (if bt144.2.1 = (wrap64 (t139 + 1)) then (if bt144.2.2.1 = (wrap64 (t140 + 1)) then (some (bt150.1 == (Int.tmod (wrap64 (bt148.1 + 1)) 7))) else (some (bt150.1 == (Int.tmod (wrap64 (bt148.1 + 1)) 7)))) else (if t139 = 12 then (if bt144.2.1 = 1 then (if bt144.2.2.1 = (wrap64 (t140 + 1)) then (some (bt150.1 == (Int.tmod (wrap64 (bt148.1 + 1)) 7))) else (if bt144.1 = (wrap64 (t138 + 1)) then (some (bt150.1 == (Int.tmod (wrap64 (bt148.1 + 1)) 7))) else (some false))) else (if bt144.2.2.1 = (wrap64 (t140 + 1)) then (some (bt150.1 == (Int.tmod (wrap64 (bt148.1 + 1)) 7))) else (some false))) else (if bt144.2.2.1 = (wrap64 (t140 + 1)) then (some (bt150.1 == (Int.tmod (wrap64 (bt148.1 + 1)) 7))) else (some false)))) else (if bt144.2.2.1 = (wrap64 (t140 + 1)) then (some (bt150.1 == (Int.tmod (wrap64 (bt148.1 + 1)) 7))) else (some false))) else (if bt144.2.2.1 = (wrap64 (t140 + 1)) then (some (bt150.1 == (Int.tmod (wrap64 (bt148.1 + 1)) 7))) else (some false)))) else ((civil_Long.f t138 t139).bind fun t153 => (if t140 = t153 then (if bt144.2.2.1 = 1 then (if bt144.2.1 = (wrap64 (t139 + 1)) then (some (bt150.1 == (Int.tmod (wrap64 (bt148.1 + 1)) 7))) else (if t139 = 12 then (if bt144.2.1 = 1 then (if bt144.1 = (wrap64 (t138 + 1)) then (some (bt150.1 == (Int.tmod (wrap64 (bt148.1 + 1)) 7))) else (some false)) else (some false)) else (some false))) else (some false)) else (some false)))) else ((civil_Long.f t138 t139).bind fun t154 => (if t140 = t154 then (if bt144.2.2.1 = 1 then (if t139 = 12 then (if bt144.2.1 = 1 then (if bt144.1 = (wrap64 (t138 + 1)) then (some (bt150.1 == (Int.tmod (wrap64 (bt148.1 + 1)) 7))) else (some false)) else (some false)) else (some false)) else (some false)) else (some false)))))) else (if t138 = 9999 then (if t139 = 12 then (some (t140 == 31)) else (some false)) else (some false)))) = some r := by rw [if_neg (show ¬ (false = true) by decide)] at H; exact H
        clear H
        have H := H1
        clear H1
        replace H := Option.bind_eq_some_iff.mp H
        obtain ⟨⟨t144, t145, t146, t147⟩, A80, H⟩ := H
        replace H : (if t147 = 0 then ((civil_Weekday.f a0).bind fun bt148 => ((civil_Weekday.f (wrap64 (a0 + 1))).bind fun bt150 => (if t144 = t138 then (if t145 = t139 then ((civil_Long.f t138 t139).bind fun t152 => (if t140 = t152 then (if t146 = 1 then (if t145 = (wrap64 (t139 + 1)) then (if t146 = (wrap64 (t140 + 1)) then (some (bt150.1 == (Int.tmod (wrap64 (bt148.1 + 1)) 7))) else (some (bt150.1 == (Int.tmod (wrap64 (bt148.1 + 1)) 7)))) else (if t139 = 12 then (if t145 = 1 then (if t146 = (wrap64 (t140 + 1)) then (some (bt150.1 == (Int.tmod (wrap64 (bt148.1 + 1)) 7))) else (if t144 = (wrap64 (t138 + 1)) then (some (bt150.1 == (Int.tmod (wrap64 (bt148.1 + 1)) 7))) else (some false))) else (if t146 = (wrap64 (t140 + 1)) then (some (bt150.1 == (Int.tmod (wrap64 (bt148.1 + 1)) 7))) else (some false))) else (if t146 = (wrap64 (t140 + 1)) then (some (bt150.1 == (Int.tmod (wrap64 (bt148.1 + 1)) 7))) else (some false)))) else (if t146 = (wrap64 (t140 + 1)) then (some (bt150.1 == (Int.tmod (wrap64 (bt148.1 + 1)) 7))) else (some false))) else (if t146 = (wrap64 (t140 + 1)) then (some (bt150.1 == (Int.tmod (wrap64 (bt148.1 + 1)) 7))) else (some false)))) else ((civil_Long.f t138 t139).bind fun t153 => (if t140 = t153 then (if t146 = 1 then (if t145 = (wrap64 (t139 + 1)) then (some (bt150.1 == (Int.tmod (wrap64 (bt148.1 + 1)) 7))) else (if t139 = 12 then (if t145 = 1 then (if t144 = (wrap64 (t138 + 1)) then (some (bt150.1 == (Int.tmod (wrap64 (bt148.1 + 1)) 7))) else (some false)) else (some false)) else (some false))) else (some false)) else (some false)))) else ((civil_Long.f t138 t139).bind fun t154 => (if t140 = t154 then (if t146 = 1 then (if t139 = 12 then (if t145 = 1 then (if t144 = (wrap64 (t138 + 1)) then (some (bt150.1 == (Int.tmod (wrap64 (bt148.1 + 1)) 7))) else (some false)) else (some false)) else (some false)) else (some false)) else (some false)))))) else (if t138 = 9999 then (if t139 = 12 then (some (t140 == 31)) else (some false)) else (some false))) = some r := H
        have A8 := Aside0.mk A80
        clear A80
        by_cases c9 : t147 = 0
        · rw [if_pos c9] at H
          have c9b0 : (t147 == 0) = true := beq_iff_eq.mpr c9
          have c9b1 : (t147 != 0) = false := bne_eq_false_iff_eq.mpr c9
          clear c9
          replace H := Option.bind_eq_some_iff.mp H
          obtain ⟨⟨t148, t149⟩, A100, H⟩ := H
          replace H : ((civil_Weekday.f (wrap64 (a0 + 1))).bind fun bt150 => (if t144 = t138 then (if t145 = t139 then ((civil_Long.f t138 t139).bind fun t152 => (if t140 = t152 then (if t146 = 1 then (if t145 = (wrap64 (t139 + 1)) then (if t146 = (wrap64 (t140 + 1)) then (some (bt150.1 == (Int.tmod (wrap64 (t148 + 1)) 7))) else (some (bt150.1 == (Int.tmod (wrap64 (t148 + 1)) 7)))) else (if t139 = 12 then (if t145 = 1 then (if t146 = (wrap64 (t140 + 1)) then (some (bt150.1 == (Int.tmod (wrap64 (t148 + 1)) 7))) else (if t144 = (wrap64 (t138 + 1)) then (some (bt150.1 == (Int.tmod (wrap64 (t148 + 1)) 7))) else (some false))) else (if t146 = (wrap64 (t140 + 1)) then (some (bt150.1 == (Int.tmod (wrap64 (t148 + 1)) 7))) else (some false))) else (if t146 = (wrap64 (t140 + 1)) then (some (bt150.1 == (Int.tmod (wrap64 (t148 + 1)) 7))) else (some false)))) else (if t146 = (wrap64 (t140 + 1)) then (some (bt150.1 == (Int.tmod (wrap64 (t148 + 1)) 7))) else (some false))) else (if t146 = (wrap64 (t140 + 1)) then (some (bt150.1 == (Int.tmod (wrap64 (t148 + 1)) 7))) else (some false)))) else ((civil_Long.f t138 t139).bind fun t153 => (if t140 = t153 then (if t146 = 1 then (if t145 = (wrap64 (t139 + 1)) then (some (bt150.1 == (Int.tmod (wrap64 (t148 + 1)) 7))) else (if t139 = 12 then (if t145 = 1 then (if t144 = (wrap64 (t138 + 1)) then (some (bt150.1 == (Int.tmod (wrap64 (t148 + 1)) 7))) else (some false)) else (some false)) else (some false))) else (some false)) else (some false)))) else ((civil_Long.f t138 t139).bind fun t154 => (if t140 = t154 then (if t146 = 1 then (if t139 = 12 then (if t145 = 1 then (if t144 = (wrap64 (t138 + 1)) then (some (bt150.1 == (Int.tmod (wrap64 (t148 + 1)) 7))) else (some false)) else (some false)) else (some false)) else (some false)) else (some false))))) = some r := H
          have A10 := Aside0.mk A100
          clear A100
          replace H := Option.bind_eq_some_iff.mp H
          obtain ⟨⟨t150, t151⟩, A110, H⟩ := H
          replace H : (if t144 = t138 then (if t145 = t139 then ((civil_Long.f t138 t139).bind fun t152 => (if t140 = t152 then (if t146 = 1 then (if t145 = (wrap64 (t139 + 1)) then (if t146 = (wrap64 (t140 + 1)) then (some (t150 == (Int.tmod (wrap64 (t148 + 1)) 7))) else (some (t150 == (Int.tmod (wrap64 (t148 + 1)) 7)))) else (if t139 = 12 then (if t145 = 1 then (if t146 = (wrap64 (t140 + 1)) then (some (t150 == (Int.tmod (wrap64 (t148 + 1)) 7))) else (if t144 = (wrap64 (t138 + 1)) then (some (t150 == (Int.tmod (wrap64 (t148 + 1)) 7))) else (some false))) else (if t146 = (wrap64 (t140 + 1)) then (some (t150 == (Int.tmod (wrap64 (t148 + 1)) 7))) else (some false))) else (if t146 = (wrap64 (t140 + 1)) then (some (t150 == (Int.tmod (wrap64 (t148 + 1)) 7))) else (some false)))) else (if t146 = (wrap64 (t140 + 1)) then (some (t150 == (Int.tmod (wrap64 (t148 + 1)) 7))) else (some false))) else (if t146 = (wrap64 (t140 + 1)) then (some (t150 == (Int.tmod (wrap64 (t148 + 1)) 7))) else (some false)))) else ((civil_Long.f t138 t139).bind fun t153 => (if t140 = t153 then (if t146 = 1 then (if t145 = (wrap64 (t139 + 1)) then (some (t150 == (Int.tmod (wrap64 (t148 + 1)) 7))) else (if t139 = 12 then (if t145 = 1 then (if t144 = (wrap64 (t138 + 1)) then (some (t150 == (Int.tmod (wrap64 (t148 + 1)) 7))) else (some false)) else (some false)) else (some false))) else (some false)) else (some false)))) else ((civil_Long.f t138 t139).bind fun t154 => (if t140 = t154 then (if t146 = 1 then (if t139 = 12 then (if t145 = 1 then (if t144 = (wrap64 (t138 + 1)) then (some (t150 == (Int.tmod (wrap64 (t148 + 1)) 7))) else (some false)) else (some false)) else (some false)) else (some false)) else (some false)))) = some r := H
          have A11 := Aside0.mk A110
          clear A110
          by_cases c12 : t144 = t138
          · rw [if_pos c12] at H
            have c12b0 : (t144 == t138) = true := beq_iff_eq.mpr c12
            have c12b1 : (t144 != t138) = false := bne_eq_false_iff_eq.mpr c12
            clear c12
            by_cases c13 : t145 = t139
            · rw [if_pos c13] at H
              have c13b0 : (t145 == t139) = true := beq_iff_eq.mpr c13
              have c13b1 : (t145 != t139) = false := bne_eq_false_iff_eq.mpr c13
              clear c13
              replace H := Option.bind_eq_some_iff.mp H
              obtain ⟨t152, A140, H⟩ := H
              replace H : (if t140 = t152 then (if t146 = 1 then (if t145 = (wrap64 (t139 + 1)) then (if t146 = (wrap64 (t140 + 1)) then (some (t150 == (Int.tmod (wrap64 (t148 + 1)) 7))) else (some (t150 == (Int.tmod (wrap64 (t148 + 1)) 7)))) else (if t139 = 12 then (if t145 = 1 then (if t146 = (wrap64 (t140 + 1)) then (some (t150 == (Int.tmod (wrap64 (t148 + 1)) 7))) else (if t144 = (wrap64 (t138 + 1)) then (some (t150 == (Int.tmod (wrap64 (t148 + 1)) 7))) else (some false))) else (if t146 = (wrap64 (t140 + 1)) then (some (t150 == (Int.tmod (wrap64 (t148 + 1)) 7))) else (some false))) else (if t146 = (wrap64 (t140 + 1)) then (some (t150 == (Int.tmod (wrap64 (t148 + 1)) 7))) else (some false)))) else (if t146 = (wrap64 (t140 + 1)) then (some (t150 == (Int.tmod (wrap64 (t148 + 1)) 7))) else (some false))) else (if t146 = (wrap64 (t140 + 1)) then (some (t150 == (Int.tmod (wrap64 (t148 + 1)) 7))) else (some false))) = some r := H
              have A14 := Aside0.mk A140
              clear A140
              by_cases c15 : t140 = t152
              · rw [if_pos c15] at H
                have c15b0 : (t140 == t152) = true := beq_iff_eq.mpr c15
                have c15b1 : (t140 != t152) = false := bne_eq_false_iff_eq.mpr c15
                clear c15
                by_cases c16 : t146 = 1
                · rw [if_pos c16] at H
                  have c16b0 : (t146 == 1) = true := beq_iff_eq.mpr c16
                  have c16b1 : (t146 != 1) = false := bne_eq_false_iff_eq.mpr c16
                  clear c16
                  by_cases c17 : t145 = (wrap64 (t139 + 1))
                  · rw [if_pos c17] at H
                    have c17b0 : (t145 == (wrap64 (t139 + 1))) = true := beq_iff_eq.mpr c17
                    have c17b1 : (t145 != (wrap64 (t139 + 1))) = false := bne_eq_false_iff_eq.mpr c17
                    clear c17
                    by_cases c18 : t146 = (wrap64 (t140 + 1))
                    · rw [if_pos c18] at H
                      have c18b0 : (t146 == (wrap64 (t140 + 1))) = true := beq_iff_eq.mpr c18
                      have c18b1 : (t146 != (wrap64 (t140 + 1))) = false := bne_eq_false_iff_eq.mpr c18
                      clear c18
                      obtain rfl := Option.some.inj H
                      go_wp2_with (first | ((with_reducible refine gate_callee (f := 14) rfl ?_); refine goesL_ (some 34) rfl rfl Try.func14 (by kernel_rfl) rfl #[.int .i64 (wrap64 (a0 + 1))] rfl (by (try simp only [List.map_toArray, List.map_cons, List.map_nil]); first | done | rfl | (simp only [List.length_drop, List.length_take]; rfl)) ?_; (with_reducible refine (civil_Date.calls kj2 (wrap64 (a0 + 1)) t144 t145 t146 t147 _ A8.out).mono ?_); rintro e w' ⟨rfl, ⟨nd, rfl⟩⟩; refine ⟨_, rfl, ?_⟩) | ((with_reducible refine gate_callee (f := 15) rfl ?_); refine goesL_ (some 53) rfl rfl Try.func15 (by kernel_rfl) rfl #[.int .i64 a0] rfl (by (try simp only [List.map_toArray, List.map_cons, List.map_nil]); first | done | rfl | (simp only [List.length_drop, List.length_take]; rfl)) ?_; (with_reducible refine (civil_Weekday.calls a0 t148 t149 _ A10.out).mono ?_); rintro e w' ⟨rfl, ⟨nd, rfl⟩⟩; refine ⟨_, rfl, ?_⟩) | ((with_reducible refine gate_callee (f := 15) rfl ?_); refine goesL_ (some 59) rfl rfl Try.func15 (by kernel_rfl) rfl #[.int .i64 (wrap64 (a0 + 1))] rfl (by (try simp only [List.map_toArray, List.map_cons, List.map_nil]); first | done | rfl | (simp only [List.length_drop, List.length_take]; rfl)) ?_; (with_reducible refine (civil_Weekday.calls (wrap64 (a0 + 1)) t150 t151 _ A11.out).mono ?_); rintro e w' ⟨rfl, ⟨nd, rfl⟩⟩; refine ⟨_, rfl, ?_⟩) | ((with_reducible refine gate_callee (f := 12) rfl ?_); refine goesL_ (some 79) rfl rfl Try.func12 (by kernel_rfl) rfl #[.int .i64 t138, .int .i64 t139] rfl (by (try simp only [List.map_toArray, List.map_cons, List.map_nil]); first | done | rfl | (simp only [List.length_drop, List.length_take]; rfl)) ?_; (with_reducible refine (civil_Long.calls t138 t139 t152 _ A14.out).mono ?_); rintro e w' ⟨rfl, ⟨nd, rfl⟩⟩; refine ⟨_, rfl, ?_⟩))
                      go_ret
                      exact ⟨by first | rfl | (simp; done) | (simp [*]; done), by repeat (first | exact Drawn0.refl _ | apply Drawn0.step)⟩
                    · rw [if_neg c18] at H
                      have c18b0 : (t146 == (wrap64 (t140 + 1))) = false := beq_eq_false_iff_ne.mpr c18
                      have c18b1 : (t146 != (wrap64 (t140 + 1))) = true := bne_iff_ne.mpr c18
                      obtain rfl := Option.some.inj H
                      go_wp2_with (first | ((with_reducible refine gate_callee (f := 14) rfl ?_); refine goesL_ (some 34) rfl rfl Try.func14 (by kernel_rfl) rfl #[.int .i64 (wrap64 (a0 + 1))] rfl (by (try simp only [List.map_toArray, List.map_cons, List.map_nil]); first | done | rfl | (simp only [List.length_drop, List.length_take]; rfl)) ?_; (with_reducible refine (civil_Date.calls kj2 (wrap64 (a0 + 1)) t144 t145 t146 t147 _ A8.out).mono ?_); rintro e w' ⟨rfl, ⟨nd, rfl⟩⟩; refine ⟨_, rfl, ?_⟩) | ((with_reducible refine gate_callee (f := 15) rfl ?_); refine goesL_ (some 53) rfl rfl Try.func15 (by kernel_rfl) rfl #[.int .i64 a0] rfl (by (try simp only [List.map_toArray, List.map_cons, List.map_nil]); first | done | rfl | (simp only [List.length_drop, List.length_take]; rfl)) ?_; (with_reducible refine (civil_Weekday.calls a0 t148 t149 _ A10.out).mono ?_); rintro e w' ⟨rfl, ⟨nd, rfl⟩⟩; refine ⟨_, rfl, ?_⟩) | ((with_reducible refine gate_callee (f := 15) rfl ?_); refine goesL_ (some 59) rfl rfl Try.func15 (by kernel_rfl) rfl #[.int .i64 (wrap64 (a0 + 1))] rfl (by (try simp only [List.map_toArray, List.map_cons, List.map_nil]); first | done | rfl | (simp only [List.length_drop, List.length_take]; rfl)) ?_; (with_reducible refine (civil_Weekday.calls (wrap64 (a0 + 1)) t150 t151 _ A11.out).mono ?_); rintro e w' ⟨rfl, ⟨nd, rfl⟩⟩; refine ⟨_, rfl, ?_⟩) | ((with_reducible refine gate_callee (f := 12) rfl ?_); refine goesL_ (some 79) rfl rfl Try.func12 (by kernel_rfl) rfl #[.int .i64 t138, .int .i64 t139] rfl (by (try simp only [List.map_toArray, List.map_cons, List.map_nil]); first | done | rfl | (simp only [List.length_drop, List.length_take]; rfl)) ?_; (with_reducible refine (civil_Long.calls t138 t139 t152 _ A14.out).mono ?_); rintro e w' ⟨rfl, ⟨nd, rfl⟩⟩; refine ⟨_, rfl, ?_⟩))
                      go_ret
                      exact ⟨by first | rfl | (simp; done) | (simp [*]; done), by repeat (first | exact Drawn0.refl _ | apply Drawn0.step)⟩
                  · rw [if_neg c17] at H
                    have c17b0 : (t145 == (wrap64 (t139 + 1))) = false := beq_eq_false_iff_ne.mpr c17
                    have c17b1 : (t145 != (wrap64 (t139 + 1))) = true := bne_iff_ne.mpr c17
                    by_cases c19 : t139 = 12
                    · rw [if_pos c19] at H
                      have c19b0 : (t139 == 12) = true := beq_iff_eq.mpr c19
                      have c19b1 : (t139 != 12) = false := bne_eq_false_iff_eq.mpr c19
                      clear c19
                      by_cases c20 : t145 = 1
                      · rw [if_pos c20] at H
                        have c20b0 : (t145 == 1) = true := beq_iff_eq.mpr c20
                        have c20b1 : (t145 != 1) = false := bne_eq_false_iff_eq.mpr c20
                        clear c20
                        by_cases c21 : t146 = (wrap64 (t140 + 1))
                        · rw [if_pos c21] at H
                          have c21b0 : (t146 == (wrap64 (t140 + 1))) = true := beq_iff_eq.mpr c21
                          have c21b1 : (t146 != (wrap64 (t140 + 1))) = false := bne_eq_false_iff_eq.mpr c21
                          clear c21
                          obtain rfl := Option.some.inj H
                          go_wp2_with (first | ((with_reducible refine gate_callee (f := 14) rfl ?_); refine goesL_ (some 34) rfl rfl Try.func14 (by kernel_rfl) rfl #[.int .i64 (wrap64 (a0 + 1))] rfl (by (try simp only [List.map_toArray, List.map_cons, List.map_nil]); first | done | rfl | (simp only [List.length_drop, List.length_take]; rfl)) ?_; (with_reducible refine (civil_Date.calls kj2 (wrap64 (a0 + 1)) t144 t145 t146 t147 _ A8.out).mono ?_); rintro e w' ⟨rfl, ⟨nd, rfl⟩⟩; refine ⟨_, rfl, ?_⟩) | ((with_reducible refine gate_callee (f := 15) rfl ?_); refine goesL_ (some 53) rfl rfl Try.func15 (by kernel_rfl) rfl #[.int .i64 a0] rfl (by (try simp only [List.map_toArray, List.map_cons, List.map_nil]); first | done | rfl | (simp only [List.length_drop, List.length_take]; rfl)) ?_; (with_reducible refine (civil_Weekday.calls a0 t148 t149 _ A10.out).mono ?_); rintro e w' ⟨rfl, ⟨nd, rfl⟩⟩; refine ⟨_, rfl, ?_⟩) | ((with_reducible refine gate_callee (f := 15) rfl ?_); refine goesL_ (some 59) rfl rfl Try.func15 (by kernel_rfl) rfl #[.int .i64 (wrap64 (a0 + 1))] rfl (by (try simp only [List.map_toArray, List.map_cons, List.map_nil]); first | done | rfl | (simp only [List.length_drop, List.length_take]; rfl)) ?_; (with_reducible refine (civil_Weekday.calls (wrap64 (a0 + 1)) t150 t151 _ A11.out).mono ?_); rintro e w' ⟨rfl, ⟨nd, rfl⟩⟩; refine ⟨_, rfl, ?_⟩) | ((with_reducible refine gate_callee (f := 12) rfl ?_); refine goesL_ (some 79) rfl rfl Try.func12 (by kernel_rfl) rfl #[.int .i64 t138, .int .i64 t139] rfl (by (try simp only [List.map_toArray, List.map_cons, List.map_nil]); first | done | rfl | (simp only [List.length_drop, List.length_take]; rfl)) ?_; (with_reducible refine (civil_Long.calls t138 t139 t152 _ A14.out).mono ?_); rintro e w' ⟨rfl, ⟨nd, rfl⟩⟩; refine ⟨_, rfl, ?_⟩))
                          go_ret
                          exact ⟨by first | rfl | (simp; done) | (simp [*]; done), by repeat (first | exact Drawn0.refl _ | apply Drawn0.step)⟩
                        · rw [if_neg c21] at H
                          have c21b0 : (t146 == (wrap64 (t140 + 1))) = false := beq_eq_false_iff_ne.mpr c21
                          have c21b1 : (t146 != (wrap64 (t140 + 1))) = true := bne_iff_ne.mpr c21
                          by_cases c22 : t144 = (wrap64 (t138 + 1))
                          · rw [if_pos c22] at H
                            have c22b0 : (t144 == (wrap64 (t138 + 1))) = true := beq_iff_eq.mpr c22
                            have c22b1 : (t144 != (wrap64 (t138 + 1))) = false := bne_eq_false_iff_eq.mpr c22
                            clear c22
                            obtain rfl := Option.some.inj H
                            go_wp2_with (first | ((with_reducible refine gate_callee (f := 14) rfl ?_); refine goesL_ (some 34) rfl rfl Try.func14 (by kernel_rfl) rfl #[.int .i64 (wrap64 (a0 + 1))] rfl (by (try simp only [List.map_toArray, List.map_cons, List.map_nil]); first | done | rfl | (simp only [List.length_drop, List.length_take]; rfl)) ?_; (with_reducible refine (civil_Date.calls kj2 (wrap64 (a0 + 1)) t144 t145 t146 t147 _ A8.out).mono ?_); rintro e w' ⟨rfl, ⟨nd, rfl⟩⟩; refine ⟨_, rfl, ?_⟩) | ((with_reducible refine gate_callee (f := 15) rfl ?_); refine goesL_ (some 53) rfl rfl Try.func15 (by kernel_rfl) rfl #[.int .i64 a0] rfl (by (try simp only [List.map_toArray, List.map_cons, List.map_nil]); first | done | rfl | (simp only [List.length_drop, List.length_take]; rfl)) ?_; (with_reducible refine (civil_Weekday.calls a0 t148 t149 _ A10.out).mono ?_); rintro e w' ⟨rfl, ⟨nd, rfl⟩⟩; refine ⟨_, rfl, ?_⟩) | ((with_reducible refine gate_callee (f := 15) rfl ?_); refine goesL_ (some 59) rfl rfl Try.func15 (by kernel_rfl) rfl #[.int .i64 (wrap64 (a0 + 1))] rfl (by (try simp only [List.map_toArray, List.map_cons, List.map_nil]); first | done | rfl | (simp only [List.length_drop, List.length_take]; rfl)) ?_; (with_reducible refine (civil_Weekday.calls (wrap64 (a0 + 1)) t150 t151 _ A11.out).mono ?_); rintro e w' ⟨rfl, ⟨nd, rfl⟩⟩; refine ⟨_, rfl, ?_⟩) | ((with_reducible refine gate_callee (f := 12) rfl ?_); refine goesL_ (some 79) rfl rfl Try.func12 (by kernel_rfl) rfl #[.int .i64 t138, .int .i64 t139] rfl (by (try simp only [List.map_toArray, List.map_cons, List.map_nil]); first | done | rfl | (simp only [List.length_drop, List.length_take]; rfl)) ?_; (with_reducible refine (civil_Long.calls t138 t139 t152 _ A14.out).mono ?_); rintro e w' ⟨rfl, ⟨nd, rfl⟩⟩; refine ⟨_, rfl, ?_⟩))
                            go_ret
                            exact ⟨by first | rfl | (simp; done) | (simp [*]; done), by repeat (first | exact Drawn0.refl _ | apply Drawn0.step)⟩
                          · rw [if_neg c22] at H
                            have c22b0 : (t144 == (wrap64 (t138 + 1))) = false := beq_eq_false_iff_ne.mpr c22
                            have c22b1 : (t144 != (wrap64 (t138 + 1))) = true := bne_iff_ne.mpr c22
                            obtain rfl := Option.some.inj H
                            go_wp2_with (first | ((with_reducible refine gate_callee (f := 14) rfl ?_); refine goesL_ (some 34) rfl rfl Try.func14 (by kernel_rfl) rfl #[.int .i64 (wrap64 (a0 + 1))] rfl (by (try simp only [List.map_toArray, List.map_cons, List.map_nil]); first | done | rfl | (simp only [List.length_drop, List.length_take]; rfl)) ?_; (with_reducible refine (civil_Date.calls kj2 (wrap64 (a0 + 1)) t144 t145 t146 t147 _ A8.out).mono ?_); rintro e w' ⟨rfl, ⟨nd, rfl⟩⟩; refine ⟨_, rfl, ?_⟩) | ((with_reducible refine gate_callee (f := 15) rfl ?_); refine goesL_ (some 53) rfl rfl Try.func15 (by kernel_rfl) rfl #[.int .i64 a0] rfl (by (try simp only [List.map_toArray, List.map_cons, List.map_nil]); first | done | rfl | (simp only [List.length_drop, List.length_take]; rfl)) ?_; (with_reducible refine (civil_Weekday.calls a0 t148 t149 _ A10.out).mono ?_); rintro e w' ⟨rfl, ⟨nd, rfl⟩⟩; refine ⟨_, rfl, ?_⟩) | ((with_reducible refine gate_callee (f := 15) rfl ?_); refine goesL_ (some 59) rfl rfl Try.func15 (by kernel_rfl) rfl #[.int .i64 (wrap64 (a0 + 1))] rfl (by (try simp only [List.map_toArray, List.map_cons, List.map_nil]); first | done | rfl | (simp only [List.length_drop, List.length_take]; rfl)) ?_; (with_reducible refine (civil_Weekday.calls (wrap64 (a0 + 1)) t150 t151 _ A11.out).mono ?_); rintro e w' ⟨rfl, ⟨nd, rfl⟩⟩; refine ⟨_, rfl, ?_⟩) | ((with_reducible refine gate_callee (f := 12) rfl ?_); refine goesL_ (some 79) rfl rfl Try.func12 (by kernel_rfl) rfl #[.int .i64 t138, .int .i64 t139] rfl (by (try simp only [List.map_toArray, List.map_cons, List.map_nil]); first | done | rfl | (simp only [List.length_drop, List.length_take]; rfl)) ?_; (with_reducible refine (civil_Long.calls t138 t139 t152 _ A14.out).mono ?_); rintro e w' ⟨rfl, ⟨nd, rfl⟩⟩; refine ⟨_, rfl, ?_⟩))
                            go_ret
                            exact ⟨by first | rfl | (simp; done) | (simp [*]; done), by repeat (first | exact Drawn0.refl _ | apply Drawn0.step)⟩
                      · rw [if_neg c20] at H
                        have c20b0 : (t145 == 1) = false := beq_eq_false_iff_ne.mpr c20
                        have c20b1 : (t145 != 1) = true := bne_iff_ne.mpr c20
                        by_cases c23 : t146 = (wrap64 (t140 + 1))
                        · rw [if_pos c23] at H
                          have c23b0 : (t146 == (wrap64 (t140 + 1))) = true := beq_iff_eq.mpr c23
                          have c23b1 : (t146 != (wrap64 (t140 + 1))) = false := bne_eq_false_iff_eq.mpr c23
                          clear c23
                          obtain rfl := Option.some.inj H
                          go_wp2_with (first | ((with_reducible refine gate_callee (f := 14) rfl ?_); refine goesL_ (some 34) rfl rfl Try.func14 (by kernel_rfl) rfl #[.int .i64 (wrap64 (a0 + 1))] rfl (by (try simp only [List.map_toArray, List.map_cons, List.map_nil]); first | done | rfl | (simp only [List.length_drop, List.length_take]; rfl)) ?_; (with_reducible refine (civil_Date.calls kj2 (wrap64 (a0 + 1)) t144 t145 t146 t147 _ A8.out).mono ?_); rintro e w' ⟨rfl, ⟨nd, rfl⟩⟩; refine ⟨_, rfl, ?_⟩) | ((with_reducible refine gate_callee (f := 15) rfl ?_); refine goesL_ (some 53) rfl rfl Try.func15 (by kernel_rfl) rfl #[.int .i64 a0] rfl (by (try simp only [List.map_toArray, List.map_cons, List.map_nil]); first | done | rfl | (simp only [List.length_drop, List.length_take]; rfl)) ?_; (with_reducible refine (civil_Weekday.calls a0 t148 t149 _ A10.out).mono ?_); rintro e w' ⟨rfl, ⟨nd, rfl⟩⟩; refine ⟨_, rfl, ?_⟩) | ((with_reducible refine gate_callee (f := 15) rfl ?_); refine goesL_ (some 59) rfl rfl Try.func15 (by kernel_rfl) rfl #[.int .i64 (wrap64 (a0 + 1))] rfl (by (try simp only [List.map_toArray, List.map_cons, List.map_nil]); first | done | rfl | (simp only [List.length_drop, List.length_take]; rfl)) ?_; (with_reducible refine (civil_Weekday.calls (wrap64 (a0 + 1)) t150 t151 _ A11.out).mono ?_); rintro e w' ⟨rfl, ⟨nd, rfl⟩⟩; refine ⟨_, rfl, ?_⟩) | ((with_reducible refine gate_callee (f := 12) rfl ?_); refine goesL_ (some 79) rfl rfl Try.func12 (by kernel_rfl) rfl #[.int .i64 t138, .int .i64 t139] rfl (by (try simp only [List.map_toArray, List.map_cons, List.map_nil]); first | done | rfl | (simp only [List.length_drop, List.length_take]; rfl)) ?_; (with_reducible refine (civil_Long.calls t138 t139 t152 _ A14.out).mono ?_); rintro e w' ⟨rfl, ⟨nd, rfl⟩⟩; refine ⟨_, rfl, ?_⟩))
                          go_ret
                          exact ⟨by first | rfl | (simp; done) | (simp [*]; done), by repeat (first | exact Drawn0.refl _ | apply Drawn0.step)⟩
                        · rw [if_neg c23] at H
                          have c23b0 : (t146 == (wrap64 (t140 + 1))) = false := beq_eq_false_iff_ne.mpr c23
                          have c23b1 : (t146 != (wrap64 (t140 + 1))) = true := bne_iff_ne.mpr c23
                          obtain rfl := Option.some.inj H
                          go_wp2_with (first | ((with_reducible refine gate_callee (f := 14) rfl ?_); refine goesL_ (some 34) rfl rfl Try.func14 (by kernel_rfl) rfl #[.int .i64 (wrap64 (a0 + 1))] rfl (by (try simp only [List.map_toArray, List.map_cons, List.map_nil]); first | done | rfl | (simp only [List.length_drop, List.length_take]; rfl)) ?_; (with_reducible refine (civil_Date.calls kj2 (wrap64 (a0 + 1)) t144 t145 t146 t147 _ A8.out).mono ?_); rintro e w' ⟨rfl, ⟨nd, rfl⟩⟩; refine ⟨_, rfl, ?_⟩) | ((with_reducible refine gate_callee (f := 15) rfl ?_); refine goesL_ (some 53) rfl rfl Try.func15 (by kernel_rfl) rfl #[.int .i64 a0] rfl (by (try simp only [List.map_toArray, List.map_cons, List.map_nil]); first | done | rfl | (simp only [List.length_drop, List.length_take]; rfl)) ?_; (with_reducible refine (civil_Weekday.calls a0 t148 t149 _ A10.out).mono ?_); rintro e w' ⟨rfl, ⟨nd, rfl⟩⟩; refine ⟨_, rfl, ?_⟩) | ((with_reducible refine gate_callee (f := 15) rfl ?_); refine goesL_ (some 59) rfl rfl Try.func15 (by kernel_rfl) rfl #[.int .i64 (wrap64 (a0 + 1))] rfl (by (try simp only [List.map_toArray, List.map_cons, List.map_nil]); first | done | rfl | (simp only [List.length_drop, List.length_take]; rfl)) ?_; (with_reducible refine (civil_Weekday.calls (wrap64 (a0 + 1)) t150 t151 _ A11.out).mono ?_); rintro e w' ⟨rfl, ⟨nd, rfl⟩⟩; refine ⟨_, rfl, ?_⟩) | ((with_reducible refine gate_callee (f := 12) rfl ?_); refine goesL_ (some 79) rfl rfl Try.func12 (by kernel_rfl) rfl #[.int .i64 t138, .int .i64 t139] rfl (by (try simp only [List.map_toArray, List.map_cons, List.map_nil]); first | done | rfl | (simp only [List.length_drop, List.length_take]; rfl)) ?_; (with_reducible refine (civil_Long.calls t138 t139 t152 _ A14.out).mono ?_); rintro e w' ⟨rfl, ⟨nd, rfl⟩⟩; refine ⟨_, rfl, ?_⟩))
                          go_ret
                          exact ⟨by first | rfl | (simp; done) | (simp [*]; done), by repeat (first | exact Drawn0.refl _ | apply Drawn0.step)⟩
                    · rw [if_neg c19] at H
                      have c19b0 : (t139 == 12) = false := beq_eq_false_iff_ne.mpr c19
                      have c19b1 : (t139 != 12) = true := bne_iff_ne.mpr c19
                      by_cases c24 : t146 = (wrap64 (t140 + 1))
                      · rw [if_pos c24] at H
                        have c24b0 : (t146 == (wrap64 (t140 + 1))) = true := beq_iff_eq.mpr c24
                        have c24b1 : (t146 != (wrap64 (t140 + 1))) = false := bne_eq_false_iff_eq.mpr c24
                        clear c24
                        obtain rfl := Option.some.inj H
                        go_wp2_with (first | ((with_reducible refine gate_callee (f := 14) rfl ?_); refine goesL_ (some 34) rfl rfl Try.func14 (by kernel_rfl) rfl #[.int .i64 (wrap64 (a0 + 1))] rfl (by (try simp only [List.map_toArray, List.map_cons, List.map_nil]); first | done | rfl | (simp only [List.length_drop, List.length_take]; rfl)) ?_; (with_reducible refine (civil_Date.calls kj2 (wrap64 (a0 + 1)) t144 t145 t146 t147 _ A8.out).mono ?_); rintro e w' ⟨rfl, ⟨nd, rfl⟩⟩; refine ⟨_, rfl, ?_⟩) | ((with_reducible refine gate_callee (f := 15) rfl ?_); refine goesL_ (some 53) rfl rfl Try.func15 (by kernel_rfl) rfl #[.int .i64 a0] rfl (by (try simp only [List.map_toArray, List.map_cons, List.map_nil]); first | done | rfl | (simp only [List.length_drop, List.length_take]; rfl)) ?_; (with_reducible refine (civil_Weekday.calls a0 t148 t149 _ A10.out).mono ?_); rintro e w' ⟨rfl, ⟨nd, rfl⟩⟩; refine ⟨_, rfl, ?_⟩) | ((with_reducible refine gate_callee (f := 15) rfl ?_); refine goesL_ (some 59) rfl rfl Try.func15 (by kernel_rfl) rfl #[.int .i64 (wrap64 (a0 + 1))] rfl (by (try simp only [List.map_toArray, List.map_cons, List.map_nil]); first | done | rfl | (simp only [List.length_drop, List.length_take]; rfl)) ?_; (with_reducible refine (civil_Weekday.calls (wrap64 (a0 + 1)) t150 t151 _ A11.out).mono ?_); rintro e w' ⟨rfl, ⟨nd, rfl⟩⟩; refine ⟨_, rfl, ?_⟩) | ((with_reducible refine gate_callee (f := 12) rfl ?_); refine goesL_ (some 79) rfl rfl Try.func12 (by kernel_rfl) rfl #[.int .i64 t138, .int .i64 t139] rfl (by (try simp only [List.map_toArray, List.map_cons, List.map_nil]); first | done | rfl | (simp only [List.length_drop, List.length_take]; rfl)) ?_; (with_reducible refine (civil_Long.calls t138 t139 t152 _ A14.out).mono ?_); rintro e w' ⟨rfl, ⟨nd, rfl⟩⟩; refine ⟨_, rfl, ?_⟩))
                        go_ret
                        exact ⟨by first | rfl | (simp; done) | (simp [*]; done), by repeat (first | exact Drawn0.refl _ | apply Drawn0.step)⟩
                      · rw [if_neg c24] at H
                        have c24b0 : (t146 == (wrap64 (t140 + 1))) = false := beq_eq_false_iff_ne.mpr c24
                        have c24b1 : (t146 != (wrap64 (t140 + 1))) = true := bne_iff_ne.mpr c24
                        obtain rfl := Option.some.inj H
                        go_wp2_with (first | ((with_reducible refine gate_callee (f := 14) rfl ?_); refine goesL_ (some 34) rfl rfl Try.func14 (by kernel_rfl) rfl #[.int .i64 (wrap64 (a0 + 1))] rfl (by (try simp only [List.map_toArray, List.map_cons, List.map_nil]); first | done | rfl | (simp only [List.length_drop, List.length_take]; rfl)) ?_; (with_reducible refine (civil_Date.calls kj2 (wrap64 (a0 + 1)) t144 t145 t146 t147 _ A8.out).mono ?_); rintro e w' ⟨rfl, ⟨nd, rfl⟩⟩; refine ⟨_, rfl, ?_⟩) | ((with_reducible refine gate_callee (f := 15) rfl ?_); refine goesL_ (some 53) rfl rfl Try.func15 (by kernel_rfl) rfl #[.int .i64 a0] rfl (by (try simp only [List.map_toArray, List.map_cons, List.map_nil]); first | done | rfl | (simp only [List.length_drop, List.length_take]; rfl)) ?_; (with_reducible refine (civil_Weekday.calls a0 t148 t149 _ A10.out).mono ?_); rintro e w' ⟨rfl, ⟨nd, rfl⟩⟩; refine ⟨_, rfl, ?_⟩) | ((with_reducible refine gate_callee (f := 15) rfl ?_); refine goesL_ (some 59) rfl rfl Try.func15 (by kernel_rfl) rfl #[.int .i64 (wrap64 (a0 + 1))] rfl (by (try simp only [List.map_toArray, List.map_cons, List.map_nil]); first | done | rfl | (simp only [List.length_drop, List.length_take]; rfl)) ?_; (with_reducible refine (civil_Weekday.calls (wrap64 (a0 + 1)) t150 t151 _ A11.out).mono ?_); rintro e w' ⟨rfl, ⟨nd, rfl⟩⟩; refine ⟨_, rfl, ?_⟩) | ((with_reducible refine gate_callee (f := 12) rfl ?_); refine goesL_ (some 79) rfl rfl Try.func12 (by kernel_rfl) rfl #[.int .i64 t138, .int .i64 t139] rfl (by (try simp only [List.map_toArray, List.map_cons, List.map_nil]); first | done | rfl | (simp only [List.length_drop, List.length_take]; rfl)) ?_; (with_reducible refine (civil_Long.calls t138 t139 t152 _ A14.out).mono ?_); rintro e w' ⟨rfl, ⟨nd, rfl⟩⟩; refine ⟨_, rfl, ?_⟩))
                        go_ret
                        exact ⟨by first | rfl | (simp; done) | (simp [*]; done), by repeat (first | exact Drawn0.refl _ | apply Drawn0.step)⟩
                · rw [if_neg c16] at H
                  have c16b0 : (t146 == 1) = false := beq_eq_false_iff_ne.mpr c16
                  have c16b1 : (t146 != 1) = true := bne_iff_ne.mpr c16
                  by_cases c25 : t146 = (wrap64 (t140 + 1))
                  · rw [if_pos c25] at H
                    have c25b0 : (t146 == (wrap64 (t140 + 1))) = true := beq_iff_eq.mpr c25
                    have c25b1 : (t146 != (wrap64 (t140 + 1))) = false := bne_eq_false_iff_eq.mpr c25
                    clear c25
                    obtain rfl := Option.some.inj H
                    go_wp2_with (first | ((with_reducible refine gate_callee (f := 14) rfl ?_); refine goesL_ (some 34) rfl rfl Try.func14 (by kernel_rfl) rfl #[.int .i64 (wrap64 (a0 + 1))] rfl (by (try simp only [List.map_toArray, List.map_cons, List.map_nil]); first | done | rfl | (simp only [List.length_drop, List.length_take]; rfl)) ?_; (with_reducible refine (civil_Date.calls kj2 (wrap64 (a0 + 1)) t144 t145 t146 t147 _ A8.out).mono ?_); rintro e w' ⟨rfl, ⟨nd, rfl⟩⟩; refine ⟨_, rfl, ?_⟩) | ((with_reducible refine gate_callee (f := 15) rfl ?_); refine goesL_ (some 53) rfl rfl Try.func15 (by kernel_rfl) rfl #[.int .i64 a0] rfl (by (try simp only [List.map_toArray, List.map_cons, List.map_nil]); first | done | rfl | (simp only [List.length_drop, List.length_take]; rfl)) ?_; (with_reducible refine (civil_Weekday.calls a0 t148 t149 _ A10.out).mono ?_); rintro e w' ⟨rfl, ⟨nd, rfl⟩⟩; refine ⟨_, rfl, ?_⟩) | ((with_reducible refine gate_callee (f := 15) rfl ?_); refine goesL_ (some 59) rfl rfl Try.func15 (by kernel_rfl) rfl #[.int .i64 (wrap64 (a0 + 1))] rfl (by (try simp only [List.map_toArray, List.map_cons, List.map_nil]); first | done | rfl | (simp only [List.length_drop, List.length_take]; rfl)) ?_; (with_reducible refine (civil_Weekday.calls (wrap64 (a0 + 1)) t150 t151 _ A11.out).mono ?_); rintro e w' ⟨rfl, ⟨nd, rfl⟩⟩; refine ⟨_, rfl, ?_⟩) | ((with_reducible refine gate_callee (f := 12) rfl ?_); refine goesL_ (some 79) rfl rfl Try.func12 (by kernel_rfl) rfl #[.int .i64 t138, .int .i64 t139] rfl (by (try simp only [List.map_toArray, List.map_cons, List.map_nil]); first | done | rfl | (simp only [List.length_drop, List.length_take]; rfl)) ?_; (with_reducible refine (civil_Long.calls t138 t139 t152 _ A14.out).mono ?_); rintro e w' ⟨rfl, ⟨nd, rfl⟩⟩; refine ⟨_, rfl, ?_⟩))
                    go_ret
                    exact ⟨by first | rfl | (simp; done) | (simp [*]; done), by repeat (first | exact Drawn0.refl _ | apply Drawn0.step)⟩
                  · rw [if_neg c25] at H
                    have c25b0 : (t146 == (wrap64 (t140 + 1))) = false := beq_eq_false_iff_ne.mpr c25
                    have c25b1 : (t146 != (wrap64 (t140 + 1))) = true := bne_iff_ne.mpr c25
                    obtain rfl := Option.some.inj H
                    go_wp2_with (first | ((with_reducible refine gate_callee (f := 14) rfl ?_); refine goesL_ (some 34) rfl rfl Try.func14 (by kernel_rfl) rfl #[.int .i64 (wrap64 (a0 + 1))] rfl (by (try simp only [List.map_toArray, List.map_cons, List.map_nil]); first | done | rfl | (simp only [List.length_drop, List.length_take]; rfl)) ?_; (with_reducible refine (civil_Date.calls kj2 (wrap64 (a0 + 1)) t144 t145 t146 t147 _ A8.out).mono ?_); rintro e w' ⟨rfl, ⟨nd, rfl⟩⟩; refine ⟨_, rfl, ?_⟩) | ((with_reducible refine gate_callee (f := 15) rfl ?_); refine goesL_ (some 53) rfl rfl Try.func15 (by kernel_rfl) rfl #[.int .i64 a0] rfl (by (try simp only [List.map_toArray, List.map_cons, List.map_nil]); first | done | rfl | (simp only [List.length_drop, List.length_take]; rfl)) ?_; (with_reducible refine (civil_Weekday.calls a0 t148 t149 _ A10.out).mono ?_); rintro e w' ⟨rfl, ⟨nd, rfl⟩⟩; refine ⟨_, rfl, ?_⟩) | ((with_reducible refine gate_callee (f := 15) rfl ?_); refine goesL_ (some 59) rfl rfl Try.func15 (by kernel_rfl) rfl #[.int .i64 (wrap64 (a0 + 1))] rfl (by (try simp only [List.map_toArray, List.map_cons, List.map_nil]); first | done | rfl | (simp only [List.length_drop, List.length_take]; rfl)) ?_; (with_reducible refine (civil_Weekday.calls (wrap64 (a0 + 1)) t150 t151 _ A11.out).mono ?_); rintro e w' ⟨rfl, ⟨nd, rfl⟩⟩; refine ⟨_, rfl, ?_⟩) | ((with_reducible refine gate_callee (f := 12) rfl ?_); refine goesL_ (some 79) rfl rfl Try.func12 (by kernel_rfl) rfl #[.int .i64 t138, .int .i64 t139] rfl (by (try simp only [List.map_toArray, List.map_cons, List.map_nil]); first | done | rfl | (simp only [List.length_drop, List.length_take]; rfl)) ?_; (with_reducible refine (civil_Long.calls t138 t139 t152 _ A14.out).mono ?_); rintro e w' ⟨rfl, ⟨nd, rfl⟩⟩; refine ⟨_, rfl, ?_⟩))
                    go_ret
                    exact ⟨by first | rfl | (simp; done) | (simp [*]; done), by repeat (first | exact Drawn0.refl _ | apply Drawn0.step)⟩
              · rw [if_neg c15] at H
                have c15b0 : (t140 == t152) = false := beq_eq_false_iff_ne.mpr c15
                have c15b1 : (t140 != t152) = true := bne_iff_ne.mpr c15
                by_cases c26 : t146 = (wrap64 (t140 + 1))
                · rw [if_pos c26] at H
                  have c26b0 : (t146 == (wrap64 (t140 + 1))) = true := beq_iff_eq.mpr c26
                  have c26b1 : (t146 != (wrap64 (t140 + 1))) = false := bne_eq_false_iff_eq.mpr c26
                  clear c26
                  obtain rfl := Option.some.inj H
                  go_wp2_with (first | ((with_reducible refine gate_callee (f := 14) rfl ?_); refine goesL_ (some 34) rfl rfl Try.func14 (by kernel_rfl) rfl #[.int .i64 (wrap64 (a0 + 1))] rfl (by (try simp only [List.map_toArray, List.map_cons, List.map_nil]); first | done | rfl | (simp only [List.length_drop, List.length_take]; rfl)) ?_; (with_reducible refine (civil_Date.calls kj2 (wrap64 (a0 + 1)) t144 t145 t146 t147 _ A8.out).mono ?_); rintro e w' ⟨rfl, ⟨nd, rfl⟩⟩; refine ⟨_, rfl, ?_⟩) | ((with_reducible refine gate_callee (f := 15) rfl ?_); refine goesL_ (some 53) rfl rfl Try.func15 (by kernel_rfl) rfl #[.int .i64 a0] rfl (by (try simp only [List.map_toArray, List.map_cons, List.map_nil]); first | done | rfl | (simp only [List.length_drop, List.length_take]; rfl)) ?_; (with_reducible refine (civil_Weekday.calls a0 t148 t149 _ A10.out).mono ?_); rintro e w' ⟨rfl, ⟨nd, rfl⟩⟩; refine ⟨_, rfl, ?_⟩) | ((with_reducible refine gate_callee (f := 15) rfl ?_); refine goesL_ (some 59) rfl rfl Try.func15 (by kernel_rfl) rfl #[.int .i64 (wrap64 (a0 + 1))] rfl (by (try simp only [List.map_toArray, List.map_cons, List.map_nil]); first | done | rfl | (simp only [List.length_drop, List.length_take]; rfl)) ?_; (with_reducible refine (civil_Weekday.calls (wrap64 (a0 + 1)) t150 t151 _ A11.out).mono ?_); rintro e w' ⟨rfl, ⟨nd, rfl⟩⟩; refine ⟨_, rfl, ?_⟩) | ((with_reducible refine gate_callee (f := 12) rfl ?_); refine goesL_ (some 79) rfl rfl Try.func12 (by kernel_rfl) rfl #[.int .i64 t138, .int .i64 t139] rfl (by (try simp only [List.map_toArray, List.map_cons, List.map_nil]); first | done | rfl | (simp only [List.length_drop, List.length_take]; rfl)) ?_; (with_reducible refine (civil_Long.calls t138 t139 t152 _ A14.out).mono ?_); rintro e w' ⟨rfl, ⟨nd, rfl⟩⟩; refine ⟨_, rfl, ?_⟩))
                  go_ret
                  exact ⟨by first | rfl | (simp; done) | (simp [*]; done), by repeat (first | exact Drawn0.refl _ | apply Drawn0.step)⟩
                · rw [if_neg c26] at H
                  have c26b0 : (t146 == (wrap64 (t140 + 1))) = false := beq_eq_false_iff_ne.mpr c26
                  have c26b1 : (t146 != (wrap64 (t140 + 1))) = true := bne_iff_ne.mpr c26
                  obtain rfl := Option.some.inj H
                  go_wp2_with (first | ((with_reducible refine gate_callee (f := 14) rfl ?_); refine goesL_ (some 34) rfl rfl Try.func14 (by kernel_rfl) rfl #[.int .i64 (wrap64 (a0 + 1))] rfl (by (try simp only [List.map_toArray, List.map_cons, List.map_nil]); first | done | rfl | (simp only [List.length_drop, List.length_take]; rfl)) ?_; (with_reducible refine (civil_Date.calls kj2 (wrap64 (a0 + 1)) t144 t145 t146 t147 _ A8.out).mono ?_); rintro e w' ⟨rfl, ⟨nd, rfl⟩⟩; refine ⟨_, rfl, ?_⟩) | ((with_reducible refine gate_callee (f := 15) rfl ?_); refine goesL_ (some 53) rfl rfl Try.func15 (by kernel_rfl) rfl #[.int .i64 a0] rfl (by (try simp only [List.map_toArray, List.map_cons, List.map_nil]); first | done | rfl | (simp only [List.length_drop, List.length_take]; rfl)) ?_; (with_reducible refine (civil_Weekday.calls a0 t148 t149 _ A10.out).mono ?_); rintro e w' ⟨rfl, ⟨nd, rfl⟩⟩; refine ⟨_, rfl, ?_⟩) | ((with_reducible refine gate_callee (f := 15) rfl ?_); refine goesL_ (some 59) rfl rfl Try.func15 (by kernel_rfl) rfl #[.int .i64 (wrap64 (a0 + 1))] rfl (by (try simp only [List.map_toArray, List.map_cons, List.map_nil]); first | done | rfl | (simp only [List.length_drop, List.length_take]; rfl)) ?_; (with_reducible refine (civil_Weekday.calls (wrap64 (a0 + 1)) t150 t151 _ A11.out).mono ?_); rintro e w' ⟨rfl, ⟨nd, rfl⟩⟩; refine ⟨_, rfl, ?_⟩) | ((with_reducible refine gate_callee (f := 12) rfl ?_); refine goesL_ (some 79) rfl rfl Try.func12 (by kernel_rfl) rfl #[.int .i64 t138, .int .i64 t139] rfl (by (try simp only [List.map_toArray, List.map_cons, List.map_nil]); first | done | rfl | (simp only [List.length_drop, List.length_take]; rfl)) ?_; (with_reducible refine (civil_Long.calls t138 t139 t152 _ A14.out).mono ?_); rintro e w' ⟨rfl, ⟨nd, rfl⟩⟩; refine ⟨_, rfl, ?_⟩))
                  go_ret
                  exact ⟨by first | rfl | (simp; done) | (simp [*]; done), by repeat (first | exact Drawn0.refl _ | apply Drawn0.step)⟩
            · rw [if_neg c13] at H
              have c13b0 : (t145 == t139) = false := beq_eq_false_iff_ne.mpr c13
              have c13b1 : (t145 != t139) = true := bne_iff_ne.mpr c13
              replace H := Option.bind_eq_some_iff.mp H
              obtain ⟨t153, A270, H⟩ := H
              replace H : (if t140 = t153 then (if t146 = 1 then (if t145 = (wrap64 (t139 + 1)) then (some (t150 == (Int.tmod (wrap64 (t148 + 1)) 7))) else (if t139 = 12 then (if t145 = 1 then (if t144 = (wrap64 (t138 + 1)) then (some (t150 == (Int.tmod (wrap64 (t148 + 1)) 7))) else (some false)) else (some false)) else (some false))) else (some false)) else (some false)) = some r := H
              have A27 := Aside0.mk A270
              clear A270
              by_cases c28 : t140 = t153
              · rw [if_pos c28] at H
                have c28b0 : (t140 == t153) = true := beq_iff_eq.mpr c28
                have c28b1 : (t140 != t153) = false := bne_eq_false_iff_eq.mpr c28
                clear c28
                by_cases c29 : t146 = 1
                · rw [if_pos c29] at H
                  have c29b0 : (t146 == 1) = true := beq_iff_eq.mpr c29
                  have c29b1 : (t146 != 1) = false := bne_eq_false_iff_eq.mpr c29
                  clear c29
                  by_cases c30 : t145 = (wrap64 (t139 + 1))
                  · rw [if_pos c30] at H
                    have c30b0 : (t145 == (wrap64 (t139 + 1))) = true := beq_iff_eq.mpr c30
                    have c30b1 : (t145 != (wrap64 (t139 + 1))) = false := bne_eq_false_iff_eq.mpr c30
                    clear c30
                    obtain rfl := Option.some.inj H
                    go_wp2_with (first | ((with_reducible refine gate_callee (f := 14) rfl ?_); refine goesL_ (some 34) rfl rfl Try.func14 (by kernel_rfl) rfl #[.int .i64 (wrap64 (a0 + 1))] rfl (by (try simp only [List.map_toArray, List.map_cons, List.map_nil]); first | done | rfl | (simp only [List.length_drop, List.length_take]; rfl)) ?_; (with_reducible refine (civil_Date.calls kj2 (wrap64 (a0 + 1)) t144 t145 t146 t147 _ A8.out).mono ?_); rintro e w' ⟨rfl, ⟨nd, rfl⟩⟩; refine ⟨_, rfl, ?_⟩) | ((with_reducible refine gate_callee (f := 15) rfl ?_); refine goesL_ (some 53) rfl rfl Try.func15 (by kernel_rfl) rfl #[.int .i64 a0] rfl (by (try simp only [List.map_toArray, List.map_cons, List.map_nil]); first | done | rfl | (simp only [List.length_drop, List.length_take]; rfl)) ?_; (with_reducible refine (civil_Weekday.calls a0 t148 t149 _ A10.out).mono ?_); rintro e w' ⟨rfl, ⟨nd, rfl⟩⟩; refine ⟨_, rfl, ?_⟩) | ((with_reducible refine gate_callee (f := 15) rfl ?_); refine goesL_ (some 59) rfl rfl Try.func15 (by kernel_rfl) rfl #[.int .i64 (wrap64 (a0 + 1))] rfl (by (try simp only [List.map_toArray, List.map_cons, List.map_nil]); first | done | rfl | (simp only [List.length_drop, List.length_take]; rfl)) ?_; (with_reducible refine (civil_Weekday.calls (wrap64 (a0 + 1)) t150 t151 _ A11.out).mono ?_); rintro e w' ⟨rfl, ⟨nd, rfl⟩⟩; refine ⟨_, rfl, ?_⟩) | ((with_reducible refine gate_callee (f := 12) rfl ?_); refine goesL_ (some 79) rfl rfl Try.func12 (by kernel_rfl) rfl #[.int .i64 t138, .int .i64 t139] rfl (by (try simp only [List.map_toArray, List.map_cons, List.map_nil]); first | done | rfl | (simp only [List.length_drop, List.length_take]; rfl)) ?_; (with_reducible refine (civil_Long.calls t138 t139 t153 _ A27.out).mono ?_); rintro e w' ⟨rfl, ⟨nd, rfl⟩⟩; refine ⟨_, rfl, ?_⟩))
                    go_ret
                    exact ⟨by first | rfl | (simp; done) | (simp [*]; done), by repeat (first | exact Drawn0.refl _ | apply Drawn0.step)⟩
                  · rw [if_neg c30] at H
                    have c30b0 : (t145 == (wrap64 (t139 + 1))) = false := beq_eq_false_iff_ne.mpr c30
                    have c30b1 : (t145 != (wrap64 (t139 + 1))) = true := bne_iff_ne.mpr c30
                    by_cases c31 : t139 = 12
                    · rw [if_pos c31] at H
                      have c31b0 : (t139 == 12) = true := beq_iff_eq.mpr c31
                      have c31b1 : (t139 != 12) = false := bne_eq_false_iff_eq.mpr c31
                      clear c31
                      by_cases c32 : t145 = 1
                      · rw [if_pos c32] at H
                        have c32b0 : (t145 == 1) = true := beq_iff_eq.mpr c32
                        have c32b1 : (t145 != 1) = false := bne_eq_false_iff_eq.mpr c32
                        clear c32
                        by_cases c33 : t144 = (wrap64 (t138 + 1))
                        · rw [if_pos c33] at H
                          have c33b0 : (t144 == (wrap64 (t138 + 1))) = true := beq_iff_eq.mpr c33
                          have c33b1 : (t144 != (wrap64 (t138 + 1))) = false := bne_eq_false_iff_eq.mpr c33
                          clear c33
                          obtain rfl := Option.some.inj H
                          go_wp2_with (first | ((with_reducible refine gate_callee (f := 14) rfl ?_); refine goesL_ (some 34) rfl rfl Try.func14 (by kernel_rfl) rfl #[.int .i64 (wrap64 (a0 + 1))] rfl (by (try simp only [List.map_toArray, List.map_cons, List.map_nil]); first | done | rfl | (simp only [List.length_drop, List.length_take]; rfl)) ?_; (with_reducible refine (civil_Date.calls kj2 (wrap64 (a0 + 1)) t144 t145 t146 t147 _ A8.out).mono ?_); rintro e w' ⟨rfl, ⟨nd, rfl⟩⟩; refine ⟨_, rfl, ?_⟩) | ((with_reducible refine gate_callee (f := 15) rfl ?_); refine goesL_ (some 53) rfl rfl Try.func15 (by kernel_rfl) rfl #[.int .i64 a0] rfl (by (try simp only [List.map_toArray, List.map_cons, List.map_nil]); first | done | rfl | (simp only [List.length_drop, List.length_take]; rfl)) ?_; (with_reducible refine (civil_Weekday.calls a0 t148 t149 _ A10.out).mono ?_); rintro e w' ⟨rfl, ⟨nd, rfl⟩⟩; refine ⟨_, rfl, ?_⟩) | ((with_reducible refine gate_callee (f := 15) rfl ?_); refine goesL_ (some 59) rfl rfl Try.func15 (by kernel_rfl) rfl #[.int .i64 (wrap64 (a0 + 1))] rfl (by (try simp only [List.map_toArray, List.map_cons, List.map_nil]); first | done | rfl | (simp only [List.length_drop, List.length_take]; rfl)) ?_; (with_reducible refine (civil_Weekday.calls (wrap64 (a0 + 1)) t150 t151 _ A11.out).mono ?_); rintro e w' ⟨rfl, ⟨nd, rfl⟩⟩; refine ⟨_, rfl, ?_⟩) | ((with_reducible refine gate_callee (f := 12) rfl ?_); refine goesL_ (some 79) rfl rfl Try.func12 (by kernel_rfl) rfl #[.int .i64 t138, .int .i64 t139] rfl (by (try simp only [List.map_toArray, List.map_cons, List.map_nil]); first | done | rfl | (simp only [List.length_drop, List.length_take]; rfl)) ?_; (with_reducible refine (civil_Long.calls t138 t139 t153 _ A27.out).mono ?_); rintro e w' ⟨rfl, ⟨nd, rfl⟩⟩; refine ⟨_, rfl, ?_⟩))
                          go_ret
                          exact ⟨by first | rfl | (simp; done) | (simp [*]; done), by repeat (first | exact Drawn0.refl _ | apply Drawn0.step)⟩
                        · rw [if_neg c33] at H
                          have c33b0 : (t144 == (wrap64 (t138 + 1))) = false := beq_eq_false_iff_ne.mpr c33
                          have c33b1 : (t144 != (wrap64 (t138 + 1))) = true := bne_iff_ne.mpr c33
                          obtain rfl := Option.some.inj H
                          go_wp2_with (first | ((with_reducible refine gate_callee (f := 14) rfl ?_); refine goesL_ (some 34) rfl rfl Try.func14 (by kernel_rfl) rfl #[.int .i64 (wrap64 (a0 + 1))] rfl (by (try simp only [List.map_toArray, List.map_cons, List.map_nil]); first | done | rfl | (simp only [List.length_drop, List.length_take]; rfl)) ?_; (with_reducible refine (civil_Date.calls kj2 (wrap64 (a0 + 1)) t144 t145 t146 t147 _ A8.out).mono ?_); rintro e w' ⟨rfl, ⟨nd, rfl⟩⟩; refine ⟨_, rfl, ?_⟩) | ((with_reducible refine gate_callee (f := 15) rfl ?_); refine goesL_ (some 53) rfl rfl Try.func15 (by kernel_rfl) rfl #[.int .i64 a0] rfl (by (try simp only [List.map_toArray, List.map_cons, List.map_nil]); first | done | rfl | (simp only [List.length_drop, List.length_take]; rfl)) ?_; (with_reducible refine (civil_Weekday.calls a0 t148 t149 _ A10.out).mono ?_); rintro e w' ⟨rfl, ⟨nd, rfl⟩⟩; refine ⟨_, rfl, ?_⟩) | ((with_reducible refine gate_callee (f := 15) rfl ?_); refine goesL_ (some 59) rfl rfl Try.func15 (by kernel_rfl) rfl #[.int .i64 (wrap64 (a0 + 1))] rfl (by (try simp only [List.map_toArray, List.map_cons, List.map_nil]); first | done | rfl | (simp only [List.length_drop, List.length_take]; rfl)) ?_; (with_reducible refine (civil_Weekday.calls (wrap64 (a0 + 1)) t150 t151 _ A11.out).mono ?_); rintro e w' ⟨rfl, ⟨nd, rfl⟩⟩; refine ⟨_, rfl, ?_⟩) | ((with_reducible refine gate_callee (f := 12) rfl ?_); refine goesL_ (some 79) rfl rfl Try.func12 (by kernel_rfl) rfl #[.int .i64 t138, .int .i64 t139] rfl (by (try simp only [List.map_toArray, List.map_cons, List.map_nil]); first | done | rfl | (simp only [List.length_drop, List.length_take]; rfl)) ?_; (with_reducible refine (civil_Long.calls t138 t139 t153 _ A27.out).mono ?_); rintro e w' ⟨rfl, ⟨nd, rfl⟩⟩; refine ⟨_, rfl, ?_⟩))
                          go_ret
                          exact ⟨by first | rfl | (simp; done) | (simp [*]; done), by repeat (first | exact Drawn0.refl _ | apply Drawn0.step)⟩
                      · rw [if_neg c32] at H
                        have c32b0 : (t145 == 1) = false := beq_eq_false_iff_ne.mpr c32
                        have c32b1 : (t145 != 1) = true := bne_iff_ne.mpr c32
                        obtain rfl := Option.some.inj H
                        go_wp2_with (first | ((with_reducible refine gate_callee (f := 14) rfl ?_); refine goesL_ (some 34) rfl rfl Try.func14 (by kernel_rfl) rfl #[.int .i64 (wrap64 (a0 + 1))] rfl (by (try simp only [List.map_toArray, List.map_cons, List.map_nil]); first | done | rfl | (simp only [List.length_drop, List.length_take]; rfl)) ?_; (with_reducible refine (civil_Date.calls kj2 (wrap64 (a0 + 1)) t144 t145 t146 t147 _ A8.out).mono ?_); rintro e w' ⟨rfl, ⟨nd, rfl⟩⟩; refine ⟨_, rfl, ?_⟩) | ((with_reducible refine gate_callee (f := 15) rfl ?_); refine goesL_ (some 53) rfl rfl Try.func15 (by kernel_rfl) rfl #[.int .i64 a0] rfl (by (try simp only [List.map_toArray, List.map_cons, List.map_nil]); first | done | rfl | (simp only [List.length_drop, List.length_take]; rfl)) ?_; (with_reducible refine (civil_Weekday.calls a0 t148 t149 _ A10.out).mono ?_); rintro e w' ⟨rfl, ⟨nd, rfl⟩⟩; refine ⟨_, rfl, ?_⟩) | ((with_reducible refine gate_callee (f := 15) rfl ?_); refine goesL_ (some 59) rfl rfl Try.func15 (by kernel_rfl) rfl #[.int .i64 (wrap64 (a0 + 1))] rfl (by (try simp only [List.map_toArray, List.map_cons, List.map_nil]); first | done | rfl | (simp only [List.length_drop, List.length_take]; rfl)) ?_; (with_reducible refine (civil_Weekday.calls (wrap64 (a0 + 1)) t150 t151 _ A11.out).mono ?_); rintro e w' ⟨rfl, ⟨nd, rfl⟩⟩; refine ⟨_, rfl, ?_⟩) | ((with_reducible refine gate_callee (f := 12) rfl ?_); refine goesL_ (some 79) rfl rfl Try.func12 (by kernel_rfl) rfl #[.int .i64 t138, .int .i64 t139] rfl (by (try simp only [List.map_toArray, List.map_cons, List.map_nil]); first | done | rfl | (simp only [List.length_drop, List.length_take]; rfl)) ?_; (with_reducible refine (civil_Long.calls t138 t139 t153 _ A27.out).mono ?_); rintro e w' ⟨rfl, ⟨nd, rfl⟩⟩; refine ⟨_, rfl, ?_⟩))
                        go_ret
                        exact ⟨by first | rfl | (simp; done) | (simp [*]; done), by repeat (first | exact Drawn0.refl _ | apply Drawn0.step)⟩
                    · rw [if_neg c31] at H
                      have c31b0 : (t139 == 12) = false := beq_eq_false_iff_ne.mpr c31
                      have c31b1 : (t139 != 12) = true := bne_iff_ne.mpr c31
                      obtain rfl := Option.some.inj H
                      go_wp2_with (first | ((with_reducible refine gate_callee (f := 14) rfl ?_); refine goesL_ (some 34) rfl rfl Try.func14 (by kernel_rfl) rfl #[.int .i64 (wrap64 (a0 + 1))] rfl (by (try simp only [List.map_toArray, List.map_cons, List.map_nil]); first | done | rfl | (simp only [List.length_drop, List.length_take]; rfl)) ?_; (with_reducible refine (civil_Date.calls kj2 (wrap64 (a0 + 1)) t144 t145 t146 t147 _ A8.out).mono ?_); rintro e w' ⟨rfl, ⟨nd, rfl⟩⟩; refine ⟨_, rfl, ?_⟩) | ((with_reducible refine gate_callee (f := 15) rfl ?_); refine goesL_ (some 53) rfl rfl Try.func15 (by kernel_rfl) rfl #[.int .i64 a0] rfl (by (try simp only [List.map_toArray, List.map_cons, List.map_nil]); first | done | rfl | (simp only [List.length_drop, List.length_take]; rfl)) ?_; (with_reducible refine (civil_Weekday.calls a0 t148 t149 _ A10.out).mono ?_); rintro e w' ⟨rfl, ⟨nd, rfl⟩⟩; refine ⟨_, rfl, ?_⟩) | ((with_reducible refine gate_callee (f := 15) rfl ?_); refine goesL_ (some 59) rfl rfl Try.func15 (by kernel_rfl) rfl #[.int .i64 (wrap64 (a0 + 1))] rfl (by (try simp only [List.map_toArray, List.map_cons, List.map_nil]); first | done | rfl | (simp only [List.length_drop, List.length_take]; rfl)) ?_; (with_reducible refine (civil_Weekday.calls (wrap64 (a0 + 1)) t150 t151 _ A11.out).mono ?_); rintro e w' ⟨rfl, ⟨nd, rfl⟩⟩; refine ⟨_, rfl, ?_⟩) | ((with_reducible refine gate_callee (f := 12) rfl ?_); refine goesL_ (some 79) rfl rfl Try.func12 (by kernel_rfl) rfl #[.int .i64 t138, .int .i64 t139] rfl (by (try simp only [List.map_toArray, List.map_cons, List.map_nil]); first | done | rfl | (simp only [List.length_drop, List.length_take]; rfl)) ?_; (with_reducible refine (civil_Long.calls t138 t139 t153 _ A27.out).mono ?_); rintro e w' ⟨rfl, ⟨nd, rfl⟩⟩; refine ⟨_, rfl, ?_⟩))
                      go_ret
                      exact ⟨by first | rfl | (simp; done) | (simp [*]; done), by repeat (first | exact Drawn0.refl _ | apply Drawn0.step)⟩
                · rw [if_neg c29] at H
                  have c29b0 : (t146 == 1) = false := beq_eq_false_iff_ne.mpr c29
                  have c29b1 : (t146 != 1) = true := bne_iff_ne.mpr c29
                  obtain rfl := Option.some.inj H
                  go_wp2_with (first | ((with_reducible refine gate_callee (f := 14) rfl ?_); refine goesL_ (some 34) rfl rfl Try.func14 (by kernel_rfl) rfl #[.int .i64 (wrap64 (a0 + 1))] rfl (by (try simp only [List.map_toArray, List.map_cons, List.map_nil]); first | done | rfl | (simp only [List.length_drop, List.length_take]; rfl)) ?_; (with_reducible refine (civil_Date.calls kj2 (wrap64 (a0 + 1)) t144 t145 t146 t147 _ A8.out).mono ?_); rintro e w' ⟨rfl, ⟨nd, rfl⟩⟩; refine ⟨_, rfl, ?_⟩) | ((with_reducible refine gate_callee (f := 15) rfl ?_); refine goesL_ (some 53) rfl rfl Try.func15 (by kernel_rfl) rfl #[.int .i64 a0] rfl (by (try simp only [List.map_toArray, List.map_cons, List.map_nil]); first | done | rfl | (simp only [List.length_drop, List.length_take]; rfl)) ?_; (with_reducible refine (civil_Weekday.calls a0 t148 t149 _ A10.out).mono ?_); rintro e w' ⟨rfl, ⟨nd, rfl⟩⟩; refine ⟨_, rfl, ?_⟩) | ((with_reducible refine gate_callee (f := 15) rfl ?_); refine goesL_ (some 59) rfl rfl Try.func15 (by kernel_rfl) rfl #[.int .i64 (wrap64 (a0 + 1))] rfl (by (try simp only [List.map_toArray, List.map_cons, List.map_nil]); first | done | rfl | (simp only [List.length_drop, List.length_take]; rfl)) ?_; (with_reducible refine (civil_Weekday.calls (wrap64 (a0 + 1)) t150 t151 _ A11.out).mono ?_); rintro e w' ⟨rfl, ⟨nd, rfl⟩⟩; refine ⟨_, rfl, ?_⟩) | ((with_reducible refine gate_callee (f := 12) rfl ?_); refine goesL_ (some 79) rfl rfl Try.func12 (by kernel_rfl) rfl #[.int .i64 t138, .int .i64 t139] rfl (by (try simp only [List.map_toArray, List.map_cons, List.map_nil]); first | done | rfl | (simp only [List.length_drop, List.length_take]; rfl)) ?_; (with_reducible refine (civil_Long.calls t138 t139 t153 _ A27.out).mono ?_); rintro e w' ⟨rfl, ⟨nd, rfl⟩⟩; refine ⟨_, rfl, ?_⟩))
                  go_ret
                  exact ⟨by first | rfl | (simp; done) | (simp [*]; done), by repeat (first | exact Drawn0.refl _ | apply Drawn0.step)⟩
              · rw [if_neg c28] at H
                have c28b0 : (t140 == t153) = false := beq_eq_false_iff_ne.mpr c28
                have c28b1 : (t140 != t153) = true := bne_iff_ne.mpr c28
                obtain rfl := Option.some.inj H
                go_wp2_with (first | ((with_reducible refine gate_callee (f := 14) rfl ?_); refine goesL_ (some 34) rfl rfl Try.func14 (by kernel_rfl) rfl #[.int .i64 (wrap64 (a0 + 1))] rfl (by (try simp only [List.map_toArray, List.map_cons, List.map_nil]); first | done | rfl | (simp only [List.length_drop, List.length_take]; rfl)) ?_; (with_reducible refine (civil_Date.calls kj2 (wrap64 (a0 + 1)) t144 t145 t146 t147 _ A8.out).mono ?_); rintro e w' ⟨rfl, ⟨nd, rfl⟩⟩; refine ⟨_, rfl, ?_⟩) | ((with_reducible refine gate_callee (f := 15) rfl ?_); refine goesL_ (some 53) rfl rfl Try.func15 (by kernel_rfl) rfl #[.int .i64 a0] rfl (by (try simp only [List.map_toArray, List.map_cons, List.map_nil]); first | done | rfl | (simp only [List.length_drop, List.length_take]; rfl)) ?_; (with_reducible refine (civil_Weekday.calls a0 t148 t149 _ A10.out).mono ?_); rintro e w' ⟨rfl, ⟨nd, rfl⟩⟩; refine ⟨_, rfl, ?_⟩) | ((with_reducible refine gate_callee (f := 15) rfl ?_); refine goesL_ (some 59) rfl rfl Try.func15 (by kernel_rfl) rfl #[.int .i64 (wrap64 (a0 + 1))] rfl (by (try simp only [List.map_toArray, List.map_cons, List.map_nil]); first | done | rfl | (simp only [List.length_drop, List.length_take]; rfl)) ?_; (with_reducible refine (civil_Weekday.calls (wrap64 (a0 + 1)) t150 t151 _ A11.out).mono ?_); rintro e w' ⟨rfl, ⟨nd, rfl⟩⟩; refine ⟨_, rfl, ?_⟩) | ((with_reducible refine gate_callee (f := 12) rfl ?_); refine goesL_ (some 79) rfl rfl Try.func12 (by kernel_rfl) rfl #[.int .i64 t138, .int .i64 t139] rfl (by (try simp only [List.map_toArray, List.map_cons, List.map_nil]); first | done | rfl | (simp only [List.length_drop, List.length_take]; rfl)) ?_; (with_reducible refine (civil_Long.calls t138 t139 t153 _ A27.out).mono ?_); rintro e w' ⟨rfl, ⟨nd, rfl⟩⟩; refine ⟨_, rfl, ?_⟩))
                go_ret
                exact ⟨by first | rfl | (simp; done) | (simp [*]; done), by repeat (first | exact Drawn0.refl _ | apply Drawn0.step)⟩
          · rw [if_neg c12] at H
            have c12b0 : (t144 == t138) = false := beq_eq_false_iff_ne.mpr c12
            have c12b1 : (t144 != t138) = true := bne_iff_ne.mpr c12
            replace H := Option.bind_eq_some_iff.mp H
            obtain ⟨t154, A340, H⟩ := H
            replace H : (if t140 = t154 then (if t146 = 1 then (if t139 = 12 then (if t145 = 1 then (if t144 = (wrap64 (t138 + 1)) then (some (t150 == (Int.tmod (wrap64 (t148 + 1)) 7))) else (some false)) else (some false)) else (some false)) else (some false)) else (some false)) = some r := H
            have A34 := Aside0.mk A340
            clear A340
            by_cases c35 : t140 = t154
            · rw [if_pos c35] at H
              have c35b0 : (t140 == t154) = true := beq_iff_eq.mpr c35
              have c35b1 : (t140 != t154) = false := bne_eq_false_iff_eq.mpr c35
              clear c35
              by_cases c36 : t146 = 1
              · rw [if_pos c36] at H
                have c36b0 : (t146 == 1) = true := beq_iff_eq.mpr c36
                have c36b1 : (t146 != 1) = false := bne_eq_false_iff_eq.mpr c36
                clear c36
                by_cases c37 : t139 = 12
                · rw [if_pos c37] at H
                  have c37b0 : (t139 == 12) = true := beq_iff_eq.mpr c37
                  have c37b1 : (t139 != 12) = false := bne_eq_false_iff_eq.mpr c37
                  clear c37
                  by_cases c38 : t145 = 1
                  · rw [if_pos c38] at H
                    have c38b0 : (t145 == 1) = true := beq_iff_eq.mpr c38
                    have c38b1 : (t145 != 1) = false := bne_eq_false_iff_eq.mpr c38
                    clear c38
                    by_cases c39 : t144 = (wrap64 (t138 + 1))
                    · rw [if_pos c39] at H
                      have c39b0 : (t144 == (wrap64 (t138 + 1))) = true := beq_iff_eq.mpr c39
                      have c39b1 : (t144 != (wrap64 (t138 + 1))) = false := bne_eq_false_iff_eq.mpr c39
                      clear c39
                      obtain rfl := Option.some.inj H
                      go_wp2_with (first | ((with_reducible refine gate_callee (f := 14) rfl ?_); refine goesL_ (some 34) rfl rfl Try.func14 (by kernel_rfl) rfl #[.int .i64 (wrap64 (a0 + 1))] rfl (by (try simp only [List.map_toArray, List.map_cons, List.map_nil]); first | done | rfl | (simp only [List.length_drop, List.length_take]; rfl)) ?_; (with_reducible refine (civil_Date.calls kj2 (wrap64 (a0 + 1)) t144 t145 t146 t147 _ A8.out).mono ?_); rintro e w' ⟨rfl, ⟨nd, rfl⟩⟩; refine ⟨_, rfl, ?_⟩) | ((with_reducible refine gate_callee (f := 15) rfl ?_); refine goesL_ (some 53) rfl rfl Try.func15 (by kernel_rfl) rfl #[.int .i64 a0] rfl (by (try simp only [List.map_toArray, List.map_cons, List.map_nil]); first | done | rfl | (simp only [List.length_drop, List.length_take]; rfl)) ?_; (with_reducible refine (civil_Weekday.calls a0 t148 t149 _ A10.out).mono ?_); rintro e w' ⟨rfl, ⟨nd, rfl⟩⟩; refine ⟨_, rfl, ?_⟩) | ((with_reducible refine gate_callee (f := 15) rfl ?_); refine goesL_ (some 59) rfl rfl Try.func15 (by kernel_rfl) rfl #[.int .i64 (wrap64 (a0 + 1))] rfl (by (try simp only [List.map_toArray, List.map_cons, List.map_nil]); first | done | rfl | (simp only [List.length_drop, List.length_take]; rfl)) ?_; (with_reducible refine (civil_Weekday.calls (wrap64 (a0 + 1)) t150 t151 _ A11.out).mono ?_); rintro e w' ⟨rfl, ⟨nd, rfl⟩⟩; refine ⟨_, rfl, ?_⟩) | ((with_reducible refine gate_callee (f := 12) rfl ?_); refine goesL_ (some 79) rfl rfl Try.func12 (by kernel_rfl) rfl #[.int .i64 t138, .int .i64 t139] rfl (by (try simp only [List.map_toArray, List.map_cons, List.map_nil]); first | done | rfl | (simp only [List.length_drop, List.length_take]; rfl)) ?_; (with_reducible refine (civil_Long.calls t138 t139 t154 _ A34.out).mono ?_); rintro e w' ⟨rfl, ⟨nd, rfl⟩⟩; refine ⟨_, rfl, ?_⟩))
                      go_ret
                      exact ⟨by first | rfl | (simp; done) | (simp [*]; done), by repeat (first | exact Drawn0.refl _ | apply Drawn0.step)⟩
                    · rw [if_neg c39] at H
                      have c39b0 : (t144 == (wrap64 (t138 + 1))) = false := beq_eq_false_iff_ne.mpr c39
                      have c39b1 : (t144 != (wrap64 (t138 + 1))) = true := bne_iff_ne.mpr c39
                      obtain rfl := Option.some.inj H
                      go_wp2_with (first | ((with_reducible refine gate_callee (f := 14) rfl ?_); refine goesL_ (some 34) rfl rfl Try.func14 (by kernel_rfl) rfl #[.int .i64 (wrap64 (a0 + 1))] rfl (by (try simp only [List.map_toArray, List.map_cons, List.map_nil]); first | done | rfl | (simp only [List.length_drop, List.length_take]; rfl)) ?_; (with_reducible refine (civil_Date.calls kj2 (wrap64 (a0 + 1)) t144 t145 t146 t147 _ A8.out).mono ?_); rintro e w' ⟨rfl, ⟨nd, rfl⟩⟩; refine ⟨_, rfl, ?_⟩) | ((with_reducible refine gate_callee (f := 15) rfl ?_); refine goesL_ (some 53) rfl rfl Try.func15 (by kernel_rfl) rfl #[.int .i64 a0] rfl (by (try simp only [List.map_toArray, List.map_cons, List.map_nil]); first | done | rfl | (simp only [List.length_drop, List.length_take]; rfl)) ?_; (with_reducible refine (civil_Weekday.calls a0 t148 t149 _ A10.out).mono ?_); rintro e w' ⟨rfl, ⟨nd, rfl⟩⟩; refine ⟨_, rfl, ?_⟩) | ((with_reducible refine gate_callee (f := 15) rfl ?_); refine goesL_ (some 59) rfl rfl Try.func15 (by kernel_rfl) rfl #[.int .i64 (wrap64 (a0 + 1))] rfl (by (try simp only [List.map_toArray, List.map_cons, List.map_nil]); first | done | rfl | (simp only [List.length_drop, List.length_take]; rfl)) ?_; (with_reducible refine (civil_Weekday.calls (wrap64 (a0 + 1)) t150 t151 _ A11.out).mono ?_); rintro e w' ⟨rfl, ⟨nd, rfl⟩⟩; refine ⟨_, rfl, ?_⟩) | ((with_reducible refine gate_callee (f := 12) rfl ?_); refine goesL_ (some 79) rfl rfl Try.func12 (by kernel_rfl) rfl #[.int .i64 t138, .int .i64 t139] rfl (by (try simp only [List.map_toArray, List.map_cons, List.map_nil]); first | done | rfl | (simp only [List.length_drop, List.length_take]; rfl)) ?_; (with_reducible refine (civil_Long.calls t138 t139 t154 _ A34.out).mono ?_); rintro e w' ⟨rfl, ⟨nd, rfl⟩⟩; refine ⟨_, rfl, ?_⟩))
                      go_ret
                      exact ⟨by first | rfl | (simp; done) | (simp [*]; done), by repeat (first | exact Drawn0.refl _ | apply Drawn0.step)⟩
                  · rw [if_neg c38] at H
                    have c38b0 : (t145 == 1) = false := beq_eq_false_iff_ne.mpr c38
                    have c38b1 : (t145 != 1) = true := bne_iff_ne.mpr c38
                    obtain rfl := Option.some.inj H
                    go_wp2_with (first | ((with_reducible refine gate_callee (f := 14) rfl ?_); refine goesL_ (some 34) rfl rfl Try.func14 (by kernel_rfl) rfl #[.int .i64 (wrap64 (a0 + 1))] rfl (by (try simp only [List.map_toArray, List.map_cons, List.map_nil]); first | done | rfl | (simp only [List.length_drop, List.length_take]; rfl)) ?_; (with_reducible refine (civil_Date.calls kj2 (wrap64 (a0 + 1)) t144 t145 t146 t147 _ A8.out).mono ?_); rintro e w' ⟨rfl, ⟨nd, rfl⟩⟩; refine ⟨_, rfl, ?_⟩) | ((with_reducible refine gate_callee (f := 15) rfl ?_); refine goesL_ (some 53) rfl rfl Try.func15 (by kernel_rfl) rfl #[.int .i64 a0] rfl (by (try simp only [List.map_toArray, List.map_cons, List.map_nil]); first | done | rfl | (simp only [List.length_drop, List.length_take]; rfl)) ?_; (with_reducible refine (civil_Weekday.calls a0 t148 t149 _ A10.out).mono ?_); rintro e w' ⟨rfl, ⟨nd, rfl⟩⟩; refine ⟨_, rfl, ?_⟩) | ((with_reducible refine gate_callee (f := 15) rfl ?_); refine goesL_ (some 59) rfl rfl Try.func15 (by kernel_rfl) rfl #[.int .i64 (wrap64 (a0 + 1))] rfl (by (try simp only [List.map_toArray, List.map_cons, List.map_nil]); first | done | rfl | (simp only [List.length_drop, List.length_take]; rfl)) ?_; (with_reducible refine (civil_Weekday.calls (wrap64 (a0 + 1)) t150 t151 _ A11.out).mono ?_); rintro e w' ⟨rfl, ⟨nd, rfl⟩⟩; refine ⟨_, rfl, ?_⟩) | ((with_reducible refine gate_callee (f := 12) rfl ?_); refine goesL_ (some 79) rfl rfl Try.func12 (by kernel_rfl) rfl #[.int .i64 t138, .int .i64 t139] rfl (by (try simp only [List.map_toArray, List.map_cons, List.map_nil]); first | done | rfl | (simp only [List.length_drop, List.length_take]; rfl)) ?_; (with_reducible refine (civil_Long.calls t138 t139 t154 _ A34.out).mono ?_); rintro e w' ⟨rfl, ⟨nd, rfl⟩⟩; refine ⟨_, rfl, ?_⟩))
                    go_ret
                    exact ⟨by first | rfl | (simp; done) | (simp [*]; done), by repeat (first | exact Drawn0.refl _ | apply Drawn0.step)⟩
                · rw [if_neg c37] at H
                  have c37b0 : (t139 == 12) = false := beq_eq_false_iff_ne.mpr c37
                  have c37b1 : (t139 != 12) = true := bne_iff_ne.mpr c37
                  obtain rfl := Option.some.inj H
                  go_wp2_with (first | ((with_reducible refine gate_callee (f := 14) rfl ?_); refine goesL_ (some 34) rfl rfl Try.func14 (by kernel_rfl) rfl #[.int .i64 (wrap64 (a0 + 1))] rfl (by (try simp only [List.map_toArray, List.map_cons, List.map_nil]); first | done | rfl | (simp only [List.length_drop, List.length_take]; rfl)) ?_; (with_reducible refine (civil_Date.calls kj2 (wrap64 (a0 + 1)) t144 t145 t146 t147 _ A8.out).mono ?_); rintro e w' ⟨rfl, ⟨nd, rfl⟩⟩; refine ⟨_, rfl, ?_⟩) | ((with_reducible refine gate_callee (f := 15) rfl ?_); refine goesL_ (some 53) rfl rfl Try.func15 (by kernel_rfl) rfl #[.int .i64 a0] rfl (by (try simp only [List.map_toArray, List.map_cons, List.map_nil]); first | done | rfl | (simp only [List.length_drop, List.length_take]; rfl)) ?_; (with_reducible refine (civil_Weekday.calls a0 t148 t149 _ A10.out).mono ?_); rintro e w' ⟨rfl, ⟨nd, rfl⟩⟩; refine ⟨_, rfl, ?_⟩) | ((with_reducible refine gate_callee (f := 15) rfl ?_); refine goesL_ (some 59) rfl rfl Try.func15 (by kernel_rfl) rfl #[.int .i64 (wrap64 (a0 + 1))] rfl (by (try simp only [List.map_toArray, List.map_cons, List.map_nil]); first | done | rfl | (simp only [List.length_drop, List.length_take]; rfl)) ?_; (with_reducible refine (civil_Weekday.calls (wrap64 (a0 + 1)) t150 t151 _ A11.out).mono ?_); rintro e w' ⟨rfl, ⟨nd, rfl⟩⟩; refine ⟨_, rfl, ?_⟩) | ((with_reducible refine gate_callee (f := 12) rfl ?_); refine goesL_ (some 79) rfl rfl Try.func12 (by kernel_rfl) rfl #[.int .i64 t138, .int .i64 t139] rfl (by (try simp only [List.map_toArray, List.map_cons, List.map_nil]); first | done | rfl | (simp only [List.length_drop, List.length_take]; rfl)) ?_; (with_reducible refine (civil_Long.calls t138 t139 t154 _ A34.out).mono ?_); rintro e w' ⟨rfl, ⟨nd, rfl⟩⟩; refine ⟨_, rfl, ?_⟩))
                  go_ret
                  exact ⟨by first | rfl | (simp; done) | (simp [*]; done), by repeat (first | exact Drawn0.refl _ | apply Drawn0.step)⟩
              · rw [if_neg c36] at H
                have c36b0 : (t146 == 1) = false := beq_eq_false_iff_ne.mpr c36
                have c36b1 : (t146 != 1) = true := bne_iff_ne.mpr c36
                obtain rfl := Option.some.inj H
                go_wp2_with (first | ((with_reducible refine gate_callee (f := 14) rfl ?_); refine goesL_ (some 34) rfl rfl Try.func14 (by kernel_rfl) rfl #[.int .i64 (wrap64 (a0 + 1))] rfl (by (try simp only [List.map_toArray, List.map_cons, List.map_nil]); first | done | rfl | (simp only [List.length_drop, List.length_take]; rfl)) ?_; (with_reducible refine (civil_Date.calls kj2 (wrap64 (a0 + 1)) t144 t145 t146 t147 _ A8.out).mono ?_); rintro e w' ⟨rfl, ⟨nd, rfl⟩⟩; refine ⟨_, rfl, ?_⟩) | ((with_reducible refine gate_callee (f := 15) rfl ?_); refine goesL_ (some 53) rfl rfl Try.func15 (by kernel_rfl) rfl #[.int .i64 a0] rfl (by (try simp only [List.map_toArray, List.map_cons, List.map_nil]); first | done | rfl | (simp only [List.length_drop, List.length_take]; rfl)) ?_; (with_reducible refine (civil_Weekday.calls a0 t148 t149 _ A10.out).mono ?_); rintro e w' ⟨rfl, ⟨nd, rfl⟩⟩; refine ⟨_, rfl, ?_⟩) | ((with_reducible refine gate_callee (f := 15) rfl ?_); refine goesL_ (some 59) rfl rfl Try.func15 (by kernel_rfl) rfl #[.int .i64 (wrap64 (a0 + 1))] rfl (by (try simp only [List.map_toArray, List.map_cons, List.map_nil]); first | done | rfl | (simp only [List.length_drop, List.length_take]; rfl)) ?_; (with_reducible refine (civil_Weekday.calls (wrap64 (a0 + 1)) t150 t151 _ A11.out).mono ?_); rintro e w' ⟨rfl, ⟨nd, rfl⟩⟩; refine ⟨_, rfl, ?_⟩) | ((with_reducible refine gate_callee (f := 12) rfl ?_); refine goesL_ (some 79) rfl rfl Try.func12 (by kernel_rfl) rfl #[.int .i64 t138, .int .i64 t139] rfl (by (try simp only [List.map_toArray, List.map_cons, List.map_nil]); first | done | rfl | (simp only [List.length_drop, List.length_take]; rfl)) ?_; (with_reducible refine (civil_Long.calls t138 t139 t154 _ A34.out).mono ?_); rintro e w' ⟨rfl, ⟨nd, rfl⟩⟩; refine ⟨_, rfl, ?_⟩))
                go_ret
                exact ⟨by first | rfl | (simp; done) | (simp [*]; done), by repeat (first | exact Drawn0.refl _ | apply Drawn0.step)⟩
            · rw [if_neg c35] at H
              have c35b0 : (t140 == t154) = false := beq_eq_false_iff_ne.mpr c35
              have c35b1 : (t140 != t154) = true := bne_iff_ne.mpr c35
              obtain rfl := Option.some.inj H
              go_wp2_with (first | ((with_reducible refine gate_callee (f := 14) rfl ?_); refine goesL_ (some 34) rfl rfl Try.func14 (by kernel_rfl) rfl #[.int .i64 (wrap64 (a0 + 1))] rfl (by (try simp only [List.map_toArray, List.map_cons, List.map_nil]); first | done | rfl | (simp only [List.length_drop, List.length_take]; rfl)) ?_; (with_reducible refine (civil_Date.calls kj2 (wrap64 (a0 + 1)) t144 t145 t146 t147 _ A8.out).mono ?_); rintro e w' ⟨rfl, ⟨nd, rfl⟩⟩; refine ⟨_, rfl, ?_⟩) | ((with_reducible refine gate_callee (f := 15) rfl ?_); refine goesL_ (some 53) rfl rfl Try.func15 (by kernel_rfl) rfl #[.int .i64 a0] rfl (by (try simp only [List.map_toArray, List.map_cons, List.map_nil]); first | done | rfl | (simp only [List.length_drop, List.length_take]; rfl)) ?_; (with_reducible refine (civil_Weekday.calls a0 t148 t149 _ A10.out).mono ?_); rintro e w' ⟨rfl, ⟨nd, rfl⟩⟩; refine ⟨_, rfl, ?_⟩) | ((with_reducible refine gate_callee (f := 15) rfl ?_); refine goesL_ (some 59) rfl rfl Try.func15 (by kernel_rfl) rfl #[.int .i64 (wrap64 (a0 + 1))] rfl (by (try simp only [List.map_toArray, List.map_cons, List.map_nil]); first | done | rfl | (simp only [List.length_drop, List.length_take]; rfl)) ?_; (with_reducible refine (civil_Weekday.calls (wrap64 (a0 + 1)) t150 t151 _ A11.out).mono ?_); rintro e w' ⟨rfl, ⟨nd, rfl⟩⟩; refine ⟨_, rfl, ?_⟩) | ((with_reducible refine gate_callee (f := 12) rfl ?_); refine goesL_ (some 79) rfl rfl Try.func12 (by kernel_rfl) rfl #[.int .i64 t138, .int .i64 t139] rfl (by (try simp only [List.map_toArray, List.map_cons, List.map_nil]); first | done | rfl | (simp only [List.length_drop, List.length_take]; rfl)) ?_; (with_reducible refine (civil_Long.calls t138 t139 t154 _ A34.out).mono ?_); rintro e w' ⟨rfl, ⟨nd, rfl⟩⟩; refine ⟨_, rfl, ?_⟩))
              go_ret
              exact ⟨by first | rfl | (simp; done) | (simp [*]; done), by repeat (first | exact Drawn0.refl _ | apply Drawn0.step)⟩
        · rw [if_neg c9] at H
          have c9b0 : (t147 == 0) = false := beq_eq_false_iff_ne.mpr c9
          have c9b1 : (t147 != 0) = true := bne_iff_ne.mpr c9
          by_cases c40 : t138 = 9999
          · rw [if_pos c40] at H
            have c40b0 : (t138 == 9999) = true := beq_iff_eq.mpr c40
            have c40b1 : (t138 != 9999) = false := bne_eq_false_iff_eq.mpr c40
            clear c40
            by_cases c41 : t139 = 12
            · rw [if_pos c41] at H
              have c41b0 : (t139 == 12) = true := beq_iff_eq.mpr c41
              have c41b1 : (t139 != 12) = false := bne_eq_false_iff_eq.mpr c41
              clear c41
              obtain rfl := Option.some.inj H
              go_wp2_with (first | ((with_reducible refine gate_callee (f := 14) rfl ?_); refine goesL_ (some 34) rfl rfl Try.func14 (by kernel_rfl) rfl #[.int .i64 (wrap64 (a0 + 1))] rfl (by (try simp only [List.map_toArray, List.map_cons, List.map_nil]); first | done | rfl | (simp only [List.length_drop, List.length_take]; rfl)) ?_; (with_reducible refine (civil_Date.calls kj2 (wrap64 (a0 + 1)) t144 t145 t146 t147 _ A8.out).mono ?_); rintro e w' ⟨rfl, ⟨nd, rfl⟩⟩; refine ⟨_, rfl, ?_⟩))
              go_ret
              exact ⟨by first | rfl | (simp; done) | (simp [*]; done), by repeat (first | exact Drawn0.refl _ | apply Drawn0.step)⟩
            · rw [if_neg c41] at H
              have c41b0 : (t139 == 12) = false := beq_eq_false_iff_ne.mpr c41
              have c41b1 : (t139 != 12) = true := bne_iff_ne.mpr c41
              obtain rfl := Option.some.inj H
              go_wp2_with (first | ((with_reducible refine gate_callee (f := 14) rfl ?_); refine goesL_ (some 34) rfl rfl Try.func14 (by kernel_rfl) rfl #[.int .i64 (wrap64 (a0 + 1))] rfl (by (try simp only [List.map_toArray, List.map_cons, List.map_nil]); first | done | rfl | (simp only [List.length_drop, List.length_take]; rfl)) ?_; (with_reducible refine (civil_Date.calls kj2 (wrap64 (a0 + 1)) t144 t145 t146 t147 _ A8.out).mono ?_); rintro e w' ⟨rfl, ⟨nd, rfl⟩⟩; refine ⟨_, rfl, ?_⟩))
              go_ret
              exact ⟨by first | rfl | (simp; done) | (simp [*]; done), by repeat (first | exact Drawn0.refl _ | apply Drawn0.step)⟩
          · rw [if_neg c40] at H
            have c40b0 : (t138 == 9999) = false := beq_eq_false_iff_ne.mpr c40
            have c40b1 : (t138 != 9999) = true := bne_iff_ne.mpr c40
            obtain rfl := Option.some.inj H
            go_wp2_with (first | ((with_reducible refine gate_callee (f := 14) rfl ?_); refine goesL_ (some 34) rfl rfl Try.func14 (by kernel_rfl) rfl #[.int .i64 (wrap64 (a0 + 1))] rfl (by (try simp only [List.map_toArray, List.map_cons, List.map_nil]); first | done | rfl | (simp only [List.length_drop, List.length_take]; rfl)) ?_; (with_reducible refine (civil_Date.calls kj2 (wrap64 (a0 + 1)) t144 t145 t146 t147 _ A8.out).mono ?_); rintro e w' ⟨rfl, ⟨nd, rfl⟩⟩; refine ⟨_, rfl, ?_⟩))
            go_ret
            exact ⟨by first | rfl | (simp; done) | (simp [*]; done), by repeat (first | exact Drawn0.refl _ | apply Drawn0.step)⟩

/-- THE ONE PURE STATEMENT of tompionlaw03_CivilNext: yours. -/
def tompionlaw03_CivilNext.Pure : Prop := ∀ (a0 : Int), (Lit.int .i64 a0).wf = true → ∃ k, tompionlaw03_CivilNext.f k a0 = some true
theorem tompionlaw03_CivilNext.walk (P : tompionlaw03_CivilNext.Pure) (a0 : Int) (w : World) (w0 : (Lit.int .i64 a0).wf = true) :
    Calls Try.prog 4 #[.int .i64 a0] w fun e w' => e = .returned (.bool true) ∧ Below w.heap.size w w' := by
  obtain ⟨k, h⟩ := P a0 w0
  refine (tompionlaw03_CivilNext.calls k a0 true w h).mono ?_
  rintro e w' ⟨rfl, hd⟩
  exact ⟨rfl, hd.below⟩

-- NOT PRINTED: function 5 (tompionlaw03_CivilOrder)

end Go.Proofs.Yteeemnnbgahnkaa.X
