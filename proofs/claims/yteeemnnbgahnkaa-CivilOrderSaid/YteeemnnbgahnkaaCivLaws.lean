/- The statements of layer 3 (civil) about the printed functions: each answers true, with enough rounds, at every input. -/
import Derived.Test.YteeemnnbgahnkaaX1
import Derived.Test.YteeemnnbgahnkaaX2
import Derived.Test.YteeemnnbgahnkaaX3
import Derived.Test.YteeemnnbgahnkaaX4
import Derived.Test.YteeemnnbgahnkaaX5
import Derived.Test.YteeemnnbgahnkaaCivFn
namespace Go.Proofs.Yteeemnnbgahnkaa.Civ
open Go.RowKit Go.Proofs.Yteeemnnbgahnkaa.X Go.Proofs.YteeemnnbgahnkaaW.PrintWords Go.Proofs.YteeemnnbgahnkaaW.PrintLast

theorem awake_f {k : Nat} (hk : 9000 ≤ k) : tompionlaw03_awake.f k = some true := by
  have h1 : civil_Days.f 2000 3 1 = some (11017, 0) := by rw [days_f]; decide
  have h2 : civil_Date.f k 19723 = some (2024, 1, 1, 0) := by
    have := date_f hk (show isDate 2024 1 1 by decide)
    rw [show mo 2024 1 + 1 - 1 = 19723 by decide] at this; exact this
  have h3 : civil_Weekday.f 19723 = some (1, 0) := by rw [weekday_f _ (by decide)]; decide
  have h4 : civil_Days.f 1900 1 1 = some (0, 2) := by rw [days_f]; decide
  unfold tompionlaw03_awake.f
  rw [h1, h2, h3, h4]; rfl

theorem civilDays : tompionlaw03_CivilDays.Pure := by
  intro y m d wy wm wd
  refine ⟨9001, ?_⟩
  unfold tompionlaw03_CivilDays.f
  rw [days_f, rdays_f (by decide), awake_f (by decide), long_f, rlong_f (by decide)]
  simp only [Option.bind_some, if_true]
  have e : ((if isMonth y m then len y m else 0) != (if isMonth y m then len y m else 0)) = false := by simp
  rw [e]
  simp only [tompionlaw03_CivilDays.j0]
  rw [if_neg (by decide)]
  by_cases h : isDate y m d
  · have := date_in h
    rw [if_pos h, if_pos h, if_neg (by omega), if_pos rfl]; rfl
  · rw [if_neg h, if_neg h, if_pos (by decide), if_pos rfl]; rfl

theorem civilDate : tompionlaw03_CivilDate.Pure := by
  intro n wn
  have hb := wf_bd wn
  refine ⟨20000, ?_⟩
  have hl : civil_Last.f = some 253402300799 := by
    unfold civil_Last.f; rw [most_f]; simp only [Option.bind_some]
    decide +kernel
  have hm : tompionref03_Most.f 20000 = some 2932896 := by
    unfold tompionref03_Most.f; rw [rdays_f (by decide)]; simp only [Option.bind_some]
    rw [if_pos (by decide)]; rfl
  have ht : (253402300799 != wrap64 (wrap64 (wrap64 (2932896 + 1) * 86400) - 1)) = false := by decide +kernel
  unfold tompionlaw03_CivilDate.f
  rw [awake_f (by decide), hl, hm, weekday_f n hb.1]
  by_cases h : 0 ≤ n ∧ n ≤ 2932896
  · obtain ⟨y, m, d, hd, rfl⟩ := date_of h.1 h.2
    rw [date_f (by decide) hd, rdate_f (by decide) hd, if_pos h]
    simp only [Option.bind_some, if_true]
    rw [if_neg (by decide), ht]
    simp only [tompionlaw03_CivilDate.j0]
    rw [if_neg (by decide), days_f, if_pos hd]
    simp only [Option.bind_some, if_true]
    rw [w64 (by omega) (by omega), Int.tmod_eq_emod_of_nonneg (by omega)]
    simp
  · rw [date_no (by decide) (by omega), rdate_no (by decide) (by omega), if_neg h]
    simp only [Option.bind_some, if_true]
    rw [if_neg (by decide), ht]
    simp [tompionlaw03_CivilDate.j0]

/-- The weeks' statement. -/
theorem u64_small {x : Int} : 0 ≤ IntKind.u64.wrap x ∧ IntKind.u64.wrap x ≤ 18446744073709551615 := by
  simp only [IntKind.wrap, IntKind.bits, IntKind.signed]
  simp only [Bool.false_and]
  rw [if_neg (by decide)]
  omega
theorem tm {x q : Int} (hq : 0 < q) : 0 ≤ Int.tmod (IntKind.u64.wrap x) q ∧ Int.tmod (IntKind.u64.wrap x) q < q := by
  have := @u64_small x
  rw [Int.tmod_eq_emod_of_nonneg this.1]
  exact ⟨Int.emod_nonneg _ (by omega), Int.emod_lt_of_pos _ hq⟩
theorem civilWeeks : tompionlaw03_CivilWeeks.Pure := by
  intro a b wa wb
  refine ⟨9001, ?_⟩
  unfold tompionlaw03_CivilWeeks.f
  have h1 := @tm a 2900000 (by decide)
  have h2 := @tm b 4000 (by decide)
  generalize Int.tmod (IntKind.u64.wrap a) 2900000 = p at h1
  generalize Int.tmod (IntKind.u64.wrap b) 4000 = q at h2
  rw [w64 (x := p) (by omega) (by omega), w64 (x := q) (by omega) (by omega), w64 (x := 7 * q) (by omega) (by omega), w64 (x := p + 7 * q) (by omega) (by omega), w64 (x := p + 7 * q + 1) (by omega) (by omega),
    weekday_f _ (by omega), weekday_f _ (by omega), weekday_f _ (by omega), awake_f (by decide), if_pos (by omega), if_pos (by omega), if_pos (by omega)]
  simp only [Option.bind_some, if_true]
  rw [if_pos (by omega), w64 (by omega) (by omega), Int.tmod_eq_emod_of_nonneg (by omega)]
  congr 1
  simp only [beq_iff_eq]
  omega

theorem civilYears : tompionlaw03_CivilYears.Pure := by
  intro a wa
  refine ⟨9100, ?_⟩
  unfold tompionlaw03_CivilYears.f
  have h1 := @tm a 8030 (by decide)
  generalize Int.tmod (IntKind.u64.wrap a) 8030 = p at h1
  rw [w64 (x := p) (by omega) (by omega), w64 (x := 1970 + p) (by omega) (by omega)]
  obtain ⟨y, hy⟩ : ∃ y, y = 1970 + p := ⟨_, rfl⟩
  rw [← hy]
  have hy1 : 1970 ≤ y := by omega
  have hy2 : y ≤ 9999 := by omega
  have step : ∀ (k : Nat) (n x : Int), 1 ≤ x → x ≤ 12 → 0 ≤ n → n ≤ 100000 → tompionlaw03_CivilYears.l0 (k + 1) y n x = tompionlaw03_CivilYears.l0 k y (n + len y x) (x + 1) := by
    intro k n x a b c d
    have := len_bd y x
    simp only [tompionlaw03_CivilYears.l0]
    rw [if_pos b, long_f, if_pos (by unfold isMonth; omega)]
    simp only [Option.bind_some]
    rw [w64 (by omega) (by omega), w64 (by omega) (by omega)]
  have l1 := lp01 y
  have all : tompionlaw03_CivilYears.l0 9100 y 0 1 = tompionlaw03_CivilYears.l0 9088 y (365 + lp y) 13 := by
    have e : ∀ x : Int, x ≠ 2 → len y x = if x = 4 ∨ x = 6 ∨ x = 9 ∨ x = 11 then 30 else 31 := by intro x hx; unfold len; rw [if_neg hx]
    have e2 : len y 2 = 28 + lp y := by unfold len; rw [if_pos rfl]
    rw [step _ _ _ (by omega) (by omega) (by omega) (by omega), e 1 (by decide), if_neg (by decide)]
    rw [step _ _ _ (by omega) (by omega) (by omega) (by omega), show (1 : Int) + 1 = 2 by decide, e2]
    rw [step _ _ _ (by omega) (by omega) (by omega) (by omega), show (2 : Int) + 1 = 3 by decide, e 3 (by decide), if_neg (by decide)]
    rw [step _ _ _ (by omega) (by omega) (by omega) (by omega), show (3 : Int) + 1 = 4 by decide, e 4 (by decide), if_pos (by decide)]
    rw [step _ _ _ (by omega) (by omega) (by omega) (by omega), show (4 : Int) + 1 = 5 by decide, e 5 (by decide), if_neg (by decide)]
    rw [step _ _ _ (by omega) (by omega) (by omega) (by omega), show (5 : Int) + 1 = 6 by decide, e 6 (by decide), if_pos (by decide)]
    rw [step _ _ _ (by omega) (by omega) (by omega) (by omega), show (6 : Int) + 1 = 7 by decide, e 7 (by decide), if_neg (by decide)]
    rw [step _ _ _ (by omega) (by omega) (by omega) (by omega), show (7 : Int) + 1 = 8 by decide, e 8 (by decide), if_neg (by decide)]
    rw [step _ _ _ (by omega) (by omega) (by omega) (by omega), show (8 : Int) + 1 = 9 by decide, e 9 (by decide), if_pos (by decide)]
    rw [step _ _ _ (by omega) (by omega) (by omega) (by omega), show (9 : Int) + 1 = 10 by decide, e 10 (by decide), if_neg (by decide)]
    rw [step _ _ _ (by omega) (by omega) (by omega) (by omega), show (10 : Int) + 1 = 11 by decide, e 11 (by decide), if_pos (by decide)]
    rw [step _ _ _ (by omega) (by omega) (by omega) (by omega), show (11 : Int) + 1 = 12 by decide, e 12 (by decide), if_neg (by decide)]
    rw [show (12 : Int) + 1 = 13 by decide]
    congr 1; omega
  rw [all]
  clear all step
  obtain ⟨k, hk, hk2⟩ : ∃ k : Nat, 9088 = k + 1 ∧ 9000 ≤ k := ⟨9087, rfl, by decide⟩
  rw [hk]
  have d1 : isDate y 1 1 := by unfold isDate; have := len_bd y 1; omega
  have d2 : isDate y 12 31 := by refine ⟨hy1, hy2, by decide, by decide, by decide, ?_⟩; simp [len]
  have m1 : mo y 1 = first y := mo_1 y
  have m2 : mo y 12 + 31 = first (y + 1) := by
    have := mo_succ y (m := 12) (by decide) (by decide); rw [show (12 : Int) + 1 = 13 by decide, mo_13] at this
    rw [this]; simp [len]
  have b1 := first_bd hy1 (by omega)
  have b2 := @first_bd (y + 1) (by omega) (by omega)
  have b3 := @first_bd (y + 400) (by omega) (by omega)
  have m3 := first_succ y
  simp only [tompionlaw03_CivilYears.l0]
  rw [if_neg (by decide), days_f, days_f, if_pos d1, if_pos d2, awake_f hk2, long_f, if_pos (by unfold isMonth; omega)]
  simp only [Option.bind_some, if_true]
  rw [m1, w64 (x := mo y 12 + 31 - 1 - (first y + 1 - 1)) (by omega) (by omega), w64 (x := mo y 12 + 31 - 1 - (first y + 1 - 1) + 1) (by omega) (by omega), if_pos (by omega)]
  have e2 : len y 2 = 28 + lp y := by unfold len; rw [if_pos rfl]
  rw [e2, w64 (x := 365 + (28 + lp y)) (by omega) (by omega), w64 (x := 365 + (28 + lp y) - 28) (by omega) (by omega), if_pos (by omega), w64 (x := y + 400) (by omega) (by omega), days_f]
  simp only [Option.bind_some]
  by_cases h : y + 400 > 9999
  · have d3 : ¬ isDate (y + 400) 1 1 := fun q => by have := q.2.1; omega
    rw [if_pos h, if_neg d3]; rfl
  · have d3 : isDate (y + 400) 1 1 := by unfold isDate; have := len_bd (y + 400) 1; omega
    rw [if_neg h, if_pos d3, mo_1]
    simp only [if_true]
    rw [w64 (by omega) (by omega)]
    congr 1
    simp only [beq_iff_eq]
    unfold first; omega

theorem next_of {y m d : Int} (h : isDate y m d) : (d < len y m ∧ isDate y m (d + 1)) ∨ (d = len y m ∧ m < 12 ∧ isDate y (m + 1) 1) ∨ (d = len y m ∧ m = 12 ∧ y < 9999 ∧ isDate (y + 1) 1 1) ∨ (d = len y m ∧ m = 12 ∧ y = 9999) := by
  obtain ⟨a, b, c, e, f, g⟩ := h
  have h1 := len_bd y (m + 1); have h2 := len_bd (y + 1) 1
  by_cases q : d < len y m
  · exact .inl ⟨q, a, b, c, e, by omega, by omega⟩
  · by_cases r : m < 12
    · exact .inr (.inl ⟨by omega, r, a, b, by omega, by omega, by omega, by omega⟩)
    · by_cases s : y < 9999
      · exact .inr (.inr (.inl ⟨by omega, by omega, s, by omega, by omega, by omega, by omega, by omega, by omega⟩))
      · exact .inr (.inr (.inr ⟨by omega, by omega, by omega⟩))
theorem civilNext : tompionlaw03_CivilNext.Pure := by
  intro n wn
  have hb := wf_bd wn
  refine ⟨20000, ?_⟩
  unfold tompionlaw03_CivilNext.f
  rw [awake_f (by decide)]
  by_cases h : 0 ≤ n ∧ n ≤ 2932896
  · obtain ⟨y, m, d, hd, rfl⟩ := date_of h.1 h.2
    rw [date_f (by decide) hd]
    simp only [Option.bind_some, if_true]
    rw [show ((0 : Int) != 0) = false by decide]
    simp only [tompionlaw03_CivilNext.j0]
    have hl := len_bd y m
    obtain ⟨a, b, c, e, f, g⟩ := id hd
    rw [if_neg (by decide), w64 (x := mo y m + d - 1 + 1) (by omega) (by omega), weekday_f _ (by omega), if_pos h, weekday_f _ (by omega), long_f, if_pos (show isMonth y m from ⟨a, b, c, e⟩)]
    have wk : ∀ {x : Int}, 0 ≤ x → ((x + 1 + 4) % 7 == Int.tmod (wrap64 ((x + 4) % 7 + 1)) 7) = true := by
      intro x hx
      rw [w64 (by omega) (by omega), Int.tmod_eq_emod_of_nonneg (by omega)]
      simp only [beq_iff_eq]; omega
    have hw := wk h.1
    rcases next_of hd with ⟨q, hn⟩ | ⟨q, r, hn⟩ | ⟨q, r, s, hn⟩ | ⟨q, r, s⟩
    · have hx : mo y m + d - 1 + 1 = mo y m + (d + 1) - 1 := by omega
      have := date_in hn
      rw [show civil_Date.f 19999 (mo y m + d - 1 + 1) = some (y, m, d + 1, 0) by rw [hx]; exact date_f (by decide) hn, if_pos (by omega)]
      simp only [Option.bind_some, if_true]
      rw [w64 (x := d + 1) (by omega) (by omega), w64 (x := m + 1) (by omega) (by omega), hw]
      simp
    · have hx : mo y m + d - 1 + 1 = mo y (m + 1) + 1 - 1 := by rw [mo_succ y c e]; omega
      have := date_in hn
      rw [show civil_Date.f 19999 (mo y m + d - 1 + 1) = some (y, m + 1, 1, 0) by rw [hx]; exact date_f (by decide) hn, if_pos (by omega)]
      simp only [Option.bind_some, if_true]
      rw [w64 (x := d + 1) (by omega) (by omega), w64 (x := m + 1) (by omega) (by omega), hw]
      simp [show ¬ (m + 1 = m) by omega, q]
    · have hx : mo y m + d - 1 + 1 = mo (y + 1) 1 + 1 - 1 := by
        have := mo_succ y c e; rw [r, show (12 : Int) + 1 = 13 by decide, mo_13] at this; rw [mo_1, this, r, q, r]; omega
      have := date_in hn
      rw [show civil_Date.f 19999 (mo y m + d - 1 + 1) = some (y + 1, 1, 1, 0) by rw [hx]; exact date_f (by decide) hn, if_pos (by omega)]
      simp only [Option.bind_some, if_true]
      rw [w64 (x := d + 1) (by omega) (by omega), w64 (x := m + 1) (by omega) (by omega), w64 (x := y + 1) (by omega) (by omega), hw]
      simp [show ¬ (y + 1 = y) by omega, q, r]
    · have hx : mo y m + d - 1 = 2932896 := by
        have := mo_succ y c e; rw [r, show (12 : Int) + 1 = 13 by decide, mo_13, s, show (9999 : Int) + 1 = 10000 by decide, first_10000] at this; rw [r, q, r, s]; omega
      rw [date_no (by decide) (by omega)]
      simp only [Option.bind_some]
      rw [if_neg (by decide)]
      simp [q, r, s, len]
  · rw [date_no (by decide) (by omega)]
    simp only [Option.bind_some, if_true]
    rw [show ((2 : Int) != 0) = true by decide]
    simp only [tompionlaw03_CivilNext.j0]
    rw [awake_f (by decide)]; simp
end Go.Proofs.Yteeemnnbgahnkaa.Civ
