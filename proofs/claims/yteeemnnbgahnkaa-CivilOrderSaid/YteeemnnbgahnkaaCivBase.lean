/- The calendar from 1970 to 9999 as plain arithmetic: days ahead of a year and of a month, and that dates and days answer each other. No program in sight. -/
import Derived.RowKit
namespace Go.Proofs.Yteeemnnbgahnkaa.Civ
open Go.RowKit

theorem w64 {x : Int} (h1 : -9223372036854775808 ≤ x) (h2 : x ≤ 9223372036854775807) : wrap64 x = x := by
  unfold wrap64; omega

/-- 1 for a leap year. -/
def lp (y : Int) : Int := if y % 4 = 0 ∧ y % 100 ≠ 0 ∨ y % 400 = 0 then 1 else 0
theorem lp01 (y : Int) : 0 ≤ lp y ∧ lp y ≤ 1 := by unfold lp; split <;> omega
/-- The days of a year's first day. -/
def first (y : Int) : Int := (y - 1970) * 365 + (y - 1) / 4 - (y - 1) / 100 + (y - 1) / 400 - 477
theorem first_succ (y : Int) : first (y + 1) = first y + 365 + lp y := by
  unfold first lp; split <;> omega
theorem first_mono {a b : Int} (h : a ≤ b) : first a ≤ first b := by unfold first; omega
theorem first_1970 : first 1970 = 0 := by decide
theorem first_10000 : first 10000 = 2932897 := by decide
/-- The days ahead of a month, in a year that isn't a leap year. -/
def ah (m : Int) : Int :=
  if m ≤ 1 then 0 else if m ≤ 2 then 31 else if m ≤ 3 then 59 else if m ≤ 4 then 90 else if m ≤ 5 then 120 else if m ≤ 6 then 151
  else if m ≤ 7 then 181 else if m ≤ 8 then 212 else if m ≤ 9 then 243 else if m ≤ 10 then 273 else if m ≤ 11 then 304 else if m ≤ 12 then 334 else 365
/-- The days of a month's first day. -/
def mo (y m : Int) : Int := first y + ah m + if m > 2 then lp y else 0
/-- How long a month is. -/
def len (y m : Int) : Int := if m = 2 then 28 + lp y else if m = 4 ∨ m = 6 ∨ m = 9 ∨ m = 11 then 30 else 31
theorem months {m : Int} (h1 : 1 ≤ m) (h2 : m ≤ 12) : m = 1 ∨ m = 2 ∨ m = 3 ∨ m = 4 ∨ m = 5 ∨ m = 6 ∨ m = 7 ∨ m = 8 ∨ m = 9 ∨ m = 10 ∨ m = 11 ∨ m = 12 := by omega
theorem mo_succ (y : Int) {m : Int} (h1 : 1 ≤ m) (h2 : m ≤ 12) : mo y (m + 1) = mo y m + len y m := by
  rcases months h1 h2 with rfl | rfl | rfl | rfl | rfl | rfl | rfl | rfl | rfl | rfl | rfl | rfl <;> simp [mo, ah, len] <;> omega
theorem mo_1 (y : Int) : mo y 1 = first y := by simp [mo, ah]
theorem mo_13 (y : Int) : mo y 13 = first (y + 1) := by rw [first_succ]; simp [mo, ah]
theorem len_bd (y m : Int) : 28 ≤ len y m ∧ len y m ≤ 31 := by have := lp01 y; unfold len; repeat' split <;> omega
theorem ah_bd (m : Int) : 0 ≤ ah m ∧ ah m ≤ 365 := by unfold ah; repeat' split <;> omega
theorem mo_step (y m : Int) (h1 : 1 ≤ m) (d : Nat) : m + d ≤ 13 → mo y m + 28 * d ≤ mo y (m + d) := by
  induction d with
  | zero => intro _; simp
  | succ d ih =>
    intro h
    have := ih (by omega)
    have e : m + ((d + 1 : Nat) : Int) = (m + d) + 1 := by omega
    rw [e, mo_succ y (by omega) (by omega)]
    have := (len_bd y (m + d)).1
    omega
theorem mo_mono (y : Int) {a b : Int} (h1 : 1 ≤ a) (h2 : a ≤ b) (h3 : b ≤ 13) : mo y a ≤ mo y b := by
  have := mo_step y a h1 (b - a).toNat (by omega)
  have e : a + ((b - a).toNat : Int) = b := by omega
  rw [e] at this; omega
theorem mo_year (y : Int) {m : Int} (h1 : 1 ≤ m) (h2 : m ≤ 13) : first y ≤ mo y m ∧ mo y m ≤ first (y + 1) := by
  rw [← mo_1, ← mo_13]; exact ⟨mo_mono y (by omega) h1 h2, mo_mono y h1 h2 (by omega)⟩
theorem first_bd {y : Int} (h1 : 1970 ≤ y) (h2 : y ≤ 20000) : 0 ≤ first y ∧ first y ≤ 6600000 := by unfold first; omega
theorem mo_bd {y m : Int} (h1 : 1970 ≤ y) (h2 : y ≤ 19999) (h3 : 1 ≤ m) (h4 : m ≤ 13) : 0 ≤ mo y m ∧ mo y m ≤ 6600000 := by
  have := mo_year y h3 h4; have := first_bd h1 (by omega); have := @first_bd (y + 1) (by omega) (by omega); omega

/-- There is such a date. -/
def isDate (y m d : Int) : Prop := 1970 ≤ y ∧ y ≤ 9999 ∧ 1 ≤ m ∧ m ≤ 12 ∧ 1 ≤ d ∧ d ≤ len y m
instance (y m d : Int) : Decidable (isDate y m d) := by unfold isDate; infer_instance
theorem date_in {y m d : Int} (h : isDate y m d) : mo y m ≤ mo y m + d - 1 ∧ mo y m + d - 1 < mo y (m + 1) ∧ first y ≤ mo y m + d - 1 ∧ mo y m + d - 1 < first (y + 1) ∧ 0 ≤ mo y m + d - 1 ∧ mo y m + d - 1 ≤ 2932896 := by
  obtain ⟨a, b, c, e, f, g⟩ := h
  have h1 := mo_succ y c e
  have h2 := mo_year y c (by omega)
  have h3 := @mo_year y (m + 1) (by omega) (by omega)
  have h4 := @first_mono (y + 1) 10000 (by omega)
  have h5 := @first_mono 1970 y (by omega)
  rw [first_10000] at h4; rw [first_1970] at h5
  refine ⟨by omega, by omega, by omega, by omega, by omega, by omega⟩
/-- A number of days is one date's alone. -/
theorem date_one {y m d y' m' d' : Int} (h : isDate y m d) (h' : isDate y' m' d') (e : mo y m + d - 1 = mo y' m' + d' - 1) : y = y' ∧ m = m' ∧ d = d' := by
  have a := date_in h; have b := date_in h'
  obtain ⟨_, _, c1, c2, _, _⟩ := h; obtain ⟨_, _, c3, c4, _, _⟩ := h'
  have hy : y = y' := by
    rcases Int.lt_trichotomy y y' with q | q | q
    · have := @first_mono (y + 1) y' (by omega); omega
    · exact q
    · have := @first_mono (y' + 1) y (by omega); omega
  subst hy
  have hm : m = m' := by
    rcases Int.lt_trichotomy m m' with q | q | q
    · have := @mo_mono y (m + 1) m' (by omega) (by omega) (by omega); omega
    · exact q
    · have := @mo_mono y (m' + 1) m (by omega) (by omega) (by omega); omega
  subst hm
  exact ⟨rfl, rfl, by omega⟩
end Go.Proofs.Yteeemnnbgahnkaa.Civ
