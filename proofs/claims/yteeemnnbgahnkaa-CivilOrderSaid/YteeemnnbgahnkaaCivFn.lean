/- What the printed functions of civil and of its reference compute, in the words of the calendar (XCivBase). -/
import Derived.Test.YteeemnnbgahnkaaX1
import Derived.Test.YteeemnnbgahnkaaX2
import Derived.Test.YteeemnnbgahnkaaX4
import Derived.Test.YteeemnnbgahnkaaCivBase
import Derived.KernelRfl
namespace Go.Proofs.Yteeemnnbgahnkaa.Civ
open Go.RowKit Go.Proofs.Yteeemnnbgahnkaa.X Go.Proofs.YteeemnnbgahnkaaW.PrintWords Go.Proofs.YteeemnnbgahnkaaW.PrintLast

theorem wf_bd {x : Int} (h : (Lit.int .i64 x).wf = true) : -9223372036854775808 ≤ x ∧ x ≤ 9223372036854775807 := by
  simp only [Lit.wf, IntKind.min, IntKind.max, IntKind.signed, IntKind.bits, Bool.and_eq_true, decide_eq_true_eq, if_true] at h
  omega

/-- There is such a month. -/
def isMonth (y m : Int) : Prop := 1970 ≤ y ∧ y ≤ 9999 ∧ 1 ≤ m ∧ m ≤ 12
instance (y m : Int) : Decidable (isMonth y m) := by unfold isMonth; infer_instance

theorem may_f (y m : Int) : civil_may.f y m = some (decide (isMonth y m)) := by
  unfold civil_may.f isMonth
  by_cases a : y ≥ 1970 <;> by_cases b : y ≤ 9999 <;> by_cases c : m ≥ 1 <;> by_cases d : m ≤ 12 <;> simp [a, b, c, d] <;> omega
theorem first_f {y : Int} (h1 : 1970 ≤ y) (h2 : y ≤ 19999) : civil_first.f y = some (first y) := by
  unfold civil_first.f first
  rw [w64 (x := y - 1) (by omega) (by omega), w64 (x := y - 1970) (by omega) (by omega)]
  rw [Int.tdiv_eq_ediv_of_nonneg (by omega), Int.tdiv_eq_ediv_of_nonneg (by omega), Int.tdiv_eq_ediv_of_nonneg (by omega)]
  rw [w64 (x := (y - 1970) * 365) (by omega) (by omega), w64 (x := (y - 1) / 4) (by omega) (by omega), w64 (x := (y - 1) / 100) (by omega) (by omega), w64 (x := (y - 1) / 400) (by omega) (by omega)]
  rw [w64 (x := (y - 1970) * 365 + (y - 1) / 4) (by omega) (by omega), w64 (x := (y - 1970) * 365 + (y - 1) / 4 - (y - 1) / 100) (by omega) (by omega), w64 (x := (y - 1970) * 365 + (y - 1) / 4 - (y - 1) / 100 + (y - 1) / 400) (by omega) (by omega), w64 (by omega) (by omega)]
theorem ahead_f {m : Int} (h1 : 1 ≤ m) (h2 : m ≤ 13) : civil_ahead.f m = some (ah m) := by
  have hc : m = 1 ∨ m = 2 ∨ m = 3 ∨ m = 4 ∨ m = 5 ∨ m = 6 ∨ m = 7 ∨ m = 8 ∨ m = 9 ∨ m = 10 ∨ m = 11 ∨ m = 12 ∨ m = 13 := by omega
  rcases hc with rfl | rfl | rfl | rfl | rfl | rfl | rfl | rfl | rfl | rfl | rfl | rfl | rfl <;> rfl
theorem leap_f {y : Int} (h1 : 0 ≤ y) : civil_leap.f y = some (lp y) := by
  unfold civil_leap.f lp
  rw [Int.tmod_eq_emod_of_nonneg h1, Int.tmod_eq_emod_of_nonneg h1, Int.tmod_eq_emod_of_nonneg h1]
  by_cases a : y % 4 = 0 <;> by_cases b : y % 100 = 0 <;> by_cases c : y % 400 = 0 <;> simp [a, b, c]
theorem monthOf_f {y m : Int} (h1 : 1970 ≤ y) (h2 : y ≤ 9999) (h3 : 1 ≤ m) (h4 : m ≤ 13) : civil_monthOf.f y m = some (mo y m) := by
  unfold civil_monthOf.f mo
  rw [first_f h1 (by omega), ahead_f h3 h4, leap_f (by omega)]
  have a := first_bd h1 (by omega : y ≤ 20000); have b := ah_bd m; have c := lp01 y
  simp only [Option.bind_some]
  by_cases h : m > 2
  · rw [if_pos h, if_pos h, w64 (x := first y + ah m) (by omega) (by omega), w64 (by omega) (by omega)]
  · rw [if_neg h, if_neg h, w64 (by omega) (by omega)]; simp
theorem long_f (y m : Int) : civil_Long.f y m = some (if isMonth y m then len y m else 0) := by
  unfold civil_Long.f
  rw [may_f]; simp only [Option.bind_some]
  by_cases h : isMonth y m
  · rw [if_pos (by simpa using h), if_pos h]
    obtain ⟨a, b, c, d⟩ := h
    rw [w64 (by omega) (by omega), monthOf_f a b (by omega) (by omega), monthOf_f a b c (by omega)]
    simp only [Option.bind_some]
    have := mo_succ y c d; have := len_bd y m
    rw [w64 (by omega) (by omega)]; congr 1; omega
  · rw [if_neg (by simpa using h), if_neg h]
theorem date_month {y m d : Int} : isDate y m d ↔ isMonth y m ∧ 1 ≤ d ∧ d ≤ len y m := by
  unfold isDate isMonth
  constructor <;> intro h <;> omega
theorem days_f (y m d : Int) : civil_Days.f y m d = some (if isDate y m d then (mo y m + d - 1, 0) else (0, 2)) := by
  unfold civil_Days.f
  rw [may_f, long_f]; simp only [Option.bind_some]
  by_cases h : isMonth y m
  · rw [if_pos (by simpa using h), if_pos h]
    by_cases h1 : d < 1
    · rw [if_pos h1, if_neg (fun q => by have := (date_month.mp q).2.1; omega)]
    · rw [if_neg h1]
      by_cases h2 : d > len y m
      · rw [if_pos h2, if_neg (fun q => by have := (date_month.mp q).2.2; omega)]
      · have hd : isDate y m d := date_month.mpr ⟨h, by omega, by omega⟩
        rw [if_neg h2, if_pos hd]
        obtain ⟨a, b, c, e⟩ := h
        rw [monthOf_f a b c (by omega)]
        have := date_in hd; have := len_bd y m; have := mo_bd a (by omega) c (by omega)
        simp only [Option.bind_some]
        rw [w64 (x := mo y m + d) (by omega) (by omega), w64 (by omega) (by omega)]
  · rw [if_neg (by simpa using h), if_neg (fun q => h (date_month.mp q).1)]
theorem most_f : civil_most.f = some 2932896 := by
  unfold civil_most.f
  rw [first_f (by decide) (by decide), first_10000]; simp only [Option.bind_some]; rw [w64 (by decide) (by decide)]; rfl

/-- The loop over months. -/
theorem date_l1 {y m d : Int} (hd : isDate y m d) (j : Nat) : ∀ (k : Nat) (x : Int), 1 ≤ x → x + j = m → j < k →
    civil_Date.l1 k (mo y m + d - 1) y x = some (y, m, d, 0) := by
  have hin := date_in hd
  obtain ⟨a, b, c, e, f, g⟩ := hd
  have hl := len_bd y m
  induction j with
  | zero =>
    intro k x h1 h2 h3
    obtain ⟨k, rfl⟩ : ∃ i, k = i + 1 := ⟨k - 1, by omega⟩
    obtain rfl : x = m := by simpa using h2
    simp only [civil_Date.l1]
    rw [w64 (by omega) (by omega), monthOf_f a b (by omega) (by omega), monthOf_f a b c (by omega)]
    simp only [Option.bind_some]
    rw [if_neg (by omega), w64 (x := mo y x + d - 1 - mo y x) (by omega) (by omega), w64 (by omega) (by omega)]
    have : mo y x + d - 1 - mo y x + 1 = d := by omega
    rw [this]
  | succ j ih =>
    intro k x h1 h2 h3
    obtain ⟨k, rfl⟩ : ∃ i, k = i + 1 := ⟨k - 1, by omega⟩
    simp only [civil_Date.l1]
    rw [w64 (by omega) (by omega), monthOf_f a b (by omega) (by omega)]
    simp only [Option.bind_some]
    have := @mo_mono y (x + 1) m (by omega) (by omega) (by omega)
    rw [if_pos (by omega)]
    exact ih k (x + 1) (by omega) (by omega) (by omega)
/-- The loop over years. -/
theorem date_l0 {y m d : Int} (hd : isDate y m d) (j : Nat) : ∀ (k : Nat) (x : Int), 1970 ≤ x → x + j = y → j + 14 < k →
    civil_Date.l0 k (mo y m + d - 1) x = some (y, m, d, 0) := by
  have hin := date_in hd
  obtain ⟨a, b, c, e, f, g⟩ := id hd
  induction j with
  | zero =>
    intro k x h1 h2 h3
    obtain ⟨k, rfl⟩ : ∃ i, k = i + 1 := ⟨k - 1, by omega⟩
    obtain rfl : x = y := by simpa using h2
    simp only [civil_Date.l0]
    rw [w64 (by omega) (by omega), first_f (by omega) (by omega)]
    simp only [Option.bind_some]
    rw [if_neg (by omega)]
    exact date_l1 hd (m - 1).toNat k 1 (by omega) (by omega) (by omega)
  | succ j ih =>
    intro k x h1 h2 h3
    obtain ⟨k, rfl⟩ : ∃ i, k = i + 1 := ⟨k - 1, by omega⟩
    simp only [civil_Date.l0]
    rw [w64 (by omega) (by omega), first_f (by omega) (by omega)]
    simp only [Option.bind_some]
    have := @first_mono (x + 1) y (by omega)
    rw [if_pos (by omega)]
    exact ih k (x + 1) (by omega) (by omega) (by omega)
theorem guess (y m d : Int) (h : isDate y m d) : 1970 + (mo y m + d - 1) / 366 ≤ y := by
  have h1 := date_in h
  obtain ⟨a, b, _, _, _, _⟩ := h
  have h2 : first (y + 1) ≤ 366 * (y + 1 - 1970) := by unfold first; omega
  omega
theorem date_f {k : Nat} (hk : 9000 ≤ k) {y m d : Int} (h : isDate y m d) : civil_Date.f k (mo y m + d - 1) = some (y, m, d, 0) := by
  have h1 := date_in h
  have h2 := guess y m d h
  obtain ⟨a, b, _, _, _, _⟩ := id h
  obtain ⟨k, rfl⟩ : ∃ i, k = i + 1 := ⟨k - 1, by omega⟩
  unfold civil_Date.f
  rw [if_neg (by omega), most_f]
  simp only [Option.bind_some]
  rw [decide_eq_false (by omega)]
  simp only [civil_Date.j0]
  rw [if_neg (by decide), Int.tdiv_eq_ediv_of_nonneg (by omega), w64 (x := (mo y m + d - 1) / 366) (by omega) (by omega), w64 (by omega) (by omega)]
  exact date_l0 h (y - (1970 + (mo y m + d - 1) / 366)).toNat k _ (by omega) (by omega) (by omega)
theorem date_no {k : Nat} (hk : 9000 ≤ k) {n : Int} (h : n < 0 ∨ 2932896 < n) : civil_Date.f k n = some (0, 0, 0, 2) := by
  obtain ⟨k, rfl⟩ : ∃ i, k = i + 1 := ⟨k - 1, by omega⟩
  unfold civil_Date.f
  by_cases h0 : n < 0
  · rw [if_pos h0]; simp [civil_Date.j0]
  · rw [if_neg h0, most_f]; simp only [Option.bind_some]
    rw [decide_eq_true (by omega)]; simp [civil_Date.j0]

theorem find_year (j : Nat) : ∀ {n : Int}, 0 ≤ n → n < first (1970 + j) → ∃ y : Int, 1970 ≤ y ∧ y < 1970 + j ∧ first y ≤ n ∧ n < first (y + 1) := by
  induction j with
  | zero => intro n h1 h2; have : first (1970 + ((0 : Nat) : Int)) = 0 := by decide
            omega
  | succ j ih =>
    intro n h1 h2
    by_cases h : n < first (1970 + j)
    · obtain ⟨y, a, b, c⟩ := ih h1 h; exact ⟨y, a, by omega, c⟩
    · refine ⟨1970 + j, by omega, by omega, by omega, ?_⟩
      have e : (1970 : Int) + ((j + 1 : Nat) : Int) = 1970 + j + 1 := by omega
      rw [e] at h2; exact h2
theorem find_month (y : Int) (j : Nat) : ∀ {n : Int}, j ≤ 12 → mo y 1 ≤ n → n < mo y (1 + j) → ∃ m : Int, 1 ≤ m ∧ m < 1 + j ∧ mo y m ≤ n ∧ n < mo y (m + 1) := by
  induction j with
  | zero => intro n _ h1 h2; simp at h2; omega
  | succ j ih =>
    intro n hj h1 h2
    by_cases h : n < mo y (1 + j)
    · obtain ⟨m, a, b, c⟩ := ih (by omega) h1 h; exact ⟨m, a, by omega, c⟩
    · refine ⟨1 + j, by omega, by omega, by omega, ?_⟩
      have e : (1 : Int) + ((j + 1 : Nat) : Int) = 1 + j + 1 := by omega
      rw [e] at h2; exact h2
/-- Each number of days that there is is a date's. -/
theorem date_of {n : Int} (h1 : 0 ≤ n) (h2 : n ≤ 2932896) : ∃ y m d, isDate y m d ∧ n = mo y m + d - 1 := by
  have h0 : first (1970 + ((8030 : Nat) : Int)) = 2932897 := by decide
  obtain ⟨y, a, b, c, e⟩ := find_year 8030 h1 (by rw [h0]; omega)
  have h13 : (1 : Int) + ((12 : Nat) : Int) = 13 := by decide
  obtain ⟨m, f, g, i, l⟩ := find_month y 12 (n := n) (by omega) (by rw [mo_1]; omega) (by rw [h13, mo_13]; exact e)
  have := mo_succ y f (by omega)
  exact ⟨y, m, n - mo y m + 1, ⟨by omega, by omega, by omega, by omega, by omega, by omega⟩, by omega⟩

theorem weekday_f (n : Int) (_h : -9223372036854775808 ≤ n) : civil_Weekday.f n = some (if 0 ≤ n ∧ n ≤ 2932896 then ((n + 4) % 7, 0) else (0, 2)) := by
  unfold civil_Weekday.f
  by_cases h : n < 0
  · rw [if_pos h, if_neg (by omega)]
  · rw [if_neg h, most_f]; simp only [Option.bind_some]
    by_cases h2 : n > 2932896
    · rw [if_pos h2, if_neg (by omega)]
    · rw [if_neg h2, if_pos (by omega), w64 (by omega) (by omega), Int.tmod_eq_emod_of_nonneg (by omega)]

/-! The reference. -/
theorem rleap_f {y : Int} (h1 : 0 ≤ y) : tompionref03_leap.f y = some (decide (lp y = 1)) := by
  unfold tompionref03_leap.f lp
  rw [Int.tmod_eq_emod_of_nonneg h1, Int.tmod_eq_emod_of_nonneg h1, Int.tmod_eq_emod_of_nonneg h1]
  by_cases a : y % 4 = 0 <;> by_cases b : y % 100 = 0 <;> by_cases c : y % 400 = 0 <;> simp [a, b, c]
theorem ryear_f {y : Int} (h1 : 0 ≤ y) : tompionref03_year.f y = some (365 + lp y) := by
  unfold tompionref03_year.f
  rw [rleap_f h1]; simp only [Option.bind_some]
  have := lp01 y
  by_cases h : lp y = 1
  · rw [if_pos (by simpa using h), h]; rfl
  · rw [if_neg (by simpa using h)]; congr 1; omega
theorem rlong_f {k : Nat} (hk : 1 ≤ k) (y m : Int) : tompionref03_Long.f k y m = some (if isMonth y m then len y m else 0) := by
  obtain ⟨k, rfl⟩ : ∃ i, k = i + 1 := ⟨k - 1, by omega⟩
  unfold tompionref03_Long.f
  by_cases a : y < 1970
  · rw [if_pos a, if_neg (by unfold isMonth; omega)]; rfl
  by_cases b : y > 9999
  · rw [if_neg a, if_pos b, if_neg (by unfold isMonth; omega)]; rfl
  by_cases c : m < 1
  · rw [if_neg a, if_neg b, if_pos c, if_neg (by unfold isMonth; omega)]; rfl
  rw [if_neg a, if_neg b, if_neg c]
  by_cases d : m > 12
  · rw [decide_eq_true d, if_neg (by unfold isMonth; omega)]; rfl
  rw [decide_eq_false d, if_pos (by unfold isMonth; omega)]
  simp only [tompionref03_Long.j0]
  rw [if_neg (by decide)]
  unfold len
  by_cases e : m = 2
  · rw [if_pos e, if_pos e, rleap_f (by omega)]; simp only [Option.bind_some]
    have := lp01 y
    by_cases h : lp y = 1
    · rw [if_pos (by simpa using h), h]; rfl
    · rw [if_neg (by simpa using h)]; congr 1; omega
  · rw [if_neg e, if_neg e]
    by_cases h4 : m = 4 <;> by_cases h6 : m = 6 <;> by_cases h9 : m = 9 <;> by_cases h11 : m = 11 <;> simp [h4, h6, h9, h11]
theorem rdays_l1 {y m : Int} (h1 : 1970 ≤ y) (h2 : y ≤ 9999) (h3 : m ≤ 12) {d : Int} (h4 : 0 ≤ d) (h5 : d ≤ 40) (j : Nat) : ∀ (k : Nat) (n x : Int), 1 ≤ x → x + j = m → 0 ≤ n → n + (mo y m - mo y x) ≤ 3000000 → j + 1 < k →
    tompionref03_Days.l1 k y m d n x = some (n + (mo y m - mo y x) + d - 1) := by
  induction j with
  | zero =>
    intro k n x a b c e f
    obtain ⟨k, rfl⟩ : ∃ i, k = i + 1 := ⟨k - 1, by omega⟩
    obtain rfl : x = m := by simpa using b
    simp only [tompionref03_Days.l1]
    rw [if_neg (by omega), w64 (x := n + d) (by omega) (by omega), w64 (by omega) (by omega)]
    congr 1; omega
  | succ j ih =>
    intro k n x a b c e f
    obtain ⟨k, rfl⟩ : ∃ i, k = i + 1 := ⟨k - 1, by omega⟩
    simp only [tompionref03_Days.l1]
    have g := @mo_succ y x a (by omega)
    have l := len_bd y x
    have q := @mo_mono y (x + 1) m (by omega) (by omega) (by omega)
    rw [if_pos (by omega), rlong_f (by omega), if_pos (by unfold isMonth; omega)]
    simp only [Option.bind_some]
    rw [w64 (x := n + len y x) (by omega) (by omega), w64 (by omega) (by omega), ih k (n + len y x) (x + 1) (by omega) (by omega) (by omega) (by omega) (by omega)]
    congr 1; omega
theorem rdays_l0 {y m : Int} (h2 : y ≤ 9999) (h0 : 1 ≤ m) (h3 : m ≤ 12) {d : Int} (h4 : 0 ≤ d) (h5 : d ≤ 40) (j : Nat) : ∀ (k : Nat) (x : Int), 1970 ≤ x → x + j = y → j + 14 < k →
    tompionref03_Days.l0 k y m d (first x) x = some (mo y m + d - 1) := by
  induction j with
  | zero =>
    intro k x a b f
    obtain ⟨k, rfl⟩ : ∃ i, k = i + 1 := ⟨k - 1, by omega⟩
    obtain rfl : x = y := by simpa using b
    have := @first_bd x (by omega) (by omega)
    have := @mo_bd x m (by omega) (by omega) h0 (by omega)
    have := @mo_year x m h0 (by omega)
    have := @first_mono (x + 1) 10000 (by omega)
    have := first_10000
    simp only [tompionref03_Days.l0]
    rw [if_neg (by omega), rdays_l1 (by omega) (by omega) h3 h4 h5 (m - 1).toNat k (first x) 1 (by omega) (by omega) (by omega) (by rw [mo_1]; omega) (by omega), mo_1]
    congr 1; omega
  | succ j ih =>
    intro k x a b f
    obtain ⟨k, rfl⟩ : ∃ i, k = i + 1 := ⟨k - 1, by omega⟩
    have := @first_bd x (by omega) (by omega)
    have := lp01 x
    simp only [tompionref03_Days.l0]
    rw [if_pos (by omega), ryear_f (by omega)]
    simp only [Option.bind_some]
    rw [w64 (x := first x + (365 + lp x)) (by omega) (by omega), w64 (by omega) (by omega)]
    have e : first x + (365 + lp x) = first (x + 1) := by rw [first_succ]; omega
    rw [e]
    exact ih k (x + 1) (by omega) (by omega) (by omega)
theorem rdays_f {k : Nat} (hk : 9000 ≤ k) (y m d : Int) : tompionref03_Days.f k y m d = some (if isDate y m d then mo y m + d - 1 else -1) := by
  unfold tompionref03_Days.f
  obtain ⟨k, rfl⟩ : ∃ i, k = i + 1 := ⟨k - 1, by omega⟩
  rw [rlong_f (by omega)]; simp only [Option.bind_some]
  have hl := len_bd y m
  by_cases h : isMonth y m
  · rw [if_pos h, if_neg (by omega)]
    by_cases h1 : d < 1
    · rw [if_pos h1, if_neg (fun q => by have := (date_month.mp q).2.1; omega)]
      simp [tompionref03_Days.j0]
    · rw [if_neg h1]
      by_cases h2 : d > len y m
      · rw [decide_eq_true h2, if_neg (fun q => by have := (date_month.mp q).2.2; omega)]
        simp [tompionref03_Days.j0]
      · have hd : isDate y m d := date_month.mpr ⟨h, by omega, by omega⟩
        rw [decide_eq_false h2, if_pos hd]
        simp only [tompionref03_Days.j0]; rw [if_neg (by decide)]
        obtain ⟨a, b, c, e⟩ := h
        have := rdays_l0 (d := d) b c e (by omega) (by omega) (y - 1970).toNat k 1970 (by omega) (by omega) (by omega)
        rw [first_1970] at this; exact this
  · rw [if_neg h, if_pos rfl, if_neg (fun q => h (date_month.mp q).1)]
    simp [tompionref03_Days.j0]
theorem rmost_f {k : Nat} (hk : 9000 ≤ k) : tompionref03_Most.f k = some 2932896 := by
  unfold tompionref03_Most.f; rw [rdays_f hk]; simp only [Option.bind_some]
  rw [if_pos (by decide)]; rfl
theorem rdate_l1 {y m d : Int} (hd : isDate y m d) (j : Nat) : ∀ (k : Nat) (x : Int), 1 ≤ x → x + j = m → j + 1 < k →
    tompionref03_Date.l1 k (mo y m + d - 1 - mo y x) y x = some (y, m, d, true) := by
  have hin := date_in hd
  obtain ⟨a, b, c, e, f, g⟩ := hd
  have hl := len_bd y m
  induction j with
  | zero =>
    intro k x h1 h2 h3
    obtain ⟨k, rfl⟩ : ∃ i, k = i + 1 := ⟨k - 1, by omega⟩
    obtain rfl : x = m := by simpa using h2
    simp only [tompionref03_Date.l1]
    rw [rlong_f (by omega), if_pos (by unfold isMonth; omega)]
    simp only [Option.bind_some]
    have := @mo_bd y x a (by omega) c (by omega)
    rw [if_neg (by omega), w64 (by omega) (by omega)]
    have : mo y x + d - 1 - mo y x + 1 = d := by omega
    rw [this]
  | succ j ih =>
    intro k x h1 h2 h3
    obtain ⟨k, rfl⟩ : ∃ i, k = i + 1 := ⟨k - 1, by omega⟩
    simp only [tompionref03_Date.l1]
    rw [rlong_f (by omega), if_pos (by unfold isMonth; omega)]
    simp only [Option.bind_some]
    have := @mo_mono y (x + 1) m (by omega) (by omega) (by omega)
    have h4 := mo_succ y h1 (by omega)
    have := len_bd y x
    have := @mo_bd y m a (by omega) c (by omega)
    have := @mo_bd y x a (by omega) h1 (by omega)
    rw [if_pos (by omega), w64 (x := x + 1) (by omega) (by omega), w64 (by omega) (by omega)]
    have h5 := ih k (x + 1) (by omega) (by omega) (by omega)
    rw [h4] at h5
    rw [show mo y m + d - 1 - mo y x - len y x = mo y m + d - 1 - (mo y x + len y x) by omega]
    exact h5
theorem rdate_l0 {y m d : Int} (hd : isDate y m d) (j : Nat) : ∀ (k : Nat) (x : Int), 1970 ≤ x → x + j = y → j + 15 < k →
    tompionref03_Date.l0 k (mo y m + d - 1 - first x) x = some (y, m, d, true) := by
  have hin := date_in hd
  obtain ⟨a, b, c, e, f, g⟩ := id hd
  induction j with
  | zero =>
    intro k x h1 h2 h3
    obtain ⟨k, rfl⟩ : ∃ i, k = i + 1 := ⟨k - 1, by omega⟩
    obtain rfl : x = y := by simpa using h2
    simp only [tompionref03_Date.l0]
    rw [ryear_f (by omega)]
    simp only [Option.bind_some]
    have := first_succ x
    rw [if_neg (by omega)]
    have h5 := rdate_l1 hd (m - 1).toNat k 1 (by omega) (by omega) (by omega)
    rw [mo_1] at h5; exact h5
  | succ j ih =>
    intro k x h1 h2 h3
    obtain ⟨k, rfl⟩ : ∃ i, k = i + 1 := ⟨k - 1, by omega⟩
    simp only [tompionref03_Date.l0]
    rw [ryear_f (by omega)]
    simp only [Option.bind_some]
    have h4 := first_succ x
    have := @first_mono (x + 1) y (by omega)
    have := @first_bd x (by omega) (by omega)
    have := lp01 x
    have := @mo_bd y m a (by omega) c (by omega)
    have := len_bd y m
    rw [if_pos (by omega), w64 (x := x + 1) (by omega) (by omega), w64 (by omega) (by omega)]
    have h5 := ih k (x + 1) (by omega) (by omega) (by omega)
    rw [h4] at h5
    rw [show mo y m + d - 1 - first x - (365 + lp x) = mo y m + d - 1 - (first x + 365 + lp x) by omega]
    exact h5
theorem rdate_f {k : Nat} (hk : 9001 ≤ k) {y m d : Int} (h : isDate y m d) : tompionref03_Date.f k (mo y m + d - 1) = some (y, m, d, true) := by
  have h1 := date_in h
  obtain ⟨a, b, _, _, _, _⟩ := id h
  unfold tompionref03_Date.f
  rw [if_neg (by omega), rmost_f (by omega)]
  simp only [Option.bind_some]
  rw [decide_eq_false (by omega)]
  obtain ⟨k, rfl⟩ : ∃ i, k = i + 1 := ⟨k - 1, by omega⟩
  simp only [tompionref03_Date.j0]
  rw [if_neg (by decide)]
  have := rdate_l0 h (y - 1970).toNat k 1970 (by omega) (by omega) (by omega)
  rw [first_1970, Int.sub_zero] at this
  exact this
theorem rdate_no {k : Nat} (hk : 9000 ≤ k) {n : Int} (h : n < 0 ∨ 2932896 < n) : tompionref03_Date.f k n = some (0, 0, 0, false) := by
  unfold tompionref03_Date.f
  rw [rmost_f hk]
  obtain ⟨k, rfl⟩ : ∃ i, k = i + 1 := ⟨k - 1, by omega⟩
  by_cases h0 : n < 0
  · rw [if_pos h0]; simp [tompionref03_Date.j0]
  · rw [if_neg h0]; simp only [Option.bind_some]
    rw [decide_eq_true (by omega)]; simp [tompionref03_Date.j0]
end Go.Proofs.Yteeemnnbgahnkaa.Civ
