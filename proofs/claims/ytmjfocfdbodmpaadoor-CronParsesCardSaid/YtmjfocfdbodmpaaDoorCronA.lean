/- What a cron text says, as plain functions over lists of bytes, and that the program's small functions and the reference's answer so. -/
import Derived.Test.YtmjfocfdbodmpaaDoorX2
import Derived.Test.YtmjfocfdbodmpaaDoorX4
import Derived.Laws.Bits64b
namespace Go.Proofs.YtmjfocfdbodmpaaDoor.CS
open Go Go.RowKit Go.Proofs.YtmjfocfdbodmpaaDoorW.PrintWords Go.Proofs.YtmjfocfdbodmpaaDoor.X

abbrev Bs := List UInt8
/-- A string's bytes. -/
def L (s : ByteArray) : Bs := s.data.toList
theorem L_len (s : ByteArray) : (L s).length = s.size := by simp [L]
theorem L_ext {a b : ByteArray} (h : L a = L b) : a = b := by
  obtain ⟨⟨x⟩⟩ := a
  obtain ⟨⟨y⟩⟩ := b
  simp only [L] at h
  rw [h]
theorem L_toList (s : ByteArray) : s.toList = L s := ByteArray.toList_eq s
theorem bt_L (s : ByteArray) (j : Nat) (h : j < (L s).length) : bt s (j : Int) = ((L s)[j].toNat : Int) := by
  have h' : (j : Int).toNat < s.size := by rw [← L_len]; simpa using h
  unfold bt
  rw [dif_pos h']
  simp only [L, Int.toNat_natCast]
  rfl
theorem L_extract (s : ByteArray) (a b : Nat) : L (s.extract a b) = ((L s).drop a).take (b - a) := by
  simp only [L, Lib.extract_data]
theorem wrap_id {i : Int} (h0 : -9223372036854775808 ≤ i) (h1 : i ≤ 9223372036854775807) : wrap64 i = i := by
  unfold wrap64
  omega

/-! ### sets -/
def bitsOf : List Nat → Nat
  | [] => 0
  | n :: t => 2 ^ n ||| bitsOf t
theorem bitsOf_lt : ∀ (l : List Nat), (∀ n ∈ l, n < 64) → bitsOf l < 2 ^ 64
  | [], _ => by decide
  | n :: t, h => by
    unfold bitsOf
    exact Nat.or_lt_two_pow (Nat.pow_lt_pow_right (by decide) (h n (List.mem_cons_self ..))) (bitsOf_lt t fun m hm => h m (List.mem_cons_of_mem _ hm))
theorem testBit_bitsOf (i : Nat) : ∀ (l : List Nat), (bitsOf l).testBit i = decide (i ∈ l)
  | [] => by simp [bitsOf]
  | n :: t => by
    unfold bitsOf
    rw [Nat.testBit_or, testBit_bitsOf i t, Nat.testBit_two_pow]
    by_cases h : n = i
    · subst h; simp
    · have : ¬ i = n := fun e => h e.symm
      simp [h, this]
theorem bitsOf_append : ∀ (a b : List Nat), bitsOf (a ++ b) = bitsOf a ||| bitsOf b
  | [], b => by simp [bitsOf]
  | n :: t, b => by
    show 2 ^ n ||| bitsOf (t ++ b) = (2 ^ n ||| bitsOf t) ||| bitsOf b
    rw [bitsOf_append t b, Nat.or_assoc]
theorem bor_nat (a b : Nat) (ha : a < 2 ^ 64) (hb : b < 2 ^ 64) : Go.bits .or .u64 (a : Int) (b : Int) = ((a ||| b : Nat) : Int) := Go.bits_or_u64_nat a b (by omega) (by omega)
theorem band_nat (a b : Nat) (ha : a < 2 ^ 64) (hb : b < 2 ^ 64) : Go.bits .and .u64 (a : Int) (b : Int) = ((a &&& b : Nat) : Int) := Go.bits_and_u64_nat a b (by omega) (by omega)
theorem shl_one (n : Nat) (h : n < 64) : shl .u64 1 (n : Int) = ((2 ^ n : Nat) : Int) := by
  have h2 : (2 : Nat) ^ n < 2 ^ 64 := Nat.pow_lt_pow_right (by decide) h
  unfold shl
  have e : min (n : Int).toNat IntKind.u64.bits = n := by
    rw [Int.toNat_natCast]
    exact Nat.min_eq_left (by simp only [IntKind.bits]; omega)
  rw [e, Int.one_mul]
  have c : ((2 : Int) ^ n) = ((2 ^ n : Nat) : Int) := by push_cast; rfl
  rw [c]
  generalize (2 : Nat) ^ n = m at h2 ⊢
  simp only [IntKind.wrap, IntKind.bits, IntKind.signed, Bool.false_and, Bool.false_eq_true, if_false]
  omega
/-- The numbers from one to another one, every so many. -/
def stepsL (b step : Nat) : Nat → Nat → List Nat
  | 0, _ => []
  | f + 1, n => if n ≤ b then n :: stepsL b step f (n + step) else []
theorem stepsL_le (b step : Nat) : ∀ (f n i : Nat), i ∈ stepsL b step f n → n ≤ i ∧ i ≤ b
  | 0, _, _, h => by simp [stepsL] at h
  | f + 1, n, i, h => by
    unfold stepsL at h
    split at h
    · rcases List.mem_cons.1 h with rfl | h
      · exact ⟨Nat.le_refl _, by assumption⟩
      · have := stepsL_le b step f _ i h
        omega
    · cases h
def span (a b step : Nat) : List Nat := stepsL b step 64 a
theorem span_lt (a b step : Nat) (h : b < 64) : ∀ n ∈ span a b step, n < 64 := fun n hn => Nat.lt_of_le_of_lt (stepsL_le b step 64 a n hn).2 h
theorem span_ev (b step : Nat) (hb : b < 64) (h1 : 1 ≤ step) (h2 : step ≤ 99) : ∀ (f n acc : Nat), b < n + f → n ≤ 200 → acc < 2 ^ 64 →
    Ev (fun k => cron_span.l0 k (b : Int) (step : Int) (acc : Int) (n : Int)) ((acc ||| bitsOf (stepsL b step f n) : Nat) : Int)
  | 0, n, acc, hf, hn, ha => by
    refine Ev.step (f := fun _ => some ((acc : Nat) : Int)) (fun k => ?_) (by simpa [stepsL, bitsOf] using Ev.now ((acc : Nat) : Int))
    simp only [cron_span.l0]
    rw [if_neg (by omega)]
  | f + 1, n, acc, hf, hn, ha => by
    by_cases h : n ≤ b
    · have hp : (2 : Nat) ^ n < 2 ^ 64 := Nat.pow_lt_pow_right (by decide) (by omega)
      have ih := span_ev b step hb h1 h2 f (n + step) (acc ||| 2 ^ n) (by omega) (by omega) (Nat.or_lt_two_pow ha hp)
      have e : acc ||| bitsOf (stepsL b step (f + 1) n) = acc ||| 2 ^ n ||| bitsOf (stepsL b step f (n + step)) := by
        rw [stepsL, if_pos h, bitsOf, Nat.or_assoc]
      rw [e]
      refine Ev.step (fun k => ?_) ih
      simp only [cron_span.l0]
      rw [if_pos (by omega), if_pos (by omega), shl_one n (by omega), bor_nat _ _ ha hp, wrap_id (by omega) (by omega)]
      push_cast
      rfl
    · refine Ev.step (f := fun _ => some ((acc : Nat) : Int)) (fun k => ?_) (by rw [stepsL, if_neg h]; simpa [bitsOf] using Ev.now ((acc : Nat) : Int))
      simp only [cron_span.l0]
      rw [if_neg (by omega)]
theorem cron_span_ev (a b step : Nat) (hb : b < 64) (h1 : 1 ≤ step) (h2 : step ≤ 99) (ha : a ≤ 200) : Ev (fun k => cron_span.f k (a : Int) (b : Int) (step : Int)) ((bitsOf (span a b step) : Nat) : Int) := by
  have := span_ev b step hb h1 h2 64 a 0 (by omega) ha (by decide)
  rw [Nat.zero_or] at this
  exact this

/-! ### numbers of a field -/
def lo (f : Nat) : Nat := match f with | 2 => 1 | 3 => 1 | _ => 0
def hi (f : Nat) : Nat := match f with | 0 => 59 | 1 => 23 | 2 => 31 | 3 => 12 | _ => 7
/-- The last one of a field that is any. -/
def hi6 (f : Nat) : Nat := match f with | 0 => 59 | 1 => 23 | 2 => 31 | 3 => 12 | _ => 6
def full (f step : Nat) : Nat := bitsOf (span (lo f) (hi6 f) step)
theorem lo_le (f : Nat) : lo f ≤ 1 := by unfold lo; split <;> omega
theorem hi_le (f : Nat) : hi f ≤ 59 := by unfold hi; split <;> omega
theorem hi6_le (f : Nat) : hi6 f ≤ 59 := by unfold hi6; split <;> omega
theorem full_lt (f step : Nat) : full f step < 2 ^ 64 := bitsOf_lt _ (span_lt _ _ _ (Nat.lt_of_le_of_lt (hi6_le f) (by decide)))
theorem five (f : Nat) (h : f < 5) : f = 0 ∨ f = 1 ∨ f = 2 ∨ f = 3 ∨ f = 4 := by omega
theorem cron_full_ev (f step : Nat) (hf : f < 5) (h1 : 1 ≤ step) (h2 : step ≤ 99) : Ev (fun k => cron_full.f k (f : Int) (step : Int)) ((full f step : Nat) : Int) := by
  have h := cron_span_ev (lo f) (hi6 f) step (Nat.lt_of_le_of_lt (hi6_le f) (by decide)) h1 h2 (Nat.le_trans (lo_le f) (by decide))
  refine Ev.congr (fun k => ?_) h
  rcases five f hf with rfl | rfl | rfl | rfl | rfl <;> simp [cron_full.f, cron_bounds.f, lo, hi6, wrap64]
theorem all_ev (b step : Nat) (hb : b < 64) (h1 : 1 ≤ step) (h2 : step ≤ 99) : ∀ (f n acc : Nat), b < n + f → n ≤ 200 → acc < 2 ^ 64 →
    Ev (fun k => tompionref04_all.l0 k (step : Int) (b : Int) (acc : Int) (n : Int)) ((acc ||| bitsOf (stepsL b step f n) : Nat) : Int)
  | 0, n, acc, hf, hn, ha => by
    refine Ev.step (f := fun _ => some ((acc : Nat) : Int)) (fun k => ?_) (by simpa [stepsL, bitsOf] using Ev.now ((acc : Nat) : Int))
    simp only [tompionref04_all.l0]
    rw [if_neg (by omega)]
  | f + 1, n, acc, hf, hn, ha => by
    by_cases h : n ≤ b
    · have hp : (2 : Nat) ^ n < 2 ^ 64 := Nat.pow_lt_pow_right (by decide) (by omega)
      have ih := all_ev b step hb h1 h2 f (n + step) (acc ||| 2 ^ n) (by omega) (by omega) (Nat.or_lt_two_pow ha hp)
      have e : acc ||| bitsOf (stepsL b step (f + 1) n) = acc ||| 2 ^ n ||| bitsOf (stepsL b step f (n + step)) := by
        rw [stepsL, if_pos h, bitsOf, Nat.or_assoc]
      rw [e]
      refine Ev.step (fun k => ?_) ih
      simp only [tompionref04_all.l0]
      rw [if_pos (by omega), if_pos (by omega), shl_one n (by omega), bor_nat _ _ ha hp, wrap_id (by omega) (by omega)]
      push_cast
      rfl
    · refine Ev.step (f := fun _ => some ((acc : Nat) : Int)) (fun k => ?_) (by rw [stepsL, if_neg h]; simpa [bitsOf] using Ev.now ((acc : Nat) : Int))
      simp only [tompionref04_all.l0]
      rw [if_neg (by omega)]
theorem ref_low (f : Nat) (hf : f < 5) : tompionref04_low.f (f : Int) = some ((lo f : Nat) : Int) := by
  rcases five f hf with rfl | rfl | rfl | rfl | rfl <;> simp [tompionref04_low.f, lo]
theorem ref_high (f : Nat) (hf : f < 5) : tompionref04_high.f (f : Int) = some ((hi f : Nat) : Int) := by
  rcases five f hf with rfl | rfl | rfl | rfl | rfl <;> decide
theorem ref_all_ev (f step : Nat) (hf : f < 5) (h1 : 1 ≤ step) (h2 : step ≤ 99) : Ev (fun k => tompionref04_all.f k (f : Int) (step : Int)) ((full f step : Nat) : Int) := by
  have h := all_ev (hi6 f) step (Nat.lt_of_le_of_lt (hi6_le f) (by decide)) h1 h2 64 (lo f) 0 (by have := hi6_le f; omega) (Nat.le_trans (lo_le f) (by decide)) (by decide)
  rw [Nat.zero_or] at h
  refine Ev.step (fun k => ?_) h
  rcases five f hf with rfl | rfl | rfl | rfl | rfl <;> simp [tompionref04_all.f, tompionref04_all.j0, tompionref04_high.f, tompionref04_low.f, rd, lo, hi6]
end Go.Proofs.YtmjfocfdbodmpaaDoor.CS
