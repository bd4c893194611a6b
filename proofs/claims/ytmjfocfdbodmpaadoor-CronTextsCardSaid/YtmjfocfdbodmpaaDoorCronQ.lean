/- The numbers of a field: the reference answers as the plain function. -/
import Derived.Test.YtmjfocfdbodmpaaDoorX4
import Derived.Test.YtmjfocfdbodmpaaDoorCronP
namespace Go.Proofs.YtmjfocfdbodmpaaDoor.CS
open Go Go.RowKit Go.Proofs.YtmjfocfdbodmpaaDoorW.PrintWords Go.Proofs.YtmjfocfdbodmpaaDoor.X

theorem all_ev (b step : Nat) (hb : b < 64) (h1 : 1 ≤ step) (h2 : step ≤ 99) : ∀ (f n acc : Nat), b < n + f → n ≤ 200 → acc < 2 ^ 64 →
    Ev (fun k => tompionref04_all.l0 k (step : Int) (b : Int) (acc : Int) (n : Int)) ((acc ||| bitsOf (stepsL b step f n) : Nat) : Int)
  | 0, n, acc, hf, hn, ha => by
    refine Ev.step (f := fun _ => some ((acc : Nat) : Int)) (fun k => ?_) (by simpa [stepsL, bitsOf] using Ev.now ((acc : Nat) : Int))
    simp only [tompionref04_all.l0]
    rw [if_neg (by omega)]
  | f + 1, n, acc, hf, hn, ha => by
    by_cases h : n ≤ b
    · have hp : (2 : Nat) ^ n < 2 ^ 64 := Nat.pow_lt_pow_right (by decide) (by omega)
      have ih := all_ev b step hb h1 h2 f (n + step) (acc ||| 2 ^ n) (by omega) (by omega) (Nat.or_lt_two_pow ha hp)
      have e : acc ||| bitsOf (stepsL b step (f + 1) n) = acc ||| 2 ^ n ||| bitsOf (stepsL b step f (n + step)) := by
        rw [stepsL, if_pos h, bitsOf, Nat.or_assoc]
      rw [e]
      refine Ev.step (fun k => ?_) ih
      simp only [tompionref04_all.l0]
      rw [if_pos (by omega), if_pos (by omega), shl_one n (by omega), bor_nat _ _ ha hp, wrap_id (by omega) (by omega)]
      push_cast
      rfl
    · refine Ev.step (f := fun _ => some ((acc : Nat) : Int)) (fun k => ?_) (by rw [stepsL, if_neg h]; simpa [bitsOf] using Ev.now ((acc : Nat) : Int))
      simp only [tompionref04_all.l0]
      rw [if_neg (by omega)]
theorem ref_low (f : Nat) (hf : f < 5) : tompionref04_low.f (f : Int) = some ((lo f : Nat) : Int) := by
  rcases five f hf with rfl | rfl | rfl | rfl | rfl <;> simp [tompionref04_low.f, lo]
theorem ref_high (f : Nat) (hf : f < 5) : tompionref04_high.f (f : Int) = some ((hi f : Nat) : Int) := by
  rcases five f hf with rfl | rfl | rfl | rfl | rfl <;> decide
theorem ref_all_ev (f step : Nat) (hf : f < 5) (h1 : 1 ≤ step) (h2 : step ≤ 99) : Ev (fun k => tompionref04_all.f k (f : Int) (step : Int)) ((full f step : Nat) : Int) := by
  have h := all_ev (hi6 f) step (Nat.lt_of_le_of_lt (hi6_le f) (by decide)) h1 h2 64 (lo f) 0 (by have := hi6_le f; omega) (Nat.le_trans (lo_le f) (by decide)) (by decide)
  rw [Nat.zero_or] at h
  refine Ev.step (fun k => ?_) h
  rcases five f hf with rfl | rfl | rfl | rfl | rfl <;> simp [tompionref04_all.f, tompionref04_all.j0, tompionref04_high.f, tompionref04_low.f, rd, lo, hi6]
end Go.Proofs.YtmjfocfdbodmpaaDoor.CS
