/- Whether any spec is on a day, and at a time: the program and the reference say the same. -/
import Derived.Test.YtmjfocfdbodmpaaDoorX15
import Derived.Test.YtmjfocfdbodmpaaDoorX16
import Derived.Test.YtmjfocfdbodmpaaDoorX17
import Derived.Test.YtmjfocfdbodmpaaDoorX7
import Derived.Test.YtmjfocfdbodmpaaDoorX8
import Derived.Test.YtmjfocfdbodmpaaDoorWWords
namespace Go.Proofs.YtmjfocfdbodmpaaDoor.CS
open Go Go.RowKit Go.Proofs.YtmjfocfdbodmpaaDoorW.PrintWords Go.Proofs.YtmjfocfdbodmpaaDoor.X

theorem in_has (x n : Int) : tompionref04_has.f x n = cron_in.f x n := by
  unfold tompionref04_has.f cron_in.f
  by_cases h : n ≥ 0
  · by_cases h2 : n < 64
    · exact ((if_pos h).trans ((if_pos (show n ≤ 63 by omega)).trans (if_pos h))).trans ((if_pos h).trans ((if_pos h2).trans (if_pos h))).symm
    · exact ((if_pos h).trans (if_neg (show ¬ n ≤ 63 by omega))).trans ((if_pos h).trans (if_neg h2)).symm
  · rw [if_neg h, if_neg h]
theorem in_some (x n : Int) : ∃ b, cron_in.f x n = some b := by
  unfold cron_in.f
  by_cases h : n ≥ 0
  · by_cases h2 : n < 64
    · exact ⟨_, (if_pos h).trans ((if_pos h2).trans (if_pos h))⟩
    · exact ⟨_, (if_pos h).trans (if_neg h2)⟩
  · exact ⟨_, if_neg h⟩
theorem day_same (a0_0 a0_1 a0_2 a0_3 a0_4 : Int) (a0_5 a0_6 : Bool) (a0_7 m d wd : Int) : ∃ b, (∀ k, cron_Day.f (k + 1) a0_0 a0_1 a0_2 a0_3 a0_4 a0_5 a0_6 a0_7 m d wd = some b) ∧ tompionref04_Day.f a0_0 a0_1 a0_2 a0_3 a0_4 a0_5 a0_6 a0_7 m d wd = some b := by
  obtain ⟨x, hx⟩ := in_some a0_2 d
  obtain ⟨y, hy⟩ := in_some a0_4 wd
  obtain ⟨z, hz⟩ := in_some a0_3 m
  unfold cron_Day.f tompionref04_Day.f
  rw [in_has, in_has, in_has, hx, hy, hz]
  simp only [Option.bind_some, cron_Day.j0, hz]
  cases a0_5 <;> cases a0_6 <;> cases x <;> cases y <;> cases z <;> exact ⟨_, fun _ => rfl, rfl⟩
theorem minute_same (a0_0 a0_1 a0_2 a0_3 a0_4 : Int) (a0_5 a0_6 : Bool) (a0_7 h m : Int) : ∃ b, cron_Minute.f a0_0 a0_1 a0_2 a0_3 a0_4 a0_5 a0_6 a0_7 h m = some b ∧ tompionref04_Minute.f a0_0 a0_1 a0_2 a0_3 a0_4 a0_5 a0_6 a0_7 h m = some b := by
  obtain ⟨x, hx⟩ := in_some a0_1 h
  obtain ⟨y, hy⟩ := in_some a0_0 m
  unfold cron_Minute.f tompionref04_Minute.f
  rw [in_has, in_has, hx, hy]
  cases x <;> exact ⟨_, rfl, rfl⟩
theorem cronTimes (a0_0 a0_1 a0_2 a0_3 a0_4 : Int) (a0_5 a0_6 : Bool) (a0_7 a1 a2 a3 a4 a5 : Int) : tompionlaw04_CronTimes.f 1 a0_0 a0_1 a0_2 a0_3 a0_4 a0_5 a0_6 a0_7 a1 a2 a3 a4 a5 = some true := by
  obtain ⟨b, h1, h2⟩ := day_same a0_0 a0_1 a0_2 a0_3 a0_4 a0_5 a0_6 a0_7 a1 a2 a3
  obtain ⟨c, h3, h4⟩ := minute_same a0_0 a0_1 a0_2 a0_3 a0_4 a0_5 a0_6 a0_7 a4 a5
  unfold tompionlaw04_CronTimes.f
  rw [show tompionlaw04_awake.f = some true from rfl, Option.bind_some, if_pos rfl, h1 0, h2, h3, h4]
  simp
theorem cronTimes_walk (a0_0 a0_1 a0_2 a0_3 a0_4 : Int) (a0_5 a0_6 : Bool) (a0_7 a1 a2 a3 a4 a5 : Int) (W : World) :
    Calls Tryd.prog 9 #[.agg #[.int .u64 a0_0, .int .u64 a0_1, .int .u64 a0_2, .int .u64 a0_3, .int .u64 a0_4, .bool a0_5, .bool a0_6, .int .i64 a0_7], .int .i64 a1, .int .i64 a2, .int .i64 a3, .int .i64 a4, .int .i64 a5] W fun e W' => e = .returned (.bool true) ∧ Below W.heap.size W W' :=
  tompionlaw04_CronTimes.calls 1 a0_0 a0_1 a0_2 a0_3 a0_4 a0_5 a0_6 a0_7 a1 a2 a3 a4 a5 true W (cronTimes a0_0 a0_1 a0_2 a0_3 a0_4 a0_5 a0_6 a0_7 a1 a2 a3 a4 a5)
end Go.Proofs.YtmjfocfdbodmpaaDoor.CS
