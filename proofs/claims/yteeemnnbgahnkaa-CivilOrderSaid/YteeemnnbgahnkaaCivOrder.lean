/- The statement CivilOrder walked: two dates as arrays of three whole numbers; the Go text answers true. -/
import Derived.Test.YteeemnnbgahnkaaX1
import Derived.Test.YteeemnnbgahnkaaX2
import Derived.Test.YteeemnnbgahnkaaCivLaws
namespace Go.Proofs.Yteeemnnbgahnkaa.Civ
open Go.RowKit Go.Proofs.Yteeemnnbgahnkaa.X Go.Proofs.YteeemnnbgahnkaaW.PrintWords Go.Proofs.YteeemnnbgahnkaaW.PrintLast Go.Proofs.YteeemnnbgahnkaaW.PrintMore

theorem eqArr (d : Nat) (w : World) (x0 x1 x2 y0 y1 y2 : Int) :
    (Op.equalIn (d + 2) 33 (.agg #[.int .i64 x0, .int .i64 x1, .int .i64 x2]) (.agg #[.int .i64 y0, .int .i64 y1, .int .i64 y2])).run Try.prog w = .ok (x0 == y0 && (x1 == y1 && x2 == y2)) w := by
  have e0 := fun (a b : Int) => run_equalIn_int (P := Try.prog) w d 3 .i64 .i64 a b Try.underlying3
  rw [Op.equalIn]
  by_cases h0 : x0 = y0 <;> by_cases h1 : x1 = y1 <;> by_cases h2 : x2 = y2 <;> simp [go_sem, e0, h0, h1, h2, List.range'_succ]
theorem eqArr' (w : World) (x0 x1 x2 y0 y1 y2 : Int) :
    (Op.equalIn 10000 33 (.agg #[.int .i64 x0, .int .i64 x1, .int .i64 x2]) (.agg #[.int .i64 y0, .int .i64 y1, .int .i64 y2])).run Try.prog w = .ok (x0 == y0 && (x1 == y1 && x2 == y2)) w := eqArr 9998 w x0 x1 x2 y0 y1 y2
theorem noGuard : Try.prog.eqGuardType Try.prog.depth 33 = false := by kernel_rfl

set_option maxHeartbeats 8000000 in
set_option maxRecDepth 100000 in
theorem ord_yes (k : Nat) (a0 a1 a2 b0 b1 b2 m n : Int) (w : World) (A1 : Aside0 (civil_Days.f a0 a1 a2 = some (m, 0))) (A2 : Aside0 (civil_Days.f b0 b1 b2 = some (n, 0))) (A3 : Aside0 (tompionlaw03_awake.f k = some true))
    (p : (a0 < b0 ∧ m < n) ∨ (a0 = b0 ∧ a1 < b1 ∧ m < n) ∨ (a0 = b0 ∧ a1 = b1 ∧ a2 < b2 ∧ m < n) ∨ (a0 = b0 ∧ a1 = b1 ∧ a2 = b2 ∧ m = n) ∨ (b0 < a0 ∧ n < m) ∨ (a0 = b0 ∧ b1 < a1 ∧ n < m) ∨ (a0 = b0 ∧ a1 = b1 ∧ b2 < a2 ∧ n < m)) :
    Calls Try.prog 5 #[.agg #[.int .i64 a0, .int .i64 a1, .int .i64 a2], .agg #[.int .i64 b0, .int .i64 b1, .int .i64 b2]] w fun e w' => e = .returned (.bool true) ∧ Below w.heap.size w w' := by
  have e1 := eqArr'
  have e2 := noGuard
  rcases p with ⟨h1, h2⟩ | ⟨h0, h1, h2⟩ | ⟨h0, h3, h1, h2⟩ | ⟨h0, h3, h1, h2⟩ | ⟨h1, h2⟩ | ⟨h0, h1, h2⟩ | ⟨h0, h3, h1, h2⟩
  · have c0 : decide (a0 < b0) = true := decide_eq_true (by omega)
    have c1 : (a0 == b0) = false := beq_eq_false_iff_ne.mpr (by omega)
    have c2 : decide (m < n) = true := decide_eq_true (by omega)
    have c3 : (m == n) = false := beq_eq_false_iff_ne.mpr (by omega)
    clear h1 h2
    go_enter Try.func5, Try.ntmps5
    go_wp2_with (first | (go_at_call 9; (with_reducible refine (civil_Days.calls a0 a1 a2 m 0 _ A1.out).mono ?_); rintro e w' ⟨rfl, ⟨nd, rfl⟩⟩) | (go_at_call 9; (with_reducible refine (civil_Days.calls b0 b1 b2 n 0 _ A2.out).mono ?_); rintro e w' ⟨rfl, ⟨nd, rfl⟩⟩) | (go_at_call 11; (with_reducible refine (tompionlaw03_awake.calls k true _ A3.out).mono ?_); rintro e w' ⟨rfl, ⟨nd, rfl⟩⟩))
    go_ret
    exact ⟨by first | rfl | (simp; done) | (simp [*]; done), by repeat (first | exact Below.refl _ _ | apply below_alloc | apply pw_below_drewN | apply below_drew1)⟩
  · have c0 : decide (a0 < b0) = false := decide_eq_false (by omega)
    have c1 : (a0 == b0) = true := beq_iff_eq.mpr (by omega)
    have c2 : decide (a1 < b1) = true := decide_eq_true (by omega)
    have c3 : (a1 == b1) = false := beq_eq_false_iff_ne.mpr (by omega)
    have c4 : decide (m < n) = true := decide_eq_true (by omega)
    have c5 : (m == n) = false := beq_eq_false_iff_ne.mpr (by omega)
    clear h0 h1 h2
    go_enter Try.func5, Try.ntmps5
    go_wp2_with (first | (go_at_call 9; (with_reducible refine (civil_Days.calls a0 a1 a2 m 0 _ A1.out).mono ?_); rintro e w' ⟨rfl, ⟨nd, rfl⟩⟩) | (go_at_call 9; (with_reducible refine (civil_Days.calls b0 b1 b2 n 0 _ A2.out).mono ?_); rintro e w' ⟨rfl, ⟨nd, rfl⟩⟩) | (go_at_call 11; (with_reducible refine (tompionlaw03_awake.calls k true _ A3.out).mono ?_); rintro e w' ⟨rfl, ⟨nd, rfl⟩⟩))
    go_ret
    exact ⟨by first | rfl | (simp; done) | (simp [*]; done), by repeat (first | exact Below.refl _ _ | apply below_alloc | apply pw_below_drewN | apply below_drew1)⟩
  · have c0 : decide (a0 < b0) = false := decide_eq_false (by omega)
    have c1 : (a0 == b0) = true := beq_iff_eq.mpr (by omega)
    have c2 : decide (a1 < b1) = false := decide_eq_false (by omega)
    have c3 : (a1 == b1) = true := beq_iff_eq.mpr (by omega)
    have c4 : decide (a2 < b2) = true := decide_eq_true (by omega)
    have c5 : (a2 == b2) = false := beq_eq_false_iff_ne.mpr (by omega)
    have c6 : decide (m < n) = true := decide_eq_true (by omega)
    have c7 : (m == n) = false := beq_eq_false_iff_ne.mpr (by omega)
    clear h0 h3 h1 h2
    go_enter Try.func5, Try.ntmps5
    go_wp2_with (first | (go_at_call 9; (with_reducible refine (civil_Days.calls a0 a1 a2 m 0 _ A1.out).mono ?_); rintro e w' ⟨rfl, ⟨nd, rfl⟩⟩) | (go_at_call 9; (with_reducible refine (civil_Days.calls b0 b1 b2 n 0 _ A2.out).mono ?_); rintro e w' ⟨rfl, ⟨nd, rfl⟩⟩) | (go_at_call 11; (with_reducible refine (tompionlaw03_awake.calls k true _ A3.out).mono ?_); rintro e w' ⟨rfl, ⟨nd, rfl⟩⟩))
    go_ret
    exact ⟨by first | rfl | (simp; done) | (simp [*]; done), by repeat (first | exact Below.refl _ _ | apply below_alloc | apply pw_below_drewN | apply below_drew1)⟩
  · have c0 : decide (a0 < b0) = false := decide_eq_false (by omega)
    have c1 : (a0 == b0) = true := beq_iff_eq.mpr (by omega)
    have c2 : decide (a1 < b1) = false := decide_eq_false (by omega)
    have c3 : (a1 == b1) = true := beq_iff_eq.mpr (by omega)
    have c4 : decide (a2 < b2) = false := decide_eq_false (by omega)
    have c5 : (a2 == b2) = true := beq_iff_eq.mpr (by omega)
    have c6 : decide (m < n) = false := decide_eq_false (by omega)
    have c7 : (m == n) = true := beq_iff_eq.mpr (by omega)
    clear h0 h3 h1 h2
    go_enter Try.func5, Try.ntmps5
    go_wp2_with (first | (go_at_call 9; (with_reducible refine (civil_Days.calls a0 a1 a2 m 0 _ A1.out).mono ?_); rintro e w' ⟨rfl, ⟨nd, rfl⟩⟩) | (go_at_call 9; (with_reducible refine (civil_Days.calls b0 b1 b2 n 0 _ A2.out).mono ?_); rintro e w' ⟨rfl, ⟨nd, rfl⟩⟩) | (go_at_call 11; (with_reducible refine (tompionlaw03_awake.calls k true _ A3.out).mono ?_); rintro e w' ⟨rfl, ⟨nd, rfl⟩⟩))
    go_ret
    exact ⟨by first | rfl | (simp; done) | (simp [*]; done), by repeat (first | exact Below.refl _ _ | apply below_alloc | apply pw_below_drewN | apply below_drew1)⟩
  · have c0 : decide (a0 < b0) = false := decide_eq_false (by omega)
    have c1 : (a0 == b0) = false := beq_eq_false_iff_ne.mpr (by omega)
    have c2 : decide (m < n) = false := decide_eq_false (by omega)
    have c3 : (m == n) = false := beq_eq_false_iff_ne.mpr (by omega)
    clear h1 h2
    go_enter Try.func5, Try.ntmps5
    go_wp2_with (first | (go_at_call 9; (with_reducible refine (civil_Days.calls a0 a1 a2 m 0 _ A1.out).mono ?_); rintro e w' ⟨rfl, ⟨nd, rfl⟩⟩) | (go_at_call 9; (with_reducible refine (civil_Days.calls b0 b1 b2 n 0 _ A2.out).mono ?_); rintro e w' ⟨rfl, ⟨nd, rfl⟩⟩) | (go_at_call 11; (with_reducible refine (tompionlaw03_awake.calls k true _ A3.out).mono ?_); rintro e w' ⟨rfl, ⟨nd, rfl⟩⟩))
    go_ret
    exact ⟨by first | rfl | (simp; done) | (simp [*]; done), by repeat (first | exact Below.refl _ _ | apply below_alloc | apply pw_below_drewN | apply below_drew1)⟩
  · have c0 : decide (a0 < b0) = false := decide_eq_false (by omega)
    have c1 : (a0 == b0) = true := beq_iff_eq.mpr (by omega)
    have c2 : decide (a1 < b1) = false := decide_eq_false (by omega)
    have c3 : (a1 == b1) = false := beq_eq_false_iff_ne.mpr (by omega)
    have c4 : decide (m < n) = false := decide_eq_false (by omega)
    have c5 : (m == n) = false := beq_eq_false_iff_ne.mpr (by omega)
    clear h0 h1 h2
    go_enter Try.func5, Try.ntmps5
    go_wp2_with (first | (go_at_call 9; (with_reducible refine (civil_Days.calls a0 a1 a2 m 0 _ A1.out).mono ?_); rintro e w' ⟨rfl, ⟨nd, rfl⟩⟩) | (go_at_call 9; (with_reducible refine (civil_Days.calls b0 b1 b2 n 0 _ A2.out).mono ?_); rintro e w' ⟨rfl, ⟨nd, rfl⟩⟩) | (go_at_call 11; (with_reducible refine (tompionlaw03_awake.calls k true _ A3.out).mono ?_); rintro e w' ⟨rfl, ⟨nd, rfl⟩⟩))
    go_ret
    exact ⟨by first | rfl | (simp; done) | (simp [*]; done), by repeat (first | exact Below.refl _ _ | apply below_alloc | apply pw_below_drewN | apply below_drew1)⟩
  · have c0 : decide (a0 < b0) = false := decide_eq_false (by omega)
    have c1 : (a0 == b0) = true := beq_iff_eq.mpr (by omega)
    have c2 : decide (a1 < b1) = false := decide_eq_false (by omega)
    have c3 : (a1 == b1) = true := beq_iff_eq.mpr (by omega)
    have c4 : decide (a2 < b2) = false := decide_eq_false (by omega)
    have c5 : (a2 == b2) = false := beq_eq_false_iff_ne.mpr (by omega)
    have c6 : decide (m < n) = false := decide_eq_false (by omega)
    have c7 : (m == n) = false := beq_eq_false_iff_ne.mpr (by omega)
    clear h0 h3 h1 h2
    go_enter Try.func5, Try.ntmps5
    go_wp2_with (first | (go_at_call 9; (with_reducible refine (civil_Days.calls a0 a1 a2 m 0 _ A1.out).mono ?_); rintro e w' ⟨rfl, ⟨nd, rfl⟩⟩) | (go_at_call 9; (with_reducible refine (civil_Days.calls b0 b1 b2 n 0 _ A2.out).mono ?_); rintro e w' ⟨rfl, ⟨nd, rfl⟩⟩) | (go_at_call 11; (with_reducible refine (tompionlaw03_awake.calls k true _ A3.out).mono ?_); rintro e w' ⟨rfl, ⟨nd, rfl⟩⟩))
    go_ret
    exact ⟨by first | rfl | (simp; done) | (simp [*]; done), by repeat (first | exact Below.refl _ _ | apply below_alloc | apply pw_below_drewN | apply below_drew1)⟩

set_option maxHeartbeats 8000000 in
set_option maxRecDepth 100000 in
theorem ord_no (k : Nat) (a0 a1 a2 b0 b1 b2 m n e f : Int) (w : World) (A1 : Aside0 (civil_Days.f a0 a1 a2 = some (m, e))) (A2 : Aside0 (civil_Days.f b0 b1 b2 = some (n, f))) (A3 : Aside0 (tompionlaw03_awake.f k = some true))
    (p : e ≠ 0 ∨ e = 0 ∧ f ≠ 0) :
    Calls Try.prog 5 #[.agg #[.int .i64 a0, .int .i64 a1, .int .i64 a2], .agg #[.int .i64 b0, .int .i64 b1, .int .i64 b2]] w fun e w' => e = .returned (.bool true) ∧ Below w.heap.size w w' := by
  rcases p with h | ⟨h0, h⟩
  · have c1 : (e != 0) = true := bne_iff_ne.mpr h
    clear h
    go_enter Try.func5, Try.ntmps5
    go_wp2_with (first | (go_at_call 9; (with_reducible refine (civil_Days.calls a0 a1 a2 m e _ A1.out).mono ?_); rintro e w' ⟨rfl, ⟨nd, rfl⟩⟩) | (go_at_call 9; (with_reducible refine (civil_Days.calls b0 b1 b2 n f _ A2.out).mono ?_); rintro e w' ⟨rfl, ⟨nd, rfl⟩⟩) | (go_at_call 11; (with_reducible refine (tompionlaw03_awake.calls k true _ A3.out).mono ?_); rintro e w' ⟨rfl, ⟨nd, rfl⟩⟩))
    go_ret
    exact ⟨by first | rfl | (simp; done) | (simp [*]; done), by repeat (first | exact Below.refl _ _ | apply below_alloc | apply pw_below_drewN | apply below_drew1)⟩
  · have c1 : (e != 0) = false := bne_eq_false_iff_eq.mpr h0
    have c2 : (f != 0) = true := bne_iff_ne.mpr h
    clear h h0
    go_enter Try.func5, Try.ntmps5
    go_wp2_with (first | (go_at_call 9; (with_reducible refine (civil_Days.calls a0 a1 a2 m e _ A1.out).mono ?_); rintro e w' ⟨rfl, ⟨nd, rfl⟩⟩) | (go_at_call 9; (with_reducible refine (civil_Days.calls b0 b1 b2 n f _ A2.out).mono ?_); rintro e w' ⟨rfl, ⟨nd, rfl⟩⟩) | (go_at_call 11; (with_reducible refine (tompionlaw03_awake.calls k true _ A3.out).mono ?_); rintro e w' ⟨rfl, ⟨nd, rfl⟩⟩))
    go_ret
    exact ⟨by first | rfl | (simp; done) | (simp [*]; done), by repeat (first | exact Below.refl _ _ | apply below_alloc | apply pw_below_drewN | apply below_drew1)⟩

theorem ord_walk (a0 a1 a2 b0 b1 b2 : Int) (w : World) :
    Calls Try.prog 5 #[.agg #[.int .i64 a0, .int .i64 a1, .int .i64 a2], .agg #[.int .i64 b0, .int .i64 b1, .int .i64 b2]] w fun e w' => e = .returned (.bool true) ∧ Below w.heap.size w w' := by
  have h3 := @awake_f 9000 (by decide)
  by_cases p : isDate a0 a1 a2
  · by_cases q : isDate b0 b1 b2
    · have h1 : civil_Days.f a0 a1 a2 = some (mo a0 a1 + a2 - 1, 0) := by rw [days_f, if_pos p]
      have h2 : civil_Days.f b0 b1 b2 = some (mo b0 b1 + b2 - 1, 0) := by rw [days_f, if_pos q]
      refine ord_yes 9000 a0 a1 a2 b0 b1 b2 _ _ w ⟨h1⟩ ⟨h2⟩ ⟨h3⟩ ?_
      have i1 := date_in p; have i2 := date_in q
      obtain ⟨_, _, p3, p4, _, _⟩ := p; obtain ⟨_, _, q3, q4, _, _⟩ := q
      rcases Int.lt_trichotomy a0 b0 with r | r | r
      · have := @first_mono (a0 + 1) b0 (by omega); exact .inl ⟨r, by omega⟩
      · subst r
        rcases Int.lt_trichotomy a1 b1 with s | s | s
        · have := @mo_mono a0 (a1 + 1) b1 (by omega) (by omega) (by omega); exact .inr (.inl ⟨rfl, s, by omega⟩)
        · subst s
          rcases Int.lt_trichotomy a2 b2 with u | u | u
          · exact .inr (.inr (.inl ⟨rfl, rfl, u, by omega⟩))
          · subst u; exact .inr (.inr (.inr (.inl ⟨rfl, rfl, rfl, rfl⟩)))
          · exact .inr (.inr (.inr (.inr (.inr (.inr ⟨rfl, rfl, u, by omega⟩)))))
        · have := @mo_mono a0 (b1 + 1) a1 (by omega) (by omega) (by omega); exact .inr (.inr (.inr (.inr (.inr (.inl ⟨rfl, s, by omega⟩)))))
      · have := @first_mono (b0 + 1) a0 (by omega); exact .inr (.inr (.inr (.inr (.inl ⟨r, by omega⟩))))
    · have h1 : civil_Days.f a0 a1 a2 = some (mo a0 a1 + a2 - 1, 0) := by rw [days_f, if_pos p]
      have h2 : civil_Days.f b0 b1 b2 = some (0, 2) := by rw [days_f, if_neg q]
      exact ord_no 9000 a0 a1 a2 b0 b1 b2 _ _ _ _ w ⟨h1⟩ ⟨h2⟩ ⟨h3⟩ (.inr ⟨rfl, by decide⟩)
  · have h1 : civil_Days.f a0 a1 a2 = some (0, 2) := by rw [days_f, if_neg p]
    obtain ⟨n, f, h2⟩ : ∃ n f, civil_Days.f b0 b1 b2 = some (n, f) := by rw [days_f]; split <;> exact ⟨_, _, rfl⟩
    exact ord_no 9000 a0 a1 a2 b0 b1 b2 _ _ _ _ w ⟨h1⟩ ⟨h2⟩ ⟨h3⟩ (.inl (by decide))
end Go.Proofs.Yteeemnnbgahnkaa.Civ
