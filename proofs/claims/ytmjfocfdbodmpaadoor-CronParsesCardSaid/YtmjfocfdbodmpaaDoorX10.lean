/- The functions of the program as plain Lean functions, and the walks that show that the Go text answers so: written by a program (xprint.py) out of the translation; conditions: none beyond those that each theorem names. -/
import Derived.Test.YtmjfocfdbodmpaaDoorX0
import Derived.Test.YtmjfocfdbodmpaaDoorX4
import Derived.Test.YtmjfocfdbodmpaaDoorX8
import Derived.Test.YtmjfocfdbodmpaaDoorX9
namespace Go.Proofs.YtmjfocfdbodmpaaDoor.X
open Go.RowKit Go.Proofs.YtmjfocfdbodmpaaDoorW.PrintWords Go.Proofs.YtmjfocfdbodmpaaDoorW.PrintLast Go.Proofs.YtmjfocfdbodmpaaDoorW.PrintMore
attribute [local go_sem] max2_int min2_int max_two min_two max_three min_three max_four min_four   -- for this text's walks alone
set_option linter.unusedVariables false
set_option linter.unusedSimpArgs false

/-! ### tompionref04_part: function 45 -/
mutual
def tompionref04_part.j0 : Nat → Int → Int → List ByteArray → List ByteArray → Option (Int × Bool)
  | 0, _, _, _, _ => none
  | k + 1, x0, x6, x7, x8 => (tompionref04_low.f x0).bind fun t206 => ((tompionref04_high.f x0).bind fun t207 => (if x0 = 4 then (tompionref04_part.j1 k x0 x6 x7 x8 t206 6) else (tompionref04_part.j1 k x0 x6 x7 x8 t206 t207)))
def tompionref04_part.j1 : Nat → Int → Int → List ByteArray → List ByteArray → Int → Int → Option (Int × Bool)
  | 0, _, _, _, _, _, _ => none
  | k + 1, x0, x6, x7, x8, x9, x10 => if 0 < (x7.length : Int) then (if (rdOf ByteArray.empty x7 0).toList = ([42] : List UInt8) then (tompionref04_part.j2 k x0 x6 x9 x10) else (if (x8.length : Int) > 2 then (some (0, false)) else (if 0 < (x8.length : Int) then ((tompionref04_place.f k x0 (rdOf ByteArray.empty x8 0)).bind fun t210 => (if 0 ≤ (wrap64 ((x8.length : Int) - 1)) then (if (wrap64 ((x8.length : Int) - 1)) < (x8.length : Int) then ((tompionref04_place.f k x0 (rdOf ByteArray.empty x8 (wrap64 ((x8.length : Int) - 1)))).bind fun t212 => (if t210 < 0 then (some (0, false)) else (if t212 < t210 then (some (0, false)) else (tompionref04_part.j2 k x0 x6 t210 t212)))) else (none)) else (none))) else (none)))) else (none)
def tompionref04_part.j2 : Nat → Int → Int → Int → Int → Option (Int × Bool)
  | 0, _, _, _, _ => none
  | k + 1, x0, x6, x9, x10 => tompionref04_part.l0 k x0 x6 x10 0 x9
def tompionref04_part.l0 : Nat → Int → Int → Int → Int → Int → Option (Int × Bool)
  | 0, _, _, _, _, _ => none
  | k + 1, x0, x6, x10, x11, x12 => if x12 ≤ x10 then (if x0 = 4 then (if x12 = 7 then (tompionref04_part.l0 k x0 x6 x10 (Go.bits .or .u64 x11 1) (wrap64 (x12 + x6))) else (if 0 ≤ x12 then (tompionref04_part.l0 k x0 x6 x10 (Go.bits .or .u64 x11 (shl .u64 1 x12)) (wrap64 (x12 + x6))) else (none))) else (if 0 ≤ x12 then (tompionref04_part.l0 k x0 x6 x10 (Go.bits .or .u64 x11 (shl .u64 1 x12)) (wrap64 (x12 + x6))) else (none))) else (some (x11, true))
end
def tompionref04_part.f (k : Nat) (a0 : Int) (a1 : ByteArray) : Option (Int × Bool) := (tompionref04_split.f k a1 47).bind fun t196 => (if (t196.length : Int) > 2 then (some (0, false)) else (if 0 < (t196.length : Int) then ((tompionref04_split.f k (rdOf ByteArray.empty t196 0) 45).bind fun t200 => (if (t196.length : Int) = 2 then (if 1 < (t196.length : Int) then ((tompionref04_number.f k (rdOf ByteArray.empty t196 1)).bind fun t204 => (if t204 < 1 then (some (0, false)) else (if (rdOf ByteArray.empty t196 0).toList = ([42] : List UInt8) then (tompionref04_part.j0 k a0 t204 t196 t200) else (if (t200.length : Int) = 2 then (tompionref04_part.j0 k a0 t204 t196 t200) else (some (0, false)))))) else (none)) else (tompionref04_part.j0 k a0 1 t196 t200))) else (none)))
theorem tompionref04_part.mono_l : ∀ k, (∀ y0 y1 y2 y3, LeO (tompionref04_part.j0 k y0 y1 y2 y3) (tompionref04_part.j0 (k + 1) y0 y1 y2 y3)) ∧ (∀ y0 y1 y2 y3 y4 y5, LeO (tompionref04_part.j1 k y0 y1 y2 y3 y4 y5) (tompionref04_part.j1 (k + 1) y0 y1 y2 y3 y4 y5)) ∧ (∀ y0 y1 y2 y3, LeO (tompionref04_part.j2 k y0 y1 y2 y3) (tompionref04_part.j2 (k + 1) y0 y1 y2 y3)) ∧ (∀ y0 y1 y2 y3 y4, LeO (tompionref04_part.l0 k y0 y1 y2 y3 y4) (tompionref04_part.l0 (k + 1) y0 y1 y2 y3 y4))
  | 0 => ⟨fun _ _ _ _ r h => by simp [tompionref04_part.j0] at h, fun _ _ _ _ _ _ r h => by simp [tompionref04_part.j1] at h, fun _ _ _ _ r h => by simp [tompionref04_part.j2] at h, fun _ _ _ _ _ r h => by simp [tompionref04_part.l0] at h⟩
  | k + 1 => by
    obtain ⟨ih0, ih1, ih2, ih3⟩ := tompionref04_part.mono_l k
    refine ⟨?_, ?_, ?_, ?_⟩
    · intro y0 y1 y2 y3
      unfold tompionref04_part.j0
      repeat' first
      | (with_reducible exact ih0 _ _ _ _)
      | (with_reducible exact ih1 _ _ _ _ _ _)
      | (with_reducible exact ih2 _ _ _ _)
      | (with_reducible exact ih3 _ _ _ _ _)
      | (with_reducible exact tompionref04_number.mono _ _)
      | (with_reducible exact tompionref04_place.mono _ _ _)
      | (with_reducible exact tompionref04_split.mono _ _ _)
      | (with_reducible exact LeO.refl _)
      | (with_reducible exact LeO.none _)
      | (with_reducible refine LeO.ite ?_ ?_)
      | (with_reducible refine LeO.bind ?_ (fun _ => ?_))
      | exact ih0 _ _ _ _
      | exact ih1 _ _ _ _ _ _
      | exact ih2 _ _ _ _
      | exact ih3 _ _ _ _ _
      | exact tompionref04_number.mono _ _
      | exact tompionref04_place.mono _ _ _
      | exact tompionref04_split.mono _ _ _
      | exact LeO.none _
      | refine LeO.ite ?_ ?_
      | refine LeO.bind ?_ (fun _ => ?_)
    · intro y0 y1 y2 y3 y4 y5
      unfold tompionref04_part.j1
      repeat' first
      | (with_reducible exact ih0 _ _ _ _)
      | (with_reducible exact ih1 _ _ _ _ _ _)
      | (with_reducible exact ih2 _ _ _ _)
      | (with_reducible exact ih3 _ _ _ _ _)
      | (with_reducible exact tompionref04_number.mono _ _)
      | (with_reducible exact tompionref04_place.mono _ _ _)
      | (with_reducible exact tompionref04_split.mono _ _ _)
      | (with_reducible exact LeO.refl _)
      | (with_reducible exact LeO.none _)
      | (with_reducible refine LeO.ite ?_ ?_)
      | (with_reducible refine LeO.bind ?_ (fun _ => ?_))
      | exact ih0 _ _ _ _
      | exact ih1 _ _ _ _ _ _
      | exact ih2 _ _ _ _
      | exact ih3 _ _ _ _ _
      | exact tompionref04_number.mono _ _
      | exact tompionref04_place.mono _ _ _
      | exact tompionref04_split.mono _ _ _
      | exact LeO.none _
      | refine LeO.ite ?_ ?_
      | refine LeO.bind ?_ (fun _ => ?_)
    · intro y0 y1 y2 y3
      unfold tompionref04_part.j2
      repeat' first
      | (with_reducible exact ih0 _ _ _ _)
      | (with_reducible exact ih1 _ _ _ _ _ _)
      | (with_reducible exact ih2 _ _ _ _)
      | (with_reducible exact ih3 _ _ _ _ _)
      | (with_reducible exact tompionref04_number.mono _ _)
      | (with_reducible exact tompionref04_place.mono _ _ _)
      | (with_reducible exact tompionref04_split.mono _ _ _)
      | (with_reducible exact LeO.refl _)
      | (with_reducible exact LeO.none _)
      | (with_reducible refine LeO.ite ?_ ?_)
      | (with_reducible refine LeO.bind ?_ (fun _ => ?_))
      | exact ih0 _ _ _ _
      | exact ih1 _ _ _ _ _ _
      | exact ih2 _ _ _ _
      | exact ih3 _ _ _ _ _
      | exact tompionref04_number.mono _ _
      | exact tompionref04_place.mono _ _ _
      | exact tompionref04_split.mono _ _ _
      | exact LeO.none _
      | refine LeO.ite ?_ ?_
      | refine LeO.bind ?_ (fun _ => ?_)
    · intro y0 y1 y2 y3 y4
      unfold tompionref04_part.l0
      repeat' first
      | (with_reducible exact ih0 _ _ _ _)
      | (with_reducible exact ih1 _ _ _ _ _ _)
      | (with_reducible exact ih2 _ _ _ _)
      | (with_reducible exact ih3 _ _ _ _ _)
      | (with_reducible exact tompionref04_number.mono _ _)
      | (with_reducible exact tompionref04_place.mono _ _ _)
      | (with_reducible exact tompionref04_split.mono _ _ _)
      | (with_reducible exact LeO.refl _)
      | (with_reducible exact LeO.none _)
      | (with_reducible refine LeO.ite ?_ ?_)
      | (with_reducible refine LeO.bind ?_ (fun _ => ?_))
      | exact ih0 _ _ _ _
      | exact ih1 _ _ _ _ _ _
      | exact ih2 _ _ _ _
      | exact ih3 _ _ _ _ _
      | exact tompionref04_number.mono _ _
      | exact tompionref04_place.mono _ _ _
      | exact tompionref04_split.mono _ _ _
      | exact LeO.none _
      | refine LeO.ite ?_ ?_
      | refine LeO.bind ?_ (fun _ => ?_)
theorem tompionref04_part.mono : ∀ a0 a1 k, LeO (tompionref04_part.f k a0 a1) (tompionref04_part.f (k + 1) a0 a1) := by
  intro a0 a1 k
  obtain ⟨ih0, ih1, ih2, ih3⟩ := tompionref04_part.mono_l k
  unfold tompionref04_part.f
  repeat' first
      | (with_reducible exact ih0 _ _ _ _)
      | (with_reducible exact ih1 _ _ _ _ _ _)
      | (with_reducible exact ih2 _ _ _ _)
      | (with_reducible exact ih3 _ _ _ _ _)
      | (with_reducible exact tompionref04_number.mono _ _)
      | (with_reducible exact tompionref04_place.mono _ _ _)
      | (with_reducible exact tompionref04_split.mono _ _ _)
      | (with_reducible exact LeO.refl _)
      | (with_reducible exact LeO.none _)
      | (with_reducible refine LeO.ite ?_ ?_)
      | (with_reducible refine LeO.bind ?_ (fun _ => ?_))
      | exact ih0 _ _ _ _
      | exact ih1 _ _ _ _ _ _
      | exact ih2 _ _ _ _
      | exact ih3 _ _ _ _ _
      | exact tompionref04_number.mono _ _
      | exact tompionref04_place.mono _ _ _
      | exact tompionref04_split.mono _ _ _
      | exact LeO.none _
      | refine LeO.ite ?_ ?_
      | refine LeO.bind ?_ (fun _ => ?_)
set_option maxHeartbeats 8000000 in
set_option maxRecDepth 100000 in
theorem tompionref04_part.calls (k : Nat) (a0 : Int) (a1 : ByteArray) (r1 : Int) (r2 : Bool) (w : World) (h : tompionref04_part.f k a0 a1 = some (r1, r2)) :
    Calls Tryd.prog 45 #[.int .i64 a0, .string a1] w fun e w' => e = .returned (.tuple #[.int .u64 r1, .bool r2]) ∧ Below w.heap.size w w' := by
  have HB := Aside0.mk (Below.refl w.heap.size w)
  have H : ((tompionref04_split.f k a1 47).bind fun t196 => (if (t196.length : Int) > 2 then (some (0, false)) else (if 0 < (t196.length : Int) then ((tompionref04_split.f k (rdOf ByteArray.empty t196 0) 45).bind fun t200 => (if (t196.length : Int) = 2 then (if 1 < (t196.length : Int) then ((tompionref04_number.f k (rdOf ByteArray.empty t196 1)).bind fun t204 => (if t204 < 1 then (some (0, false)) else (if (rdOf ByteArray.empty t196 0).toList = ([42] : List UInt8) then (tompionref04_part.j0 k a0 t204 t196 t200) else (if (t200.length : Int) = 2 then (tompionref04_part.j0 k a0 t204 t196 t200) else (some (0, false)))))) else (none)) else (tompionref04_part.j0 k a0 1 t196 t200))) else (none)))) = some (r1, r2) := h
  clear h
  replace H := Option.bind_eq_some_iff.mp H
  obtain ⟨t196, A30, H⟩ := H
  replace H : (if (t196.length : Int) > 2 then (some (0, false)) else (if 0 < (t196.length : Int) then ((tompionref04_split.f k (rdOf ByteArray.empty t196 0) 45).bind fun t200 => (if (t196.length : Int) = 2 then (if 1 < (t196.length : Int) then ((tompionref04_number.f k (rdOf ByteArray.empty t196 1)).bind fun t204 => (if t204 < 1 then (some (0, false)) else (if (rdOf ByteArray.empty t196 0).toList = ([42] : List UInt8) then (tompionref04_part.j0 k a0 t204 t196 t200) else (if (t200.length : Int) = 2 then (tompionref04_part.j0 k a0 t204 t196 t200) else (some (0, false)))))) else (none)) else (tompionref04_part.j0 k a0 1 t196 t200))) else (none))) = some (r1, r2) := H
  have A3 := Aside0.mk A30
  clear A30
  by_cases c4 : (t196.length : Int) > 2
  · rw [if_pos c4] at H
    have c4b0 : decide (2 < (t196.length : Int)) = true := decide_eq_true c4
    have c4b1 : decide (2 < t196.length) = true := decide_eq_true (by omega)
    clear c4
    simp only [Option.some.injEq, Prod.mk.injEq] at H
    obtain ⟨rfl, rfl⟩ := H
    go_enter Tryd.func45, Tryd.ntmps45
    go_wp2_with (first | ((with_reducible refine gate_callee (f := 24) rfl ?_); refine goesL_ (some 14) rfl rfl Tryd.func24 (by kernel_rfl) rfl #[.string a1, .int .u8 47] rfl (by (try simp only [List.map_toArray, List.map_cons, List.map_nil]); first | done | rfl | (simp only [List.length_drop, List.length_take]; rfl)) ?_; (with_reducible refine (tompionref04_split.calls k a1 47 t196 _ A3.out).mono ?_); rintro e w5 ⟨v197, rfl, ho0, hb⟩; refine ⟨_, rfl, ?_⟩; have n0_ := Aside0.mk (Kd.R_lower ho0 (below_size (by repeat (first | (with_reducible first | exact HB.out | apply below_alloc | apply pw_below_drewN | apply below_drew1) | exact HB.out)))); have n1_ := Aside0.mk (below_step (by repeat (first | (with_reducible first | exact HB.out | apply below_alloc | apply pw_below_drewN | apply below_drew1) | exact HB.out)) hb); clear HB; have HO198 := n0_; have HB := n1_; clear n0_ n1_; (try clear hb); (try clear hb2); (try clear hk); (try clear hi); (try clear ho0); obtain ⟨Ao6, co6, eo6⟩ := Kd.R_slice HO198.out; subst eo6))
    go_ret2
    exact ⟨by first | rfl | (simp [errW_none, errW_some] <;> rfl) | (simp [*, errW_none, errW_some] <;> rfl), by repeat (first | (with_reducible first | exact HB.out | apply below_alloc | apply pw_below_drewN | apply below_drew1) | exact HB.out)⟩
  · rw [if_neg c4] at H
    have c4b0 : decide (2 < (t196.length : Int)) = false := decide_eq_false c4
    have c4b1 : decide (2 < t196.length) = false := decide_eq_false (by omega)
    clear c4
    by_cases c7 : 0 < (t196.length : Int)
    · rw [if_pos c7] at H
      have c7b0 : decide (0 < (t196.length : Int)) = true := decide_eq_true c7
      have c7b1 : decide (0 < t196.length) = true := decide_eq_true (by omega)
      clear c7
      replace H := Option.bind_eq_some_iff.mp H
      obtain ⟨t200, A80, H⟩ := H
      replace H : (if (t196.length : Int) = 2 then (if 1 < (t196.length : Int) then ((tompionref04_number.f k (rdOf ByteArray.empty t196 1)).bind fun t204 => (if t204 < 1 then (some (0, false)) else (if (rdOf ByteArray.empty t196 0).toList = ([42] : List UInt8) then (tompionref04_part.j0 k a0 t204 t196 t200) else (if (t200.length : Int) = 2 then (tompionref04_part.j0 k a0 t204 t196 t200) else (some (0, false)))))) else (none)) else (tompionref04_part.j0 k a0 1 t196 t200)) = some (r1, r2) := H
      have A8 := Aside0.mk A80
      clear A80
      have HC9 := Aside0.mk H
      clear H
      go_enter Tryd.func45, Tryd.ntmps45
      go_upto_if 24 with (first | ((with_reducible refine gate_callee (f := 24) rfl ?_); refine goesL_ (some 14) rfl rfl Tryd.func24 (by kernel_rfl) rfl #[.string a1, .int .u8 47] rfl (by (try simp only [List.map_toArray, List.map_cons, List.map_nil]); first | done | rfl | (simp only [List.length_drop, List.length_take]; rfl)) ?_; (with_reducible refine (tompionref04_split.calls k a1 47 t196 _ A3.out).mono ?_); rintro e w10 ⟨v197, rfl, ho0, hb⟩; refine ⟨_, rfl, ?_⟩; have n0_ := Aside0.mk (Kd.R_lower ho0 (below_size (by repeat (first | (with_reducible first | exact HB.out | apply below_alloc | apply pw_below_drewN | apply below_drew1) | exact HB.out)))); have n1_ := Aside0.mk (below_step (by repeat (first | (with_reducible first | exact HB.out | apply below_alloc | apply pw_below_drewN | apply below_drew1) | exact HB.out)) hb); clear HB; have HO198 := n0_; have HB := n1_; clear n0_ n1_; (try clear hb); (try clear hb2); (try clear hk); (try clear hi); (try clear ho0); obtain ⟨Ao11, co11, eo11⟩ := Kd.R_slice HO198.out; subst eo11; have p199 : 0 ≤ (0 : Int) := (by omega); have q199 : 0 < (t196.length : Int) := of_decide_eq_true (by first | (with_reducible assumption) | assumption); obtain ⟨ad199, e199, hx199_0⟩ := Kd.at_string (Kd.R_reads' HO198.out).2.2 0 p199 q199; cases e199; have qi199 : (0 < t196.length) = True := eq_true (by omega); (try rw [show ((0 : Int)).toNat = 0 from rfl] at hx199_0); (try rw [Addr.add_zero'] at hx199_0); replace p199 := eq_true p199; replace q199 := eq_true q199) | ((with_reducible refine gate_callee (f := 24) rfl ?_); refine goesL_ (some 21) rfl rfl Tryd.func24 (by kernel_rfl) rfl #[.string (rdOf ByteArray.empty t196 0), .int .u8 45] rfl (by (try simp only [List.map_toArray, List.map_cons, List.map_nil]); first | done | rfl | (simp only [List.length_drop, List.length_take]; rfl)) ?_; (with_reducible refine (tompionref04_split.calls k (rdOf ByteArray.empty t196 0) 45 t200 _ A8.out).mono ?_); rintro e w12 ⟨v201, rfl, ho0, hb⟩; refine ⟨_, rfl, ?_⟩; have n0_ := Aside0.mk (Kd.R_elder' (by (with_reducible repeat (first | apply Kd.R_alloc | apply Kd.R_drewN | apply Kd.R_drew)); exact HO198.out) (Kd.R_base ho0) hb); have n1_ := Aside0.mk (Kd.R_lower (Kd.R_new' ho0 (Kd.R_lt (by (with_reducible repeat (first | apply Kd.R_alloc | apply Kd.R_drewN | apply Kd.R_drew)); exact HO198.out))) (below_size (by repeat (first | (with_reducible first | exact HB.out | apply below_alloc | apply pw_below_drewN | apply below_drew1) | exact HB.out)))); have n2_ := Aside0.mk (below_step (by repeat (first | (with_reducible first | exact HB.out | apply below_alloc | apply pw_below_drewN | apply below_drew1) | exact HB.out)) hb); clear HO198; clear HB; have HO198 := n0_; have HO202 := n1_; have HB := n2_; clear n0_ n1_ n2_; (try clear hb); (try clear hb2); (try clear hk); (try clear hi); (try clear ho0)))
      (try simp only [Act.put, List.setIfInBounds_toArray, List.set_cons_zero, List.set_cons_succ])
      go_cut [6] (fun v6 wc => ∃ (kq : Nat) (x6_8 : Int), v6 = .int .i64 x6_8 ∧ Aside0 (tompionref04_part.j0 kq a0 x6_8 t196 t200 = some (r1, r2)) ∧ Aside0 (kq ≤ k) ∧ Aside0 (Kd.R Kd.string 9 wc w.heap.size (fun k_ => some k_ ≠ (v201 : Value).ownBlock) (.slice (some ad199) t196.length co11) t196) ∧ Aside0 (Kd.R Kd.string 9 wc w.heap.size (fun k_ => some k_ ≠ ((.slice (some ad199) t196.length co11) : Value).ownBlock) v201 t200) ∧ Aside0 (Below w.heap.size w wc))
      case first =>
        have H := HC9.out
        clear HC9
        by_cases c13 : (t196.length : Int) = 2
        · rw [if_pos c13] at H
          have c13b0 : ((t196.length : Int) == 2) = true := beq_iff_eq.mpr c13
          have c13b1 : ((t196.length : Int) != 2) = false := bne_eq_false_iff_eq.mpr c13
          clear c13
          (first | rw [c13b0] | (simp only [i64_w, i32_w]; rw [c13b0]) | skip)
          by_cases c14 : 1 < (t196.length : Int)
          · rw [if_pos c14] at H
            have c14b0 : decide (1 < (t196.length : Int)) = true := decide_eq_true c14
            have c14b1 : decide (1 < t196.length) = true := decide_eq_true (by omega)
            clear c14
            replace H := Option.bind_eq_some_iff.mp H
            obtain ⟨t204, A150, H⟩ := H
            replace H : (if t204 < 1 then (some (0, false)) else (if (rdOf ByteArray.empty t196 0).toList = ([42] : List UInt8) then (tompionref04_part.j0 k a0 t204 t196 t200) else (if (t200.length : Int) = 2 then (tompionref04_part.j0 k a0 t204 t196 t200) else (some (0, false))))) = some (r1, r2) := H
            have A15 := Aside0.mk A150
            clear A150
            by_cases c16 : t204 < 1
            · rw [if_pos c16] at H
              have c16b0 : decide (t204 < 1) = true := decide_eq_true c16
              clear c16
              simp only [Option.some.injEq, Prod.mk.injEq] at H
              obtain ⟨rfl, rfl⟩ := H
              have p203 : 0 ≤ (1 : Int) := (by omega)
              have q203 : 1 < (t196.length : Int) := of_decide_eq_true (by first | (with_reducible assumption) | assumption)
              obtain ⟨ad203, e203, hx203_0⟩ := Kd.at_string (Kd.R_reads' HO198.out).2.2 1 p203 q203
              obtain rfl : ad199 = ad203 := (by injection e203)
              (try simp only [show (1 : Int).toNat = 1 from rfl, Nat.reduceMul, Nat.reduceEqDiff, Go.Addr.add, ↓reduceIte] at hx203_0)
              have qi203 : (1 < t196.length) = True := eq_true (by omega)
              (try rw [show ((1 : Int)).toNat = 1 from rfl] at hx203_0)
              replace p203 := eq_true p203
              replace q203 := eq_true q203
              go_wp2_with (first | ((with_reducible refine gate_callee (f := 46) rfl ?_); refine goesL_ (some 28) rfl rfl Tryd.func46 (by kernel_rfl) rfl #[.string (rdOf ByteArray.empty t196 1)] rfl (by (try simp only [List.map_toArray, List.map_cons, List.map_nil]); first | done | rfl | (simp only [List.length_drop, List.length_take]; rfl)) ?_; (with_reducible refine (tompionref04_number.calls k (rdOf ByteArray.empty t196 1) t204 _ A15.out).mono ?_); rintro e w' ⟨rfl, ⟨nd, rfl⟩⟩; refine ⟨_, rfl, ?_⟩))
              go_ret2
              exact ⟨by first | rfl | (simp [errW_none, errW_some] <;> rfl) | (simp [*, errW_none, errW_some] <;> rfl), by repeat (first | (with_reducible first | exact HB.out | apply below_alloc | apply pw_below_drewN | apply below_drew1) | exact HB.out)⟩
            · rw [if_neg c16] at H
              have c16b0 : decide (t204 < 1) = false := decide_eq_false c16
              clear c16
              by_cases c17 : (rdOf ByteArray.empty t196 0).toList = ([42] : List UInt8)
              · rw [if_pos c17] at H
                have c17b0 : ((rdOf ByteArray.empty t196 0).toList == ([42] : List UInt8)) = true := beq_iff_eq.mpr c17
                have c17b1 : ((rdOf ByteArray.empty t196 0).toList != ([42] : List UInt8)) = false := bne_eq_false_iff_eq.mpr c17
                clear c17
                have H' := Aside0.mk H
                clear H
                have p203 : 0 ≤ (1 : Int) := (by omega)
                have q203 : 1 < (t196.length : Int) := of_decide_eq_true (by first | (with_reducible assumption) | assumption)
                obtain ⟨ad203, e203, hx203_0⟩ := Kd.at_string (Kd.R_reads' HO198.out).2.2 1 p203 q203
                obtain rfl : ad199 = ad203 := (by injection e203)
                (try simp only [show (1 : Int).toNat = 1 from rfl, Nat.reduceMul, Nat.reduceEqDiff, Go.Addr.add, ↓reduceIte] at hx203_0)
                have qi203 : (1 < t196.length) = True := eq_true (by omega)
                (try rw [show ((1 : Int)).toNat = 1 from rfl] at hx203_0)
                replace p203 := eq_true p203
                replace q203 := eq_true q203
                go_wp2_with (first | ((with_reducible refine gate_callee (f := 46) rfl ?_); refine goesL_ (some 28) rfl rfl Tryd.func46 (by kernel_rfl) rfl #[.string (rdOf ByteArray.empty t196 1)] rfl (by (try simp only [List.map_toArray, List.map_cons, List.map_nil]); first | done | rfl | (simp only [List.length_drop, List.length_take]; rfl)) ?_; (with_reducible refine (tompionref04_number.calls k (rdOf ByteArray.empty t196 1) t204 _ A15.out).mono ?_); rintro e w' ⟨rfl, ⟨nd, rfl⟩⟩; refine ⟨_, rfl, ?_⟩; have p205 : 0 ≤ (0 : Int) := (by omega); have q205 : 0 < (t196.length : Int) := of_decide_eq_true (by first | (with_reducible assumption) | assumption); obtain ⟨ad205, e205, hx205_0⟩ := Kd.at_string (Kd.R_reads' HO198.out).2.2 0 p205 q205; obtain rfl : ad199 = ad205 := (by injection e205); have qi205 : (0 < t196.length) = True := eq_true (by omega); (try rw [show ((0 : Int)).toNat = 0 from rfl] at hx205_0); (try rw [Addr.add_zero'] at hx205_0); replace p205 := eq_true p205; replace q205 := eq_true q205))
                go_meet
                case rel => exact ⟨_, (t204), (by first | rfl | (simp; done) | (simp [*]; done)), H', ⟨by first | omega | exact Nat.le_refl _⟩, ⟨by (with_reducible repeat (first | apply Kd.R_alloc | apply Kd.R_drewN | apply Kd.R_drew)); exact Kd.R_mono HO198.out (fun _ hk => hk.2)⟩, ⟨by (with_reducible repeat (first | apply Kd.R_alloc | apply Kd.R_drewN | apply Kd.R_drew)); exact Kd.R_mono HO202.out (fun _ hk => hk.2)⟩, ⟨by repeat (first | (with_reducible first | exact HB.out | apply below_alloc | apply pw_below_drewN | apply below_drew1) | exact HB.out)⟩⟩
              · rw [if_neg c17] at H
                have c17b0 : ((rdOf ByteArray.empty t196 0).toList == ([42] : List UInt8)) = false := beq_eq_false_iff_ne.mpr c17
                have c17b1 : ((rdOf ByteArray.empty t196 0).toList != ([42] : List UInt8)) = true := bne_iff_ne.mpr c17
                by_cases c18 : (t200.length : Int) = 2
                · rw [if_pos c18] at H
                  have c18b0 : ((t200.length : Int) == 2) = true := beq_iff_eq.mpr c18
                  have c18b1 : ((t200.length : Int) != 2) = false := bne_eq_false_iff_eq.mpr c18
                  clear c18
                  have H' := Aside0.mk H
                  clear H
                  have p203 : 0 ≤ (1 : Int) := (by omega)
                  have q203 : 1 < (t196.length : Int) := of_decide_eq_true (by first | (with_reducible assumption) | assumption)
                  obtain ⟨ad203, e203, hx203_0⟩ := Kd.at_string (Kd.R_reads' HO198.out).2.2 1 p203 q203
                  obtain rfl : ad199 = ad203 := (by injection e203)
                  (try simp only [show (1 : Int).toNat = 1 from rfl, Nat.reduceMul, Nat.reduceEqDiff, Go.Addr.add, ↓reduceIte] at hx203_0)
                  have qi203 : (1 < t196.length) = True := eq_true (by omega)
                  (try rw [show ((1 : Int)).toNat = 1 from rfl] at hx203_0)
                  replace p203 := eq_true p203
                  replace q203 := eq_true q203
                  go_wp2_with (first | ((with_reducible refine gate_callee (f := 46) rfl ?_); refine goesL_ (some 28) rfl rfl Tryd.func46 (by kernel_rfl) rfl #[.string (rdOf ByteArray.empty t196 1)] rfl (by (try simp only [List.map_toArray, List.map_cons, List.map_nil]); first | done | rfl | (simp only [List.length_drop, List.length_take]; rfl)) ?_; (with_reducible refine (tompionref04_number.calls k (rdOf ByteArray.empty t196 1) t204 _ A15.out).mono ?_); rintro e w' ⟨rfl, ⟨nd, rfl⟩⟩; refine ⟨_, rfl, ?_⟩; have p205 : 0 ≤ (0 : Int) := (by omega); have q205 : 0 < (t196.length : Int) := of_decide_eq_true (by first | (with_reducible assumption) | assumption); obtain ⟨ad205, e205, hx205_0⟩ := Kd.at_string (Kd.R_reads' HO198.out).2.2 0 p205 q205; obtain rfl : ad199 = ad205 := (by injection e205); have qi205 : (0 < t196.length) = True := eq_true (by omega); (try rw [show ((0 : Int)).toNat = 0 from rfl] at hx205_0); (try rw [Addr.add_zero'] at hx205_0); replace p205 := eq_true p205; replace q205 := eq_true q205; obtain ⟨Ao19, co19, eo19⟩ := Kd.R_slice HO202.out; subst eo19))
                  go_meet
                  case rel => exact ⟨_, (t204), (by first | rfl | (simp; done) | (simp [*]; done)), H', ⟨by first | omega | exact Nat.le_refl _⟩, ⟨by (with_reducible repeat (first | apply Kd.R_alloc | apply Kd.R_drewN | apply Kd.R_drew)); exact Kd.R_mono HO198.out (fun _ hk => hk.2)⟩, ⟨by (with_reducible repeat (first | apply Kd.R_alloc | apply Kd.R_drewN | apply Kd.R_drew)); exact Kd.R_mono HO202.out (fun _ hk => hk.2)⟩, ⟨by repeat (first | (with_reducible first | exact HB.out | apply below_alloc | apply pw_below_drewN | apply below_drew1) | exact HB.out)⟩⟩
                · rw [if_neg c18] at H
                  have c18b0 : ((t200.length : Int) == 2) = false := beq_eq_false_iff_ne.mpr c18
                  have c18b1 : ((t200.length : Int) != 2) = true := bne_iff_ne.mpr c18
                  simp only [Option.some.injEq, Prod.mk.injEq] at H
                  obtain ⟨rfl, rfl⟩ := H
                  have p203 : 0 ≤ (1 : Int) := (by omega)
                  have q203 : 1 < (t196.length : Int) := of_decide_eq_true (by first | (with_reducible assumption) | assumption)
                  obtain ⟨ad203, e203, hx203_0⟩ := Kd.at_string (Kd.R_reads' HO198.out).2.2 1 p203 q203
                  obtain rfl : ad199 = ad203 := (by injection e203)
                  (try simp only [show (1 : Int).toNat = 1 from rfl, Nat.reduceMul, Nat.reduceEqDiff, Go.Addr.add, ↓reduceIte] at hx203_0)
                  have qi203 : (1 < t196.length) = True := eq_true (by omega)
                  (try rw [show ((1 : Int)).toNat = 1 from rfl] at hx203_0)
                  replace p203 := eq_true p203
                  replace q203 := eq_true q203
                  go_wp2_with (first | ((with_reducible refine gate_callee (f := 46) rfl ?_); refine goesL_ (some 28) rfl rfl Tryd.func46 (by kernel_rfl) rfl #[.string (rdOf ByteArray.empty t196 1)] rfl (by (try simp only [List.map_toArray, List.map_cons, List.map_nil]); first | done | rfl | (simp only [List.length_drop, List.length_take]; rfl)) ?_; (with_reducible refine (tompionref04_number.calls k (rdOf ByteArray.empty t196 1) t204 _ A15.out).mono ?_); rintro e w' ⟨rfl, ⟨nd, rfl⟩⟩; refine ⟨_, rfl, ?_⟩; have p205 : 0 ≤ (0 : Int) := (by omega); have q205 : 0 < (t196.length : Int) := of_decide_eq_true (by first | (with_reducible assumption) | assumption); obtain ⟨ad205, e205, hx205_0⟩ := Kd.at_string (Kd.R_reads' HO198.out).2.2 0 p205 q205; obtain rfl : ad199 = ad205 := (by injection e205); have qi205 : (0 < t196.length) = True := eq_true (by omega); (try rw [show ((0 : Int)).toNat = 0 from rfl] at hx205_0); (try rw [Addr.add_zero'] at hx205_0); replace p205 := eq_true p205; replace q205 := eq_true q205; obtain ⟨Ao20, co20, eo20⟩ := Kd.R_slice HO202.out; subst eo20))
                  go_ret2
                  exact ⟨by first | rfl | (simp [errW_none, errW_some] <;> rfl) | (simp [*, errW_none, errW_some] <;> rfl), by repeat (first | (with_reducible first | exact HB.out | apply below_alloc | apply pw_below_drewN | apply below_drew1) | exact HB.out)⟩
          · rw [if_neg c14] at H
            exact absurd H (by simp)
        · rw [if_neg c13] at H
          have c13b0 : ((t196.length : Int) == 2) = false := beq_eq_false_iff_ne.mpr c13
          have c13b1 : ((t196.length : Int) != 2) = true := bne_iff_ne.mpr c13
          (first | rw [c13b0] | (simp only [i64_w, i32_w]; rw [c13b0]) | skip)
          have H' := Aside0.mk H
          clear H
          go_wp2
          go_meet
          case rel => exact ⟨_, (1), (by first | rfl | (simp; done) | (simp [*]; done)), H', ⟨by first | omega | exact Nat.le_refl _⟩, ⟨by (with_reducible repeat (first | apply Kd.R_alloc | apply Kd.R_drewN | apply Kd.R_drew)); exact Kd.R_mono HO198.out (fun _ hk => hk.2)⟩, ⟨by (with_reducible repeat (first | apply Kd.R_alloc | apply Kd.R_drewN | apply Kd.R_drew)); exact Kd.R_mono HO202.out (fun _ hk => hk.2)⟩, ⟨by repeat (first | (with_reducible first | exact HB.out | apply below_alloc | apply pw_below_drewN | apply below_drew1) | exact HB.out)⟩⟩
      case rest =>
        clear HC9
        try clear c1
        try clear p1
        try clear q1
        try clear hx1
        try clear qi1
        try clear c2
        try clear p2
        try clear q2
        try clear hx2
        try clear qi2
        try clear c4
        try clear c4b0
        try clear c4b1
        try clear c7
        try clear c7b0
        try clear c7b1
        try clear c13
        try clear c13b0
        try clear c13b1
        try clear c14
        try clear c14b0
        try clear c14b1
        try clear c16
        try clear c16b0
        try clear c17
        try clear c17b0
        try clear c17b1
        try clear c18
        try clear c18b0
        try clear c18b1
        try clear p19
        try clear q19
        try clear hx19
        try clear qi19
        try clear p20
        try clear q20
        try clear hx20
        try clear qi20
        try clear hx199_0
        try clear hx203_0
        try clear hx205_0
        try clear p199
        try clear p203
        try clear p205
        try clear q199
        try clear q203
        try clear q205
        obtain ⟨kq, x6_8, rfl, HA, HJ8, HO_7, HO_8, HB⟩ := hcut
        cases kq with
        | zero => exact absurd HA.out (by simp [tompionref04_part.j0])
        | succ kj8 =>
          have H := HA.out
          clear HA
          simp only [tompionref04_part.j0] at H
          replace H := Option.bind_eq_some_iff.mp H
          obtain ⟨t206, A210, H⟩ := H
          replace H : ((tompionref04_high.f a0).bind fun t207 => (if a0 = 4 then (tompionref04_part.j1 kj8 a0 x6_8 t196 t200 t206 6) else (tompionref04_part.j1 kj8 a0 x6_8 t196 t200 t206 t207))) = some (r1, r2) := H
          have A21 := Aside0.mk A210
          clear A210
          replace H := Option.bind_eq_some_iff.mp H
          obtain ⟨t207, A220, H⟩ := H
          replace H : (if a0 = 4 then (tompionref04_part.j1 kj8 a0 x6_8 t196 t200 t206 6) else (tompionref04_part.j1 kj8 a0 x6_8 t196 t200 t206 t207)) = some (r1, r2) := H
          have A22 := Aside0.mk A220
          clear A220
          have HC23 := Aside0.mk H
          clear H
          go_upto_if 47 with (first | ((with_reducible refine gate_callee (f := 50) rfl ?_); refine goesL_ (some 43) rfl rfl Tryd.func50 (by kernel_rfl) rfl #[.int .i64 a0] rfl (by (try simp only [List.map_toArray, List.map_cons, List.map_nil]); first | done | rfl | (simp only [List.length_drop, List.length_take]; rfl)) ?_; (with_reducible refine (tompionref04_low.calls a0 t206 _ A21.out).mono ?_); rintro e w' ⟨rfl, ⟨nd, rfl⟩⟩; refine ⟨_, rfl, ?_⟩) | ((with_reducible refine gate_callee (f := 49) rfl ?_); refine goesL_ (some 45) rfl rfl Tryd.func49 (by kernel_rfl) rfl #[.int .i64 a0] rfl (by (try simp only [List.map_toArray, List.map_cons, List.map_nil]); first | done | rfl | (simp only [List.length_drop, List.length_take]; rfl)) ?_; (with_reducible refine (tompionref04_high.calls a0 t207 _ A22.out).mono ?_); rintro e w24 ⟨rfl, hb⟩; refine ⟨_, rfl, ?_⟩; have n0_ := Aside0.mk (Kd.R_below (by (with_reducible repeat (first | apply Kd.R_alloc | apply Kd.R_drewN | apply Kd.R_drew)); exact HO_7.out) hb); have n1_ := Aside0.mk (Kd.R_below (by (with_reducible repeat (first | apply Kd.R_alloc | apply Kd.R_drewN | apply Kd.R_drew)); exact HO_8.out) hb); have n2_ := Aside0.mk (below_step (by repeat (first | (with_reducible first | exact HB.out | apply below_alloc | apply pw_below_drewN | apply below_drew1) | exact HB.out)) hb); clear HO_7; clear HO_8; clear HB; have HO_7 := n0_; have HO_8 := n1_; have HB := n2_; clear n0_ n1_ n2_; (try clear hb); (try clear hb2); (try clear hk); (try clear hi)))
          (try simp only [Act.put, List.setIfInBounds_toArray, List.set_cons_zero, List.set_cons_succ])
          go_cut [10] (fun v10 wc => ∃ (kq : Nat) (x10_22 : Int), v10 = .int .i64 x10_22 ∧ Aside0 (tompionref04_part.j1 kq a0 x6_8 t196 t200 t206 x10_22 = some (r1, r2)) ∧ Aside0 (kq ≤ kj8) ∧ Aside0 (Kd.R Kd.string 9 wc w.heap.size (fun k_ => some k_ ≠ (v201 : Value).ownBlock) (.slice (some ad199) t196.length co11) t196) ∧ Aside0 (Kd.R Kd.string 9 wc w.heap.size (fun k_ => some k_ ≠ ((.slice (some ad199) t196.length co11) : Value).ownBlock) v201 t200) ∧ Aside0 (Below w.heap.size w wc))
          case first =>
            have H := HC23.out
            clear HC23
            by_cases c25 : a0 = 4
            · rw [if_pos c25] at H
              have c25b0 : (a0 == 4) = true := beq_iff_eq.mpr c25
              have c25b1 : (a0 != 4) = false := bne_eq_false_iff_eq.mpr c25
              clear c25
              (first | rw [c25b0] | (simp only [i64_w, i32_w]; rw [c25b0]) | skip)
              have H' := Aside0.mk H
              clear H
              go_wp2
              go_meet
              case rel => exact ⟨_, (6), (by first | rfl | (simp; done) | (simp [*]; done)), H', ⟨by have := HJ8.out; first | omega | exact Nat.le_refl _⟩, ⟨by (with_reducible repeat (first | apply Kd.R_alloc | apply Kd.R_drewN | apply Kd.R_drew)); exact HO_7.out⟩, ⟨by (with_reducible repeat (first | apply Kd.R_alloc | apply Kd.R_drewN | apply Kd.R_drew)); exact HO_8.out⟩, ⟨by repeat (first | (with_reducible first | exact HB.out | apply below_alloc | apply pw_below_drewN | apply below_drew1) | exact HB.out)⟩⟩
            · rw [if_neg c25] at H
              have c25b0 : (a0 == 4) = false := beq_eq_false_iff_ne.mpr c25
              have c25b1 : (a0 != 4) = true := bne_iff_ne.mpr c25
              (first | rw [c25b0] | (simp only [i64_w, i32_w]; rw [c25b0]) | skip)
              have H' := Aside0.mk H
              clear H
              go_wp2
              go_meet
              case rel => exact ⟨_, (t207), (by first | rfl | (simp; done) | (simp [*]; done)), H', ⟨by have := HJ8.out; first | omega | exact Nat.le_refl _⟩, ⟨by (with_reducible repeat (first | apply Kd.R_alloc | apply Kd.R_drewN | apply Kd.R_drew)); exact HO_7.out⟩, ⟨by (with_reducible repeat (first | apply Kd.R_alloc | apply Kd.R_drewN | apply Kd.R_drew)); exact HO_8.out⟩, ⟨by repeat (first | (with_reducible first | exact HB.out | apply below_alloc | apply pw_below_drewN | apply below_drew1) | exact HB.out)⟩⟩
          case rest =>
            clear HC23
            try clear c1
            try clear p1
            try clear q1
            try clear hx1
            try clear qi1
            try clear c2
            try clear p2
            try clear q2
            try clear hx2
            try clear qi2
            try clear c4
            try clear c4b0
            try clear c4b1
            try clear c5
            try clear c7
            try clear c7b0
            try clear c7b1
            try clear c13
            try clear c13b0
            try clear c13b1
            try clear c14
            try clear c14b0
            try clear c14b1
            try clear c16
            try clear c16b0
            try clear c17
            try clear c17b0
            try clear c17b1
            try clear c18
            try clear c18b0
            try clear c18b1
            try clear p19
            try clear q19
            try clear hx19
            try clear qi19
            try clear p20
            try clear q20
            try clear hx20
            try clear qi20
            try clear c24
            try clear c25
            try clear c25b0
            try clear c25b1
            try clear hx199_0
            try clear hx203_0
            try clear hx205_0
            try clear p1
            try clear p19
            try clear p199
            try clear p2
            try clear p20
            try clear p203
            try clear p205
            try clear q1
            try clear q19
            try clear q199
            try clear q2
            try clear q20
            try clear q203
            try clear q205
            obtain ⟨kq, x10_22, rfl, HA, HJ22, HO_7, HO_8, HB⟩ := hcut
            cases kq with
            | zero => exact absurd HA.out (by simp [tompionref04_part.j1])
            | succ kj22 =>
              have H := HA.out
              clear HA
              simp only [tompionref04_part.j1] at H
              by_cases c26 : 0 < (t196.length : Int)
              · rw [if_pos c26] at H
                have c26b0 : decide (0 < (t196.length : Int)) = true := decide_eq_true c26
                have c26b1 : decide (0 < t196.length) = true := decide_eq_true (by omega)
                clear c26
                have HC27 := Aside0.mk H
                clear H
                have p208 : 0 ≤ (0 : Int) := (by omega)
                have q208 : 0 < (t196.length : Int) := of_decide_eq_true (by first | (with_reducible assumption) | assumption)
                obtain ⟨ad208, e208, hx208_0⟩ := Kd.at_string (Kd.R_reads' HO_7.out).2.2 0 p208 q208
                obtain rfl : ad199 = ad208 := (by injection e208)
                have qi208 : (0 < t196.length) = True := eq_true (by omega)
                (try rw [show ((0 : Int)).toNat = 0 from rfl] at hx208_0)
                (try rw [Addr.add_zero'] at hx208_0)
                replace p208 := eq_true p208
                replace q208 := eq_true q208
                go_upto_if 51 with (fail)
                go_cut [9, 10] (fun v9 v10 wc => ∃ (kq : Nat) (x9_26 : Int) (x10_26 : Int), v9 = .int .i64 x9_26 ∧ v10 = .int .i64 x10_26 ∧ Aside0 (tompionref04_part.j2 kq a0 x6_8 x9_26 x10_26 = some (r1, r2)) ∧ Aside0 (kq ≤ kj22) ∧ Aside0 (Below w.heap.size w wc))
                case first =>
                  have H := HC27.out
                  clear HC27
                  by_cases c28 : (rdOf ByteArray.empty t196 0).toList = ([42] : List UInt8)
                  · rw [if_pos c28] at H
                    have c28b0 : ((rdOf ByteArray.empty t196 0).toList == ([42] : List UInt8)) = true := beq_iff_eq.mpr c28
                    have c28b1 : ((rdOf ByteArray.empty t196 0).toList != ([42] : List UInt8)) = false := bne_eq_false_iff_eq.mpr c28
                    clear c28
                    (first | rw [c28b0] | (simp only [i64_w, i32_w]; rw [c28b0]) | skip)
                    have H' := Aside0.mk H
                    clear H
                    go_wp2
                    go_meet
                    case rel => exact ⟨_, (t206), (x10_22), (by first | rfl | (simp; done) | (simp [*]; done)), (by first | rfl | (simp; done) | (simp [*]; done)), H', ⟨by have := HJ8.out; have := HJ22.out; first | omega | exact Nat.le_refl _⟩, ⟨by repeat (first | (with_reducible first | exact HB.out | apply below_alloc | apply pw_below_drewN | apply below_drew1) | exact HB.out)⟩⟩
                  · rw [if_neg c28] at H
                    have c28b0 : ((rdOf ByteArray.empty t196 0).toList == ([42] : List UInt8)) = false := beq_eq_false_iff_ne.mpr c28
                    have c28b1 : ((rdOf ByteArray.empty t196 0).toList != ([42] : List UInt8)) = true := bne_iff_ne.mpr c28
                    (first | rw [c28b0] | (simp only [i64_w, i32_w]; rw [c28b0]) | skip)
                    by_cases c29 : (t200.length : Int) > 2
                    · rw [if_pos c29] at H
                      have c29b0 : decide (2 < (t200.length : Int)) = true := decide_eq_true c29
                      have c29b1 : decide (2 < t200.length) = true := decide_eq_true (by omega)
                      clear c29
                      simp only [Option.some.injEq, Prod.mk.injEq] at H
                      obtain ⟨rfl, rfl⟩ := H
                      obtain ⟨Ao30, co30, eo30⟩ := Kd.R_slice HO_8.out
                      subst eo30
                      go_wp2
                      go_ret2
                      exact ⟨by first | rfl | (simp [errW_none, errW_some] <;> rfl) | (simp [*, errW_none, errW_some] <;> rfl), by repeat (first | (with_reducible first | exact HB.out | apply below_alloc | apply pw_below_drewN | apply below_drew1) | exact HB.out)⟩
                    · rw [if_neg c29] at H
                      have c29b0 : decide (2 < (t200.length : Int)) = false := decide_eq_false c29
                      have c29b1 : decide (2 < t200.length) = false := decide_eq_false (by omega)
                      clear c29
                      by_cases c31 : 0 < (t200.length : Int)
                      · rw [if_pos c31] at H
                        have c31b0 : decide (0 < (t200.length : Int)) = true := decide_eq_true c31
                        have c31b1 : decide (0 < t200.length) = true := decide_eq_true (by omega)
                        clear c31
                        replace H := Option.bind_eq_some_iff.mp H
                        obtain ⟨t210, A320, H⟩ := H
                        replace H : (if 0 ≤ (wrap64 ((t200.length : Int) - 1)) then (if (wrap64 ((t200.length : Int) - 1)) < (t200.length : Int) then ((tompionref04_place.f kj22 a0 (rdOf ByteArray.empty t200 (wrap64 ((t200.length : Int) - 1)))).bind fun t212 => (if t210 < 0 then (some (0, false)) else (if t212 < t210 then (some (0, false)) else (tompionref04_part.j2 kj22 a0 x6_8 t210 t212)))) else (none)) else (none)) = some (r1, r2) := H
                        have A32 := Aside0.mk A320
                        clear A320
                        obtain ⟨ji33, hji33⟩ : ∃ j_ : Int, (wrap64 ((t200.length : Int) - 1)) = j_ := ⟨_, rfl⟩
                        replace H : (if 0 ≤ (ji33) then (if (ji33) < (t200.length : Int) then ((tompionref04_place.f kj22 a0 (rdOf ByteArray.empty t200 (ji33))).bind fun t212 => (if t210 < 0 then (some (0, false)) else (if t212 < t210 then (some (0, false)) else (tompionref04_part.j2 kj22 a0 x6_8 t210 t212)))) else (none)) else (none)) = some (r1, r2) := by first | (rw [hji33] at H; exact H) | (simp only [hji33] at H ⊢; exact H)
                        (try rw [hji33] at A32)
                        have hji33w : (IntKind.i64.wrap ((t200.length : Int) - 1)) = ji33 := (i64_w _).trans hji33
                        by_cases c34 : 0 ≤ (ji33)
                        · rw [if_pos c34] at H
                          have c34b0 : decide (0 ≤ (ji33)) = true := decide_eq_true c34
                          clear c34
                          by_cases c35 : (ji33) < (t200.length : Int)
                          · rw [if_pos c35] at H
                            have c35b0 : decide ((ji33) < (t200.length : Int)) = true := decide_eq_true c35
                            clear c35
                            replace H := Option.bind_eq_some_iff.mp H
                            obtain ⟨t212, A360, H⟩ := H
                            replace H : (if t210 < 0 then (some (0, false)) else (if t212 < t210 then (some (0, false)) else (tompionref04_part.j2 kj22 a0 x6_8 t210 t212))) = some (r1, r2) := H
                            have A36 := Aside0.mk A360
                            clear A360
                            by_cases c37 : t210 < 0
                            · rw [if_pos c37] at H
                              have c37b0 : decide (t210 < 0) = true := decide_eq_true c37
                              clear c37
                              simp only [Option.some.injEq, Prod.mk.injEq] at H
                              obtain ⟨rfl, rfl⟩ := H
                              obtain ⟨Ao38, co38, eo38⟩ := Kd.R_slice HO_8.out
                              subst eo38
                              have p209 : 0 ≤ (0 : Int) := (by omega)
                              have q209 : 0 < (t200.length : Int) := of_decide_eq_true (by first | (with_reducible assumption) | assumption)
                              obtain ⟨ad209, e209, hx209_0⟩ := Kd.at_string (Kd.R_reads' HO_8.out).2.2 0 p209 q209
                              cases e209
                              have qi209 : (0 < t200.length) = True := eq_true (by omega)
                              (try rw [show ((0 : Int)).toNat = 0 from rfl] at hx209_0)
                              (try rw [Addr.add_zero'] at hx209_0)
                              replace p209 := eq_true p209
                              replace q209 := eq_true q209
                              go_wp2_with (first | ((with_reducible refine gate_callee (f := 58) rfl ?_); refine goesL_ (some 59) rfl rfl Tryd.func58 (by kernel_rfl) rfl #[.int .i64 a0, .string (rdOf ByteArray.empty t200 0)] rfl (by (try simp only [List.map_toArray, List.map_cons, List.map_nil]); first | done | rfl | (simp only [List.length_drop, List.length_take]; rfl)) ?_; (with_reducible refine (tompionref04_place.calls kj22 a0 (rdOf ByteArray.empty t200 0) t210 _ A32.out).mono ?_); rintro e w39 ⟨rfl, hb⟩; refine ⟨_, rfl, ?_⟩; have n0_ := Aside0.mk (Kd.R_below (by (with_reducible repeat (first | apply Kd.R_alloc | apply Kd.R_drewN | apply Kd.R_drew)); exact HO_7.out) hb); have n1_ := Aside0.mk (Kd.R_below (by (with_reducible repeat (first | apply Kd.R_alloc | apply Kd.R_drewN | apply Kd.R_drew)); exact HO_8.out) hb); have n2_ := Aside0.mk (below_step (by repeat (first | (with_reducible first | exact HB.out | apply below_alloc | apply pw_below_drewN | apply below_drew1) | exact HB.out)) hb); clear HO_7; clear HO_8; clear HB; have HO_7 := n0_; have HO_8 := n1_; have HB := n2_; clear n0_ n1_ n2_; (try clear hb); (try clear hb2); (try clear hk); (try clear hi); have p211 : 0 ≤ ((ji33) : Int) := of_decide_eq_true (by first | (with_reducible assumption) | assumption); have q211 : (ji33) < (t200.length : Int) := of_decide_eq_true (by first | (with_reducible assumption) | assumption); obtain ⟨ad211, e211, hx211_0⟩ := Kd.at_string (Kd.R_reads' HO_8.out).2.2 (ji33) p211 q211; obtain rfl : ad209 = ad211 := (by injection e211); replace p211 := eq_true p211; replace q211 := eq_true q211) | ((with_reducible refine gate_callee (f := 58) rfl ?_); refine goesL_ (some 67) rfl rfl Tryd.func58 (by kernel_rfl) rfl #[.int .i64 a0, .string (rdOf ByteArray.empty t200 (ji33))] rfl (by (try simp only [List.map_toArray, List.map_cons, List.map_nil]); first | done | (simp only [hji33]; rfl) | rfl | (simp only [List.length_drop, List.length_take]; rfl)) ?_; (with_reducible refine (tompionref04_place.calls kj22 a0 (rdOf ByteArray.empty t200 (ji33)) t212 _ A36.out).mono ?_); rintro e w40 ⟨rfl, hb⟩; refine ⟨_, rfl, ?_⟩; have n0_ := Aside0.mk (Kd.R_below (by (with_reducible repeat (first | apply Kd.R_alloc | apply Kd.R_drewN | apply Kd.R_drew)); exact HO_7.out) hb); have n1_ := Aside0.mk (Kd.R_below (by (with_reducible repeat (first | apply Kd.R_alloc | apply Kd.R_drewN | apply Kd.R_drew)); exact HO_8.out) hb); have n2_ := Aside0.mk (below_step (by repeat (first | (with_reducible first | exact HB.out | apply below_alloc | apply pw_below_drewN | apply below_drew1) | exact HB.out)) hb); clear HO_7; clear HO_8; clear HB; have HO_7 := n0_; have HO_8 := n1_; have HB := n2_; clear n0_ n1_ n2_; (try clear hb); (try clear hb2); (try clear hk); (try clear hi)))
                              go_ret2
                              exact ⟨by first | rfl | (simp [errW_none, errW_some] <;> rfl) | (simp only [← hji33]; first | rfl | (simp [errW_none, errW_some] <;> rfl)) | (simp [*, errW_none, errW_some] <;> rfl), by repeat (first | (with_reducible first | exact HB.out | apply below_alloc | apply pw_below_drewN | apply below_drew1) | exact HB.out)⟩
                            · rw [if_neg c37] at H
                              have c37b0 : decide (t210 < 0) = false := decide_eq_false c37
                              clear c37
                              by_cases c41 : t212 < t210
                              · rw [if_pos c41] at H
                                have c41b0 : decide (t212 < t210) = true := decide_eq_true c41
                                clear c41
                                simp only [Option.some.injEq, Prod.mk.injEq] at H
                                obtain ⟨rfl, rfl⟩ := H
                                obtain ⟨Ao42, co42, eo42⟩ := Kd.R_slice HO_8.out
                                subst eo42
                                have p209 : 0 ≤ (0 : Int) := (by omega)
                                have q209 : 0 < (t200.length : Int) := of_decide_eq_true (by first | (with_reducible assumption) | assumption)
                                obtain ⟨ad209, e209, hx209_0⟩ := Kd.at_string (Kd.R_reads' HO_8.out).2.2 0 p209 q209
                                cases e209
                                have qi209 : (0 < t200.length) = True := eq_true (by omega)
                                (try rw [show ((0 : Int)).toNat = 0 from rfl] at hx209_0)
                                (try rw [Addr.add_zero'] at hx209_0)
                                replace p209 := eq_true p209
                                replace q209 := eq_true q209
                                go_wp2_with (first | ((with_reducible refine gate_callee (f := 58) rfl ?_); refine goesL_ (some 59) rfl rfl Tryd.func58 (by kernel_rfl) rfl #[.int .i64 a0, .string (rdOf ByteArray.empty t200 0)] rfl (by (try simp only [List.map_toArray, List.map_cons, List.map_nil]); first | done | rfl | (simp only [List.length_drop, List.length_take]; rfl)) ?_; (with_reducible refine (tompionref04_place.calls kj22 a0 (rdOf ByteArray.empty t200 0) t210 _ A32.out).mono ?_); rintro e w43 ⟨rfl, hb⟩; refine ⟨_, rfl, ?_⟩; have n0_ := Aside0.mk (Kd.R_below (by (with_reducible repeat (first | apply Kd.R_alloc | apply Kd.R_drewN | apply Kd.R_drew)); exact HO_7.out) hb); have n1_ := Aside0.mk (Kd.R_below (by (with_reducible repeat (first | apply Kd.R_alloc | apply Kd.R_drewN | apply Kd.R_drew)); exact HO_8.out) hb); have n2_ := Aside0.mk (below_step (by repeat (first | (with_reducible first | exact HB.out | apply below_alloc | apply pw_below_drewN | apply below_drew1) | exact HB.out)) hb); clear HO_7; clear HO_8; clear HB; have HO_7 := n0_; have HO_8 := n1_; have HB := n2_; clear n0_ n1_ n2_; (try clear hb); (try clear hb2); (try clear hk); (try clear hi); have p211 : 0 ≤ ((ji33) : Int) := of_decide_eq_true (by first | (with_reducible assumption) | assumption); have q211 : (ji33) < (t200.length : Int) := of_decide_eq_true (by first | (with_reducible assumption) | assumption); obtain ⟨ad211, e211, hx211_0⟩ := Kd.at_string (Kd.R_reads' HO_8.out).2.2 (ji33) p211 q211; obtain rfl : ad209 = ad211 := (by injection e211); replace p211 := eq_true p211; replace q211 := eq_true q211) | ((with_reducible refine gate_callee (f := 58) rfl ?_); refine goesL_ (some 67) rfl rfl Tryd.func58 (by kernel_rfl) rfl #[.int .i64 a0, .string (rdOf ByteArray.empty t200 (ji33))] rfl (by (try simp only [List.map_toArray, List.map_cons, List.map_nil]); first | done | (simp only [hji33]; rfl) | rfl | (simp only [List.length_drop, List.length_take]; rfl)) ?_; (with_reducible refine (tompionref04_place.calls kj22 a0 (rdOf ByteArray.empty t200 (ji33)) t212 _ A36.out).mono ?_); rintro e w44 ⟨rfl, hb⟩; refine ⟨_, rfl, ?_⟩; have n0_ := Aside0.mk (Kd.R_below (by (with_reducible repeat (first | apply Kd.R_alloc | apply Kd.R_drewN | apply Kd.R_drew)); exact HO_7.out) hb); have n1_ := Aside0.mk (Kd.R_below (by (with_reducible repeat (first | apply Kd.R_alloc | apply Kd.R_drewN | apply Kd.R_drew)); exact HO_8.out) hb); have n2_ := Aside0.mk (below_step (by repeat (first | (with_reducible first | exact HB.out | apply below_alloc | apply pw_below_drewN | apply below_drew1) | exact HB.out)) hb); clear HO_7; clear HO_8; clear HB; have HO_7 := n0_; have HO_8 := n1_; have HB := n2_; clear n0_ n1_ n2_; (try clear hb); (try clear hb2); (try clear hk); (try clear hi)))
                                go_ret2
                                exact ⟨by first | rfl | (simp [errW_none, errW_some] <;> rfl) | (simp only [← hji33]; first | rfl | (simp [errW_none, errW_some] <;> rfl)) | (simp [*, errW_none, errW_some] <;> rfl), by repeat (first | (with_reducible first | exact HB.out | apply below_alloc | apply pw_below_drewN | apply below_drew1) | exact HB.out)⟩
                              · rw [if_neg c41] at H
                                have c41b0 : decide (t212 < t210) = false := decide_eq_false c41
                                clear c41
                                have H' := Aside0.mk H
                                clear H
                                obtain ⟨Ao45, co45, eo45⟩ := Kd.R_slice HO_8.out
                                subst eo45
                                have p209 : 0 ≤ (0 : Int) := (by omega)
                                have q209 : 0 < (t200.length : Int) := of_decide_eq_true (by first | (with_reducible assumption) | assumption)
                                obtain ⟨ad209, e209, hx209_0⟩ := Kd.at_string (Kd.R_reads' HO_8.out).2.2 0 p209 q209
                                cases e209
                                have qi209 : (0 < t200.length) = True := eq_true (by omega)
                                (try rw [show ((0 : Int)).toNat = 0 from rfl] at hx209_0)
                                (try rw [Addr.add_zero'] at hx209_0)
                                replace p209 := eq_true p209
                                replace q209 := eq_true q209
                                go_wp2_with (first | ((with_reducible refine gate_callee (f := 58) rfl ?_); refine goesL_ (some 59) rfl rfl Tryd.func58 (by kernel_rfl) rfl #[.int .i64 a0, .string (rdOf ByteArray.empty t200 0)] rfl (by (try simp only [List.map_toArray, List.map_cons, List.map_nil]); first | done | rfl | (simp only [List.length_drop, List.length_take]; rfl)) ?_; (with_reducible refine (tompionref04_place.calls kj22 a0 (rdOf ByteArray.empty t200 0) t210 _ A32.out).mono ?_); rintro e w46 ⟨rfl, hb⟩; refine ⟨_, rfl, ?_⟩; have n0_ := Aside0.mk (Kd.R_below (by (with_reducible repeat (first | apply Kd.R_alloc | apply Kd.R_drewN | apply Kd.R_drew)); exact HO_7.out) hb); have n1_ := Aside0.mk (Kd.R_below (by (with_reducible repeat (first | apply Kd.R_alloc | apply Kd.R_drewN | apply Kd.R_drew)); exact HO_8.out) hb); have n2_ := Aside0.mk (below_step (by repeat (first | (with_reducible first | exact HB.out | apply below_alloc | apply pw_below_drewN | apply below_drew1) | exact HB.out)) hb); clear HO_7; clear HO_8; clear HB; have HO_7 := n0_; have HO_8 := n1_; have HB := n2_; clear n0_ n1_ n2_; (try clear hb); (try clear hb2); (try clear hk); (try clear hi); have p211 : 0 ≤ ((ji33) : Int) := of_decide_eq_true (by first | (with_reducible assumption) | assumption); have q211 : (ji33) < (t200.length : Int) := of_decide_eq_true (by first | (with_reducible assumption) | assumption); obtain ⟨ad211, e211, hx211_0⟩ := Kd.at_string (Kd.R_reads' HO_8.out).2.2 (ji33) p211 q211; obtain rfl : ad209 = ad211 := (by injection e211); replace p211 := eq_true p211; replace q211 := eq_true q211) | ((with_reducible refine gate_callee (f := 58) rfl ?_); refine goesL_ (some 67) rfl rfl Tryd.func58 (by kernel_rfl) rfl #[.int .i64 a0, .string (rdOf ByteArray.empty t200 (ji33))] rfl (by (try simp only [List.map_toArray, List.map_cons, List.map_nil]); first | done | (simp only [hji33]; rfl) | rfl | (simp only [List.length_drop, List.length_take]; rfl)) ?_; (with_reducible refine (tompionref04_place.calls kj22 a0 (rdOf ByteArray.empty t200 (ji33)) t212 _ A36.out).mono ?_); rintro e w47 ⟨rfl, hb⟩; refine ⟨_, rfl, ?_⟩; have n0_ := Aside0.mk (Kd.R_below (by (with_reducible repeat (first | apply Kd.R_alloc | apply Kd.R_drewN | apply Kd.R_drew)); exact HO_7.out) hb); have n1_ := Aside0.mk (Kd.R_below (by (with_reducible repeat (first | apply Kd.R_alloc | apply Kd.R_drewN | apply Kd.R_drew)); exact HO_8.out) hb); have n2_ := Aside0.mk (below_step (by repeat (first | (with_reducible first | exact HB.out | apply below_alloc | apply pw_below_drewN | apply below_drew1) | exact HB.out)) hb); clear HO_7; clear HO_8; clear HB; have HO_7 := n0_; have HO_8 := n1_; have HB := n2_; clear n0_ n1_ n2_; (try clear hb); (try clear hb2); (try clear hk); (try clear hi)))
                                go_meet
                                case rel => exact ⟨_, (t210), (t212), (by first | rfl | (simp; done) | (simp [*]; done)), (by first | rfl | (simp; done) | (simp [*]; done)), H', ⟨by have := HJ8.out; have := HJ22.out; first | omega | exact Nat.le_refl _⟩, ⟨by repeat (first | (with_reducible first | exact HB.out | apply below_alloc | apply pw_below_drewN | apply below_drew1) | exact HB.out)⟩⟩
                          · rw [if_neg c35] at H
                            exact absurd H (by simp)
                        · rw [if_neg c34] at H
                          exact absurd H (by simp)
                      · rw [if_neg c31] at H
                        exact absurd H (by simp)
                case rest =>
                  clear HC27
                  try clear c1
                  try clear p1
                  try clear q1
                  try clear hx1
                  try clear qi1
                  try clear c2
                  try clear p2
                  try clear q2
                  try clear hx2
                  try clear qi2
                  try clear c3
                  try clear c4
                  try clear c4b0
                  try clear c4b1
                  try clear c5
                  try clear p6
                  try clear c7
                  try clear c7b0
                  try clear c7b1
                  try clear c13
                  try clear c13b0
                  try clear c13b1
                  try clear c14
                  try clear c14b0
                  try clear c14b1
                  try clear c16
                  try clear c16b0
                  try clear c17
                  try clear c17b0
                  try clear c17b1
                  try clear c18
                  try clear c18b0
                  try clear c18b1
                  try clear p19
                  try clear q19
                  try clear hx19
                  try clear qi19
                  try clear p20
                  try clear q20
                  try clear hx20
                  try clear qi20
                  try clear p21
                  try clear q21
                  try clear hx21
                  try clear c24
                  try clear c25
                  try clear c25b0
                  try clear c25b1
                  try clear c26
                  try clear c26b0
                  try clear c26b1
                  try clear c28
                  try clear c28b0
                  try clear c28b1
                  try clear c29
                  try clear c29b0
                  try clear c29b1
                  try clear c31
                  try clear c31b0
                  try clear c31b1
                  try clear c34
                  try clear c34b0
                  try clear c35
                  try clear c35b0
                  try clear c37
                  try clear c37b0
                  try clear c41
                  try clear c41b0
                  try clear c45
                  try clear c46
                  try clear hx199_0
                  try clear hx203_0
                  try clear hx205_0
                  try clear hx208_0
                  try clear hx209_0
                  try clear hx211_0
                  try clear p1
                  try clear p19
                  try clear p199
                  try clear p2
                  try clear p20
                  try clear p203
                  try clear p205
                  try clear p208
                  try clear p209
                  try clear p211
                  try clear q1
                  try clear q19
                  try clear q199
                  try clear q2
                  try clear q20
                  try clear q203
                  try clear q205
                  try clear q208
                  try clear q209
                  try clear q211
                  obtain ⟨kq, x9_26, x10_26, rfl, rfl, HA, HJ26, HB⟩ := hcut
                  cases kq with
                  | zero => exact absurd HA.out (by simp [tompionref04_part.j2])
                  | succ kj26 =>
                    have H := HA.out
                    clear HA
                    simp only [tompionref04_part.j2] at H
                    have H' := Aside0.mk H
                    clear H
                    go_wp2
                    go_loopg [11, 12] kj26 (fun kq v11 v12 w' => ∃ (x11_4 : Int) (x12_4 : Int), v11 = .int .u64 x11_4 ∧ v12 = .int .i64 x12_4 ∧ Aside0 (tompionref04_part.l0 kq a0 x6_8 x10_26 x11_4 x12_4 = some (r1, r2)) ∧ Aside0 (kq ≤ kj26) ∧ Aside0 (Below w.heap.size w w'))
                    case atStart => exact ⟨(0), (x9_26), (by first | rfl | (simp; done) | (simp [*]; done)), (by first | rfl | (simp; done) | (simp [*]; done)), H', ⟨Nat.le_refl _⟩, ⟨by repeat (first | (with_reducible first | exact HB.out | apply below_alloc | apply pw_below_drewN | apply below_drew1) | exact HB.out)⟩⟩
                    case round =>
                      clear H'
                      try clear c1
                      try clear p1
                      try clear q1
                      try clear hx1
                      try clear qi1
                      try clear c2
                      try clear p2
                      try clear q2
                      try clear hx2
                      try clear qi2
                      try clear c3
                      try clear c4
                      try clear c4b0
                      try clear c4b1
                      try clear c5
                      try clear p6
                      try clear c7
                      try clear c7b0
                      try clear c7b1
                      try clear c13
                      try clear c13b0
                      try clear c13b1
                      try clear c14
                      try clear c14b0
                      try clear c14b1
                      try clear c16
                      try clear c16b0
                      try clear c17
                      try clear c17b0
                      try clear c17b1
                      try clear c18
                      try clear c18b0
                      try clear c18b1
                      try clear p19
                      try clear q19
                      try clear hx19
                      try clear qi19
                      try clear p20
                      try clear q20
                      try clear hx20
                      try clear qi20
                      try clear p21
                      try clear q21
                      try clear hx21
                      try clear c24
                      try clear c25
                      try clear c25b0
                      try clear c25b1
                      try clear c26
                      try clear c26b0
                      try clear c26b1
                      try clear c28
                      try clear c28b0
                      try clear c28b1
                      try clear c29
                      try clear c29b0
                      try clear c29b1
                      try clear c31
                      try clear c31b0
                      try clear c31b1
                      try clear c34
                      try clear c34b0
                      try clear c35
                      try clear c35b0
                      try clear c37
                      try clear c37b0
                      try clear c41
                      try clear c41b0
                      try clear c45
                      try clear c46
                      try clear hx199_0
                      try clear hx203_0
                      try clear hx205_0
                      try clear hx208_0
                      try clear hx209_0
                      try clear hx211_0
                      try clear p1
                      try clear p19
                      try clear p199
                      try clear p2
                      try clear p20
                      try clear p203
                      try clear p205
                      try clear p208
                      try clear p209
                      try clear p21
                      try clear p211
                      try clear p6
                      try clear q1
                      try clear q19
                      try clear q199
                      try clear q2
                      try clear q20
                      try clear q203
                      try clear q205
                      try clear q208
                      try clear q209
                      try clear q21
                      try clear q211
                      obtain ⟨x11_4, x12_4, rfl, rfl, HA, HK4, HB⟩ := hrel
                      cases gk with
                      | zero => exact absurd HA.out (by simp [tompionref04_part.l0])
                      | succ k4 =>
                        have H := HA.out
                        clear HA
                        simp only [tompionref04_part.l0] at H
                        by_cases c48 : x12_4 ≤ x10_26
                        · rw [if_pos c48] at H
                          have c48b0 : decide (x12_4 ≤ x10_26) = true := decide_eq_true c48
                          clear c48
                          by_cases c49 : a0 = 4
                          · rw [if_pos c49] at H
                            have c49b0 : (a0 == 4) = true := beq_iff_eq.mpr c49
                            have c49b1 : (a0 != 4) = false := bne_eq_false_iff_eq.mpr c49
                            clear c49
                            by_cases c50 : x12_4 = 7
                            · rw [if_pos c50] at H
                              have c50b0 : (x12_4 == 7) = true := beq_iff_eq.mpr c50
                              have c50b1 : (x12_4 != 7) = false := bne_eq_false_iff_eq.mpr c50
                              clear c50
                              have H' := Aside0.mk H
                              clear H
                              go_wp2
                              go_roundg k4
                              case measure => have := HJ8.out; have := HJ22.out; have := HJ26.out; have := HK4.out; omega
                              case rel => exact ⟨(Go.bits .or .u64 x11_4 1), (wrap64 (x12_4 + x6_8)), (by first | rfl | (simp; done) | (simp [*]; done)), (by first | rfl | (simp; done) | (simp [*]; done)), H', ⟨by have := HJ8.out; have := HJ22.out; have := HJ26.out; have := HK4.out; omega⟩, ⟨by repeat (first | (with_reducible first | exact HB.out | apply below_alloc | apply pw_below_drewN | apply below_drew1) | exact HB.out)⟩⟩
                            · rw [if_neg c50] at H
                              have c50b0 : (x12_4 == 7) = false := beq_eq_false_iff_ne.mpr c50
                              have c50b1 : (x12_4 != 7) = true := bne_iff_ne.mpr c50
                              by_cases c51 : 0 ≤ x12_4
                              · rw [if_pos c51] at H
                                have c51b0 := eq_true c51
                                have c51b1 : decide (0 ≤ x12_4) = true := decide_eq_true c51
                                clear c51
                                obtain ⟨ji52, hji52⟩ : ∃ j_ : Int, (shl .u64 1 x12_4) = j_ := ⟨_, rfl⟩
                                replace H : (tompionref04_part.l0 k4 a0 x6_8 x10_26 (Go.bits .or .u64 x11_4 (ji52)) (wrap64 (x12_4 + x6_8))) = some (r1, r2) := by first | (rw [hji52] at H; exact H) | (simp only [hji52] at H ⊢; exact H)
                                have hji52_ : (IntKind.u64.wrap (1 * 2 ^ min x12_4.toNat 64)) = ji52 := hji52
                                have hji52z : x12_4 ≤ 64 → (IntKind.u64.wrap (1 * 2 ^ x12_4.toNat)) = ji52 := shl_small hji52
                                have hji52u : (IntKind.u64.wrap (2 ^ min x12_4.toNat 64)) = ji52 := by have h_ := hji52_; rw [Int.one_mul] at h_; exact h_
                                have hji52v : x12_4 ≤ 64 → (IntKind.u64.wrap (2 ^ x12_4.toNat)) = ji52 := fun hle_ => by have h_ := hji52z hle_; rw [Int.one_mul] at h_; exact h_
                                have H' := Aside0.mk H
                                clear H
                                go_wp2
                                go_roundg k4
                                case measure => have := HJ8.out; have := HJ22.out; have := HJ26.out; have := HK4.out; omega
                                case rel => exact ⟨(Go.bits .or .u64 x11_4 (ji52)), (wrap64 (x12_4 + x6_8)), (by first | rfl | (simp; done) | (simp only [← hji52] <;> (first | rfl | simp)) | (simp [*]; done)), (by first | rfl | (simp; done) | (simp [*]; done)), H', ⟨by have := HJ8.out; have := HJ22.out; have := HJ26.out; have := HK4.out; omega⟩, ⟨by repeat (first | (with_reducible first | exact HB.out | apply below_alloc | apply pw_below_drewN | apply below_drew1) | exact HB.out)⟩⟩
                              · rw [if_neg c51] at H
                                exact absurd H (by simp)
                          · rw [if_neg c49] at H
                            have c49b0 : (a0 == 4) = false := beq_eq_false_iff_ne.mpr c49
                            have c49b1 : (a0 != 4) = true := bne_iff_ne.mpr c49
                            by_cases c53 : 0 ≤ x12_4
                            · rw [if_pos c53] at H
                              have c53b0 := eq_true c53
                              have c53b1 : decide (0 ≤ x12_4) = true := decide_eq_true c53
                              clear c53
                              obtain ⟨ji54, hji54⟩ : ∃ j_ : Int, (shl .u64 1 x12_4) = j_ := ⟨_, rfl⟩
                              replace H : (tompionref04_part.l0 k4 a0 x6_8 x10_26 (Go.bits .or .u64 x11_4 (ji54)) (wrap64 (x12_4 + x6_8))) = some (r1, r2) := by first | (rw [hji54] at H; exact H) | (simp only [hji54] at H ⊢; exact H)
                              have hji54_ : (IntKind.u64.wrap (1 * 2 ^ min x12_4.toNat 64)) = ji54 := hji54
                              have hji54z : x12_4 ≤ 64 → (IntKind.u64.wrap (1 * 2 ^ x12_4.toNat)) = ji54 := shl_small hji54
                              have hji54u : (IntKind.u64.wrap (2 ^ min x12_4.toNat 64)) = ji54 := by have h_ := hji54_; rw [Int.one_mul] at h_; exact h_
                              have hji54v : x12_4 ≤ 64 → (IntKind.u64.wrap (2 ^ x12_4.toNat)) = ji54 := fun hle_ => by have h_ := hji54z hle_; rw [Int.one_mul] at h_; exact h_
                              have H' := Aside0.mk H
                              clear H
                              go_wp2
                              go_roundg k4
                              case measure => have := HJ8.out; have := HJ22.out; have := HJ26.out; have := HK4.out; omega
                              case rel => exact ⟨(Go.bits .or .u64 x11_4 (ji54)), (wrap64 (x12_4 + x6_8)), (by first | rfl | (simp; done) | (simp only [← hji54] <;> (first | rfl | simp)) | (simp [*]; done)), (by first | rfl | (simp; done) | (simp [*]; done)), H', ⟨by have := HJ8.out; have := HJ22.out; have := HJ26.out; have := HK4.out; omega⟩, ⟨by repeat (first | (with_reducible first | exact HB.out | apply below_alloc | apply pw_below_drewN | apply below_drew1) | exact HB.out)⟩⟩
                            · rw [if_neg c53] at H
                              exact absurd H (by simp)
                        · rw [if_neg c48] at H
                          have c48b0 : decide (x12_4 ≤ x10_26) = false := decide_eq_false c48
                          clear c48
                          simp only [Option.some.injEq, Prod.mk.injEq] at H
                          obtain ⟨rfl, rfl⟩ := H
                          go_wp2
                          go_ret2
                          exact ⟨by first | rfl | (simp [errW_none, errW_some] <;> rfl) | (simp [*, errW_none, errW_some] <;> rfl), by repeat (first | (with_reducible first | exact HB.out | apply below_alloc | apply pw_below_drewN | apply below_drew1) | exact HB.out)⟩
              · rw [if_neg c26] at H
                exact absurd H (by simp)
    · rw [if_neg c7] at H
      exact absurd H (by simp)

end Go.Proofs.YtmjfocfdbodmpaaDoor.X
