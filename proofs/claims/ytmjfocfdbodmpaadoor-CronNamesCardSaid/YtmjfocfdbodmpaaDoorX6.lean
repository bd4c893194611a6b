/- The functions of the program as plain Lean functions, and the walks that show that the Go text answers so: written by a program (xprint.py) out of the translation; conditions: none beyond those that each theorem names. -/
import Derived.Test.YtmjfocfdbodmpaaDoorX0
import Derived.Test.YtmjfocfdbodmpaaDoorX2
import Derived.Test.YtmjfocfdbodmpaaDoorX4
import Derived.Test.YtmjfocfdbodmpaaDoorX5
namespace Go.Proofs.YtmjfocfdbodmpaaDoor.X
open Go.RowKit Go.Proofs.YtmjfocfdbodmpaaDoorW.PrintWords Go.Proofs.YtmjfocfdbodmpaaDoorW.PrintLast Go.Proofs.YtmjfocfdbodmpaaDoorW.PrintMore
attribute [local go_sem] max2_int min2_int max_two min_two max_three min_three max_four min_four   -- for this text's walks alone
set_option linter.unusedVariables false
set_option linter.unusedSimpArgs false

/-! ### cron_list: function 31 -/
def cron_list.l0 : Nat → Int → List ByteArray → Int → Option (ByteArray)
  | 0, _, _, _ => none
  | k + 1, x0, x3, x5 => if x5 < 64 then (if 0 ≤ x5 then (if (Go.bits .and .u64 (shr .u64 x0 x5) 1) = 1 then ((strconv_Itoa.f x5).bind fun t156 => (if x3.length < 8796093022208 then (cron_list.l0 k x0 (x3 ++ [t156]) (wrap64 (x5 + 1))) else (none))) else (cron_list.l0 k x0 x3 (wrap64 (x5 + 1)))) else (none)) else ((strings_Join.f x3 (⟨#[44]⟩ : ByteArray)).bind fun t160 => (some t160))
def cron_list.f (k : Nat) (a0 : Int) : Option (ByteArray) := cron_list.l0 k a0 ([] : List ByteArray) 0
theorem cron_list.mono_l : ∀ k, (∀ y0 y1 y2, LeO (cron_list.l0 k y0 y1 y2) (cron_list.l0 (k + 1) y0 y1 y2))
  | 0 => fun _ _ _ r h => by simp [cron_list.l0] at h
  | k + 1 => by
    have ih0 := cron_list.mono_l k
    · intro y0 y1 y2
      unfold cron_list.l0
      repeat' first
      | (with_reducible exact ih0 _ _ _)
      | (with_reducible exact LeO.refl _)
      | (with_reducible exact LeO.none _)
      | (with_reducible refine LeO.ite ?_ ?_)
      | (with_reducible refine LeO.bind ?_ (fun _ => ?_))
      | exact ih0 _ _ _
      | exact LeO.none _
      | refine LeO.ite ?_ ?_
      | refine LeO.bind ?_ (fun _ => ?_)
theorem cron_list.mono : ∀ a0 k, LeO (cron_list.f k a0) (cron_list.f (k + 1) a0) := by
  intro a0 k
  have ih0 := cron_list.mono_l k
  unfold cron_list.f
  repeat' first
      | (with_reducible exact ih0 _ _ _)
      | (with_reducible exact LeO.refl _)
      | (with_reducible exact LeO.none _)
      | (with_reducible refine LeO.ite ?_ ?_)
      | (with_reducible refine LeO.bind ?_ (fun _ => ?_))
      | exact ih0 _ _ _
      | exact LeO.none _
      | refine LeO.ite ?_ ?_
      | refine LeO.bind ?_ (fun _ => ?_)
set_option maxHeartbeats 8000000 in
set_option maxRecDepth 100000 in
theorem cron_list.calls (k : Nat) (a0 : Int) (r : ByteArray) (w : World) (h : cron_list.f k a0 = some r) :
    Calls Tryd.prog 31 #[.int .u64 a0] w fun e w' => e = .returned (.string r) ∧ Below w.heap.size w w' := by
  have HB := Aside0.mk (Below.refl w.heap.size w)
  have H : (cron_list.l0 k a0 ([] : List ByteArray) 0) = some r := h
  clear h
  have H' := Aside0.mk H
  clear H
  go_enter Tryd.func31, Tryd.ntmps31
  go_wp2
  go_loopg [3, 5] k (fun kq v3 v5 w' => ∃ (x3_1 : List ByteArray) (x5_1 : Int), v5 = .int .i64 x5_1 ∧ Aside0 (cron_list.l0 kq a0 x3_1 x5_1 = some r) ∧ Aside0 (kq ≤ k) ∧ Aside0 (Kd.R Kd.string 9 w' w.heap.size (fun _ => True) v3 x3_1) ∧ Aside0 (Below w.heap.size w w'))
  case atStart => exact ⟨(([] : List ByteArray)), (0), (by first | rfl | (simp; done) | (simp [*]; done)), H', ⟨Nat.le_refl _⟩, ⟨by first | exact Kd.R_nil _ _ _ _ _ | exact Kd.N_nil _ _ _ _ _ | exact Kd.V_nil _ _ _ _ _ | exact Kd.Q_nil _ _ _ _ _ | exact Kd.S_nil _ _ _ _ _⟩, ⟨by repeat (first | (with_reducible first | exact HB.out | apply below_alloc | apply pw_below_drewN | apply below_drew1) | exact HB.out)⟩⟩
  case round =>
    clear H'
    obtain ⟨x3_1, x5_1, rfl, HA, HK1, HO_3, HB⟩ := hrel
    cases gk with
    | zero => exact absurd HA.out (by simp [cron_list.l0])
    | succ k1 =>
      have H := HA.out
      clear HA
      simp only [cron_list.l0] at H
      by_cases c2 : x5_1 < 64
      · rw [if_pos c2] at H
        have c2b0 : decide (x5_1 < 64) = true := decide_eq_true c2
        clear c2
        by_cases c3 : 0 ≤ x5_1
        · rw [if_pos c3] at H
          have c3b0 := eq_true c3
          have c3b1 : decide (0 ≤ x5_1) = true := decide_eq_true c3
          clear c3
          obtain ⟨ji4, hji4⟩ : ∃ j_ : Int, (shr .u64 a0 x5_1) = j_ := ⟨_, rfl⟩
          replace H : (if (Go.bits .and .u64 (ji4) 1) = 1 then ((strconv_Itoa.f x5_1).bind fun t156 => (if x3_1.length < 8796093022208 then (cron_list.l0 k1 a0 (x3_1 ++ [t156]) (wrap64 (x5_1 + 1))) else (none))) else (cron_list.l0 k1 a0 x3_1 (wrap64 (x5_1 + 1)))) = some r := by first | (rw [hji4] at H; exact H) | (simp only [hji4] at H ⊢; exact H)
          have hji4_ : (a0 / 2 ^ min x5_1.toNat 64) = ji4 := hji4
          have hji4z : x5_1 ≤ 64 → (a0 / 2 ^ x5_1.toNat) = ji4 := shr_small hji4
          by_cases c5 : (Go.bits .and .u64 (ji4) 1) = 1
          · rw [if_pos c5] at H
            have c5b0 : ((Go.bits .and .u64 (ji4) 1) == 1) = true := beq_iff_eq.mpr c5
            have c5b1 : ((Go.bits .and .u64 (ji4) 1) != 1) = false := bne_eq_false_iff_eq.mpr c5
            clear c5
            replace H := Option.bind_eq_some_iff.mp H
            obtain ⟨t156, A60, H⟩ := H
            replace H : (if x3_1.length < 8796093022208 then (cron_list.l0 k1 a0 (x3_1 ++ [t156]) (wrap64 (x5_1 + 1))) else (none)) = some r := H
            have A6 := Aside0.mk A60
            clear A60
            by_cases c7 : x3_1.length < 8796093022208
            · rw [if_pos c7] at H
              have LMc7 := Aside0.mk c7
              clear c7
              obtain ⟨y157, hy157⟩ : ∃ y_ : List ByteArray, y_ = (x3_1 ++ [t156]) := ⟨_, rfl⟩
              replace H : (cron_list.l0 k1 a0 y157 (wrap64 (x5_1 + 1))) = some r := by first | (rw [hy157]; with_reducible exact H) | (have H2_ := (Option.bind_some _ _).symm.trans H; rw [hy157]; with_reducible exact H2_) | (have H2_ := (Option.bind_some _ _).symm.trans H; with_reducible exact H2_) | with_reducible exact H | (rw [hy157]; exact H) | exact H
              have Ny157 := Aside0.mk hy157
              clear hy157
              have H' := Aside0.mk H
              clear H
              go_wp2_with (first | ((with_reducible refine gate_callee (f := 51) rfl ?_); refine goesL_ (some 15) rfl rfl Tryd.func51 (by kernel_rfl) rfl #[.int .i64 x5_1] rfl (by (try simp only [List.map_toArray, List.map_cons, List.map_nil]); first | done | rfl | (simp only [List.length_drop, List.length_take]; rfl)) ?_; (with_reducible refine (strconv_Itoa.calls x5_1 t156 _ A6.out).mono ?_); rintro e w' ⟨rfl, ⟨nd, rfl⟩⟩; refine ⟨_, rfl, ?_⟩) | ((with_reducible refine gate_builtin (b := .append) (xs := #[.tmp 13, .tmp 16]) rfl ?_); at_builtin; refine Kd.R_append Kd.string (w0 := w) w.heap.size rfl (.tmp 13) (.tmp 16) 41 9 (.string ⟨#[]⟩) 16 rfl Tryd.underlying41 info9 rfl (by decide) (by omega) u3 x3_1 t156 [.string t156] (fun _ => True) (fun _ => False) rfl rfl ?aP (fun _ hk => hk.elim) ?aF ?aO ?aB ?aS ?aL ?_; (case aP => exact rfl); (case aB => exact (by repeat (first | (with_reducible first | exact HB.out | apply below_alloc | apply pw_below_drewN | apply below_drew1) | exact HB.out))); (case aF => exact (fun _ _ => trivial)); (case aO => exact (by (with_reducible repeat (first | apply Kd.R_alloc | apply Kd.R_drewN | apply Kd.R_drew)); exact HO_3.out)); (case aS => exact (below_size (by repeat (first | (with_reducible first | exact HB.out | apply below_alloc | apply pw_below_drewN | apply below_drew1) | exact HB.out)))); (case aL => have := LMc7.out; omega); intro v158 w8 ho hb hg hat; rw [← Ny157.out] at ho; have n0_ := Aside0.mk (hb); have n1_ := Aside0.mk (ho); clear HB; clear HO_3; have HB := n0_; have HO159 := n1_; clear n0_ n1_; clear ho hb hg hat))
              go_roundg k1
              case measure => have := HK1.out; omega
              case rel => exact ⟨(y157), (wrap64 (x5_1 + 1)), (by first | rfl | (simp; done) | (simp [*]; done)), H', ⟨by have := HK1.out; omega⟩, ⟨by (with_reducible repeat (first | apply Kd.R_alloc | apply Kd.R_drewN | apply Kd.R_drew)); exact HO159.out⟩, ⟨by repeat (first | (with_reducible first | exact HB.out | apply below_alloc | apply pw_below_drewN | apply below_drew1) | exact HB.out)⟩⟩
            · rw [if_neg c7] at H
              exact absurd H (by simp)
          · rw [if_neg c5] at H
            have c5b0 : ((Go.bits .and .u64 (ji4) 1) == 1) = false := beq_eq_false_iff_ne.mpr c5
            have c5b1 : ((Go.bits .and .u64 (ji4) 1) != 1) = true := bne_iff_ne.mpr c5
            have H' := Aside0.mk H
            clear H
            go_wp2
            go_roundg k1
            case measure => have := HK1.out; omega
            case rel => exact ⟨(x3_1), (wrap64 (x5_1 + 1)), (by first | rfl | (simp; done) | (simp [*]; done)), H', ⟨by have := HK1.out; omega⟩, ⟨by (with_reducible repeat (first | apply Kd.R_alloc | apply Kd.R_drewN | apply Kd.R_drew)); exact HO_3.out⟩, ⟨by repeat (first | (with_reducible first | exact HB.out | apply below_alloc | apply pw_below_drewN | apply below_drew1) | exact HB.out)⟩⟩
        · rw [if_neg c3] at H
          exact absurd H (by simp)
      · rw [if_neg c2] at H
        have c2b0 : decide (x5_1 < 64) = false := decide_eq_false c2
        clear c2
        replace H := Option.bind_eq_some_iff.mp H
        obtain ⟨t160, A90, H⟩ := H
        replace H : (some t160) = some r := H
        have A9 := Aside0.mk A90
        clear A90
        obtain rfl := Option.some.inj H
        obtain ⟨Ao10, co10, eo10⟩ := Kd.R_slice HO_3.out
        subst eo10
        go_wp2_with (first | ((with_reducible refine gate_callee (f := 34) rfl ?_); refine goesL_ (some 20) rfl rfl Tryd.func34 (by kernel_rfl) rfl #[.slice Ao10 x3_1.length co10, .string (⟨#[44]⟩ : ByteArray)] rfl (by (try simp only [List.map_toArray, List.map_cons, List.map_nil]); first | done | rfl | (simp only [List.length_drop, List.length_take]; rfl)) ?_; (with_reducible refine (strings_Join.calls _ _ x3_1 (⟨#[44]⟩ : ByteArray) t160 _ ?side1 ?side2 A9.out).mono ?_); (case side1 => repeat (first | exact (Kd.R_reads' HO_3.out).2.2 | (with_reducible refine Kd.C_alloc ?_ _) | (with_reducible refine Kd.C_drewN ?_ _) | (with_reducible refine Kd.C_drew ?_))); (case side2 => exact (Kd.R_reads' HO_3.out).2.1); rintro e w11 ⟨rfl, hb⟩; refine ⟨_, rfl, ?_⟩; have n0_ := Aside0.mk (Kd.R_below (by (with_reducible repeat (first | apply Kd.R_alloc | apply Kd.R_drewN | apply Kd.R_drew)); exact HO_3.out) hb); have n1_ := Aside0.mk (below_step (by repeat (first | (with_reducible first | exact HB.out | apply below_alloc | apply pw_below_drewN | apply below_drew1) | exact HB.out)) hb); clear HO_3; clear HB; have HO_3 := n0_; have HB := n1_; clear n0_ n1_; (try clear hb); (try clear hb2); (try clear hk); (try clear hi)))
        go_ret
        exact ⟨by first | rfl | (simp [errW_none, errW_some] <;> rfl) | (simp [*, errW_none, errW_some] <;> rfl), by repeat (first | (with_reducible first | exact HB.out | apply below_alloc | apply pw_below_drewN | apply below_drew1) | exact HB.out)⟩

/-! ### cron_any: function 32 -/
def cron_any.l0 : Nat → Int → Int → Int → Option (ByteArray)
  | 0, _, _, _ => none
  | k + 1, x0, x1, x5 => if x5 ≤ 99 then ((cron_full.f k x0 x5).bind fun t162 => (if x1 = t162 then ((strconv_Itoa.f x5).bind fun t163 => (if 2 + t163.size ≤ 9223372036854775807 then (some ((⟨#[42, 47]⟩ : ByteArray) ++ t163)) else (none))) else (cron_any.l0 k x0 x1 (wrap64 (x5 + 1))))) else (some (⟨#[]⟩ : ByteArray))
def cron_any.f (k : Nat) (a0 : Int) (a1 : Int) : Option (ByteArray) := (cron_full.f k a0 1).bind fun t161 => (if a1 = t161 then (some (⟨#[42]⟩ : ByteArray)) else (cron_any.l0 k a0 a1 2))
theorem cron_any.mono_l : ∀ k, (∀ y0 y1 y2, LeO (cron_any.l0 k y0 y1 y2) (cron_any.l0 (k + 1) y0 y1 y2))
  | 0 => fun _ _ _ r h => by simp [cron_any.l0] at h
  | k + 1 => by
    have ih0 := cron_any.mono_l k
    · intro y0 y1 y2
      unfold cron_any.l0
      repeat' first
      | (with_reducible exact ih0 _ _ _)
      | (with_reducible exact cron_full.mono _ _ _)
      | (with_reducible exact LeO.refl _)
      | (with_reducible exact LeO.none _)
      | (with_reducible refine LeO.ite ?_ ?_)
      | (with_reducible refine LeO.bind ?_ (fun _ => ?_))
      | exact ih0 _ _ _
      | exact cron_full.mono _ _ _
      | exact LeO.none _
      | refine LeO.ite ?_ ?_
      | refine LeO.bind ?_ (fun _ => ?_)
theorem cron_any.mono : ∀ a0 a1 k, LeO (cron_any.f k a0 a1) (cron_any.f (k + 1) a0 a1) := by
  intro a0 a1 k
  have ih0 := cron_any.mono_l k
  unfold cron_any.f
  repeat' first
      | (with_reducible exact ih0 _ _ _)
      | (with_reducible exact cron_full.mono _ _ _)
      | (with_reducible exact LeO.refl _)
      | (with_reducible exact LeO.none _)
      | (with_reducible refine LeO.ite ?_ ?_)
      | (with_reducible refine LeO.bind ?_ (fun _ => ?_))
      | exact ih0 _ _ _
      | exact cron_full.mono _ _ _
      | exact LeO.none _
      | refine LeO.ite ?_ ?_
      | refine LeO.bind ?_ (fun _ => ?_)
set_option maxHeartbeats 8000000 in
set_option maxRecDepth 100000 in
theorem cron_any.calls (k : Nat) (a0 : Int) (a1 : Int) (r : ByteArray) (w : World) (h : cron_any.f k a0 a1 = some r) :
    Calls Tryd.prog 32 #[.int .i64 a0, .int .u64 a1] w fun e w' => e = .returned (.string r) ∧ Drawn0 w w' := by
  have H : ((cron_full.f k a0 1).bind fun t161 => (if a1 = t161 then (some (⟨#[42]⟩ : ByteArray)) else (cron_any.l0 k a0 a1 2))) = some r := h
  clear h
  replace H := Option.bind_eq_some_iff.mp H
  obtain ⟨t161, A30, H⟩ := H
  replace H : (if a1 = t161 then (some (⟨#[42]⟩ : ByteArray)) else (cron_any.l0 k a0 a1 2)) = some r := H
  have A3 := Aside0.mk A30
  clear A30
  by_cases c4 : a1 = t161
  · rw [if_pos c4] at H
    have c4b0 : (a1 == t161) = true := beq_iff_eq.mpr c4
    have c4b1 : (a1 != t161) = false := bne_eq_false_iff_eq.mpr c4
    clear c4
    obtain rfl := Option.some.inj H
    go_enter Tryd.func32, Tryd.ntmps32
    go_wp2_with (first | ((with_reducible refine gate_callee (f := 28) rfl ?_); refine goesL_ (some 8) rfl rfl Tryd.func28 (by kernel_rfl) rfl #[.int .i64 a0, .int .i64 1] rfl (by (try simp only [List.map_toArray, List.map_cons, List.map_nil]); first | done | rfl | (simp only [List.length_drop, List.length_take]; rfl)) ?_; (with_reducible refine (cron_full.calls k a0 1 t161 _ A3.out).mono ?_); rintro e w' ⟨rfl, ⟨nd, rfl⟩⟩; refine ⟨_, rfl, ?_⟩))
    go_ret
    exact ⟨by first | rfl | (simp; done) | (simp [*]; done), by repeat (first | exact Drawn0.refl _ | apply Drawn0.step)⟩
  · rw [if_neg c4] at H
    have c4b0 : (a1 == t161) = false := beq_eq_false_iff_ne.mpr c4
    have c4b1 : (a1 != t161) = true := bne_iff_ne.mpr c4
    have H' := Aside0.mk H
    clear H
    go_enter Tryd.func32, Tryd.ntmps32
    go_wp2_with (first | ((with_reducible refine gate_callee (f := 28) rfl ?_); refine goesL_ (some 8) rfl rfl Tryd.func28 (by kernel_rfl) rfl #[.int .i64 a0, .int .i64 1] rfl (by (try simp only [List.map_toArray, List.map_cons, List.map_nil]); first | done | rfl | (simp only [List.length_drop, List.length_take]; rfl)) ?_; (with_reducible refine (cron_full.calls k a0 1 t161 _ A3.out).mono ?_); rintro e w' ⟨rfl, ⟨nd, rfl⟩⟩; refine ⟨_, rfl, ?_⟩))
    go_loopg [5] k (fun kq v5 w' => ∃ (x5_1 : Int), v5 = .int .i64 x5_1 ∧ Aside0 (cron_any.l0 kq a0 a1 x5_1 = some r) ∧ Aside0 (kq ≤ k) ∧ Drawn0 w w')
    case atStart => exact ⟨(2), (by first | rfl | (simp; done) | (simp [*]; done)), H', ⟨Nat.le_refl _⟩, by repeat (first | exact Drawn0.refl _ | apply Drawn0.step)⟩
    case round =>
      clear H'
      try clear c2
      try clear p2
      try clear c3
      try clear c4
      try clear c4b0
      try clear c4b1
      obtain ⟨x5_1, rfl, HA, HK1, ⟨m1, rfl⟩⟩ := hrel
      cases gk with
      | zero => exact absurd HA.out (by simp [cron_any.l0])
      | succ k1 =>
        have H := HA.out
        clear HA
        simp only [cron_any.l0] at H
        by_cases c5 : x5_1 ≤ 99
        · rw [if_pos c5] at H
          have c5b0 : decide (x5_1 ≤ 99) = true := decide_eq_true c5
          clear c5
          replace H := Option.bind_eq_some_iff.mp H
          obtain ⟨t162, A60, H⟩ := H
          replace H : (if a1 = t162 then ((strconv_Itoa.f x5_1).bind fun t163 => (if 2 + t163.size ≤ 9223372036854775807 then (some ((⟨#[42, 47]⟩ : ByteArray) ++ t163)) else (none))) else (cron_any.l0 k1 a0 a1 (wrap64 (x5_1 + 1)))) = some r := H
          have A6 := Aside0.mk A60
          clear A60
          by_cases c7 : a1 = t162
          · rw [if_pos c7] at H
            have c7b0 : (a1 == t162) = true := beq_iff_eq.mpr c7
            have c7b1 : (a1 != t162) = false := bne_eq_false_iff_eq.mpr c7
            clear c7
            replace H := Option.bind_eq_some_iff.mp H
            obtain ⟨t163, A80, H⟩ := H
            replace H : (if 2 + t163.size ≤ 9223372036854775807 then (some ((⟨#[42, 47]⟩ : ByteArray) ++ t163)) else (none)) = some r := H
            have A8 := Aside0.mk A80
            clear A80
            by_cases c9 : 2 + t163.size ≤ 9223372036854775807
            · rw [if_pos c9] at H
              have c9b0 := eq_true c9
              have c9b1 : decide (2 + t163.size ≤ 9223372036854775807) = true := decide_eq_true c9
              try have c9b2 : (9223372036854775807 < 2 + t163.size) = False := eq_false (Nat.not_lt.2 c9)
              obtain rfl := Option.some.inj H
              go_wp2_with (first | ((with_reducible refine gate_callee (f := 28) rfl ?_); refine goesL_ (some 17) rfl rfl Tryd.func28 (by kernel_rfl) rfl #[.int .i64 a0, .int .i64 x5_1] rfl (by (try simp only [List.map_toArray, List.map_cons, List.map_nil]); first | done | rfl | (simp only [List.length_drop, List.length_take]; rfl)) ?_; (with_reducible refine (cron_full.calls k1 a0 x5_1 t162 _ A6.out).mono ?_); rintro e w' ⟨rfl, ⟨nd, rfl⟩⟩; refine ⟨_, rfl, ?_⟩) | ((with_reducible refine gate_callee (f := 51) rfl ?_); refine goesL_ (some 20) rfl rfl Tryd.func51 (by kernel_rfl) rfl #[.int .i64 x5_1] rfl (by (try simp only [List.map_toArray, List.map_cons, List.map_nil]); first | done | rfl | (simp only [List.length_drop, List.length_take]; rfl)) ?_; (with_reducible refine (strconv_Itoa.calls x5_1 t163 _ A8.out).mono ?_); rintro e w' ⟨rfl, ⟨nd, rfl⟩⟩; refine ⟨_, rfl, ?_⟩))
              go_ret
              exact ⟨by first | rfl | (simp; done) | (simp [*]; done), by repeat (first | exact Drawn0.refl _ | apply Drawn0.step)⟩
            · rw [if_neg c9] at H
              exact absurd H (by simp)
          · rw [if_neg c7] at H
            have c7b0 : (a1 == t162) = false := beq_eq_false_iff_ne.mpr c7
            have c7b1 : (a1 != t162) = true := bne_iff_ne.mpr c7
            have H' := Aside0.mk H
            clear H
            go_wp2_with (first | ((with_reducible refine gate_callee (f := 28) rfl ?_); refine goesL_ (some 17) rfl rfl Tryd.func28 (by kernel_rfl) rfl #[.int .i64 a0, .int .i64 x5_1] rfl (by (try simp only [List.map_toArray, List.map_cons, List.map_nil]); first | done | rfl | (simp only [List.length_drop, List.length_take]; rfl)) ?_; (with_reducible refine (cron_full.calls k1 a0 x5_1 t162 _ A6.out).mono ?_); rintro e w' ⟨rfl, ⟨nd, rfl⟩⟩; refine ⟨_, rfl, ?_⟩))
            go_roundg k1
            case measure => have := HK1.out; omega
            case rel => exact ⟨(wrap64 (x5_1 + 1)), (by first | rfl | (simp; done) | (simp [*]; done)), H', ⟨by have := HK1.out; omega⟩, by repeat (first | exact Drawn0.refl _ | apply Drawn0.step)⟩
        · rw [if_neg c5] at H
          have c5b0 : decide (x5_1 ≤ 99) = false := decide_eq_false c5
          clear c5
          obtain rfl := Option.some.inj H
          go_wp2
          go_ret
          exact ⟨by first | rfl | (simp; done) | (simp [*]; done), by repeat (first | exact Drawn0.refl _ | apply Drawn0.step)⟩

/-! ### cron_two: function 33 -/
def cron_two.f (a0 : Int) : Option (ByteArray) := some (strOfNums (([(wrap64 (48 + (wrap64 (Int.tdiv a0 10)))) % 256, (wrap64 (48 + (Int.tmod a0 10))) % 256] : List Int)))
set_option maxHeartbeats 8000000 in
set_option maxRecDepth 100000 in
theorem cron_two.calls (a0 : Int) (r : ByteArray) (w : World) (h : cron_two.f a0 = some r) :
    Calls Tryd.prog 33 #[.int .i64 a0] w fun e w' => e = .returned (.string r) ∧ Below w.heap.size w w' := by
  have HB := Aside0.mk (Below.refl w.heap.size w)
  have H : (some (strOfNums (([(wrap64 (48 + (wrap64 (Int.tdiv a0 10)))) % 256, (wrap64 (48 + (Int.tmod a0 10))) % 256] : List Int)))) = some r := h
  clear h
  obtain ⟨y164, hy164⟩ : ∃ y_ : List Int, y_ = (([(wrap64 (48 + (wrap64 (Int.tdiv a0 10)))) % 256, (wrap64 (48 + (Int.tmod a0 10))) % 256] : List Int)) := ⟨_, rfl⟩
  replace H : (some (strOfNums y164)) = some r := by first | (rw [hy164]; with_reducible exact H) | (have H2_ := (Option.bind_some _ _).symm.trans H; rw [hy164]; with_reducible exact H2_) | (have H2_ := (Option.bind_some _ _).symm.trans H; with_reducible exact H2_) | with_reducible exact H | (rw [hy164]; exact H) | exact H
  have Ny164 := Aside0.mk hy164
  clear hy164
  obtain rfl := Option.some.inj H
  go_enter Tryd.func33, Tryd.ntmps33
  go_wp2_with (first | ((with_reducible refine gate_dst (N := 11) rfl ?_); refine Kd.R_lit (Kd.int .u8) _ 5 ?hg (N := 11) ?hd (xs := ([(wrap64 (48 + (wrap64 (Int.tdiv a0 10)))) % 256, (wrap64 (48 + (Int.tmod a0 10))) % 256] : List Int)) (inner := [.int .u8 ((wrap64 (48 + (wrap64 (Int.tdiv a0 10)))) % 256), .int .u8 ((wrap64 (48 + (Int.tmod a0 10))) % 256)]) (ok := fun _ => True) (okp := fun _ => True) ?hr ?hp (fun _ hk => hk) trivial (Below.refl _ _) (Nat.le_refl _) (by simp) ?_; (case hd => rfl); (case hg => rfl); (case hr => first | (go_simp; done) | (go_simp; rfl)); (case hp => exact (Reps.one (show Kd.M (Kd.int .u8) _ _ _ ((wrap64 (48 + (wrap64 (Int.tdiv a0 10)))) % 256) [.int .u8 ((wrap64 (48 + (wrap64 (Int.tdiv a0 10)))) % 256)] from rfl) (Reps.one (show Kd.M (Kd.int .u8) _ _ _ ((wrap64 (48 + (Int.tmod a0 10))) % 256) [.int .u8 ((wrap64 (48 + (Int.tmod a0 10))) % 256)] from rfl) (Reps.none _ _)))); intro v165 w2 ho3 hb hg_ hnew_; clear hg_ hnew_; (first | rw [← Ny164.out] at ho3 | (simp only [Int.reduceToNat] at ho3; rw [← Ny164.out] at ho3)); have n0_ := Aside0.mk (Kd.R_lower ho3 (below_size (by repeat (first | (with_reducible first | exact HB.out | apply below_alloc | apply pw_below_drewN | apply below_drew1) | exact HB.out)))); have n1_ := Aside0.mk (below_step (by repeat (first | (with_reducible first | exact HB.out | apply below_alloc | apply pw_below_drewN | apply below_drew1) | exact HB.out)) hb); clear HB; have HO166 := n0_; have HB := n1_; clear n0_ n1_; clear hb ho3; have hcv4 := own_string (P := Tryd.prog) Tryd.underlying34 Tryd.underlying5 Tryd.underlying9 (Kd.own_of_R HO166.out)))
  go_ret
  exact ⟨by first | rfl | (simp [errW_none, errW_some] <;> rfl) | (simp [*, errW_none, errW_some] <;> rfl), by repeat (first | (with_reducible first | exact HB.out | apply below_alloc | apply pw_below_drewN | apply below_drew1) | exact HB.out)⟩

/-! ### cron_Text: function 15 (given by hand) -/
/-- The text of one field. -/
def wordM (k : Nat) (f x : Int) (an : Bool) : Option ByteArray := (cron_list.f k x).bind fun t => (if an = true then (cron_any.f k f x) else (some t))
/-- The texts of all fields, and of the sixth, told together. -/
def textEnd (a0_7 : Int) (l : List ByteArray) : Option ByteArray := if a0_7 > 0 then ((cron_two.f (Int.tdiv a0_7 60)).bind fun h => ((cron_two.f (Int.tmod a0_7 60)).bind fun m => (strings_Join.f (l ++ [((⟨#[43]⟩ : ByteArray) ++ h) ++ m]) (⟨#[32]⟩ : ByteArray)))) else (if a0_7 < 0 then ((cron_two.f (Int.tdiv (-a0_7) 60)).bind fun h => ((cron_two.f (Int.tmod (-a0_7) 60)).bind fun m => (strings_Join.f (l ++ [((⟨#[45]⟩ : ByteArray) ++ h) ++ m]) (⟨#[32]⟩ : ByteArray)))) else (strings_Join.f l (⟨#[32]⟩ : ByteArray)))
/-- What is still to come, from a field on. -/
def textR5 (_k : Nat) (a0_0 a0_1 a0_2 a0_3 a0_4 : Int) (a0_5 a0_6 : Bool) (a0_7 : Int) (l : List ByteArray) : Option ByteArray := textEnd a0_7 l
def textR4 (k : Nat) (a0_0 a0_1 a0_2 a0_3 a0_4 : Int) (a0_5 a0_6 : Bool) (a0_7 : Int) (l : List ByteArray) : Option ByteArray := (wordM k 4 a0_4 a0_6).bind fun t => (if t = (⟨#[]⟩ : ByteArray) then (some (⟨#[]⟩ : ByteArray)) else (textR5 k a0_0 a0_1 a0_2 a0_3 a0_4 a0_5 a0_6 a0_7 (l ++ [t])))
def textR3 (k : Nat) (a0_0 a0_1 a0_2 a0_3 a0_4 : Int) (a0_5 a0_6 : Bool) (a0_7 : Int) (l : List ByteArray) : Option ByteArray := (wordM k 3 a0_3 false).bind fun t => (if t = (⟨#[]⟩ : ByteArray) then (some (⟨#[]⟩ : ByteArray)) else (textR4 k a0_0 a0_1 a0_2 a0_3 a0_4 a0_5 a0_6 a0_7 (l ++ [t])))
def textR2 (k : Nat) (a0_0 a0_1 a0_2 a0_3 a0_4 : Int) (a0_5 a0_6 : Bool) (a0_7 : Int) (l : List ByteArray) : Option ByteArray := (wordM k 2 a0_2 a0_5).bind fun t => (if t = (⟨#[]⟩ : ByteArray) then (some (⟨#[]⟩ : ByteArray)) else (textR3 k a0_0 a0_1 a0_2 a0_3 a0_4 a0_5 a0_6 a0_7 (l ++ [t])))
def textR1 (k : Nat) (a0_0 a0_1 a0_2 a0_3 a0_4 : Int) (a0_5 a0_6 : Bool) (a0_7 : Int) (l : List ByteArray) : Option ByteArray := (wordM k 1 a0_1 false).bind fun t => (if t = (⟨#[]⟩ : ByteArray) then (some (⟨#[]⟩ : ByteArray)) else (textR2 k a0_0 a0_1 a0_2 a0_3 a0_4 a0_5 a0_6 a0_7 (l ++ [t])))
def textR0 (k : Nat) (a0_0 a0_1 a0_2 a0_3 a0_4 : Int) (a0_5 a0_6 : Bool) (a0_7 : Int) (l : List ByteArray) : Option ByteArray := (wordM k 0 a0_0 false).bind fun t => (if t = (⟨#[]⟩ : ByteArray) then (some (⟨#[]⟩ : ByteArray)) else (textR1 k a0_0 a0_1 a0_2 a0_3 a0_4 a0_5 a0_6 a0_7 (l ++ [t])))
def cron_Text.f (k : Nat) (a0_0 a0_1 a0_2 a0_3 a0_4 : Int) (a0_5 a0_6 : Bool) (a0_7 : Int) : Option ByteArray := if rightB a0_0 a0_1 a0_2 a0_3 a0_4 a0_7 = true then (textR0 k a0_0 a0_1 a0_2 a0_3 a0_4 a0_5 a0_6 a0_7 []) else (some (⟨#[]⟩ : ByteArray))
theorem wordM_mono : ∀ f x an k, LeO (wordM k f x an) (wordM (k + 1) f x an) := by
  intro f x an k
  unfold wordM
  exact LeO.bind (cron_list.mono _ _) fun t => LeO.ite (cron_any.mono _ _ _) (LeO.refl _)
theorem cron_Text.mono : ∀ a0_0 a0_1 a0_2 a0_3 a0_4 a0_5 a0_6 a0_7 k, LeO (cron_Text.f k a0_0 a0_1 a0_2 a0_3 a0_4 a0_5 a0_6 a0_7) (cron_Text.f (k + 1) a0_0 a0_1 a0_2 a0_3 a0_4 a0_5 a0_6 a0_7) := by
  intro a0_0 a0_1 a0_2 a0_3 a0_4 a0_5 a0_6 a0_7 k
  unfold cron_Text.f textR0 textR1 textR2 textR3 textR4
  exact LeO.ite (LeO.bind (wordM_mono _ _ _ _) fun _ => LeO.ite (LeO.refl _) (LeO.bind (wordM_mono _ _ _ _) fun _ => LeO.ite (LeO.refl _) (LeO.bind (wordM_mono _ _ _ _) fun _ => LeO.ite (LeO.refl _) (LeO.bind (wordM_mono _ _ _ _) fun _ => LeO.ite (LeO.refl _) (LeO.bind (wordM_mono _ _ _ _) fun _ => LeO.refl _))))) (LeO.refl _)
def textR (k : Nat) (a0_0 a0_1 a0_2 a0_3 a0_4 : Int) (a0_5 a0_6 : Bool) (a0_7 : Int) (j : Nat) (l : List ByteArray) : Option ByteArray := match j with
  | 0 => textR0 k a0_0 a0_1 a0_2 a0_3 a0_4 a0_5 a0_6 a0_7 l
  | 1 => textR1 k a0_0 a0_1 a0_2 a0_3 a0_4 a0_5 a0_6 a0_7 l
  | 2 => textR2 k a0_0 a0_1 a0_2 a0_3 a0_4 a0_5 a0_6 a0_7 l
  | 3 => textR3 k a0_0 a0_1 a0_2 a0_3 a0_4 a0_5 a0_6 a0_7 l
  | 4 => textR4 k a0_0 a0_1 a0_2 a0_3 a0_4 a0_5 a0_6 a0_7 l
  | _ => textR5 k a0_0 a0_1 a0_2 a0_3 a0_4 a0_5 a0_6 a0_7 l
theorem two_some (n : Int) : ∃ t, cron_two.f n = some t ∧ t.size = 2 := ⟨_, rfl, by simp [strOfNums, ByteArray.size]⟩
theorem right_bounds {x0 x1 x2 x3 x4 x7 : Int} (h : rightB x0 x1 x2 x3 x4 x7 = true) : -899 ≤ x7 ∧ x7 ≤ 899 := by
  simp only [rightB, Bool.and_eq_true, decide_eq_true_eq] at h
  exact h.2.2.2.2.2
theorem toList_emp {u : ByteArray} (h : u = (⟨#[]⟩ : ByteArray)) : u.toList.isEmpty = true := by subst h; simp [ByteArray.toList_eq]
theorem toList_not_emp {u : ByteArray} (h : ¬ u = (⟨#[]⟩ : ByteArray)) : u.toList.isEmpty = false := by
  cases q : u.toList with
  | nil => exact absurd (by rw [ByteArray.toList_eq] at q; obtain ⟨⟨d⟩⟩ := u; simp at q; subst q; rfl) h
  | cons => rfl
theorem wrap_tdiv {n : Int} (h0 : 0 ≤ n) (h1 : n ≤ 900) : wrap64 (Int.tdiv n 60) = Int.tdiv n 60 := by
  rw [Int.tdiv_eq_ediv_of_nonneg h0]
  unfold wrap64
  omega
theorem wrap_neg {n : Int} (h0 : -899 ≤ n) (h1 : n ≤ 899) : wrap64 (-n) = -n := by
  unfold wrap64
  omega
/-- What is told of the world inside the loop. -/
def TextB (g : Nat) (a0_0 a0_1 a0_2 a0_3 a0_4 : Int) (a0_5 a0_6 : Bool) (a0_7 : Int) (W : World) : Prop := W.heap[g]? = some (.cells #[.int .u64 a0_0, .int .u64 a0_1, .int .u64 a0_2, .int .u64 a0_3, .int .u64 a0_4, .bool a0_5, .bool a0_6, .int .i64 a0_7] 25 (0, 0))
set_option maxHeartbeats 8000000 in
set_option maxRecDepth 100000 in
theorem cron_Text.calls (k : Nat) (a0_0 : Int) (a0_1 : Int) (a0_2 : Int) (a0_3 : Int) (a0_4 : Int) (a0_5 : Bool) (a0_6 : Bool) (a0_7 : Int) (r : ByteArray) (w : World) (h : cron_Text.f k a0_0 a0_1 a0_2 a0_3 a0_4 a0_5 a0_6 a0_7 = some r) :
    Calls Tryd.prog 15 #[.agg #[.int .u64 a0_0, .int .u64 a0_1, .int .u64 a0_2, .int .u64 a0_3, .int .u64 a0_4, .bool a0_5, .bool a0_6, .int .i64 a0_7]] w fun e w' => e = .returned (.string r) ∧ Below w.heap.size w w' := by
  unfold cron_Text.f at h
  by_cases hR : rightB a0_0 a0_1 a0_2 a0_3 a0_4 a0_7 = true
  case neg =>
    rw [if_neg hR] at h
    obtain rfl := Option.some.inj h
    replace hR := Bool.eq_false_iff.mpr hR
    clear h
    go_enter Tryd.func15, Tryd.ntmps15
    go_wp2_with (first | (go_at_call 13; (with_reducible refine (cron_Right.calls a0_0 a0_1 a0_2 a0_3 a0_4 a0_5 a0_6 a0_7 (rightB a0_0 a0_1 a0_2 a0_3 a0_4 a0_7) _ rfl).mono ?_); rintro e w1 ⟨rfl, hb1⟩))
    go_ret
    exact ⟨rfl, ((Below.refl _ _).alloc (Nat.le_refl _) _).trans (hb1.mono (by simp))⟩
  case pos =>
    rw [if_pos hR] at h
    have H' := Aside0.mk h
    clear h
    have HBd := Aside0.mk (right_bounds hR)
    go_enter Tryd.func15, Tryd.ntmps15
    go_wp2_with (first | (go_at_call 13; (with_reducible refine (cron_Right.calls a0_0 a0_1 a0_2 a0_3 a0_4 a0_5 a0_6 a0_7 (rightB a0_0 a0_1 a0_2 a0_3 a0_4 a0_7) _ rfl).mono ?_); rintro e w1 ⟨rfl, hb1⟩; have HG1 : TextB w.heap.size a0_0 a0_1 a0_2 a0_3 a0_4 a0_5 a0_6 a0_7 w1 := (hb1.block _ (by simp)).trans (by show (w.heap.push _)[w.heap.size]? = _; rw [Array.getElem?_push, if_pos rfl]); have HB1 : Below w.heap.size w w1 := ((Below.refl _ _).alloc (Nat.le_refl _) _).trans (hb1.mono (by simp)); clear hb1) | (go_at_call 27; refine (sets_any w.heap.size a0_0 a0_1 a0_2 a0_3 a0_4 _ (blk_lt HG1) (blk_cell HG1 0) (blk_cell HG1 1) (blk_cell HG1 2) (blk_cell HG1 3) (blk_cell HG1 4)).mono ?_; rintro e w2 ⟨rfl, o, rfl⟩))
    obtain ⟨W, hW⟩ : ∃ W, W = (w1.alloc o).drew := ⟨_, rfl⟩
    have HG : TextB w.heap.size a0_0 a0_1 a0_2 a0_3 a0_4 a0_5 a0_6 a0_7 W := by rw [hW]; exact (Below.heap_alloc _ _ _ (blk_lt HG1)).trans HG1
    have HW : Below w.heap.size w W := by rw [hW]; exact (HB1.alloc HB1.size _).drew
    rw [← hW]
    clear hW HG1 HB1
    have hgl := blk_lt HG
    have HG := Aside0.mk HG
    have HW := Aside0.mk HW
    have HGL := Aside0.mk hgl
    clear hgl
    go_loopw [3, 12] (fun v3 v12 w' => ∃ (j : Int) (l : List ByteArray), 0 ≤ j ∧ j ≤ 5 ∧ v12 = .int .i64 j ∧ Aside0 (textR k a0_0 a0_1 a0_2 a0_3 a0_4 a0_5 a0_6 a0_7 j.toNat l = some r) ∧ Aside0 ((l.length : Int) = j) ∧ Aside0 (Kd.R Kd.string 9 w' W.heap.size (fun _ => True) v3 l) ∧ Aside0 (Below W.heap.size W w')) (fun _ i _ => (5 - intOf i).toNat)
    case atStart => exact ⟨0, [], by decide, by decide, rfl, H', ⟨rfl⟩, ⟨Kd.R_nil _ _ _ _ _⟩, ⟨Below.refl _ _⟩⟩
    case round =>
      clear H'
      obtain ⟨j, l, hj0, hj5, rfl, HA, HL, HO, HB⟩ := hrel
      have hj : j = 0 ∨ j = 1 ∨ j = 2 ∨ j = 3 ∨ j = 4 ∨ j = 5 := by omega
      clear hj0 hj5
      rcases hj with rfl | rfl | rfl | rfl | rfl | rfl
      · have H : textR0 k a0_0 a0_1 a0_2 a0_3 a0_4 a0_5 a0_6 a0_7 l = some r := HA.out
        clear HA
        unfold textR0 wordM at H
        rw [Option.bind_assoc] at H
        obtain ⟨t, A1, H⟩ := Option.bind_eq_some_iff.mp H
        have A1 := Aside0.mk A1
        have ix := arr_at0 a0_0 a0_1 a0_2 a0_3 a0_4
        rw [if_neg (by decide), Option.bind_some] at H
        obtain ⟨u, hu'⟩ : ∃ u, u = t := ⟨_, rfl⟩
        rw [← hu'] at H
        subst hu'
        by_cases hu : u = (⟨#[]⟩ : ByteArray)
        · rw [if_pos hu] at H
          obtain rfl := Option.some.inj H
          have cu := toList_emp hu
          clear H
          go_wp2_with (first | (go_at_call 31; (with_reducible refine (cron_list.calls k a0_0 u _ A1.out).mono ?_); rintro e wl ⟨rfl, hb⟩; have n0_ := Aside0.mk (Kd.R_below (by (with_reducible repeat (first | apply Kd.R_alloc | apply Kd.R_drewN | apply Kd.R_drew)); exact HO.out) hb); have n1_ := Aside0.mk (below_step (by repeat (first | (with_reducible first | exact HB.out | apply below_alloc | apply pw_below_drewN | apply below_drew1) | exact HB.out)) hb); clear HO; clear HB; have HO := n0_; have HB := n1_; clear n0_ n1_ hb; have hc5 : wl.cell? ⟨w.heap.size, 5, none⟩ = some (.bool a0_5) := (HB.out.cell (p := ⟨w.heap.size, 5, none⟩) HGL.out).trans (blk_cell HG.out 5); have hc6 : wl.cell? ⟨w.heap.size, 6, none⟩ = some (.bool a0_6) := (HB.out.cell (p := ⟨w.heap.size, 6, none⟩) HGL.out).trans (blk_cell HG.out 6)))
          go_ret
          exact ⟨rfl, HW.out.trans (Below.mono (w := W) (B := W.heap.size) ((by repeat (first | (with_reducible first | exact HB.out | apply below_alloc | apply pw_below_drewN | apply below_drew1) | exact HB.out))) (below_size HW.out))⟩
        · rw [if_neg hu] at H
          have cu := toList_not_emp hu
          have H' := Aside0.mk H
          clear H hu
          go_wp2_with (first | (go_at_call 31; (with_reducible refine (cron_list.calls k a0_0 u _ A1.out).mono ?_); rintro e wl ⟨rfl, hb⟩; have n0_ := Aside0.mk (Kd.R_below (by (with_reducible repeat (first | apply Kd.R_alloc | apply Kd.R_drewN | apply Kd.R_drew)); exact HO.out) hb); have n1_ := Aside0.mk (below_step (by repeat (first | (with_reducible first | exact HB.out | apply below_alloc | apply pw_below_drewN | apply below_drew1) | exact HB.out)) hb); clear HO; clear HB; have HO := n0_; have HB := n1_; clear n0_ n1_ hb; have hc5 : wl.cell? ⟨w.heap.size, 5, none⟩ = some (.bool a0_5) := (HB.out.cell (p := ⟨w.heap.size, 5, none⟩) HGL.out).trans (blk_cell HG.out 5); have hc6 : wl.cell? ⟨w.heap.size, 6, none⟩ = some (.bool a0_6) := (HB.out.cell (p := ⟨w.heap.size, 6, none⟩) HGL.out).trans (blk_cell HG.out 6)) | ((with_reducible refine gate_builtin (b := .append) (xs := #[.tmp 37, .tmp 39]) rfl ?_); at_builtin; refine Kd.R_append Kd.string (w0 := W) W.heap.size rfl (.tmp 37) (.tmp 39) 41 9 (.string ⟨#[]⟩) 16 rfl Tryd.underlying41 info9 rfl (by decide) (by omega) u3 l u [.string u] (fun _ => True) (fun _ => False) rfl rfl ?aP (fun _ hk => hk.elim) ?aF ?aO ?aB ?aS ?aL ?_; (case aP => exact rfl); (case aB => exact (by repeat (first | (with_reducible first | exact HB.out | apply below_alloc | apply pw_below_drewN | apply below_drew1) | exact HB.out))); (case aF => exact (fun _ _ => trivial)); (case aO => exact (by (with_reducible repeat (first | apply Kd.R_alloc | apply Kd.R_drewN | apply Kd.R_drew)); exact HO.out)); (case aS => exact (below_size (by repeat (first | (with_reducible first | exact HB.out | apply below_alloc | apply pw_below_drewN | apply below_drew1) | exact HB.out)))); (case aL => have := HL.out; omega); intro v140 w8 ho hb hg hat; have n0_ := Aside0.mk (hb); have n1_ := Aside0.mk (ho); clear HB; clear HO; have HB := n0_; have HO := n1_; clear n0_ n1_; clear ho hb hg hat))
          go_roundw
          case rel => exact ⟨1, l ++ [u], by decide, by decide, rfl, H', ⟨by have := HL.out; simp only [List.length_append, List.length_singleton]; omega⟩, ⟨(by (with_reducible repeat (first | apply Kd.R_alloc | apply Kd.R_drewN | apply Kd.R_drew)); exact HO.out)⟩, ⟨(by repeat (first | (with_reducible first | exact HB.out | apply below_alloc | apply pw_below_drewN | apply below_drew1) | exact HB.out))⟩⟩
          case measure => simp [intOf]
      · have H : textR1 k a0_0 a0_1 a0_2 a0_3 a0_4 a0_5 a0_6 a0_7 l = some r := HA.out
        clear HA
        unfold textR1 wordM at H
        rw [Option.bind_assoc] at H
        obtain ⟨t, A1, H⟩ := Option.bind_eq_some_iff.mp H
        have A1 := Aside0.mk A1
        have ix := arr_at1 a0_0 a0_1 a0_2 a0_3 a0_4
        rw [if_neg (by decide), Option.bind_some] at H
        obtain ⟨u, hu'⟩ : ∃ u, u = t := ⟨_, rfl⟩
        rw [← hu'] at H
        subst hu'
        by_cases hu : u = (⟨#[]⟩ : ByteArray)
        · rw [if_pos hu] at H
          obtain rfl := Option.some.inj H
          have cu := toList_emp hu
          clear H
          go_wp2_with (first | (go_at_call 31; (with_reducible refine (cron_list.calls k a0_1 u _ A1.out).mono ?_); rintro e wl ⟨rfl, hb⟩; have n0_ := Aside0.mk (Kd.R_below (by (with_reducible repeat (first | apply Kd.R_alloc | apply Kd.R_drewN | apply Kd.R_drew)); exact HO.out) hb); have n1_ := Aside0.mk (below_step (by repeat (first | (with_reducible first | exact HB.out | apply below_alloc | apply pw_below_drewN | apply below_drew1) | exact HB.out)) hb); clear HO; clear HB; have HO := n0_; have HB := n1_; clear n0_ n1_ hb; have hc5 : wl.cell? ⟨w.heap.size, 5, none⟩ = some (.bool a0_5) := (HB.out.cell (p := ⟨w.heap.size, 5, none⟩) HGL.out).trans (blk_cell HG.out 5); have hc6 : wl.cell? ⟨w.heap.size, 6, none⟩ = some (.bool a0_6) := (HB.out.cell (p := ⟨w.heap.size, 6, none⟩) HGL.out).trans (blk_cell HG.out 6)))
          go_ret
          exact ⟨rfl, HW.out.trans (Below.mono (w := W) (B := W.heap.size) ((by repeat (first | (with_reducible first | exact HB.out | apply below_alloc | apply pw_below_drewN | apply below_drew1) | exact HB.out))) (below_size HW.out))⟩
        · rw [if_neg hu] at H
          have cu := toList_not_emp hu
          have H' := Aside0.mk H
          clear H hu
          go_wp2_with (first | (go_at_call 31; (with_reducible refine (cron_list.calls k a0_1 u _ A1.out).mono ?_); rintro e wl ⟨rfl, hb⟩; have n0_ := Aside0.mk (Kd.R_below (by (with_reducible repeat (first | apply Kd.R_alloc | apply Kd.R_drewN | apply Kd.R_drew)); exact HO.out) hb); have n1_ := Aside0.mk (below_step (by repeat (first | (with_reducible first | exact HB.out | apply below_alloc | apply pw_below_drewN | apply below_drew1) | exact HB.out)) hb); clear HO; clear HB; have HO := n0_; have HB := n1_; clear n0_ n1_ hb; have hc5 : wl.cell? ⟨w.heap.size, 5, none⟩ = some (.bool a0_5) := (HB.out.cell (p := ⟨w.heap.size, 5, none⟩) HGL.out).trans (blk_cell HG.out 5); have hc6 : wl.cell? ⟨w.heap.size, 6, none⟩ = some (.bool a0_6) := (HB.out.cell (p := ⟨w.heap.size, 6, none⟩) HGL.out).trans (blk_cell HG.out 6)) | ((with_reducible refine gate_builtin (b := .append) (xs := #[.tmp 37, .tmp 39]) rfl ?_); at_builtin; refine Kd.R_append Kd.string (w0 := W) W.heap.size rfl (.tmp 37) (.tmp 39) 41 9 (.string ⟨#[]⟩) 16 rfl Tryd.underlying41 info9 rfl (by decide) (by omega) u3 l u [.string u] (fun _ => True) (fun _ => False) rfl rfl ?aP (fun _ hk => hk.elim) ?aF ?aO ?aB ?aS ?aL ?_; (case aP => exact rfl); (case aB => exact (by repeat (first | (with_reducible first | exact HB.out | apply below_alloc | apply pw_below_drewN | apply below_drew1) | exact HB.out))); (case aF => exact (fun _ _ => trivial)); (case aO => exact (by (with_reducible repeat (first | apply Kd.R_alloc | apply Kd.R_drewN | apply Kd.R_drew)); exact HO.out)); (case aS => exact (below_size (by repeat (first | (with_reducible first | exact HB.out | apply below_alloc | apply pw_below_drewN | apply below_drew1) | exact HB.out)))); (case aL => have := HL.out; omega); intro v140 w8 ho hb hg hat; have n0_ := Aside0.mk (hb); have n1_ := Aside0.mk (ho); clear HB; clear HO; have HB := n0_; have HO := n1_; clear n0_ n1_; clear ho hb hg hat))
          go_roundw
          case rel => exact ⟨2, l ++ [u], by decide, by decide, rfl, H', ⟨by have := HL.out; simp only [List.length_append, List.length_singleton]; omega⟩, ⟨(by (with_reducible repeat (first | apply Kd.R_alloc | apply Kd.R_drewN | apply Kd.R_drew)); exact HO.out)⟩, ⟨(by repeat (first | (with_reducible first | exact HB.out | apply below_alloc | apply pw_below_drewN | apply below_drew1) | exact HB.out))⟩⟩
          case measure => simp [intOf]
      · have H : textR2 k a0_0 a0_1 a0_2 a0_3 a0_4 a0_5 a0_6 a0_7 l = some r := HA.out
        clear HA
        unfold textR2 wordM at H
        rw [Option.bind_assoc] at H
        obtain ⟨t, A1, H⟩ := Option.bind_eq_some_iff.mp H
        have A1 := Aside0.mk A1
        have ix := arr_at2 a0_0 a0_1 a0_2 a0_3 a0_4
        cases a0_5 with
        | true =>
          rw [if_pos rfl] at H
          obtain ⟨u, A2, H⟩ := Option.bind_eq_some_iff.mp H
          have A2 := Aside0.mk A2
          by_cases hu : u = (⟨#[]⟩ : ByteArray)
          · rw [if_pos hu] at H
            obtain rfl := Option.some.inj H
            have cu := toList_emp hu
            clear H
            go_wp2_with (first | (go_at_call 31; (with_reducible refine (cron_list.calls k a0_2 t _ A1.out).mono ?_); rintro e wl ⟨rfl, hb⟩; have n0_ := Aside0.mk (Kd.R_below (by (with_reducible repeat (first | apply Kd.R_alloc | apply Kd.R_drewN | apply Kd.R_drew)); exact HO.out) hb); have n1_ := Aside0.mk (below_step (by repeat (first | (with_reducible first | exact HB.out | apply below_alloc | apply pw_below_drewN | apply below_drew1) | exact HB.out)) hb); clear HO; clear HB; have HO := n0_; have HB := n1_; clear n0_ n1_ hb; have hc5 : wl.cell? ⟨w.heap.size, 5, none⟩ = some (.bool true) := (HB.out.cell (p := ⟨w.heap.size, 5, none⟩) HGL.out).trans (blk_cell HG.out 5); have hc6 : wl.cell? ⟨w.heap.size, 6, none⟩ = some (.bool a0_6) := (HB.out.cell (p := ⟨w.heap.size, 6, none⟩) HGL.out).trans (blk_cell HG.out 6)) | (go_at_call 32; (with_reducible refine (cron_any.calls k 2 a0_2 u _ A2.out).mono ?_); rintro e w' ⟨rfl, ⟨nd, rfl⟩⟩))
            go_ret
            exact ⟨rfl, HW.out.trans (Below.mono (w := W) (B := W.heap.size) ((by repeat (first | (with_reducible first | exact HB.out | apply below_alloc | apply pw_below_drewN | apply below_drew1) | exact HB.out))) (below_size HW.out))⟩
          · rw [if_neg hu] at H
            have cu := toList_not_emp hu
            have H' := Aside0.mk H
            clear H hu
            go_wp2_with (first | (go_at_call 31; (with_reducible refine (cron_list.calls k a0_2 t _ A1.out).mono ?_); rintro e wl ⟨rfl, hb⟩; have n0_ := Aside0.mk (Kd.R_below (by (with_reducible repeat (first | apply Kd.R_alloc | apply Kd.R_drewN | apply Kd.R_drew)); exact HO.out) hb); have n1_ := Aside0.mk (below_step (by repeat (first | (with_reducible first | exact HB.out | apply below_alloc | apply pw_below_drewN | apply below_drew1) | exact HB.out)) hb); clear HO; clear HB; have HO := n0_; have HB := n1_; clear n0_ n1_ hb; have hc5 : wl.cell? ⟨w.heap.size, 5, none⟩ = some (.bool true) := (HB.out.cell (p := ⟨w.heap.size, 5, none⟩) HGL.out).trans (blk_cell HG.out 5); have hc6 : wl.cell? ⟨w.heap.size, 6, none⟩ = some (.bool a0_6) := (HB.out.cell (p := ⟨w.heap.size, 6, none⟩) HGL.out).trans (blk_cell HG.out 6)) | (go_at_call 32; (with_reducible refine (cron_any.calls k 2 a0_2 u _ A2.out).mono ?_); rintro e w' ⟨rfl, ⟨nd, rfl⟩⟩) | ((with_reducible refine gate_builtin (b := .append) (xs := #[.tmp 37, .tmp 39]) rfl ?_); at_builtin; refine Kd.R_append Kd.string (w0 := W) W.heap.size rfl (.tmp 37) (.tmp 39) 41 9 (.string ⟨#[]⟩) 16 rfl Tryd.underlying41 info9 rfl (by decide) (by omega) u3 l u [.string u] (fun _ => True) (fun _ => False) rfl rfl ?aP (fun _ hk => hk.elim) ?aF ?aO ?aB ?aS ?aL ?_; (case aP => exact rfl); (case aB => exact (by repeat (first | (with_reducible first | exact HB.out | apply below_alloc | apply pw_below_drewN | apply below_drew1) | exact HB.out))); (case aF => exact (fun _ _ => trivial)); (case aO => exact (by (with_reducible repeat (first | apply Kd.R_alloc | apply Kd.R_drewN | apply Kd.R_drew)); exact HO.out)); (case aS => exact (below_size (by repeat (first | (with_reducible first | exact HB.out | apply below_alloc | apply pw_below_drewN | apply below_drew1) | exact HB.out)))); (case aL => have := HL.out; omega); intro v140 w8 ho hb hg hat; have n0_ := Aside0.mk (hb); have n1_ := Aside0.mk (ho); clear HB; clear HO; have HB := n0_; have HO := n1_; clear n0_ n1_; clear ho hb hg hat))
            go_roundw
            case rel => exact ⟨3, l ++ [u], by decide, by decide, rfl, H', ⟨by have := HL.out; simp only [List.length_append, List.length_singleton]; omega⟩, ⟨(by (with_reducible repeat (first | apply Kd.R_alloc | apply Kd.R_drewN | apply Kd.R_drew)); exact HO.out)⟩, ⟨(by repeat (first | (with_reducible first | exact HB.out | apply below_alloc | apply pw_below_drewN | apply below_drew1) | exact HB.out))⟩⟩
            case measure => simp [intOf]
        | false =>
          rw [if_neg (by decide), Option.bind_some] at H
          obtain ⟨u, hu'⟩ : ∃ u, u = t := ⟨_, rfl⟩
          rw [← hu'] at H
          subst hu'
          by_cases hu : u = (⟨#[]⟩ : ByteArray)
          · rw [if_pos hu] at H
            obtain rfl := Option.some.inj H
            have cu := toList_emp hu
            clear H
            go_wp2_with (first | (go_at_call 31; (with_reducible refine (cron_list.calls k a0_2 u _ A1.out).mono ?_); rintro e wl ⟨rfl, hb⟩; have n0_ := Aside0.mk (Kd.R_below (by (with_reducible repeat (first | apply Kd.R_alloc | apply Kd.R_drewN | apply Kd.R_drew)); exact HO.out) hb); have n1_ := Aside0.mk (below_step (by repeat (first | (with_reducible first | exact HB.out | apply below_alloc | apply pw_below_drewN | apply below_drew1) | exact HB.out)) hb); clear HO; clear HB; have HO := n0_; have HB := n1_; clear n0_ n1_ hb; have hc5 : wl.cell? ⟨w.heap.size, 5, none⟩ = some (.bool false) := (HB.out.cell (p := ⟨w.heap.size, 5, none⟩) HGL.out).trans (blk_cell HG.out 5); have hc6 : wl.cell? ⟨w.heap.size, 6, none⟩ = some (.bool a0_6) := (HB.out.cell (p := ⟨w.heap.size, 6, none⟩) HGL.out).trans (blk_cell HG.out 6)))
            go_ret
            exact ⟨rfl, HW.out.trans (Below.mono (w := W) (B := W.heap.size) ((by repeat (first | (with_reducible first | exact HB.out | apply below_alloc | apply pw_below_drewN | apply below_drew1) | exact HB.out))) (below_size HW.out))⟩
          · rw [if_neg hu] at H
            have cu := toList_not_emp hu
            have H' := Aside0.mk H
            clear H hu
            go_wp2_with (first | (go_at_call 31; (with_reducible refine (cron_list.calls k a0_2 u _ A1.out).mono ?_); rintro e wl ⟨rfl, hb⟩; have n0_ := Aside0.mk (Kd.R_below (by (with_reducible repeat (first | apply Kd.R_alloc | apply Kd.R_drewN | apply Kd.R_drew)); exact HO.out) hb); have n1_ := Aside0.mk (below_step (by repeat (first | (with_reducible first | exact HB.out | apply below_alloc | apply pw_below_drewN | apply below_drew1) | exact HB.out)) hb); clear HO; clear HB; have HO := n0_; have HB := n1_; clear n0_ n1_ hb; have hc5 : wl.cell? ⟨w.heap.size, 5, none⟩ = some (.bool false) := (HB.out.cell (p := ⟨w.heap.size, 5, none⟩) HGL.out).trans (blk_cell HG.out 5); have hc6 : wl.cell? ⟨w.heap.size, 6, none⟩ = some (.bool a0_6) := (HB.out.cell (p := ⟨w.heap.size, 6, none⟩) HGL.out).trans (blk_cell HG.out 6)) | ((with_reducible refine gate_builtin (b := .append) (xs := #[.tmp 37, .tmp 39]) rfl ?_); at_builtin; refine Kd.R_append Kd.string (w0 := W) W.heap.size rfl (.tmp 37) (.tmp 39) 41 9 (.string ⟨#[]⟩) 16 rfl Tryd.underlying41 info9 rfl (by decide) (by omega) u3 l u [.string u] (fun _ => True) (fun _ => False) rfl rfl ?aP (fun _ hk => hk.elim) ?aF ?aO ?aB ?aS ?aL ?_; (case aP => exact rfl); (case aB => exact (by repeat (first | (with_reducible first | exact HB.out | apply below_alloc | apply pw_below_drewN | apply below_drew1) | exact HB.out))); (case aF => exact (fun _ _ => trivial)); (case aO => exact (by (with_reducible repeat (first | apply Kd.R_alloc | apply Kd.R_drewN | apply Kd.R_drew)); exact HO.out)); (case aS => exact (below_size (by repeat (first | (with_reducible first | exact HB.out | apply below_alloc | apply pw_below_drewN | apply below_drew1) | exact HB.out)))); (case aL => have := HL.out; omega); intro v140 w8 ho hb hg hat; have n0_ := Aside0.mk (hb); have n1_ := Aside0.mk (ho); clear HB; clear HO; have HB := n0_; have HO := n1_; clear n0_ n1_; clear ho hb hg hat))
            go_roundw
            case rel => exact ⟨3, l ++ [u], by decide, by decide, rfl, H', ⟨by have := HL.out; simp only [List.length_append, List.length_singleton]; omega⟩, ⟨(by (with_reducible repeat (first | apply Kd.R_alloc | apply Kd.R_drewN | apply Kd.R_drew)); exact HO.out)⟩, ⟨(by repeat (first | (with_reducible first | exact HB.out | apply below_alloc | apply pw_below_drewN | apply below_drew1) | exact HB.out))⟩⟩
            case measure => simp [intOf]
      · have H : textR3 k a0_0 a0_1 a0_2 a0_3 a0_4 a0_5 a0_6 a0_7 l = some r := HA.out
        clear HA
        unfold textR3 wordM at H
        rw [Option.bind_assoc] at H
        obtain ⟨t, A1, H⟩ := Option.bind_eq_some_iff.mp H
        have A1 := Aside0.mk A1
        have ix := arr_at3 a0_0 a0_1 a0_2 a0_3 a0_4
        rw [if_neg (by decide), Option.bind_some] at H
        obtain ⟨u, hu'⟩ : ∃ u, u = t := ⟨_, rfl⟩
        rw [← hu'] at H
        subst hu'
        by_cases hu : u = (⟨#[]⟩ : ByteArray)
        · rw [if_pos hu] at H
          obtain rfl := Option.some.inj H
          have cu := toList_emp hu
          clear H
          go_wp2_with (first | (go_at_call 31; (with_reducible refine (cron_list.calls k a0_3 u _ A1.out).mono ?_); rintro e wl ⟨rfl, hb⟩; have n0_ := Aside0.mk (Kd.R_below (by (with_reducible repeat (first | apply Kd.R_alloc | apply Kd.R_drewN | apply Kd.R_drew)); exact HO.out) hb); have n1_ := Aside0.mk (below_step (by repeat (first | (with_reducible first | exact HB.out | apply below_alloc | apply pw_below_drewN | apply below_drew1) | exact HB.out)) hb); clear HO; clear HB; have HO := n0_; have HB := n1_; clear n0_ n1_ hb; have hc5 : wl.cell? ⟨w.heap.size, 5, none⟩ = some (.bool a0_5) := (HB.out.cell (p := ⟨w.heap.size, 5, none⟩) HGL.out).trans (blk_cell HG.out 5); have hc6 : wl.cell? ⟨w.heap.size, 6, none⟩ = some (.bool a0_6) := (HB.out.cell (p := ⟨w.heap.size, 6, none⟩) HGL.out).trans (blk_cell HG.out 6)))
          go_ret
          exact ⟨rfl, HW.out.trans (Below.mono (w := W) (B := W.heap.size) ((by repeat (first | (with_reducible first | exact HB.out | apply below_alloc | apply pw_below_drewN | apply below_drew1) | exact HB.out))) (below_size HW.out))⟩
        · rw [if_neg hu] at H
          have cu := toList_not_emp hu
          have H' := Aside0.mk H
          clear H hu
          go_wp2_with (first | (go_at_call 31; (with_reducible refine (cron_list.calls k a0_3 u _ A1.out).mono ?_); rintro e wl ⟨rfl, hb⟩; have n0_ := Aside0.mk (Kd.R_below (by (with_reducible repeat (first | apply Kd.R_alloc | apply Kd.R_drewN | apply Kd.R_drew)); exact HO.out) hb); have n1_ := Aside0.mk (below_step (by repeat (first | (with_reducible first | exact HB.out | apply below_alloc | apply pw_below_drewN | apply below_drew1) | exact HB.out)) hb); clear HO; clear HB; have HO := n0_; have HB := n1_; clear n0_ n1_ hb; have hc5 : wl.cell? ⟨w.heap.size, 5, none⟩ = some (.bool a0_5) := (HB.out.cell (p := ⟨w.heap.size, 5, none⟩) HGL.out).trans (blk_cell HG.out 5); have hc6 : wl.cell? ⟨w.heap.size, 6, none⟩ = some (.bool a0_6) := (HB.out.cell (p := ⟨w.heap.size, 6, none⟩) HGL.out).trans (blk_cell HG.out 6)) | ((with_reducible refine gate_builtin (b := .append) (xs := #[.tmp 37, .tmp 39]) rfl ?_); at_builtin; refine Kd.R_append Kd.string (w0 := W) W.heap.size rfl (.tmp 37) (.tmp 39) 41 9 (.string ⟨#[]⟩) 16 rfl Tryd.underlying41 info9 rfl (by decide) (by omega) u3 l u [.string u] (fun _ => True) (fun _ => False) rfl rfl ?aP (fun _ hk => hk.elim) ?aF ?aO ?aB ?aS ?aL ?_; (case aP => exact rfl); (case aB => exact (by repeat (first | (with_reducible first | exact HB.out | apply below_alloc | apply pw_below_drewN | apply below_drew1) | exact HB.out))); (case aF => exact (fun _ _ => trivial)); (case aO => exact (by (with_reducible repeat (first | apply Kd.R_alloc | apply Kd.R_drewN | apply Kd.R_drew)); exact HO.out)); (case aS => exact (below_size (by repeat (first | (with_reducible first | exact HB.out | apply below_alloc | apply pw_below_drewN | apply below_drew1) | exact HB.out)))); (case aL => have := HL.out; omega); intro v140 w8 ho hb hg hat; have n0_ := Aside0.mk (hb); have n1_ := Aside0.mk (ho); clear HB; clear HO; have HB := n0_; have HO := n1_; clear n0_ n1_; clear ho hb hg hat))
          go_roundw
          case rel => exact ⟨4, l ++ [u], by decide, by decide, rfl, H', ⟨by have := HL.out; simp only [List.length_append, List.length_singleton]; omega⟩, ⟨(by (with_reducible repeat (first | apply Kd.R_alloc | apply Kd.R_drewN | apply Kd.R_drew)); exact HO.out)⟩, ⟨(by repeat (first | (with_reducible first | exact HB.out | apply below_alloc | apply pw_below_drewN | apply below_drew1) | exact HB.out))⟩⟩
          case measure => simp [intOf]
      · have H : textR4 k a0_0 a0_1 a0_2 a0_3 a0_4 a0_5 a0_6 a0_7 l = some r := HA.out
        clear HA
        unfold textR4 wordM at H
        rw [Option.bind_assoc] at H
        obtain ⟨t, A1, H⟩ := Option.bind_eq_some_iff.mp H
        have A1 := Aside0.mk A1
        have ix := arr_at4 a0_0 a0_1 a0_2 a0_3 a0_4
        cases a0_6 with
        | true =>
          rw [if_pos rfl] at H
          obtain ⟨u, A2, H⟩ := Option.bind_eq_some_iff.mp H
          have A2 := Aside0.mk A2
          by_cases hu : u = (⟨#[]⟩ : ByteArray)
          · rw [if_pos hu] at H
            obtain rfl := Option.some.inj H
            have cu := toList_emp hu
            clear H
            go_wp2_with (first | (go_at_call 31; (with_reducible refine (cron_list.calls k a0_4 t _ A1.out).mono ?_); rintro e wl ⟨rfl, hb⟩; have n0_ := Aside0.mk (Kd.R_below (by (with_reducible repeat (first | apply Kd.R_alloc | apply Kd.R_drewN | apply Kd.R_drew)); exact HO.out) hb); have n1_ := Aside0.mk (below_step (by repeat (first | (with_reducible first | exact HB.out | apply below_alloc | apply pw_below_drewN | apply below_drew1) | exact HB.out)) hb); clear HO; clear HB; have HO := n0_; have HB := n1_; clear n0_ n1_ hb; have hc5 : wl.cell? ⟨w.heap.size, 5, none⟩ = some (.bool a0_5) := (HB.out.cell (p := ⟨w.heap.size, 5, none⟩) HGL.out).trans (blk_cell HG.out 5); have hc6 : wl.cell? ⟨w.heap.size, 6, none⟩ = some (.bool true) := (HB.out.cell (p := ⟨w.heap.size, 6, none⟩) HGL.out).trans (blk_cell HG.out 6)) | (go_at_call 32; (with_reducible refine (cron_any.calls k 4 a0_4 u _ A2.out).mono ?_); rintro e w' ⟨rfl, ⟨nd, rfl⟩⟩))
            go_ret
            exact ⟨rfl, HW.out.trans (Below.mono (w := W) (B := W.heap.size) ((by repeat (first | (with_reducible first | exact HB.out | apply below_alloc | apply pw_below_drewN | apply below_drew1) | exact HB.out))) (below_size HW.out))⟩
          · rw [if_neg hu] at H
            have cu := toList_not_emp hu
            have H' := Aside0.mk H
            clear H hu
            go_wp2_with (first | (go_at_call 31; (with_reducible refine (cron_list.calls k a0_4 t _ A1.out).mono ?_); rintro e wl ⟨rfl, hb⟩; have n0_ := Aside0.mk (Kd.R_below (by (with_reducible repeat (first | apply Kd.R_alloc | apply Kd.R_drewN | apply Kd.R_drew)); exact HO.out) hb); have n1_ := Aside0.mk (below_step (by repeat (first | (with_reducible first | exact HB.out | apply below_alloc | apply pw_below_drewN | apply below_drew1) | exact HB.out)) hb); clear HO; clear HB; have HO := n0_; have HB := n1_; clear n0_ n1_ hb; have hc5 : wl.cell? ⟨w.heap.size, 5, none⟩ = some (.bool a0_5) := (HB.out.cell (p := ⟨w.heap.size, 5, none⟩) HGL.out).trans (blk_cell HG.out 5); have hc6 : wl.cell? ⟨w.heap.size, 6, none⟩ = some (.bool true) := (HB.out.cell (p := ⟨w.heap.size, 6, none⟩) HGL.out).trans (blk_cell HG.out 6)) | (go_at_call 32; (with_reducible refine (cron_any.calls k 4 a0_4 u _ A2.out).mono ?_); rintro e w' ⟨rfl, ⟨nd, rfl⟩⟩) | ((with_reducible refine gate_builtin (b := .append) (xs := #[.tmp 37, .tmp 39]) rfl ?_); at_builtin; refine Kd.R_append Kd.string (w0 := W) W.heap.size rfl (.tmp 37) (.tmp 39) 41 9 (.string ⟨#[]⟩) 16 rfl Tryd.underlying41 info9 rfl (by decide) (by omega) u3 l u [.string u] (fun _ => True) (fun _ => False) rfl rfl ?aP (fun _ hk => hk.elim) ?aF ?aO ?aB ?aS ?aL ?_; (case aP => exact rfl); (case aB => exact (by repeat (first | (with_reducible first | exact HB.out | apply below_alloc | apply pw_below_drewN | apply below_drew1) | exact HB.out))); (case aF => exact (fun _ _ => trivial)); (case aO => exact (by (with_reducible repeat (first | apply Kd.R_alloc | apply Kd.R_drewN | apply Kd.R_drew)); exact HO.out)); (case aS => exact (below_size (by repeat (first | (with_reducible first | exact HB.out | apply below_alloc | apply pw_below_drewN | apply below_drew1) | exact HB.out)))); (case aL => have := HL.out; omega); intro v140 w8 ho hb hg hat; have n0_ := Aside0.mk (hb); have n1_ := Aside0.mk (ho); clear HB; clear HO; have HB := n0_; have HO := n1_; clear n0_ n1_; clear ho hb hg hat))
            go_roundw
            case rel => exact ⟨5, l ++ [u], by decide, by decide, rfl, H', ⟨by have := HL.out; simp only [List.length_append, List.length_singleton]; omega⟩, ⟨(by (with_reducible repeat (first | apply Kd.R_alloc | apply Kd.R_drewN | apply Kd.R_drew)); exact HO.out)⟩, ⟨(by repeat (first | (with_reducible first | exact HB.out | apply below_alloc | apply pw_below_drewN | apply below_drew1) | exact HB.out))⟩⟩
            case measure => simp [intOf]
        | false =>
          rw [if_neg (by decide), Option.bind_some] at H
          obtain ⟨u, hu'⟩ : ∃ u, u = t := ⟨_, rfl⟩
          rw [← hu'] at H
          subst hu'
          by_cases hu : u = (⟨#[]⟩ : ByteArray)
          · rw [if_pos hu] at H
            obtain rfl := Option.some.inj H
            have cu := toList_emp hu
            clear H
            go_wp2_with (first | (go_at_call 31; (with_reducible refine (cron_list.calls k a0_4 u _ A1.out).mono ?_); rintro e wl ⟨rfl, hb⟩; have n0_ := Aside0.mk (Kd.R_below (by (with_reducible repeat (first | apply Kd.R_alloc | apply Kd.R_drewN | apply Kd.R_drew)); exact HO.out) hb); have n1_ := Aside0.mk (below_step (by repeat (first | (with_reducible first | exact HB.out | apply below_alloc | apply pw_below_drewN | apply below_drew1) | exact HB.out)) hb); clear HO; clear HB; have HO := n0_; have HB := n1_; clear n0_ n1_ hb; have hc5 : wl.cell? ⟨w.heap.size, 5, none⟩ = some (.bool a0_5) := (HB.out.cell (p := ⟨w.heap.size, 5, none⟩) HGL.out).trans (blk_cell HG.out 5); have hc6 : wl.cell? ⟨w.heap.size, 6, none⟩ = some (.bool false) := (HB.out.cell (p := ⟨w.heap.size, 6, none⟩) HGL.out).trans (blk_cell HG.out 6)))
            go_ret
            exact ⟨rfl, HW.out.trans (Below.mono (w := W) (B := W.heap.size) ((by repeat (first | (with_reducible first | exact HB.out | apply below_alloc | apply pw_below_drewN | apply below_drew1) | exact HB.out))) (below_size HW.out))⟩
          · rw [if_neg hu] at H
            have cu := toList_not_emp hu
            have H' := Aside0.mk H
            clear H hu
            go_wp2_with (first | (go_at_call 31; (with_reducible refine (cron_list.calls k a0_4 u _ A1.out).mono ?_); rintro e wl ⟨rfl, hb⟩; have n0_ := Aside0.mk (Kd.R_below (by (with_reducible repeat (first | apply Kd.R_alloc | apply Kd.R_drewN | apply Kd.R_drew)); exact HO.out) hb); have n1_ := Aside0.mk (below_step (by repeat (first | (with_reducible first | exact HB.out | apply below_alloc | apply pw_below_drewN | apply below_drew1) | exact HB.out)) hb); clear HO; clear HB; have HO := n0_; have HB := n1_; clear n0_ n1_ hb; have hc5 : wl.cell? ⟨w.heap.size, 5, none⟩ = some (.bool a0_5) := (HB.out.cell (p := ⟨w.heap.size, 5, none⟩) HGL.out).trans (blk_cell HG.out 5); have hc6 : wl.cell? ⟨w.heap.size, 6, none⟩ = some (.bool false) := (HB.out.cell (p := ⟨w.heap.size, 6, none⟩) HGL.out).trans (blk_cell HG.out 6)) | ((with_reducible refine gate_builtin (b := .append) (xs := #[.tmp 37, .tmp 39]) rfl ?_); at_builtin; refine Kd.R_append Kd.string (w0 := W) W.heap.size rfl (.tmp 37) (.tmp 39) 41 9 (.string ⟨#[]⟩) 16 rfl Tryd.underlying41 info9 rfl (by decide) (by omega) u3 l u [.string u] (fun _ => True) (fun _ => False) rfl rfl ?aP (fun _ hk => hk.elim) ?aF ?aO ?aB ?aS ?aL ?_; (case aP => exact rfl); (case aB => exact (by repeat (first | (with_reducible first | exact HB.out | apply below_alloc | apply pw_below_drewN | apply below_drew1) | exact HB.out))); (case aF => exact (fun _ _ => trivial)); (case aO => exact (by (with_reducible repeat (first | apply Kd.R_alloc | apply Kd.R_drewN | apply Kd.R_drew)); exact HO.out)); (case aS => exact (below_size (by repeat (first | (with_reducible first | exact HB.out | apply below_alloc | apply pw_below_drewN | apply below_drew1) | exact HB.out)))); (case aL => have := HL.out; omega); intro v140 w8 ho hb hg hat; have n0_ := Aside0.mk (hb); have n1_ := Aside0.mk (ho); clear HB; clear HO; have HB := n0_; have HO := n1_; clear n0_ n1_; clear ho hb hg hat))
            go_roundw
            case rel => exact ⟨5, l ++ [u], by decide, by decide, rfl, H', ⟨by have := HL.out; simp only [List.length_append, List.length_singleton]; omega⟩, ⟨(by (with_reducible repeat (first | apply Kd.R_alloc | apply Kd.R_drewN | apply Kd.R_drew)); exact HO.out)⟩, ⟨(by repeat (first | (with_reducible first | exact HB.out | apply below_alloc | apply pw_below_drewN | apply below_drew1) | exact HB.out))⟩⟩
            case measure => simp [intOf]
      · have H : textEnd a0_7 l = some r := HA.out
        clear HA
        have hc7 := (HB.out.cell (p := ⟨w.heap.size, 7, none⟩) HGL.out).trans ((blk_cell HG.out 7).trans (rfl : _ = some (Value.int .i64 a0_7)))
        obtain ⟨b1, b2⟩ := HBd.out
        have hneg : wrap64 (-a0_7) = -a0_7 := wrap_neg b1 b2
        unfold textEnd at H
        by_cases h1 : a0_7 > 0
        · rw [if_pos h1] at H
          obtain ⟨hh, A1, hhs⟩ := two_some (Int.tdiv (a0_7) 60)
          obtain ⟨mm, A2, mms⟩ := two_some (Int.tmod (a0_7) 60)
          rw [A1, Option.bind_some, A2, Option.bind_some] at H
          have A1 := Aside0.mk A1
          have A2 := Aside0.mk A2
          obtain ⟨y, hy⟩ : ∃ y : List ByteArray, y = (l ++ [((⟨#[43]⟩ : ByteArray) ++ hh) ++ mm]) := ⟨_, rfl⟩
          rw [← hy] at H
          have NY := Aside0.mk hy
          have A3 := Aside0.mk H
          clear H hy
          have q1 : wrap64 (Int.tdiv (a0_7) 60) = Int.tdiv (a0_7) 60 := wrap_tdiv (by omega) (by omega)
          have s1 := eq_true (show 1 + hh.size ≤ 9223372036854775807 by omega)
          have s2 := eq_false (show ¬ 9223372036854775807 < 1 + hh.size by omega)
          have s3 := eq_true (show 1 + hh.size + mm.size ≤ 9223372036854775807 by omega)
          have s4 := eq_false (show ¬ 9223372036854775807 < 1 + hh.size + mm.size by omega)
          have s5 : (((⟨#[43]⟩ : ByteArray) ++ hh).size + mm.size ≤ 9223372036854775807) = True := eq_true (by rw [ByteArray.size_append]; exact (show 1 + hh.size + mm.size ≤ 9223372036854775807 by omega))
          have s6 : (9223372036854775807 < ((⟨#[43]⟩ : ByteArray) ++ hh).size + mm.size) = False := eq_false (by rw [ByteArray.size_append]; exact (show ¬ 9223372036854775807 < 1 + hh.size + mm.size by omega))
          have Q1 := Aside0.mk q1
          clear hhs mms q1
          go_wp2_with (first | (go_at_call 33; (with_reducible refine (cron_two.calls _ hh _ ?cl).mono ?_); (case cl => first | exact A1.out | (rw [Q1.out]; exact A1.out) | (rw [← Int.neg_tdiv, Q1.out]; exact A1.out) | (rw [← Int.neg_tmod]; exact A1.out) | (rw [← Int.tdiv_eq_ediv_of_nonneg (by omega)]; exact A1.out) | (rw [← Int.tmod_eq_emod_of_nonneg (by omega)]; exact A1.out)); rintro e w' ⟨rfl, hb⟩; have n0_ := Aside0.mk (Kd.R_below (by (with_reducible repeat (first | apply Kd.R_alloc | apply Kd.R_drewN | apply Kd.R_drew)); exact HO.out) hb); have n1_ := Aside0.mk (below_step (by repeat (first | (with_reducible first | exact HB.out | apply below_alloc | apply pw_below_drewN | apply below_drew1) | exact HB.out)) hb); clear HO; clear HB; have HO := n0_; have HB := n1_; clear n0_ n1_ hb) | (go_at_call 33; (with_reducible refine (cron_two.calls _ mm _ ?cl).mono ?_); (case cl => first | exact A2.out | (rw [Q1.out]; exact A2.out) | (rw [← Int.neg_tdiv, Q1.out]; exact A2.out) | (rw [← Int.neg_tmod]; exact A2.out) | (rw [← Int.tdiv_eq_ediv_of_nonneg (by omega)]; exact A2.out) | (rw [← Int.tmod_eq_emod_of_nonneg (by omega)]; exact A2.out)); rintro e w' ⟨rfl, hb⟩; have n0_ := Aside0.mk (Kd.R_below (by (with_reducible repeat (first | apply Kd.R_alloc | apply Kd.R_drewN | apply Kd.R_drew)); exact HO.out) hb); have n1_ := Aside0.mk (below_step (by repeat (first | (with_reducible first | exact HB.out | apply below_alloc | apply pw_below_drewN | apply below_drew1) | exact HB.out)) hb); clear HO; clear HB; have HO := n0_; have HB := n1_; clear n0_ n1_ hb) | ((with_reducible refine gate_builtin (b := .append) (xs := #[.tmp 52, .tmp 61]) rfl ?_); at_builtin; refine Kd.R_append Kd.string (w0 := W) W.heap.size rfl (.tmp 52) (.tmp 61) 41 9 (.string ⟨#[]⟩) 16 rfl Tryd.underlying41 info9 rfl (by decide) (by omega) u3 l (((⟨#[43]⟩ : ByteArray) ++ hh) ++ mm) [.string (((⟨#[43]⟩ : ByteArray) ++ hh) ++ mm)] (fun _ => True) (fun _ => False) rfl rfl ?aP (fun _ hk => hk.elim) ?aF ?aO ?aB ?aS ?aL ?_; (case aP => exact rfl); (case aB => exact (by repeat (first | (with_reducible first | exact HB.out | apply below_alloc | apply pw_below_drewN | apply below_drew1) | exact HB.out))); (case aF => exact (fun _ _ => trivial)); (case aO => exact (by (with_reducible repeat (first | apply Kd.R_alloc | apply Kd.R_drewN | apply Kd.R_drew)); exact HO.out)); (case aS => exact (below_size (by repeat (first | (with_reducible first | exact HB.out | apply below_alloc | apply pw_below_drewN | apply below_drew1) | exact HB.out)))); (case aL => have := HL.out; omega); intro v140 w8 ho hb hg hat; rw [← NY.out] at ho; have n0_ := Aside0.mk (hb); have n1_ := Aside0.mk (ho); clear HB; clear HO; have HB := n0_; have HO := n1_; clear n0_ n1_; clear ho hb hg hat; obtain ⟨Ao, co, eo⟩ := Kd.R_slice HO.out; subst eo) | ((with_reducible refine gate_callee (f := 34) rfl ?_); refine goesL_ (some 79) rfl rfl Tryd.func34 (by kernel_rfl) rfl #[.slice Ao y.length co, .string (⟨#[32]⟩ : ByteArray)] rfl (by (try simp only [List.map_toArray, List.map_cons, List.map_nil]); first | done | rfl | (simp only [List.length_drop, List.length_take]; rfl)) ?_; (with_reducible refine (strings_Join.calls _ _ y (⟨#[32]⟩ : ByteArray) r _ ?side1 ?side2 A3.out).mono ?_); (case side1 => repeat (first | exact (Kd.R_reads' HO.out).2.2 | (with_reducible refine Kd.C_alloc ?_ _) | (with_reducible refine Kd.C_drewN ?_ _) | (with_reducible refine Kd.C_drew ?_))); (case side2 => exact (Kd.R_reads' HO.out).2.1); rintro e w11 ⟨rfl, hb⟩; refine ⟨_, rfl, ?_⟩; have n1_ := Aside0.mk (below_step (by repeat (first | (with_reducible first | exact HB.out | apply below_alloc | apply pw_below_drewN | apply below_drew1) | exact HB.out)) hb); clear HB; have HB := n1_; clear n1_ hb))
          go_ret
          exact ⟨rfl, HW.out.trans (Below.mono (w := W) (B := W.heap.size) ((by repeat (first | (with_reducible first | exact HB.out | apply below_alloc | apply pw_below_drewN | apply below_drew1) | exact HB.out))) (below_size HW.out))⟩
        · rw [if_neg h1] at H
          by_cases h2 : a0_7 < 0
          · rw [if_pos h2] at H
            obtain ⟨hh, A1, hhs⟩ := two_some (Int.tdiv (-a0_7) 60)
            obtain ⟨mm, A2, mms⟩ := two_some (Int.tmod (-a0_7) 60)
            rw [A1, Option.bind_some, A2, Option.bind_some] at H
            have A1 := Aside0.mk A1
            have A2 := Aside0.mk A2
            obtain ⟨y, hy⟩ : ∃ y : List ByteArray, y = (l ++ [((⟨#[45]⟩ : ByteArray) ++ hh) ++ mm]) := ⟨_, rfl⟩
            rw [← hy] at H
            have NY := Aside0.mk hy
            have A3 := Aside0.mk H
            clear H hy
            have q1 : wrap64 (Int.tdiv (-a0_7) 60) = Int.tdiv (-a0_7) 60 := wrap_tdiv (by omega) (by omega)
            have s1 := eq_true (show 1 + hh.size ≤ 9223372036854775807 by omega)
            have s2 := eq_false (show ¬ 9223372036854775807 < 1 + hh.size by omega)
            have s3 := eq_true (show 1 + hh.size + mm.size ≤ 9223372036854775807 by omega)
            have s4 := eq_false (show ¬ 9223372036854775807 < 1 + hh.size + mm.size by omega)
            have s5 : (((⟨#[45]⟩ : ByteArray) ++ hh).size + mm.size ≤ 9223372036854775807) = True := eq_true (by rw [ByteArray.size_append]; exact (show 1 + hh.size + mm.size ≤ 9223372036854775807 by omega))
            have s6 : (9223372036854775807 < ((⟨#[45]⟩ : ByteArray) ++ hh).size + mm.size) = False := eq_false (by rw [ByteArray.size_append]; exact (show ¬ 9223372036854775807 < 1 + hh.size + mm.size by omega))
            have Q1 := Aside0.mk q1
            clear hhs mms q1
            go_wp2_with (first | (go_at_call 33; (with_reducible refine (cron_two.calls _ hh _ ?cl).mono ?_); (case cl => first | exact A1.out | (rw [Q1.out]; exact A1.out) | (rw [← Int.neg_tdiv, Q1.out]; exact A1.out) | (rw [← Int.neg_tmod]; exact A1.out) | (rw [← Int.tdiv_eq_ediv_of_nonneg (by omega)]; exact A1.out) | (rw [← Int.tmod_eq_emod_of_nonneg (by omega)]; exact A1.out)); rintro e w' ⟨rfl, hb⟩; have n0_ := Aside0.mk (Kd.R_below (by (with_reducible repeat (first | apply Kd.R_alloc | apply Kd.R_drewN | apply Kd.R_drew)); exact HO.out) hb); have n1_ := Aside0.mk (below_step (by repeat (first | (with_reducible first | exact HB.out | apply below_alloc | apply pw_below_drewN | apply below_drew1) | exact HB.out)) hb); clear HO; clear HB; have HO := n0_; have HB := n1_; clear n0_ n1_ hb) | (go_at_call 33; (with_reducible refine (cron_two.calls _ mm _ ?cl).mono ?_); (case cl => first | exact A2.out | (rw [Q1.out]; exact A2.out) | (rw [← Int.neg_tdiv, Q1.out]; exact A2.out) | (rw [← Int.neg_tmod]; exact A2.out) | (rw [← Int.tdiv_eq_ediv_of_nonneg (by omega)]; exact A2.out) | (rw [← Int.tmod_eq_emod_of_nonneg (by omega)]; exact A2.out)); rintro e w' ⟨rfl, hb⟩; have n0_ := Aside0.mk (Kd.R_below (by (with_reducible repeat (first | apply Kd.R_alloc | apply Kd.R_drewN | apply Kd.R_drew)); exact HO.out) hb); have n1_ := Aside0.mk (below_step (by repeat (first | (with_reducible first | exact HB.out | apply below_alloc | apply pw_below_drewN | apply below_drew1) | exact HB.out)) hb); clear HO; clear HB; have HO := n0_; have HB := n1_; clear n0_ n1_ hb) | ((with_reducible refine gate_builtin (b := .append) (xs := #[.tmp 67, .tmp 76]) rfl ?_); at_builtin; refine Kd.R_append Kd.string (w0 := W) W.heap.size rfl (.tmp 67) (.tmp 76) 41 9 (.string ⟨#[]⟩) 16 rfl Tryd.underlying41 info9 rfl (by decide) (by omega) u3 l (((⟨#[45]⟩ : ByteArray) ++ hh) ++ mm) [.string (((⟨#[45]⟩ : ByteArray) ++ hh) ++ mm)] (fun _ => True) (fun _ => False) rfl rfl ?aP (fun _ hk => hk.elim) ?aF ?aO ?aB ?aS ?aL ?_; (case aP => exact rfl); (case aB => exact (by repeat (first | (with_reducible first | exact HB.out | apply below_alloc | apply pw_below_drewN | apply below_drew1) | exact HB.out))); (case aF => exact (fun _ _ => trivial)); (case aO => exact (by (with_reducible repeat (first | apply Kd.R_alloc | apply Kd.R_drewN | apply Kd.R_drew)); exact HO.out)); (case aS => exact (below_size (by repeat (first | (with_reducible first | exact HB.out | apply below_alloc | apply pw_below_drewN | apply below_drew1) | exact HB.out)))); (case aL => have := HL.out; omega); intro v140 w8 ho hb hg hat; rw [← NY.out] at ho; have n0_ := Aside0.mk (hb); have n1_ := Aside0.mk (ho); clear HB; clear HO; have HB := n0_; have HO := n1_; clear n0_ n1_; clear ho hb hg hat; obtain ⟨Ao, co, eo⟩ := Kd.R_slice HO.out; subst eo) | ((with_reducible refine gate_callee (f := 34) rfl ?_); refine goesL_ (some 79) rfl rfl Tryd.func34 (by kernel_rfl) rfl #[.slice Ao y.length co, .string (⟨#[32]⟩ : ByteArray)] rfl (by (try simp only [List.map_toArray, List.map_cons, List.map_nil]); first | done | rfl | (simp only [List.length_drop, List.length_take]; rfl)) ?_; (with_reducible refine (strings_Join.calls _ _ y (⟨#[32]⟩ : ByteArray) r _ ?side1 ?side2 A3.out).mono ?_); (case side1 => repeat (first | exact (Kd.R_reads' HO.out).2.2 | (with_reducible refine Kd.C_alloc ?_ _) | (with_reducible refine Kd.C_drewN ?_ _) | (with_reducible refine Kd.C_drew ?_))); (case side2 => exact (Kd.R_reads' HO.out).2.1); rintro e w11 ⟨rfl, hb⟩; refine ⟨_, rfl, ?_⟩; have n1_ := Aside0.mk (below_step (by repeat (first | (with_reducible first | exact HB.out | apply below_alloc | apply pw_below_drewN | apply below_drew1) | exact HB.out)) hb); clear HB; have HB := n1_; clear n1_ hb))
            go_ret
            exact ⟨rfl, HW.out.trans (Below.mono (w := W) (B := W.heap.size) ((by repeat (first | (with_reducible first | exact HB.out | apply below_alloc | apply pw_below_drewN | apply below_drew1) | exact HB.out))) (below_size HW.out))⟩
          · rw [if_neg h2] at H
            have h3 : a0_7 = 0 := by omega
            have A3 := Aside0.mk H
            obtain ⟨Ao, co, eo⟩ := Kd.R_slice HO.out
            subst eo
            clear H
            subst h3
            go_wp2_with (first | ((with_reducible refine gate_callee (f := 34) rfl ?_); refine goesL_ (some 79) rfl rfl Tryd.func34 (by kernel_rfl) rfl #[.slice Ao l.length co, .string (⟨#[32]⟩ : ByteArray)] rfl (by (try simp only [List.map_toArray, List.map_cons, List.map_nil]); first | done | rfl | (simp only [List.length_drop, List.length_take]; rfl)) ?_; (with_reducible refine (strings_Join.calls _ _ l (⟨#[32]⟩ : ByteArray) r _ ?side1 ?side2 A3.out).mono ?_); (case side1 => repeat (first | exact (Kd.R_reads' HO.out).2.2 | (with_reducible refine Kd.C_alloc ?_ _) | (with_reducible refine Kd.C_drewN ?_ _) | (with_reducible refine Kd.C_drew ?_))); (case side2 => exact (Kd.R_reads' HO.out).2.1); rintro e w11 ⟨rfl, hb⟩; refine ⟨_, rfl, ?_⟩; have n1_ := Aside0.mk (below_step (by repeat (first | (with_reducible first | exact HB.out | apply below_alloc | apply pw_below_drewN | apply below_drew1) | exact HB.out)) hb); clear HB; have HB := n1_; clear n1_ hb))
            go_ret
            exact ⟨rfl, HW.out.trans (Below.mono (w := W) (B := W.heap.size) ((by repeat (first | (with_reducible first | exact HB.out | apply below_alloc | apply pw_below_drewN | apply below_drew1) | exact HB.out))) (below_size HW.out))⟩

end Go.Proofs.YtmjfocfdbodmpaaDoor.X
