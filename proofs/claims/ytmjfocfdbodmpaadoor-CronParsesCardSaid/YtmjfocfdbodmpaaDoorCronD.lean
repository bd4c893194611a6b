/- Parts, fields and the sixth field of a cron text: the program's functions and the reference's give the plain answers. -/
import Derived.Test.YtmjfocfdbodmpaaDoorX10
import Derived.Test.YtmjfocfdbodmpaaDoorX2
import Derived.Test.YtmjfocfdbodmpaaDoorX3
import Derived.Test.YtmjfocfdbodmpaaDoorX9
import Derived.Test.YtmjfocfdbodmpaaDoorCronC
namespace Go.Proofs.YtmjfocfdbodmpaaDoor.CS
open Go Go.RowKit Go.Proofs.YtmjfocfdbodmpaaDoorW.PrintWords Go.Proofs.YtmjfocfdbodmpaaDoor.X

/-! ### parts -/
def z7 (f n : Nat) : Nat := if f = 4 then (if n = 7 then 0 else n) else n
def set7 (f a b step : Nat) : Nat := bitsOf ((span a b step).map (z7 f))
/-- A part without its step: where, from, to. -/
def partS (f step : Nat) (w a b : Bs) (r : Bool) : Option Nat := if w = [42] then some (full f step) else match place f a with
  | none => none
  | some x => match (if r = true then place f b else some x) with
    | none => none
    | some y => if y < x then none else some (set7 f x y step)
def part (f : Nat) (s : Bs) : Option Nat := if (cut 47 s).2.2 = true then
    (match num (cut 47 s).2.1 with
     | none => none
     | some n => if 1 ≤ n then (if (cut 47 s).1 = [42] ∨ (cut 45 (cut 47 s).1).2.2 = true then partS f n (cut 47 s).1 (cut 45 (cut 47 s).1).1 (cut 45 (cut 47 s).1).2.1 (cut 45 (cut 47 s).1).2.2 else none) else none)
  else partS f 1 (cut 47 s).1 (cut 45 (cut 47 s).1).1 (cut 45 (cut 47 s).1).2.1 (cut 45 (cut 47 s).1).2.2
theorem span_far (a b step : Nat) (hb : b ≤ 7) (h : 8 ≤ step) : span a b step = span a b 8 := by
  have key : ∀ st, 8 ≤ st → stepsL b st 64 a = if a ≤ b then [a] else [] := by
    intro st h
    rw [stepsL]
    split
    · rw [stepsL, if_neg (by omega)]
    · rfl
  unfold span
  rw [key step h, key 8 (Nat.le_refl _)]
theorem set7_small : ∀ a : Fin 8, ∀ b : Fin 8, ∀ st : Fin 9, (if (Go.bits .and .u64 (((bitsOf (span a.val b.val st.val) : Nat) : Int) / 128) 1) = 1 then (Go.bits .or .u64 (Go.bits .andNot .u64 ((bitsOf (span a.val b.val st.val) : Nat) : Int) 128) 1) else ((bitsOf (span a.val b.val st.val) : Nat) : Int)) = ((set7 4 a.val b.val st.val : Nat) : Int) := by
  decide +kernel
theorem set7_eq (a b step : Nat) (ha : a ≤ 7) (hb : b ≤ 7) : (if (Go.bits .and .u64 (((bitsOf (span a b step) : Nat) : Int) / 128) 1) = 1 then (Go.bits .or .u64 (Go.bits .andNot .u64 ((bitsOf (span a b step) : Nat) : Int) 128) 1) else ((bitsOf (span a b step) : Nat) : Int)) = ((set7 4 a b step : Nat) : Int) := by
  by_cases h : 8 ≤ step
  · have := set7_small ⟨a, by omega⟩ ⟨b, by omega⟩ ⟨8, by omega⟩
    unfold set7 at this ⊢
    rw [span_far a b step hb h]
    exact this
  · exact set7_small ⟨a, by omega⟩ ⟨b, by omega⟩ ⟨step, by omega⟩
theorem set7_other (f a b step : Nat) (h : f ≠ 4) : set7 f a b step = bitsOf (span a b step) := by
  unfold set7
  have : (span a b step).map (z7 f) = span a b step := by
    conv => rhs; rw [← List.map_id (span a b step)]
    congr 1
    funext n
    simp [z7, h]
  rw [this]
theorem set7_lt (f a b step : Nat) (hb : b < 64) : set7 f a b step < 2 ^ 64 := by
  refine bitsOf_lt _ fun n hn => ?_
  obtain ⟨m, hm, rfl⟩ := List.mem_map.1 hn
  have := span_lt a b step hb m hm
  unfold z7
  split
  · split <;> omega
  · exact this
theorem partS_lt {f step n : Nat} {w a b : Bs} {r : Bool} (hf : f < 5) (h : partS f step w a b r = some n) : n < 2 ^ 64 := by
  unfold partS at h
  split at h
  · rw [← Option.some.inj h]; exact full_lt _ _
  · split at h
    · cases h
    · rename_i x hx
      split at h
      · cases h
      · rename_i y hy
        split at h
        · cases h
        · rw [← Option.some.inj h]
          have hi' := hi_le f
          refine set7_lt _ _ _ _ ?_
          split at hy
          · have := (place_range hf hy).2; omega
          · have := (place_range hf hx).2; have := Option.some.inj hy; omega
theorem part_lt {f n : Nat} {s : Bs} (hf : f < 5) (h : part f s = some n) : n < 2 ^ 64 := by
  unfold part at h
  split at h
  · split at h
    · cases h
    · split at h
      · split at h
        · exact partS_lt hf h
        · cases h
      · cases h
  · exact partS_lt hf h
theorem prog_j3 (f x y step : Nat) (hf : f < 5) (h1 : 1 ≤ step) (h2 : step ≤ 99) (hx : x ≤ hi f) (hy : y ≤ hi f) :
    Ev (fun k => cron_part.j3 k (f : Int) (step : Int) (x : Int) (y : Int) (decide ((y : Int) < (x : Int)))) (numR (if y < x then none else some (set7 f x y step))) := by
  by_cases q : y < x
  · rw [if_pos q]
    refine Ev.step (f := fun _ => some (0, false)) (fun k => ?_) (Ev.now _)
    simp only [cron_part.j3]
    rw [if_pos (decide_eq_true (by omega))]
  · rw [if_neg q]
    have hh := hi_le f
    refine Ev.step (f := fun k => (cron_span.f k (x : Int) (y : Int) (step : Int)).bind fun t123 => (if (f : Int) = 4 then (if (Go.bits .and .u64 (t123 / 128) 1) = 1 then (some (Go.bits .or .u64 (Go.bits .andNot .u64 t123 128) 1, true)) else (some (t123, true))) else (some (t123, true)))) (fun k => ?_) (Ev.bind (cron_span_ev x y step (by omega) h1 h2 (by omega)) ?_)
    · simp only [cron_part.j3]
      rw [if_neg (by simp; omega)]
    · by_cases h4 : f = 4
      · subst h4
        have e := set7_eq x y step (by simpa [hi] using hx) (by simpa [hi] using hy)
        simp only [numR]
        rw [← e]
        split
        · split
          · exact Ev.now _
          · exact Ev.now _
        · rename_i hne; exact absurd rfl hne
      · rw [if_neg (by omega), set7_other f x y step h4]
        exact Ev.now _
theorem prog_partS (f step : Nat) (w a b : ByteArray) (r : Bool) (hf : f < 5) (h1 : 1 ≤ step) (h2 : step ≤ 99) (ha : a.size ≤ 100000) (hb : b.size ≤ 100000) :
    Ev (fun k => cron_part.j0 k (f : Int) w a b r (step : Int)) (numR (partS f step (L w) (L a) (L b) r)) := by
  unfold partS
  by_cases hw : L w = [42]
  · rw [if_pos hw]
    refine Ev.step (f := fun k => (cron_full.f k (f : Int) (step : Int)).bind fun t118 => (some (t118, true))) (fun k => ?_) (Ev.bind (cron_full_ev f step hf h1 h2) (Ev.now _))
    simp only [cron_part.j0]
    rw [L_toList, if_pos hw]
  · rw [if_neg hw]
    obtain ⟨v, hv, hvn⟩ := prog_place f hf a ha
    have e : ∀ k, cron_part.j0 (k + 1) (f : Int) w a b r (step : Int) = (cron_place.f k (f : Int) a).bind fun bt119 => (if r = true then (cron_part.j1 k (f : Int) b (step : Int) bt119.1 bt119.2 bt119.1 bt119.2) else (cron_part.j1 k (f : Int) b (step : Int) bt119.1 bt119.2 bt119.1 false)) := by
      intro k
      simp only [cron_part.j0]
      rw [L_toList, if_neg hw]
    refine Ev.step e (Ev.bind hv ?_)
    have fin : ∀ (x : Int) (y : Int), Ev (fun k => cron_part.j2 k (f : Int) (step : Int) x false y) (0, false) := by
      intro x y
      refine Ev.step (f := fun k => cron_part.j3 k (f : Int) (step : Int) x y true) (fun k => ?_) (Ev.step (f := fun _ => some (0, false)) (fun k => ?_) (Ev.now _))
      · simp only [cron_part.j2]
        rw [if_neg (by decide)]
      · simp only [cron_part.j3]
        rw [if_pos trivial]
    have good : ∀ (x y : Nat), x ≤ hi f → y ≤ hi f → Ev (fun k => cron_part.j2 k (f : Int) (step : Int) (x : Int) true (y : Int)) (numR (if y < x then none else some (set7 f x y step))) := by
      intro x y hx hy
      refine Ev.step (fun k => ?_) (prog_j3 f x y step hf h1 h2 hx hy)
      simp only [cron_part.j2]
      rw [if_pos trivial]
    cases hp : place f (L a) with
    | none =>
      rw [hp] at hv
      simp only [Option.isSome_none]
      have e2 : (fun k => if r = true then (cron_part.j1 k (f : Int) b (step : Int) v false v false) else (cron_part.j1 k (f : Int) b (step : Int) v false v false)) = fun k => cron_part.j1 k (f : Int) b (step : Int) v false v false := by
        funext k
        split <;> rfl
      rw [e2]
      refine Ev.step (fun k => ?_) (fin v v)
      simp only [cron_part.j1]
      rw [if_neg (by decide)]
    | some x =>
      rw [hp] at hv
      obtain rfl := hvn x hp
      have hx := (place_range hf hp).2
      simp only [Option.isSome_some]
      cases r with
      | false =>
        simp only [Bool.false_eq_true, if_false]
        refine Ev.step (fun k => ?_) (good x x hx hx)
        simp only [cron_part.j1]
        rw [if_neg (by decide)]
      | true =>
        simp only [if_true]
        obtain ⟨u, hu, hun⟩ := prog_place f hf b hb
        have e3 : ∀ k, cron_part.j1 (k + 1) (f : Int) b (step : Int) (x : Int) true (x : Int) true = (cron_place.f k (f : Int) b).bind fun bt121 => (cron_part.j2 k (f : Int) (step : Int) (x : Int) bt121.2 bt121.1) := by
          intro k
          simp only [cron_part.j1]
          rw [if_pos trivial]
        refine Ev.step e3 (Ev.bind hu ?_)
        cases hq : place f (L b) with
        | none => exact fin _ _
        | some y =>
          obtain rfl := hun y hq
          exact good x y hx (place_range hf hq).2
theorem cut_len (c : UInt8) : ∀ (s : Bs), (cut c s).1.length ≤ s.length ∧ (cut c s).2.1.length ≤ s.length
  | [] => by simp [cut]
  | x :: t => by
    have := cut_len c t
    unfold cut
    split
    · simp
    · simp; omega
theorem size_of_L {a : ByteArray} {s : Bs} (h : L a = s) : a.size = s.length := by rw [← L_len, h]
theorem prog_part (f : Nat) (hf : f < 5) (s : ByteArray) (hs : s.size ≤ 100000) : Ev (fun k => cron_part.f k (f : Int) s) (numR (part f (L s))) := by
  obtain ⟨w, by', hc, hw, hby⟩ := prog_cut 47 s hs
  have l1 := cut_len 47 (L s)
  have hl := L_len s
  have sw : w.size ≤ 100000 := by rw [size_of_L hw]; omega
  have sb : by'.size ≤ 100000 := by rw [size_of_L hby]; omega
  obtain ⟨a, b, hc2, ha, hb⟩ := prog_cut 45 w sw
  have l2 := cut_len 45 (L w)
  have hlw := L_len w
  have sa : a.size ≤ 100000 := by rw [size_of_L ha]; omega
  have sb2 : b.size ≤ 100000 := by rw [size_of_L hb]; omega
  unfold part
  rw [← hw, ← hby, ← ha, ← hb]
  have e : ∀ k, cron_part.f k (f : Int) s = (if (cut 47 (L s)).2.2 = true then ((cron_digits.f k by').bind fun bt116 => (if bt116.2 = true then (if bt116.1 < 1 then (some (0, false)) else (if bt116.1 > 99 then (some (0, false)) else (if L w = ([42] : List UInt8) then (cron_part.j0 k (f : Int) w a b (cut 45 (L w)).2.2 bt116.1) else (if (cut 45 (L w)).2.2 = true then (cron_part.j0 k (f : Int) w a b (cut 45 (L w)).2.2 bt116.1) else (some (0, false)))))) else (some (0, false)))) else (cron_part.j0 k (f : Int) w a b (cut 45 (L w)).2.2 1)) := by
    intro k
    unfold cron_part.f
    rw [hc, Option.bind_some]
    simp only
    rw [hc2, Option.bind_some]
    simp only [L_toList]
  refine Ev.congr e ?_
  by_cases hst : (cut 47 (L s)).2.2 = true
  · rw [if_pos hst]
    simp only [hst, if_true]
    refine Ev.bind (digits_ev by') ?_
    cases hn : num (L by') with
    | none => simp only [numR]; exact Ev.now _
    | some n =>
      have hle := num_le hn
      simp only [numR, if_true]
      by_cases q : 1 ≤ n
      · rw [if_pos q]
        have e2 : (fun (k : Nat) => if ((n : Nat) : Int) < 1 then some ((0 : Int), false) else (if ((n : Nat) : Int) > 99 then (some (0, false)) else (if L w = ([42] : List UInt8) then (cron_part.j0 k (f : Int) w a b (cut 45 (L w)).2.2 (n : Int)) else (if (cut 45 (L w)).2.2 = true then (cron_part.j0 k (f : Int) w a b (cut 45 (L w)).2.2 (n : Int)) else (some (0, false)))))) = fun k => if L w = [42] ∨ (cut 45 (L w)).2.2 = true then (cron_part.j0 k (f : Int) w a b (cut 45 (L w)).2.2 (n : Int)) else some (0, false) := by
          funext k
          rw [if_neg (by omega), if_neg (by omega)]
          by_cases q1 : L w = [42]
          · rw [if_pos q1, if_pos (Or.inl q1)]
          · rw [if_neg q1]
            by_cases q2 : (cut 45 (L w)).2.2 = true
            · rw [if_pos q2, if_pos (Or.inr q2)]
            · rw [if_neg q2, if_neg (by rintro (h | h); exact q1 h; exact q2 h)]
        refine Ev.congr (fun k => congrFun e2 k) ?_
        split
        · exact prog_partS f n w a b _ hf q hle sa sb2
        · exact Ev.now _
      · rw [if_neg q]
        exact Ev.congr (f := fun _ => some (0, false)) (fun k => if_pos (show ((n : Nat) : Int) < 1 by omega)) (Ev.now _)
  · rw [if_neg hst]
    simp only [hst, Bool.false_eq_true, if_false]
    exact prog_partS f 1 w a b _ hf (Nat.le_refl _) (by decide) sa sb2

/-! ### the reference's parts -/
theorem refl0_ev (f b step : Nat) (hf : f < 5) (hb : b < 64) (h1 : 1 ≤ step) (h2 : step ≤ 99) : ∀ (g n acc : Nat), b < n + g → n ≤ 200 → acc < 2 ^ 64 →
    Ev (fun k => tompionref04_part.l0 k (f : Int) (step : Int) (b : Int) (acc : Int) (n : Int)) (((acc ||| bitsOf ((stepsL b step g n).map (z7 f)) : Nat) : Int), true)
  | 0, n, acc, hf', hn, ha => by
    refine Ev.step (f := fun _ => some (((acc : Nat) : Int), true)) (fun k => ?_) (by simpa [stepsL, bitsOf] using Ev.now (((acc : Nat) : Int), true))
    simp only [tompionref04_part.l0]
    rw [if_neg (by omega)]
  | g + 1, n, acc, hf', hn, ha => by
    by_cases h : n ≤ b
    · have hz : z7 f n < 64 := by unfold z7; split; split <;> omega; omega
      have hp : (2 : Nat) ^ z7 f n < 2 ^ 64 := Nat.pow_lt_pow_right (by decide) hz
      have ih := refl0_ev f b step hf hb h1 h2 g (n + step) (acc ||| 2 ^ z7 f n) (by omega) (by omega) (Nat.or_lt_two_pow ha hp)
      have e : acc ||| bitsOf ((stepsL b step (g + 1) n).map (z7 f)) = acc ||| 2 ^ z7 f n ||| bitsOf ((stepsL b step g (n + step)).map (z7 f)) := by
        rw [stepsL, if_pos h, List.map_cons, bitsOf, Nat.or_assoc]
      rw [e]
      refine Ev.step (fun k => ?_) ih
      simp only [tompionref04_part.l0]
      rw [if_pos (by omega), wrap_id (by omega) (by omega)]
      by_cases h4 : f = 4
      · subst h4
        rw [if_pos (by omega)]
        by_cases h7 : n = 7
        · subst h7
          rw [if_pos (by omega)]
          have := bor_nat acc 1 ha (by decide)
          simp only [z7, if_true]
          push_cast at this ⊢
          rw [this]
        · rw [if_neg (by omega), if_pos (by omega), shl_one n (by omega)]
          simp only [z7, if_true, if_neg h7] at hp ⊢
          rw [bor_nat _ _ ha hp]
          push_cast
          rfl
      · rw [if_neg (by omega), if_pos (by omega), shl_one n (by omega)]
        simp only [z7, if_neg h4] at hp ⊢
        rw [bor_nat _ _ ha hp]
        push_cast
        rfl
    · refine Ev.step (f := fun _ => some (((acc : Nat) : Int), true)) (fun k => ?_) (by rw [stepsL, if_neg h]; simpa [bitsOf] using Ev.now (((acc : Nat) : Int), true))
      simp only [tompionref04_part.l0]
      rw [if_neg (by omega)]
theorem ref_j2 (f a b step : Nat) (hf : f < 5) (ha : a ≤ 59) (hb : b ≤ 59) (h1 : 1 ≤ step) (h2 : step ≤ 99) : Ev (fun k => tompionref04_part.j2 k (f : Int) (step : Int) (a : Int) (b : Int)) (((set7 f a b step : Nat) : Int), true) := by
  have h := refl0_ev f b step hf (by omega) h1 h2 64 a 0 (by omega) (by omega) (by decide)
  rw [Nat.zero_or] at h
  refine Ev.step (fun k => ?_) h
  simp only [tompionref04_part.j2]
  rfl
theorem full_set7 (f step : Nat) (hf : f < 5) : full f step = set7 f (lo f) (hi6 f) step := by
  unfold full set7
  have : (span (lo f) (hi6 f) step).map (z7 f) = span (lo f) (hi6 f) step := by
    conv => rhs; rw [← List.map_id (span (lo f) (hi6 f) step)]
    refine List.map_congr_left fun n hn => ?_
    have := (stepsL_le _ _ _ _ _ hn).2
    unfold z7
    rcases five f hf with rfl | rfl | rfl | rfl | rfl
    · simp
    · simp
    · simp
    · simp
    · simp [hi6] at this; rw [if_pos rfl, if_neg (by omega)]; rfl
  rw [this]
theorem num_bad {c : UInt8} {s : Bs} (h : c ∈ s) (hc : isD c = false) : num s = none := by
  match s with
  | [] => rfl
  | [a] =>
    rw [List.mem_singleton] at h
    subst h
    simp [num, hc]
  | [a, b] =>
    rcases List.mem_cons.1 h with rfl | h
    · simp [num, hc]
    · rw [List.mem_singleton] at h
      subst h
      simp only [num, hc]
      split <;> rfl
  | a :: b :: d :: t => rfl
theorem ix_mem : ∀ (l : List Bs) (t : Bs) (i : Nat), ix l t = some i → t ∈ l
  | [], _, _, h => by cases h
  | a :: l, t, i, h => by
    unfold ix at h
    split at h
    · rename_i e; rw [e]; exact List.mem_cons_self ..
    · cases hq : ix l t with
      | none => rw [hq] at h; cases h
      | some j => exact List.mem_cons_of_mem _ (ix_mem l t j hq)
theorem place_dash {f : Nat} {s : Bs} (hf : f < 5) (h : (45 : UInt8) ∈ s) : place f s = none := by
  have h1 : numIn f s = none := by unfold numIn; rw [num_bad h (by decide)]
  unfold place
  cases hi' : ix (names f) (s.map lowC) with
  | none => exact h1
  | some i =>
    exfalso
    have hm := ix_mem _ _ _ hi'
    have hd : (45 : UInt8) ∈ s.map lowC := List.mem_map.2 ⟨45, h, by decide +kernel⟩
    have hno : ∀ t ∈ names f, (45 : UInt8) ∉ t := by
      rcases five f hf with rfl | rfl | rfl | rfl | rfl <;> decide
    exact hno _ hm hd
theorem spl_len (c : UInt8) : ∀ (s : Bs), c ∈ s → 2 ≤ (spl c s).length := by
  intro s h
  rcases first_at c s with h2 | ⟨p, r, rfl, h2⟩
  · exact absurd h h2
  · rw [spl_at c p r h2]
    have : 0 < (spl c r).length := List.length_pos_iff.mpr (spl_ne c r)
    simp
    omega
theorem rdOf_zero (x : ByteArray) (l : List ByteArray) : rdOf ByteArray.empty (x :: l) 0 = x := rfl
theorem rdOf_one (x y : ByteArray) (l : List ByteArray) : rdOf ByteArray.empty (x :: y :: l) 1 = y := rfl
theorem map_one {l : List ByteArray} {s : Bs} (h : l.map L = [s]) : ∃ a, l = [a] ∧ L a = s := by
  match l, h with
  | [a], h => exact ⟨a, rfl, by simpa using h⟩
theorem map_cons' {l : List ByteArray} {s : Bs} {t : List Bs} (h : l.map L = s :: t) : ∃ a l', l = a :: l' ∧ L a = s ∧ l'.map L = t := by
  match l, h with
  | a :: l', h => exact ⟨a, l', rfl, by simp at h; exact h.1, by simp at h; exact h.2⟩
theorem ref_j0 (f step : Nat) (w : ByteArray) (l ends : List ByteArray) (hf : f < 5) (h1 : 1 ≤ step) (h2 : step ≤ 99) (hw : w.size ≤ 100000) (he : ends.map L = spl 45 (L w)) :
    Ev (fun k => tompionref04_part.j0 k (f : Int) (step : Int) (w :: l) ends) (numR (partS f step (L w) (cut 45 (L w)).1 (cut 45 (L w)).2.1 (cut 45 (L w)).2.2)) := by
  have e0 : ∀ k, tompionref04_part.j0 (k + 1) (f : Int) (step : Int) (w :: l) ends = tompionref04_part.j1 k (f : Int) (step : Int) (w :: l) ends ((lo f : Nat) : Int) ((hi6 f : Nat) : Int) := by
    intro k
    simp only [tompionref04_part.j0]
    rw [ref_low f hf, ref_high f hf]
    simp only [Option.bind_some]
    rcases five f hf with rfl | rfl | rfl | rfl | rfl <;> simp [hi, hi6]
  refine Ev.step e0 ?_
  unfold partS
  by_cases hs : L w = [42]
  · rw [if_pos hs, full_set7 f step hf]
    have h6 := hi6_le f
    have hlo := lo_le f
    refine Ev.step (fun k => ?_) (ref_j2 f (lo f) (hi6 f) step hf (by omega) h6 h1 h2)
    simp only [tompionref04_part.j1]
    rw [if_pos (by simp), if_pos (show (rdOf ByteArray.empty (w :: l) 0).toList = [42] from (L_toList w).trans hs)]
  · rw [if_neg hs]
    -- what two places give
    have fin : ∀ (x y : Option Nat), (∀ n, x = some n → n ≤ hi f) → (∀ n, y = some n → n ≤ hi f) → Ev (fun k => if numQ x < 0 then (some ((0 : Int), false)) else (if numQ y < numQ x then (some (0, false)) else (tompionref04_part.j2 k (f : Int) (step : Int) (numQ x) (numQ y))))
        (numR (match x with | none => none | some x => match y with | none => none | some y => if y < x then none else some (set7 f x y step))) := by
      intro x y hx hy
      have hh := hi_le f
      cases x with
      | none => exact Ev.congr (f := fun _ => some (0, false)) (fun k => if_pos (show numQ none < 0 by decide)) (Ev.now _)
      | some x =>
        have n0 : ¬ numQ (some x) < 0 := by show ¬ (x : Int) < 0; omega
        cases y with
        | none => exact Ev.congr (f := fun _ => some (0, false)) (fun k => (if_neg n0).trans (if_pos (show numQ none < numQ (some x) by show (-1 : Int) < (x : Int); omega))) (Ev.now _)
        | some y =>
          simp only
          by_cases q : y < x
          · rw [if_pos q]
            exact Ev.congr (f := fun _ => some (0, false)) (fun k => (if_neg n0).trans (if_pos (show numQ (some y) < numQ (some x) by show (y : Int) < (x : Int); omega))) (Ev.now _)
          · rw [if_neg q]
            have := hx x rfl
            have := hy y rfl
            exact Ev.congr (fun k => (if_neg n0).trans (if_neg (show ¬ numQ (some y) < numQ (some x) by show ¬ (y : Int) < (x : Int); omega))) (ref_j2 f x y step hf (by omega) (by omega) h1 h2)
    rcases first_at 45 (L w) with h | ⟨p, r, e, h⟩
    · rw [spl_none 45 _ h] at he
      obtain ⟨a, rfl, ha⟩ := map_one he
      have : a = w := L_ext ha
      subst this
      rw [cut_none 45 _ h]
      have hp := ref_place f hf a hw
      have e1 : ∀ k, tompionref04_part.j1 (k + 1) (f : Int) (step : Int) (a :: l) [a] ((lo f : Nat) : Int) ((hi6 f : Nat) : Int) = (tompionref04_place.f k (f : Int) a).bind fun t210 => ((tompionref04_place.f k (f : Int) a).bind fun t212 => (if t210 < 0 then (some (0, false)) else (if t212 < t210 then (some (0, false)) else (tompionref04_part.j2 k (f : Int) (step : Int) t210 t212)))) := by
        intro k
        have w0 : wrap64 ((([a] : List ByteArray).length : Int) - 1) = 0 := by show wrap64 (1 - 1) = 0; decide +kernel
        have c1 : (0 : Int) ≤ 0 := by decide
        have c2 : (0 : Int) < (([a] : List ByteArray).length : Int) := by simp
        simp only [tompionref04_part.j1, w0]
        rw [if_pos (by simp), if_neg (show ¬ (rdOf ByteArray.empty (a :: l) 0).toList = [42] from fun q => hs ((L_toList a).symm.trans q)), if_neg (by simp), if_pos (by simp)]
        simp only [if_pos c1, if_pos c2]
        rfl
      refine Ev.step e1 (Ev.bind hp (Ev.bind hp ?_))
      have := fin (place f (L a)) (place f (L a)) (fun n hn => (place_range hf hn).2) (fun n hn => (place_range hf hn).2)
      simp only [Bool.false_eq_true, if_false]
      cases hq : place f (L a) with
      | none => rw [hq] at this; exact this
      | some x => rw [hq] at this; exact this
    · rw [e, spl_at 45 p r h] at he
      obtain ⟨a, l', rfl, ha, he'⟩ := map_cons' he
      rw [e, cut_at 45 p r h]
      simp only [if_true]
      have hlw := L_len w
      have hlen : p.length + 1 + r.length = w.size := by rw [← hlw, e]; simp; omega
      have hsa : a.size ≤ 100000 := by rw [size_of_L ha]; omega
      by_cases hr : (45 : UInt8) ∈ r
      · have h2l := spl_len 45 r hr
        rw [← he', List.length_map] at h2l
        rw [place_dash hf hr]
        refine Ev.step (f := fun _ => some (0, false)) (fun k => ?_) ?_
        · simp only [tompionref04_part.j1]
          rw [if_pos (by simp), if_neg (show ¬ (rdOf ByteArray.empty (w :: l) 0).toList = [42] from fun q => hs ((L_toList w).symm.trans q)), if_pos (by simp; omega)]
        · cases place f p <;> exact Ev.now _
      · rw [spl_none 45 r hr] at he'
        obtain ⟨b, rfl, hb⟩ := map_one he'
        have hsb : b.size ≤ 100000 := by rw [size_of_L hb]; omega
        have hpa := ref_place f hf a hsa
        have hpb := ref_place f hf b hsb
        have e1 : ∀ k, tompionref04_part.j1 (k + 1) (f : Int) (step : Int) (w :: l) [a, b] ((lo f : Nat) : Int) ((hi6 f : Nat) : Int) = (tompionref04_place.f k (f : Int) a).bind fun t210 => ((tompionref04_place.f k (f : Int) b).bind fun t212 => (if t210 < 0 then (some (0, false)) else (if t212 < t210 then (some (0, false)) else (tompionref04_part.j2 k (f : Int) (step : Int) t210 t212)))) := by
          intro k
          have w0 : wrap64 ((([a, b] : List ByteArray).length : Int) - 1) = 1 := by show wrap64 (2 - 1) = 1; decide +kernel
          have c1 : (0 : Int) ≤ 1 := by decide
          have c2 : (1 : Int) < (([a, b] : List ByteArray).length : Int) := by simp
          simp only [tompionref04_part.j1, w0]
          rw [if_pos (by simp), if_neg (show ¬ (rdOf ByteArray.empty (w :: l) 0).toList = [42] from fun q => hs ((L_toList w).symm.trans q)), if_neg (by simp), if_pos (by simp)]
          simp only [if_pos c1, if_pos c2]
          rfl
        refine Ev.step e1 (Ev.bind hpa (Ev.bind hpb ?_))
        rw [ha, hb]
        exact fin (place f p) (place f r) (fun n hn => (place_range hf hn).2) (fun n hn => (place_range hf hn).2)
end Go.Proofs.YtmjfocfdbodmpaaDoor.CS
