/- What a cron text says, as plain functions over lists of bytes, and that the functions of the program answer so. -/
import Derived.Test.YtmjfocfdbodmpaaDoorX2
import Derived.Test.YtmjfocfdbodmpaaDoorX3
import Derived.Test.YtmjfocfdbodmpaaDoorX4
import Derived.Test.YtmjfocfdbodmpaaDoorX7
import Derived.Test.YtmjfocfdbodmpaaDoorX8
import Derived.Laws.Bits64b
import Derived.Lib.DecodeN
namespace Go.Proofs.YtmjfocfdbodmpaaDoor.CS
open Go Go.RowKit Go.Proofs.YtmjfocfdbodmpaaDoorW.PrintWords Go.Proofs.YtmjfocfdbodmpaaDoor.X

abbrev Bs := List UInt8
/-- A string's bytes. -/
def L (s : ByteArray) : Bs := s.data.toList
theorem L_len (s : ByteArray) : (L s).length = s.size := by simp [L]
theorem L_ext {a b : ByteArray} (h : L a = L b) : a = b := by
  obtain ⟨⟨x⟩⟩ := a
  obtain ⟨⟨y⟩⟩ := b
  simp only [L] at h
  rw [h]
theorem L_toList (s : ByteArray) : s.toList = L s := ByteArray.toList_eq s
theorem bt_L (s : ByteArray) (j : Nat) (h : j < (L s).length) : bt s (j : Int) = ((L s)[j].toNat : Int) := by
  have h' : (j : Int).toNat < s.size := by rw [← L_len]; simpa using h
  unfold bt
  rw [dif_pos h']
  simp only [L, Int.toNat_natCast]
  rfl
theorem L_extract (s : ByteArray) (a b : Nat) : L (s.extract a b) = ((L s).drop a).take (b - a) := by
  simp only [L, Lib.extract_data]
theorem wrap_id {i : Int} (h0 : -9223372036854775808 ≤ i) (h1 : i ≤ 9223372036854775807) : wrap64 i = i := by
  unfold wrap64
  omega
def bitsOf : List Nat → Nat
  | [] => 0
  | n :: t => 2 ^ n ||| bitsOf t
theorem bitsOf_lt : ∀ (l : List Nat), (∀ n ∈ l, n < 64) → bitsOf l < 2 ^ 64
  | [], _ => by decide
  | n :: t, h => by
    unfold bitsOf
    exact Nat.or_lt_two_pow (Nat.pow_lt_pow_right (by decide) (h n (List.mem_cons_self ..))) (bitsOf_lt t fun m hm => h m (List.mem_cons_of_mem _ hm))
theorem testBit_bitsOf (i : Nat) : ∀ (l : List Nat), (bitsOf l).testBit i = decide (i ∈ l)
  | [] => by simp [bitsOf]
  | n :: t => by
    unfold bitsOf
    rw [Nat.testBit_or, testBit_bitsOf i t, Nat.testBit_two_pow]
    by_cases h : n = i
    · subst h; simp
    · have : ¬ i = n := fun e => h e.symm
      simp [h, this]
theorem bitsOf_append : ∀ (a b : List Nat), bitsOf (a ++ b) = bitsOf a ||| bitsOf b
  | [], b => by simp [bitsOf]
  | n :: t, b => by
    show 2 ^ n ||| bitsOf (t ++ b) = (2 ^ n ||| bitsOf t) ||| bitsOf b
    rw [bitsOf_append t b, Nat.or_assoc]
theorem bor_nat (a b : Nat) (ha : a < 2 ^ 64) (hb : b < 2 ^ 64) : Go.bits .or .u64 (a : Int) (b : Int) = ((a ||| b : Nat) : Int) := Go.bits_or_u64_nat a b (by omega) (by omega)
theorem band_nat (a b : Nat) (ha : a < 2 ^ 64) (hb : b < 2 ^ 64) : Go.bits .and .u64 (a : Int) (b : Int) = ((a &&& b : Nat) : Int) := Go.bits_and_u64_nat a b (by omega) (by omega)
theorem shl_one (n : Nat) (h : n < 64) : shl .u64 1 (n : Int) = ((2 ^ n : Nat) : Int) := by
  have h2 : (2 : Nat) ^ n < 2 ^ 64 := Nat.pow_lt_pow_right (by decide) h
  unfold shl
  have e : min (n : Int).toNat IntKind.u64.bits = n := by
    rw [Int.toNat_natCast]
    exact Nat.min_eq_left (by simp only [IntKind.bits]; omega)
  rw [e, Int.one_mul]
  have c : ((2 : Int) ^ n) = ((2 ^ n : Nat) : Int) := by push_cast; rfl
  rw [c]
  generalize (2 : Nat) ^ n = m at h2 ⊢
  simp only [IntKind.wrap, IntKind.bits, IntKind.signed, Bool.false_and, Bool.false_eq_true, if_false]
  omega
/-- The numbers from one to another one, every so many. -/
def stepsL (b step : Nat) : Nat → Nat → List Nat
  | 0, _ => []
  | f + 1, n => if n ≤ b then n :: stepsL b step f (n + step) else []
theorem stepsL_le (b step : Nat) : ∀ (f n i : Nat), i ∈ stepsL b step f n → n ≤ i ∧ i ≤ b
  | 0, _, _, h => by simp [stepsL] at h
  | f + 1, n, i, h => by
    unfold stepsL at h
    split at h
    · rcases List.mem_cons.1 h with rfl | h
      · exact ⟨Nat.le_refl _, by assumption⟩
      · have := stepsL_le b step f _ i h
        omega
    · cases h
def span (a b step : Nat) : List Nat := stepsL b step 64 a
theorem span_lt (a b step : Nat) (h : b < 64) : ∀ n ∈ span a b step, n < 64 := fun n hn => Nat.lt_of_le_of_lt (stepsL_le b step 64 a n hn).2 h
theorem span_ev (b step : Nat) (hb : b < 64) (h1 : 1 ≤ step) (h2 : step ≤ 99) : ∀ (f n acc : Nat), b < n + f → n ≤ 200 → acc < 2 ^ 64 →
    Ev (fun k => cron_span.l0 k (b : Int) (step : Int) (acc : Int) (n : Int)) ((acc ||| bitsOf (stepsL b step f n) : Nat) : Int)
  | 0, n, acc, hf, hn, ha => by
    refine Ev.step (f := fun _ => some ((acc : Nat) : Int)) (fun k => ?_) (by simpa [stepsL, bitsOf] using Ev.now ((acc : Nat) : Int))
    simp only [cron_span.l0]
    rw [if_neg (by omega)]
  | f + 1, n, acc, hf, hn, ha => by
    by_cases h : n ≤ b
    · have hp : (2 : Nat) ^ n < 2 ^ 64 := Nat.pow_lt_pow_right (by decide) (by omega)
      have ih := span_ev b step hb h1 h2 f (n + step) (acc ||| 2 ^ n) (by omega) (by omega) (Nat.or_lt_two_pow ha hp)
      have e : acc ||| bitsOf (stepsL b step (f + 1) n) = acc ||| 2 ^ n ||| bitsOf (stepsL b step f (n + step)) := by
        rw [stepsL, if_pos h, bitsOf, Nat.or_assoc]
      rw [e]
      refine Ev.step (fun k => ?_) ih
      simp only [cron_span.l0]
      rw [if_pos (by omega), if_pos (by omega), shl_one n (by omega), bor_nat _ _ ha hp, wrap_id (by omega) (by omega)]
      push_cast
      rfl
    · refine Ev.step (f := fun _ => some ((acc : Nat) : Int)) (fun k => ?_) (by rw [stepsL, if_neg h]; simpa [bitsOf] using Ev.now ((acc : Nat) : Int))
      simp only [cron_span.l0]
      rw [if_neg (by omega)]
theorem cron_span_ev (a b step : Nat) (hb : b < 64) (h1 : 1 ≤ step) (h2 : step ≤ 99) (ha : a ≤ 200) : Ev (fun k => cron_span.f k (a : Int) (b : Int) (step : Int)) ((bitsOf (span a b step) : Nat) : Int) := by
  have := span_ev b step hb h1 h2 64 a 0 (by omega) ha (by decide)
  rw [Nat.zero_or] at this
  exact this
def lo (f : Nat) : Nat := match f with | 2 => 1 | 3 => 1 | _ => 0
def hi (f : Nat) : Nat := match f with | 0 => 59 | 1 => 23 | 2 => 31 | 3 => 12 | _ => 7
/-- The last one of a field that is any. -/
def hi6 (f : Nat) : Nat := match f with | 0 => 59 | 1 => 23 | 2 => 31 | 3 => 12 | _ => 6
def full (f step : Nat) : Nat := bitsOf (span (lo f) (hi6 f) step)
theorem lo_le (f : Nat) : lo f ≤ 1 := by unfold lo; split <;> omega
theorem hi_le (f : Nat) : hi f ≤ 59 := by unfold hi; split <;> omega
theorem hi6_le (f : Nat) : hi6 f ≤ 59 := by unfold hi6; split <;> omega
theorem full_lt (f step : Nat) : full f step < 2 ^ 64 := bitsOf_lt _ (span_lt _ _ _ (Nat.lt_of_le_of_lt (hi6_le f) (by decide)))
theorem five (f : Nat) (h : f < 5) : f = 0 ∨ f = 1 ∨ f = 2 ∨ f = 3 ∨ f = 4 := by omega
theorem cron_full_ev (f step : Nat) (hf : f < 5) (h1 : 1 ≤ step) (h2 : step ≤ 99) : Ev (fun k => cron_full.f k (f : Int) (step : Int)) ((full f step : Nat) : Int) := by
  have h := cron_span_ev (lo f) (hi6 f) step (Nat.lt_of_le_of_lt (hi6_le f) (by decide)) h1 h2 (Nat.le_trans (lo_le f) (by decide))
  refine Ev.congr (fun k => ?_) h
  rcases five f hf with rfl | rfl | rfl | rfl | rfl <;> simp [cron_full.f, cron_bounds.f, lo, hi6, wrap64]
def isD (c : UInt8) : Bool := decide (48 ≤ c.toNat) && decide (c.toNat ≤ 57)
def dg (c : UInt8) : Nat := c.toNat - 48
def num : Bs → Option Nat
  | [a] => if isD a = true then some (dg a) else none
  | [a, b] => if isD a = true then (if isD b = true then some (dg a * 10 + dg b) else none) else none
  | _ => none
theorem isD_no {c : UInt8} (h : isD c = false) : (c.toNat : Int) < 48 ∨ 57 < (c.toNat : Int) := by
  unfold isD at h
  by_cases h1 : 48 ≤ c.toNat
  · by_cases h2 : c.toNat ≤ 57
    · simp [h1, h2] at h
    · omega
  · omega
theorem isD_yes {c : UInt8} (h : isD c = true) : 48 ≤ c.toNat ∧ c.toNat ≤ 57 := by
  unfold isD at h
  simpa using h
theorem num_le {s : Bs} {n : Nat} (h : num s = some n) : n ≤ 99 := by
  unfold num at h
  split at h
  · split at h
    · rename_i a h1
      have := isD_yes h1
      have e := Option.some.inj h
      unfold dg at e
      omega
    · cases h
  · split at h
    · split at h
      · rename_i a b h1 h2
        have := isD_yes h1
        have := isD_yes h2
        have e := Option.some.inj h
        unfold dg at e
        omega
      · cases h
    · cases h
  · cases h
def numR (o : Option Nat) : Int × Bool := match o with | some n => ((n : Int), true) | none => (0, false)
def numQ (o : Option Nat) : Int := match o with | some n => (n : Int) | none => -1
theorem three (s : ByteArray) : (∃ a, s = ⟨⟨[a]⟩⟩) ∨ (∃ a b, s = ⟨⟨[a, b]⟩⟩) ∨ (s.size = 0 ∨ 2 < s.size) := by
  obtain ⟨⟨l⟩⟩ := s
  match l with
  | [] => exact Or.inr (Or.inr (Or.inl rfl))
  | [a] => exact Or.inl ⟨a, rfl⟩
  | [a, b] => exact Or.inr (Or.inl ⟨a, b, rfl⟩)
  | a :: b :: c :: t => exact Or.inr (Or.inr (Or.inr (by show 2 < (a :: b :: c :: t).length; simp)))
theorem num_long {s : ByteArray} (h : s.size = 0 ∨ 2 < s.size) : num (L s) = none := by
  obtain ⟨⟨l⟩⟩ := s
  match l with
  | [] => rfl
  | [a] => simp [ByteArray.size] at h
  | [a, b] => simp [ByteArray.size] at h
  | a :: b :: c :: t => rfl
theorem bt1 (a : UInt8) : bt ⟨⟨[a]⟩⟩ 0 = (a.toNat : Int) := rfl
theorem bt20 (a b : UInt8) : bt ⟨⟨[a, b]⟩⟩ 0 = (a.toNat : Int) := rfl
theorem bt21 (a b : UInt8) : bt ⟨⟨[a, b]⟩⟩ 1 = (b.toNat : Int) := rfl
theorem L1 (a : UInt8) : L ⟨⟨[a]⟩⟩ = [a] := rfl
theorem L2 (a b : UInt8) : L ⟨⟨[a, b]⟩⟩ = [a, b] := rfl
theorem sz1 (a : UInt8) : (⟨⟨[a]⟩⟩ : ByteArray).size = 1 := rfl
theorem sz2 (a b : UInt8) : (⟨⟨[a, b]⟩⟩ : ByteArray).size = 2 := rfl
theorem w01 : wrap64 (0 + 1) = 1 := by decide +kernel
theorem w12 : wrap64 (1 + 1) = 2 := by decide +kernel
theorem dl_ok {k : Nat} {s : ByteArray} {x n i : Int} (h : i < n) (h0 : 0 ≤ i) (h1 : i < (s.size : Int)) (h2 : 48 ≤ bt s i) (h3 : bt s i ≤ 57) :
    cron_digits.l0 (k + 1) s x n i = cron_digits.l0 k s (wrap64 (wrap64 (x * 10) + (bt s i - 48) % 256)) n (wrap64 (i + 1)) := by
  simp only [cron_digits.l0]
  rw [if_pos h, if_pos h0, if_pos h1, if_neg (by omega), if_neg (by omega)]
theorem dl_bad {k : Nat} {s : ByteArray} {x n i : Int} (h : i < n) (h0 : 0 ≤ i) (h1 : i < (s.size : Int)) (h2 : bt s i < 48 ∨ 57 < bt s i) : cron_digits.l0 (k + 1) s x n i = some (0, false) := by
  simp only [cron_digits.l0]
  rw [if_pos h, if_pos h0, if_pos h1]
  by_cases q : bt s i < 48
  · rw [if_pos q]
  · rw [if_neg q, if_pos (by omega)]
theorem dl_end {k : Nat} {s : ByteArray} {x n i : Int} (h : ¬ i < n) : cron_digits.l0 (k + 1) s x n i = some (x, true) := by
  simp only [cron_digits.l0]
  rw [if_neg h]
theorem d_one {a : UInt8} (h : isD a = true) : wrap64 (wrap64 (0 * 10) + ((a.toNat : Int) - 48) % 256) = ((dg a : Nat) : Int) := by
  have := isD_yes h
  unfold wrap64 dg
  omega
theorem d_two {a b : UInt8} (h : isD a = true) (h' : isD b = true) : wrap64 (wrap64 (((dg a : Nat) : Int) * 10) + ((b.toNat : Int) - 48) % 256) = ((dg a * 10 + dg b : Nat) : Int) := by
  have := isD_yes h
  have := isD_yes h'
  unfold wrap64 dg
  omega
theorem digits_ev (s : ByteArray) : Ev (fun k => cron_digits.f k s) (numR (num (L s))) := by
  refine ⟨6, fun k hk => ?_⟩
  obtain ⟨k, rfl⟩ : ∃ m, k = m + 6 := ⟨k - 6, by omega⟩
  rcases three s with ⟨a, rfl⟩ | ⟨a, b, rfl⟩ | h
  · have e0 : cron_digits.f (k + 6) ⟨⟨[a]⟩⟩ = cron_digits.l0 (k + 5) ⟨⟨[a]⟩⟩ 0 1 0 := by simp [cron_digits.f, cron_digits.j0, sz1]
    rw [L1]
    refine e0.trans ?_
    cases h : isD a with
    | false =>
      rw [dl_bad (by decide) (by decide) (by rw [sz1]; decide) (by rw [bt1]; exact isD_no h)]
      simp only [num, h, numR]; rfl
    | true =>
      have := isD_yes h
      rw [dl_ok (by decide) (by decide) (by rw [sz1]; decide) (by rw [bt1]; omega) (by rw [bt1]; omega), w01, dl_end (by decide), bt1, d_one h]
      simp only [num, h, numR]; rfl
  · have e0 : cron_digits.f (k + 6) ⟨⟨[a, b]⟩⟩ = cron_digits.l0 (k + 5) ⟨⟨[a, b]⟩⟩ 0 2 0 := by simp [cron_digits.f, cron_digits.j0, sz2]
    rw [L2]
    refine e0.trans ?_
    cases h : isD a with
    | false =>
      rw [dl_bad (by decide) (by decide) (by rw [sz2]; decide) (by rw [bt20]; exact isD_no h)]
      simp only [num, h, numR]; rfl
    | true =>
      have := isD_yes h
      rw [dl_ok (by decide) (by decide) (by rw [sz2]; decide) (by rw [bt20]; omega) (by rw [bt20]; omega), w01, bt20, d_one h]
      cases h' : isD b with
      | false =>
        rw [dl_bad (by decide) (by decide) (by rw [sz2]; decide) (by rw [bt21]; exact isD_no h')]
        simp only [num, h, h', numR]; rfl
      | true =>
        have := isD_yes h'
        rw [dl_ok (by decide) (by decide) (by rw [sz2]; decide) (by rw [bt21]; omega) (by rw [bt21]; omega), w12, dl_end (by decide), bt21, d_two h h']
        simp only [num, h, h', numR]; rfl
  · rw [num_long h]
    simp only [cron_digits.f, cron_digits.j0, numR]
    rcases h with h | h
    · rw [if_pos (by omega)]; rfl
    · rw [if_neg (by omega)]; simp; omega
def cut (c : UInt8) : Bs → Bs × Bs × Bool
  | [] => ([], [], false)
  | x :: t => if x = c then ([], t, true) else (x :: (cut c t).1, (cut c t).2.1, (cut c t).2.2)
def spl (c : UInt8) : Bs → List Bs
  | [] => [[]]
  | x :: t => if x = c then [] :: spl c t else (match spl c t with | [] => [[x]] | h :: r => (x :: h) :: r)
theorem spl_ne (c : UInt8) : ∀ s, spl c s ≠ []
  | [] => by simp [spl]
  | x :: t => by
    unfold spl
    split
    · simp
    · split <;> simp
theorem spl_none (c : UInt8) : ∀ (s : Bs), c ∉ s → spl c s = [s]
  | [], _ => rfl
  | x :: t, h => by
    have h1 : ¬ x = c := fun e => h (e ▸ List.mem_cons_self ..)
    have h2 : c ∉ t := fun e => h (List.mem_cons_of_mem _ e)
    unfold spl
    rw [if_neg h1, spl_none c t h2]
theorem spl_at (c : UInt8) : ∀ (p r : Bs), c ∉ p → spl c (p ++ c :: r) = p :: spl c r
  | [], r, _ => by simp [spl]
  | x :: t, r, h => by
    have h1 : ¬ x = c := fun e => h (e ▸ List.mem_cons_self ..)
    have h2 : c ∉ t := fun e => h (List.mem_cons_of_mem _ e)
    rw [List.cons_append, spl, if_neg h1, spl_at c t r h2]
theorem cut_none (c : UInt8) : ∀ (s : Bs), c ∉ s → cut c s = (s, [], false)
  | [], _ => rfl
  | x :: t, h => by
    have h1 : ¬ x = c := fun e => h (e ▸ List.mem_cons_self ..)
    have h2 : c ∉ t := fun e => h (List.mem_cons_of_mem _ e)
    unfold cut
    rw [if_neg h1, cut_none c t h2]
theorem cut_at (c : UInt8) : ∀ (p r : Bs), c ∉ p → cut c (p ++ c :: r) = (p, r, true)
  | [], r, _ => by simp [cut]
  | x :: t, r, h => by
    have h1 : ¬ x = c := fun e => h (e ▸ List.mem_cons_self ..)
    have h2 : c ∉ t := fun e => h (List.mem_cons_of_mem _ e)
    rw [List.cons_append, cut, if_neg h1, cut_at c t r h2]
/-- Does it occur; if so, where first? -/
theorem first_at (c : UInt8) : ∀ (s : Bs), c ∉ s ∨ ∃ p r, s = p ++ c :: r ∧ c ∉ p
  | [] => Or.inl (by simp)
  | x :: t => by
    by_cases h : x = c
    · subst h; exact Or.inr ⟨[], t, rfl, by simp⟩
    · rcases first_at c t with h2 | ⟨p, r, rfl, h2⟩
      · exact Or.inl (by simp [h2, Ne.symm h])
      · exact Or.inr ⟨x :: p, r, rfl, by simp [h2, Ne.symm h]⟩
theorem indexByte_none : ∀ (s : Bs) (c : UInt8), c ∉ s → Lib.indexByte s c = -1
  | [], _, _ => rfl
  | x :: t, c, h => by
    have h1 : ¬ x = c := fun e => h (e ▸ List.mem_cons_self ..)
    have h2 : c ∉ t := fun e => h (List.mem_cons_of_mem _ e)
    unfold Lib.indexByte
    rw [if_neg (by simpa using h1), indexByte_none t c h2]
    rfl
theorem indexByte_at : ∀ (p r : Bs) (c : UInt8), c ∉ p → Lib.indexByte (p ++ c :: r) c = (p.length : Int)
  | [], r, c, _ => by simp [Lib.indexByte]
  | x :: t, r, c, h => by
    have h1 : ¬ x = c := fun e => h (e ▸ List.mem_cons_self ..)
    have h2 : c ∉ t := fun e => h (List.mem_cons_of_mem _ e)
    rw [List.cons_append, Lib.indexByte, if_neg (by simpa using h1), indexByte_at t r c h2, if_neg (by simp)]
    simp
theorem drop_at (p r : Bs) (c : UInt8) : (p ++ c :: r).drop (p.length + 1) = r := by
  rw [List.drop_append]
  simp
/-- The program's split. -/
theorem splitK_spl (c : UInt8) : ∀ (n : Nat) (s : Bs), s.length ≤ n → Lib.splitK [c] 0 (Lib.count s [c]) s = spl c s
  | n, s, hn => by
    rcases first_at c s with h | ⟨p, r, rfl, h⟩
    · have hi : Lib.index s [c] = -1 := by rw [Lib.index_one, indexByte_none s c h]
      rw [Lib.count_miss hi, spl_none c s h]
      rfl
    · have hi : Lib.index (p ++ c :: r) [c] = (p.length : Int) := by rw [Lib.index_one, indexByte_at p r c h]
      rw [Lib.count_hit (by simp) hi, spl_at c p r h, Nat.add_comm]
      have e : ¬ (Lib.index (p ++ c :: r) [c] == -1) = true := by rw [hi]; simp
      rw [Lib.splitK, if_neg e, hi]
      have d : (p ++ c :: r).drop (p.length + [c].length) = r := by
        exact drop_at p r c
      simp only [Int.toNat_natCast, Nat.add_zero]
      rw [d, List.take_left' rfl]
      congr 1
      match n with
      | 0 => simp at hn
      | n + 1 => exact splitK_spl c n r (by simp at hn; omega)
theorem prog_split (s : ByteArray) (hs : s.size ≤ 100000) : ∃ l, strings_Split.f s (⟨#[44]⟩ : ByteArray) = some l ∧ l.map L = spl 44 (L s) := by
  refine ⟨Lib.splitB ⟨#[44]⟩ 0 (Lib.countB s ⟨#[44]⟩) s, ?_, ?_⟩
  · show (if s.size < 4294967281 then some (Lib.splitB ⟨#[44]⟩ 0 (Lib.countB s ⟨#[44]⟩) s) else none) = _
    rw [if_pos (by omega)]
  · exact (Lib.splitB_data ⟨#[44]⟩ 0 _ s).trans (splitK_spl 44 _ (L s) (Nat.le_refl _))
theorem prog_cut (c : UInt8) (s : ByteArray) (hs : s.size ≤ 100000) : ∃ a b, strings_Cut.f s (⟨#[c]⟩ : ByteArray) = some (a, b, (cut c (L s)).2.2) ∧ L a = (cut c (L s)).1 ∧ L b = (cut c (L s)).2.1 := by
  have hi : stringslite_Index.f s (⟨#[c]⟩ : ByteArray) = some (Lib.indexByte (L s) c) := rfl
  have h1 : ((⟨#[c]⟩ : ByteArray).size : Int) = 1 := rfl
  simp only [strings_Cut.f, stringslite_Cut.f, hi, Option.bind_some, h1]
  have hl := L_len s
  rcases first_at c (L s) with h | ⟨p, r, e, h⟩
  · rw [indexByte_none _ c h, cut_none c _ h, if_neg (by decide)]
    exact ⟨s, ⟨#[]⟩, rfl, rfl, rfl⟩
  · have hp : p.length + 1 + r.length = s.size := by rw [← hl, e]; simp; omega
    rw [e, indexByte_at p r c h, cut_at c p r h, if_pos (by omega), if_pos (by omega), if_pos (by omega), wrap_id (by omega) (by omega), if_pos (by omega), if_pos (by omega)]
    refine ⟨_, _, rfl, ?_, ?_⟩
    · rw [L_extract, e]
      simp
    · rw [L_extract, e]
      have e2 : ((p.length : Int) + 1).toNat = p.length + 1 := by omega
      rw [e2, drop_at]
      exact List.take_of_length_le (by omega)
def lowC (c : UInt8) : UInt8 := UInt8.ofNat (lowI (c.toNat : Int)).toNat
theorem all_bytes {P : UInt8 → Prop} (h : ∀ n : Fin 256, P (UInt8.ofNat n.val)) (c : UInt8) : P c := by
  have := h ⟨c.toNat, c.toNat_lt⟩
  rwa [show UInt8.ofNat (⟨c.toNat, c.toNat_lt⟩ : Fin 256).val = c from by simp] at this
theorem L_nums (xs : List Int) : L (strOfNums xs) = xs.map fun n => UInt8.ofNat n.toNat := by simp [L, strOfNums]
theorem prog_lower (s : ByteArray) (hs : s.size ≤ 100000) : ∃ t, cron_lower.f s = some t ∧ L t = (L s).map lowC := by
  refine ⟨_, by unfold cron_lower.f; rw [if_pos (by omega)], ?_⟩
  rw [L_nums]
  simp only [GB.bytesI, List.map_map, L]
  rfl
def ix : List Bs → Bs → Option Nat
  | [], _ => none
  | a :: t, s => if s = a then some 0 else (ix t s).map (· + 1)
def names (f : Nat) : List Bs := match f with
  | 3 => [[106, 97, 110], [102, 101, 98], [109, 97, 114], [97, 112, 114], [109, 97, 121], [106, 117, 110], [106, 117, 108], [97, 117, 103], [115, 101, 112], [111, 99, 116], [110, 111, 118], [100, 101, 99]]
  | 4 => [[115, 117, 110], [109, 111, 110], [116, 117, 101], [119, 101, 100], [116, 104, 117], [102, 114, 105], [115, 97, 116]]
  | _ => []
def numIn (f : Nat) (s : Bs) : Option Nat := match num s with | some n => if lo f ≤ n then (if n ≤ hi f then some n else none) else none | none => none
def place (f : Nat) (s : Bs) : Option Nat := match ix (names f) (s.map lowC) with | some i => some (lo f + i) | none => numIn f s
def dictO (o : Option Nat) (l : Int) : Option Int := o.map fun i => l + (i : Int)
theorem dict3 (t : Bs) : dictF 1 (⟨#[106, 97, 110, 102, 101, 98, 109, 97, 114, 97, 112, 114, 109, 97, 121, 106, 117, 110, 106, 117, 108, 97, 117, 103, 115, 101, 112, 111, 99, 116, 110, 111, 118, 100, 101, 99]⟩ : ByteArray) 12 t = dictO (ix (names 3) t) 1 := by
  by_cases h0 : t = [106, 97, 110]; · subst h0; decide +kernel
  by_cases h1 : t = [102, 101, 98]; · subst h1; decide +kernel
  by_cases h2 : t = [109, 97, 114]; · subst h2; decide +kernel
  by_cases h3 : t = [97, 112, 114]; · subst h3; decide +kernel
  by_cases h4 : t = [109, 97, 121]; · subst h4; decide +kernel
  by_cases h5 : t = [106, 117, 110]; · subst h5; decide +kernel
  by_cases h6 : t = [106, 117, 108]; · subst h6; decide +kernel
  by_cases h7 : t = [97, 117, 103]; · subst h7; decide +kernel
  by_cases h8 : t = [115, 101, 112]; · subst h8; decide +kernel
  by_cases h9 : t = [111, 99, 116]; · subst h9; decide +kernel
  by_cases h10 : t = [110, 111, 118]; · subst h10; decide +kernel
  by_cases h11 : t = [100, 101, 99]; · subst h11; decide +kernel
  have e : ix (names 3) t = none := by simp [ix, names, h0, h1, h2, h3, h4, h5, h6, h7, h8, h9, h10, h11]
  rw [e]
  unfold dictF; rw [if_neg (by exact h11)]
  unfold dictF; rw [if_neg (by exact h10)]
  unfold dictF; rw [if_neg (by exact h9)]
  unfold dictF; rw [if_neg (by exact h8)]
  unfold dictF; rw [if_neg (by exact h7)]
  unfold dictF; rw [if_neg (by exact h6)]
  unfold dictF; rw [if_neg (by exact h5)]
  unfold dictF; rw [if_neg (by exact h4)]
  unfold dictF; rw [if_neg (by exact h3)]
  unfold dictF; rw [if_neg (by exact h2)]
  unfold dictF; rw [if_neg (by exact h1)]
  unfold dictF; rw [if_neg (by exact h0)]
  rfl
theorem dict4 (t : Bs) : dictF 0 (⟨#[115, 117, 110, 109, 111, 110, 116, 117, 101, 119, 101, 100, 116, 104, 117, 102, 114, 105, 115, 97, 116]⟩ : ByteArray) 7 t = dictO (ix (names 4) t) 0 := by
  by_cases h0 : t = [115, 117, 110]; · subst h0; decide +kernel
  by_cases h1 : t = [109, 111, 110]; · subst h1; decide +kernel
  by_cases h2 : t = [116, 117, 101]; · subst h2; decide +kernel
  by_cases h3 : t = [119, 101, 100]; · subst h3; decide +kernel
  by_cases h4 : t = [116, 104, 117]; · subst h4; decide +kernel
  by_cases h5 : t = [102, 114, 105]; · subst h5; decide +kernel
  by_cases h6 : t = [115, 97, 116]; · subst h6; decide +kernel
  have e : ix (names 4) t = none := by simp [ix, names, h0, h1, h2, h3, h4, h5, h6]
  rw [e]
  unfold dictF; rw [if_neg (by exact h6)]
  unfold dictF; rw [if_neg (by exact h5)]
  unfold dictF; rw [if_neg (by exact h4)]
  unfold dictF; rw [if_neg (by exact h3)]
  unfold dictF; rw [if_neg (by exact h2)]
  unfold dictF; rw [if_neg (by exact h1)]
  unfold dictF; rw [if_neg (by exact h0)]
  rfl
theorem prog_dict (f : Nat) (hf : f < 5) (t : Bs) : ∃ b, cron_bounds.f (f : Int) = some b ∧ b.1 = ((lo f : Nat) : Int) ∧ b.2.1 = ((hi f : Nat) : Int) ∧ dictF b.1 b.2.2 (b.2.2.size / 3) t = dictO (ix (names f) t) b.1 := by
  rcases five f hf with rfl | rfl | rfl | rfl | rfl
  · exact ⟨_, rfl, rfl, rfl, rfl⟩
  · exact ⟨_, rfl, rfl, rfl, rfl⟩
  · exact ⟨_, rfl, rfl, rfl, rfl⟩
  · exact ⟨_, rfl, rfl, rfl, dict3 t⟩
  · exact ⟨_, rfl, rfl, rfl, dict4 t⟩
theorem prog_place (f : Nat) (hf : f < 5) (s : ByteArray) (hs : s.size ≤ 100000) : ∃ v, Ev (fun k => cron_place.f k (f : Int) s) (v, (place f (L s)).isSome) ∧ ∀ n, place f (L s) = some n → v = (n : Int) := by
  obtain ⟨t, ht, hL⟩ := prog_lower s hs
  obtain ⟨b, hb, h1, h2, h3⟩ := prog_dict f hf (L t)
  have hd := digits_ev s
  cases hi' : ix (names f) (L t) with
  | some i =>
    rw [hi'] at h3
    have hp : place f (L s) = some (lo f + i) := by unfold place; rw [← hL, hi']
    refine ⟨((lo f + i : Nat) : Int), ?_, fun n hn => by rw [hp] at hn; rw [Option.some.inj hn]⟩
    refine Ev.congr (f := fun _ => some (((lo f + i : Nat) : Int), true)) (fun k => ?_) (by rw [hp]; exact Ev.now _)
    unfold cron_place.f
    rw [hb, Option.bind_some, ht, Option.bind_some]
    show (if (dictF b.1 b.2.2 (b.2.2.size / 3) (L t)).isSome = true then some ((dictF b.1 b.2.2 (b.2.2.size / 3) (L t)).getD 0, true) else _) = _
    rw [h3, if_pos (show (dictO (some i) b.1).isSome = true from rfl), h1]
    simp [dictO]
  | none =>
    rw [hi'] at h3
    have hp : place f (L s) = numIn f (L s) := by unfold place; rw [← hL, hi']
    rw [hp]
    have key : ∀ (k : Nat), cron_place.f k (f : Int) s = (cron_digits.f k s).bind fun t => (if t.2 = true then (if t.1 ≥ b.1 then some (t.1, decide (t.1 ≤ b.2.1)) else some (t.1, false)) else some (t.1, false)) := by
      intro k
      unfold cron_place.f
      rw [hb, Option.bind_some, ht, Option.bind_some]
      show (if (dictF b.1 b.2.2 (b.2.2.size / 3) (L t)).isSome = true then some ((dictF b.1 b.2.2 (b.2.2.size / 3) (L t)).getD 0, true) else _) = _
      rw [h3, if_neg (by simp [dictO])]
    refine ⟨(numR (num (L s))).1, Ev.congr key (Ev.bind hd ?_), ?_⟩
    · cases hn : num (L s) with
      | none => simp only [numR, numIn, hn]; exact Ev.now _
      | some n =>
        simp only [numR, numIn, hn, if_true, h1, h2]
        by_cases q1 : lo f ≤ n
        · rw [if_pos (by omega)]
          by_cases q2 : n ≤ hi f
          · rw [if_pos q1, if_pos q2, decide_eq_true (by omega)]; exact Ev.now _
          · rw [if_pos q1, if_neg q2, decide_eq_false (by omega)]; exact Ev.now _
        · rw [if_neg (by omega), if_neg q1]; exact Ev.now _
    · intro n hn
      unfold numIn at hn
      cases hm : num (L s) with
      | none => rw [hm] at hn; cases hn
      | some m =>
        rw [hm] at hn
        simp only at hn
        split at hn
        · split at hn
          · rw [← Option.some.inj hn]; rfl
          · cases hn
        · cases hn
theorem place_range {f n : Nat} {s : Bs} (hf : f < 5) (h : place f s = some n) : lo f ≤ n ∧ n ≤ hi f := by
  unfold place at h
  split at h
  · rename_i i hi'
    have hlt : i < (names f).length := by
      have gen : ∀ (l : List Bs) (t : Bs) (i : Nat), ix l t = some i → i < l.length := by
        intro l
        induction l with
        | nil => intro t i h; cases h
        | cons a l ih =>
          intro t i h
          unfold ix at h
          split at h
          · rw [← Option.some.inj h]; simp
          · cases hq : ix l t with
            | none => rw [hq] at h; cases h
            | some j =>
              rw [hq] at h
              have := ih t j hq
              have e : j + 1 = i := Option.some.inj h
              simp
              omega
      exact gen _ _ _ hi'
    have e := Option.some.inj h
    rcases five f hf with rfl | rfl | rfl | rfl | rfl <;> simp [names, lo, hi] at hlt e ⊢ <;> omega
  · unfold numIn at h
    split at h
    · split at h
      · split at h
        · rename_i h1 h2
          rw [← Option.some.inj h]
          exact ⟨h1, h2⟩
        · cases h
      · cases h
    · cases h
def z7 (f n : Nat) : Nat := if f = 4 then (if n = 7 then 0 else n) else n
def set7 (f a b step : Nat) : Nat := bitsOf ((span a b step).map (z7 f))
/-- A part without its step: where, from, to. -/
def partS (f step : Nat) (w a b : Bs) (r : Bool) : Option Nat := if w = [42] then some (full f step) else match place f a with
  | none => none
  | some x => match (if r = true then place f b else some x) with
    | none => none
    | some y => if y < x then none else some (set7 f x y step)
def part (f : Nat) (s : Bs) : Option Nat := if (cut 47 s).2.2 = true then
    (match num (cut 47 s).2.1 with
     | none => none
     | some n => if 1 ≤ n then (if (cut 47 s).1 = [42] ∨ (cut 45 (cut 47 s).1).2.2 = true then partS f n (cut 47 s).1 (cut 45 (cut 47 s).1).1 (cut 45 (cut 47 s).1).2.1 (cut 45 (cut 47 s).1).2.2 else none) else none)
  else partS f 1 (cut 47 s).1 (cut 45 (cut 47 s).1).1 (cut 45 (cut 47 s).1).2.1 (cut 45 (cut 47 s).1).2.2
theorem span_far (a b step : Nat) (hb : b ≤ 7) (h : 8 ≤ step) : span a b step = span a b 8 := by
  have key : ∀ st, 8 ≤ st → stepsL b st 64 a = if a ≤ b then [a] else [] := by
    intro st h
    rw [stepsL]
    split
    · rw [stepsL, if_neg (by omega)]
    · rfl
  unfold span
  rw [key step h, key 8 (Nat.le_refl _)]
theorem set7_small : ∀ a : Fin 8, ∀ b : Fin 8, ∀ st : Fin 9, (if (Go.bits .and .u64 (((bitsOf (span a.val b.val st.val) : Nat) : Int) / 128) 1) = 1 then (Go.bits .or .u64 (Go.bits .andNot .u64 ((bitsOf (span a.val b.val st.val) : Nat) : Int) 128) 1) else ((bitsOf (span a.val b.val st.val) : Nat) : Int)) = ((set7 4 a.val b.val st.val : Nat) : Int) := by
  decide +kernel
theorem set7_eq (a b step : Nat) (ha : a ≤ 7) (hb : b ≤ 7) : (if (Go.bits .and .u64 (((bitsOf (span a b step) : Nat) : Int) / 128) 1) = 1 then (Go.bits .or .u64 (Go.bits .andNot .u64 ((bitsOf (span a b step) : Nat) : Int) 128) 1) else ((bitsOf (span a b step) : Nat) : Int)) = ((set7 4 a b step : Nat) : Int) := by
  by_cases h : 8 ≤ step
  · have := set7_small ⟨a, by omega⟩ ⟨b, by omega⟩ ⟨8, by omega⟩
    unfold set7 at this ⊢
    rw [span_far a b step hb h]
    exact this
  · exact set7_small ⟨a, by omega⟩ ⟨b, by omega⟩ ⟨step, by omega⟩
theorem set7_other (f a b step : Nat) (h : f ≠ 4) : set7 f a b step = bitsOf (span a b step) := by
  unfold set7
  have : (span a b step).map (z7 f) = span a b step := by
    conv => rhs; rw [← List.map_id (span a b step)]
    congr 1
    funext n
    simp [z7, h]
  rw [this]
theorem set7_lt (f a b step : Nat) (hb : b < 64) : set7 f a b step < 2 ^ 64 := by
  refine bitsOf_lt _ fun n hn => ?_
  obtain ⟨m, hm, rfl⟩ := List.mem_map.1 hn
  have := span_lt a b step hb m hm
  unfold z7
  split
  · split <;> omega
  · exact this
theorem partS_lt {f step n : Nat} {w a b : Bs} {r : Bool} (hf : f < 5) (h : partS f step w a b r = some n) : n < 2 ^ 64 := by
  unfold partS at h
  split at h
  · rw [← Option.some.inj h]; exact full_lt _ _
  · split at h
    · cases h
    · rename_i x hx
      split at h
      · cases h
      · rename_i y hy
        split at h
        · cases h
        · rw [← Option.some.inj h]
          have hi' := hi_le f
          refine set7_lt _ _ _ _ ?_
          split at hy
          · have := (place_range hf hy).2; omega
          · have := (place_range hf hx).2; have := Option.some.inj hy; omega
theorem part_lt {f n : Nat} {s : Bs} (hf : f < 5) (h : part f s = some n) : n < 2 ^ 64 := by
  unfold part at h
  split at h
  · split at h
    · cases h
    · split at h
      · split at h
        · exact partS_lt hf h
        · cases h
      · cases h
  · exact partS_lt hf h
theorem prog_j3 (f x y step : Nat) (hf : f < 5) (h1 : 1 ≤ step) (h2 : step ≤ 99) (hx : x ≤ hi f) (hy : y ≤ hi f) :
    Ev (fun k => cron_part.j3 k (f : Int) (step : Int) (x : Int) (y : Int) (decide ((y : Int) < (x : Int)))) (numR (if y < x then none else some (set7 f x y step))) := by
  by_cases q : y < x
  · rw [if_pos q]
    refine Ev.step (f := fun _ => some (0, false)) (fun k => ?_) (Ev.now _)
    simp only [cron_part.j3]
    rw [if_pos (decide_eq_true (by omega))]
  · rw [if_neg q]
    have hh := hi_le f
    refine Ev.step (f := fun k => (cron_span.f k (x : Int) (y : Int) (step : Int)).bind fun t123 => (if (f : Int) = 4 then (if (Go.bits .and .u64 (t123 / 128) 1) = 1 then (some (Go.bits .or .u64 (Go.bits .andNot .u64 t123 128) 1, true)) else (some (t123, true))) else (some (t123, true)))) (fun k => ?_) (Ev.bind (cron_span_ev x y step (by omega) h1 h2 (by omega)) ?_)
    · simp only [cron_part.j3]
      rw [if_neg (by simp; omega)]
    · by_cases h4 : f = 4
      · subst h4
        have e := set7_eq x y step (by simpa [hi] using hx) (by simpa [hi] using hy)
        simp only [numR]
        rw [← e]
        split
        · split
          · exact Ev.now _
          · exact Ev.now _
        · rename_i hne; exact absurd rfl hne
      · rw [if_neg (by omega), set7_other f x y step h4]
        exact Ev.now _
theorem prog_partS (f step : Nat) (w a b : ByteArray) (r : Bool) (hf : f < 5) (h1 : 1 ≤ step) (h2 : step ≤ 99) (ha : a.size ≤ 100000) (hb : b.size ≤ 100000) :
    Ev (fun k => cron_part.j0 k (f : Int) w a b r (step : Int)) (numR (partS f step (L w) (L a) (L b) r)) := by
  unfold partS
  by_cases hw : L w = [42]
  · rw [if_pos hw]
    refine Ev.step (f := fun k => (cron_full.f k (f : Int) (step : Int)).bind fun t118 => (some (t118, true))) (fun k => ?_) (Ev.bind (cron_full_ev f step hf h1 h2) (Ev.now _))
    simp only [cron_part.j0]
    rw [L_toList, if_pos hw]
  · rw [if_neg hw]
    obtain ⟨v, hv, hvn⟩ := prog_place f hf a ha
    have e : ∀ k, cron_part.j0 (k + 1) (f : Int) w a b r (step : Int) = (cron_place.f k (f : Int) a).bind fun bt119 => (if r = true then (cron_part.j1 k (f : Int) b (step : Int) bt119.1 bt119.2 bt119.1 bt119.2) else (cron_part.j1 k (f : Int) b (step : Int) bt119.1 bt119.2 bt119.1 false)) := by
      intro k
      simp only [cron_part.j0]
      rw [L_toList, if_neg hw]
    refine Ev.step e (Ev.bind hv ?_)
    have fin : ∀ (x : Int) (y : Int), Ev (fun k => cron_part.j2 k (f : Int) (step : Int) x false y) (0, false) := by
      intro x y
      refine Ev.step (f := fun k => cron_part.j3 k (f : Int) (step : Int) x y true) (fun k => ?_) (Ev.step (f := fun _ => some (0, false)) (fun k => ?_) (Ev.now _))
      · simp only [cron_part.j2]
        rw [if_neg (by decide)]
      · simp only [cron_part.j3]
        rw [if_pos trivial]
    have good : ∀ (x y : Nat), x ≤ hi f → y ≤ hi f → Ev (fun k => cron_part.j2 k (f : Int) (step : Int) (x : Int) true (y : Int)) (numR (if y < x then none else some (set7 f x y step))) := by
      intro x y hx hy
      refine Ev.step (fun k => ?_) (prog_j3 f x y step hf h1 h2 hx hy)
      simp only [cron_part.j2]
      rw [if_pos trivial]
    cases hp : place f (L a) with
    | none =>
      rw [hp] at hv
      simp only [Option.isSome_none]
      have e2 : (fun k => if r = true then (cron_part.j1 k (f : Int) b (step : Int) v false v false) else (cron_part.j1 k (f : Int) b (step : Int) v false v false)) = fun k => cron_part.j1 k (f : Int) b (step : Int) v false v false := by
        funext k
        split <;> rfl
      rw [e2]
      refine Ev.step (fun k => ?_) (fin v v)
      simp only [cron_part.j1]
      rw [if_neg (by decide)]
    | some x =>
      rw [hp] at hv
      obtain rfl := hvn x hp
      have hx := (place_range hf hp).2
      simp only [Option.isSome_some]
      cases r with
      | false =>
        simp only [Bool.false_eq_true, if_false]
        refine Ev.step (fun k => ?_) (good x x hx hx)
        simp only [cron_part.j1]
        rw [if_neg (by decide)]
      | true =>
        simp only [if_true]
        obtain ⟨u, hu, hun⟩ := prog_place f hf b hb
        have e3 : ∀ k, cron_part.j1 (k + 1) (f : Int) b (step : Int) (x : Int) true (x : Int) true = (cron_place.f k (f : Int) b).bind fun bt121 => (cron_part.j2 k (f : Int) (step : Int) (x : Int) bt121.2 bt121.1) := by
          intro k
          simp only [cron_part.j1]
          rw [if_pos trivial]
        refine Ev.step e3 (Ev.bind hu ?_)
        cases hq : place f (L b) with
        | none => exact fin _ _
        | some y =>
          obtain rfl := hun y hq
          exact good x y hx (place_range hf hq).2
theorem cut_len (c : UInt8) : ∀ (s : Bs), (cut c s).1.length ≤ s.length ∧ (cut c s).2.1.length ≤ s.length
  | [] => by simp [cut]
  | x :: t => by
    have := cut_len c t
    unfold cut
    split
    · simp
    · simp; omega
theorem size_of_L {a : ByteArray} {s : Bs} (h : L a = s) : a.size = s.length := by rw [← L_len, h]
theorem prog_part (f : Nat) (hf : f < 5) (s : ByteArray) (hs : s.size ≤ 100000) : Ev (fun k => cron_part.f k (f : Int) s) (numR (part f (L s))) := by
  obtain ⟨w, by', hc, hw, hby⟩ := prog_cut 47 s hs
  have l1 := cut_len 47 (L s)
  have hl := L_len s
  have sw : w.size ≤ 100000 := by rw [size_of_L hw]; omega
  have sb : by'.size ≤ 100000 := by rw [size_of_L hby]; omega
  obtain ⟨a, b, hc2, ha, hb⟩ := prog_cut 45 w sw
  have l2 := cut_len 45 (L w)
  have hlw := L_len w
  have sa : a.size ≤ 100000 := by rw [size_of_L ha]; omega
  have sb2 : b.size ≤ 100000 := by rw [size_of_L hb]; omega
  unfold part
  rw [← hw, ← hby, ← ha, ← hb]
  have e : ∀ k, cron_part.f k (f : Int) s = (if (cut 47 (L s)).2.2 = true then ((cron_digits.f k by').bind fun bt116 => (if bt116.2 = true then (if bt116.1 < 1 then (some (0, false)) else (if bt116.1 > 99 then (some (0, false)) else (if L w = ([42] : List UInt8) then (cron_part.j0 k (f : Int) w a b (cut 45 (L w)).2.2 bt116.1) else (if (cut 45 (L w)).2.2 = true then (cron_part.j0 k (f : Int) w a b (cut 45 (L w)).2.2 bt116.1) else (some (0, false)))))) else (some (0, false)))) else (cron_part.j0 k (f : Int) w a b (cut 45 (L w)).2.2 1)) := by
    intro k
    unfold cron_part.f
    rw [hc, Option.bind_some]
    simp only
    rw [hc2, Option.bind_some]
    simp only [L_toList]
  refine Ev.congr e ?_
  by_cases hst : (cut 47 (L s)).2.2 = true
  · rw [if_pos hst]
    simp only [hst, if_true]
    refine Ev.bind (digits_ev by') ?_
    cases hn : num (L by') with
    | none => simp only [numR]; exact Ev.now _
    | some n =>
      have hle := num_le hn
      simp only [numR, if_true]
      by_cases q : 1 ≤ n
      · rw [if_pos q]
        have e2 : (fun (k : Nat) => if ((n : Nat) : Int) < 1 then some ((0 : Int), false) else (if ((n : Nat) : Int) > 99 then (some (0, false)) else (if L w = ([42] : List UInt8) then (cron_part.j0 k (f : Int) w a b (cut 45 (L w)).2.2 (n : Int)) else (if (cut 45 (L w)).2.2 = true then (cron_part.j0 k (f : Int) w a b (cut 45 (L w)).2.2 (n : Int)) else (some (0, false)))))) = fun k => if L w = [42] ∨ (cut 45 (L w)).2.2 = true then (cron_part.j0 k (f : Int) w a b (cut 45 (L w)).2.2 (n : Int)) else some (0, false) := by
          funext k
          rw [if_neg (by omega), if_neg (by omega)]
          by_cases q1 : L w = [42]
          · rw [if_pos q1, if_pos (Or.inl q1)]
          · rw [if_neg q1]
            by_cases q2 : (cut 45 (L w)).2.2 = true
            · rw [if_pos q2, if_pos (Or.inr q2)]
            · rw [if_neg q2, if_neg (by rintro (h | h); exact q1 h; exact q2 h)]
        refine Ev.congr (fun k => congrFun e2 k) ?_
        split
        · exact prog_partS f n w a b _ hf q hle sa sb2
        · exact Ev.now _
      · rw [if_neg q]
        exact Ev.congr (f := fun _ => some (0, false)) (fun k => if_pos (show ((n : Nat) : Int) < 1 by omega)) (Ev.now _)
  · rw [if_neg hst]
    simp only [hst, Bool.false_eq_true, if_false]
    exact prog_partS f 1 w a b _ hf (Nat.le_refl _) (by decide) sa sb2
theorem full_set7 (f step : Nat) (hf : f < 5) : full f step = set7 f (lo f) (hi6 f) step := by
  unfold full set7
  have : (span (lo f) (hi6 f) step).map (z7 f) = span (lo f) (hi6 f) step := by
    conv => rhs; rw [← List.map_id (span (lo f) (hi6 f) step)]
    refine List.map_congr_left fun n hn => ?_
    have := (stepsL_le _ _ _ _ _ hn).2
    unfold z7
    rcases five f hf with rfl | rfl | rfl | rfl | rfl
    · simp
    · simp
    · simp
    · simp
    · simp [hi6] at this; rw [if_pos rfl, if_neg (by omega)]; rfl
  rw [this]
theorem num_bad {c : UInt8} {s : Bs} (h : c ∈ s) (hc : isD c = false) : num s = none := by
  match s with
  | [] => rfl
  | [a] =>
    rw [List.mem_singleton] at h
    subst h
    simp [num, hc]
  | [a, b] =>
    rcases List.mem_cons.1 h with rfl | h
    · simp [num, hc]
    · rw [List.mem_singleton] at h
      subst h
      simp only [num, hc]
      split <;> rfl
  | a :: b :: d :: t => rfl
theorem ix_mem : ∀ (l : List Bs) (t : Bs) (i : Nat), ix l t = some i → t ∈ l
  | [], _, _, h => by cases h
  | a :: l, t, i, h => by
    unfold ix at h
    split at h
    · rename_i e; rw [e]; exact List.mem_cons_self ..
    · cases hq : ix l t with
      | none => rw [hq] at h; cases h
      | some j => exact List.mem_cons_of_mem _ (ix_mem l t j hq)
theorem place_dash {f : Nat} {s : Bs} (hf : f < 5) (h : (45 : UInt8) ∈ s) : place f s = none := by
  have h1 : numIn f s = none := by unfold numIn; rw [num_bad h (by decide)]
  unfold place
  cases hi' : ix (names f) (s.map lowC) with
  | none => exact h1
  | some i =>
    exfalso
    have hm := ix_mem _ _ _ hi'
    have hd : (45 : UInt8) ∈ s.map lowC := List.mem_map.2 ⟨45, h, by decide +kernel⟩
    have hno : ∀ t ∈ names f, (45 : UInt8) ∉ t := by
      rcases five f hf with rfl | rfl | rfl | rfl | rfl <;> decide
    exact hno _ hm hd
theorem spl_len (c : UInt8) : ∀ (s : Bs), c ∈ s → 2 ≤ (spl c s).length := by
  intro s h
  rcases first_at c s with h2 | ⟨p, r, rfl, h2⟩
  · exact absurd h h2
  · rw [spl_at c p r h2]
    have : 0 < (spl c r).length := List.length_pos_iff.mpr (spl_ne c r)
    simp
    omega
theorem rdOf_zero (x : ByteArray) (l : List ByteArray) : rdOf ByteArray.empty (x :: l) 0 = x := rfl
theorem rdOf_one (x y : ByteArray) (l : List ByteArray) : rdOf ByteArray.empty (x :: y :: l) 1 = y := rfl
theorem map_one {l : List ByteArray} {s : Bs} (h : l.map L = [s]) : ∃ a, l = [a] ∧ L a = s := by
  match l, h with
  | [a], h => exact ⟨a, rfl, by simpa using h⟩
theorem map_cons' {l : List ByteArray} {s : Bs} {t : List Bs} (h : l.map L = s :: t) : ∃ a l', l = a :: l' ∧ L a = s ∧ l'.map L = t := by
  match l, h with
  | a :: l', h => exact ⟨a, l', rfl, by simp at h; exact h.1, by simp at h; exact h.2⟩
def fieldL (f : Nat) : List Bs → Option Nat
  | [] => some 0
  | p :: t => match part f p with | none => none | some a => (fieldL f t).map (a ||| ·)
def field (f : Nat) (s : Bs) : Option Nat := fieldL f (spl 44 s)
theorem fieldL_lt {f : Nat} (hf : f < 5) : ∀ {l : List Bs} {n : Nat}, fieldL f l = some n → n < 2 ^ 64
  | [], n, h => by rw [← Option.some.inj h]; decide
  | p :: t, n, h => by
    unfold fieldL at h
    cases hp : part f p with
    | none => rw [hp] at h; cases h
    | some a =>
      rw [hp] at h
      cases ht : fieldL f t with
      | none => rw [ht] at h; cases h
      | some b =>
        rw [ht] at h
        have e : a ||| b = n := Option.some.inj h
        rw [← e]
        exact Nat.or_lt_two_pow (part_lt hf hp) (fieldL_lt hf ht)
theorem spl_small (c : UInt8) (n : Nat) : ∀ (s : Bs), s.length ≤ n → ∀ t ∈ spl c s, t.length ≤ n
  | [], h, t, ht => by simp [spl] at ht; rw [ht]; simp
  | x :: r, h, t, ht => by
    have hr : r.length ≤ n := by simp at h; omega
    have key : ∀ t ∈ spl c r, t.length ≤ r.length := spl_small c r.length r (Nat.le_refl _)
    unfold spl at ht
    split at ht
    · rcases List.mem_cons.1 ht with rfl | ht
      · simp
      · exact Nat.le_trans (key t ht) hr
    · split at ht
      · rename_i e; exact absurd e (spl_ne c r)
      · rename_i a b e
        rcases List.mem_cons.1 ht with rfl | ht
        · have := key a (by rw [e]; exact List.mem_cons_self ..)
          simp at h ⊢
          omega
        · exact Nat.le_trans (key t (by rw [e]; exact List.mem_cons_of_mem _ ht)) hr
theorem small_of {l : List ByteArray} {c : UInt8} {s : ByteArray} (he : l.map L = spl c (L s)) (hs : s.size ≤ 100000) : ∀ x ∈ l, x.size ≤ 100000 := by
  intro x hx
  have h1 : L x ∈ spl c (L s) := by rw [← he]; exact List.mem_map_of_mem hx
  have h2 := spl_small c 100000 (L s) (by rw [L_len]; exact hs) _ h1
  rw [← L_len]
  exact h2
def orO (acc : Nat) (o : Option Nat) : Option Nat := o.map (acc ||| ·)
theorem orO_step (acc a : Nat) (o : Option Nat) : orO acc (o.map (a ||| ·)) = orO (acc ||| a) o := by
  cases o with
  | none => rfl
  | some b => simp [orO, Nat.or_assoc]
theorem prog_field_ev (f : Nat) (hf : f < 5) (l : List ByteArray) (hl : ∀ x ∈ l, x.size ≤ 100000) (hn : l.length ≤ 200000) : ∀ (d i acc : Nat), i + d = l.length → acc < 2 ^ 64 →
    Ev (fun k => cron_field.l0 k (f : Int) (acc : Int) l (l.length : Int) (i : Int)) (numR (orO acc (fieldL f ((l.map L).drop i)))) := by
  intro d
  induction d with
  | zero =>
    intro i acc hi' ha
    rw [List.drop_eq_nil_of_le (by simp; omega)]
    refine Ev.step (f := fun _ => some (((acc : Nat) : Int), true)) (fun k => ?_) (by simp only [fieldL, orO, Option.map_some, Nat.or_zero, numR]; exact Ev.now _)
    simp only [cron_field.l0]
    rw [if_neg (by omega)]
  | succ d ih =>
    intro i acc hi' ha
    have hlt : i < l.length := by omega
    have hd : (l.map L).drop i = L l[i] :: (l.map L).drop (i + 1) := by
      rw [List.drop_eq_getElem_cons (by simpa using hlt)]
      simp
    have hr : rdOf ByteArray.empty l (i : Int) = l[i] := by simp [rdOf, hlt]
    have hp := prog_part f hf l[i] (hl _ (List.getElem_mem hlt))
    rw [hd]
    have e : ∀ k, cron_field.l0 (k + 1) (f : Int) (acc : Int) l (l.length : Int) (i : Int) = (cron_part.f k (f : Int) l[i]).bind fun bt128 => (if bt128.2 = true then (cron_field.l0 k (f : Int) (Go.bits .or .u64 (acc : Int) bt128.1) l (l.length : Int) ((i + 1 : Nat) : Int)) else (some (0, false))) := by
      intro k
      simp only [cron_field.l0]
      rw [if_pos (by omega), if_pos (by omega), if_pos (by omega), hr, wrap_id (by omega) (by omega)]
      push_cast
      rfl
    refine Ev.step e (Ev.bind hp ?_)
    cases hq : part f (L l[i]) with
    | none =>
      simp only [fieldL, hq, numR, orO, Option.map_none]
      exact Ev.congr (f := fun _ => some (0, false)) (fun k => if_neg (by decide)) (Ev.now _)
    | some a =>
      have hal := part_lt hf hq
      have hx := ih (i + 1) (acc ||| a) (by omega) (Nat.or_lt_two_pow ha hal)
      simp only [fieldL, hq]
      rw [orO_step]
      refine Ev.congr (fun k => ?_) hx
      simp only [numR, if_true]
      rw [bor_nat _ _ ha hal]
theorem spl_count (c : UInt8) : ∀ (s : Bs), (spl c s).length ≤ s.length + 1
  | [] => by simp [spl]
  | x :: t => by
    have := spl_count c t
    unfold spl
    split
    · simp; omega
    · split
      · simp
      · rename_i e; rw [e] at this; simp at this ⊢; omega
theorem prog_field (f : Nat) (hf : f < 5) (s : ByteArray) (hs : s.size ≤ 100000) : Ev (fun k => cron_field.f k (f : Int) s) (numR (field f (L s))) := by
  obtain ⟨l, hl, he⟩ := prog_split s hs
  have hc := spl_count 44 (L s)
  have hls := L_len s
  have hll : l.length = (spl 44 (L s)).length := by rw [← he, List.length_map]
  have h := prog_field_ev f hf l (small_of he hs) (by omega) l.length 0 0 (by omega) (by decide)
  have e0 : orO 0 (fieldL f ((l.map L).drop 0)) = field f (L s) := by
    rw [List.drop_zero, he]
    unfold field orO
    cases fieldL f (spl 44 (L s)) <;> simp
  rw [e0] at h
  refine Ev.congr (fun k => ?_) h
  unfold cron_field.f
  rw [hl]
  rfl
def aheadN (a : UInt8) (h m : Option Nat) : Option Int := match h with
  | none => none
  | some h => match m with
    | none => none
    | some m => if h ≤ 14 then (if m ≤ 59 then some (if a = 45 then -((60 * h + m : Nat) : Int) else ((60 * h + m : Nat) : Int)) else none) else none
def ahead : Bs → Option Int
  | [a, b, c, d, e] => if a = 43 ∨ a = 45 then aheadN a (num [b, c]) (num [d, e]) else none
  | _ => none
def aheadR (o : Option Int) : Int × Bool := match o with | some n => (n, true) | none => (0, false)
theorem five_or (s : ByteArray) : (∃ a b c d e, s = ⟨⟨[a, b, c, d, e]⟩⟩) ∨ s.size ≠ 5 := by
  obtain ⟨⟨l⟩⟩ := s
  match l with
  | [] => exact Or.inr (by simp [ByteArray.size])
  | [a] => exact Or.inr (by simp [ByteArray.size])
  | [a, b] => exact Or.inr (by simp [ByteArray.size])
  | [a, b, c] => exact Or.inr (by simp [ByteArray.size])
  | [a, b, c, d] => exact Or.inr (by simp [ByteArray.size])
  | [a, b, c, d, e] => exact Or.inl ⟨a, b, c, d, e, rfl⟩
  | a :: b :: c :: d :: e :: f :: t => exact Or.inr (by show (a :: b :: c :: d :: e :: f :: t).length ≠ 5; simp)
theorem ahead_long {s : ByteArray} (h : s.size ≠ 5) : ahead (L s) = none := by
  obtain ⟨⟨l⟩⟩ := s
  match l with
  | [] => rfl
  | [a] => rfl
  | [a, b] => rfl
  | [a, b, c] => rfl
  | [a, b, c, d] => rfl
  | [a, b, c, d, e] => exact absurd rfl h
  | a :: b :: c :: d :: e :: f :: t => rfl
theorem sz5 (a b c d e : UInt8) : (⟨⟨[a, b, c, d, e]⟩⟩ : ByteArray).size = 5 := rfl
theorem bt5 (a b c d e : UInt8) : bt ⟨⟨[a, b, c, d, e]⟩⟩ 0 = (a.toNat : Int) := rfl
theorem ex1 (a b c d e : UInt8) : L ((⟨⟨[a, b, c, d, e]⟩⟩ : ByteArray).extract 1 3) = [b, c] := by rw [L_extract]; rfl
theorem ex2 (a b c d e : UInt8) : L ((⟨⟨[a, b, c, d, e]⟩⟩ : ByteArray).extract 3 5) = [d, e] := by rw [L_extract]; rfl
theorem u8_eq {a : UInt8} {n : Nat} (hn : n < 256) (h : (a.toNat : Int) = (n : Int)) : a = UInt8.ofNat n := by
  apply UInt8.toNat_inj.mp
  have : a.toNat = n := by omega
  rw [this]
  simp
  omega
theorem prog_ahead_ev (s : ByteArray) : Ev (fun k => cron_ahead.f k s) (aheadR (ahead (L s))) := by
  have bad : Ev (fun k => cron_ahead.j0 k s true) (0, false) := by
    refine Ev.step (f := fun _ => some (0, false)) (fun k => ?_) (Ev.now _)
    simp only [cron_ahead.j0]
    rw [if_pos trivial]
  rcases five_or s with ⟨a, b, c, d, e, rfl⟩ | h
  · have hA : ahead (L ⟨⟨[a, b, c, d, e]⟩⟩) = if a = 43 ∨ a = 45 then aheadN a (num [b, c]) (num [d, e]) else none := rfl
    rw [hA]
    by_cases hs : a = 43 ∨ a = 45
    · rw [if_pos hs]
      have e0 : ∀ k, cron_ahead.f k ⟨⟨[a, b, c, d, e]⟩⟩ = cron_ahead.j0 k ⟨⟨[a, b, c, d, e]⟩⟩ false := by
        intro k
        unfold cron_ahead.f
        rw [sz5, bt5, if_pos (by decide), if_pos (by decide)]
        rcases hs with rfl | rfl
        · rw [if_pos (by decide)]
        · rw [if_neg (by decide)]; rfl
      refine Ev.congr e0 ?_
      have h1 := digits_ev ((⟨⟨[a, b, c, d, e]⟩⟩ : ByteArray).extract 1 3)
      have h2 := digits_ev ((⟨⟨[a, b, c, d, e]⟩⟩ : ByteArray).extract 3 5)
      rw [ex1] at h1
      rw [ex2] at h2
      have j1 : ∀ (x y : Int), Ev (fun k => cron_ahead.j1 k ⟨⟨[a, b, c, d, e]⟩⟩ x y true) (0, false) := by
        intro x y
        refine Ev.step (f := fun _ => some (0, false)) (fun k => ?_) (Ev.now _)
        simp only [cron_ahead.j1]
        rw [if_pos trivial]
      refine Ev.step (f := fun k => (cron_digits.f k ((⟨⟨[a, b, c, d, e]⟩⟩ : ByteArray).extract 1 3)).bind fun bt130 => ((cron_digits.f k ((⟨⟨[a, b, c, d, e]⟩⟩ : ByteArray).extract 3 5)).bind fun bt132 => (if bt130.2 = true then (if bt132.2 = true then (if bt130.1 > 14 then (cron_ahead.j1 k ⟨⟨[a, b, c, d, e]⟩⟩ bt130.1 bt132.1 true) else (cron_ahead.j1 k ⟨⟨[a, b, c, d, e]⟩⟩ bt130.1 bt132.1 (decide (bt132.1 > 59)))) else (cron_ahead.j1 k ⟨⟨[a, b, c, d, e]⟩⟩ bt130.1 bt132.1 true)) else (cron_ahead.j1 k ⟨⟨[a, b, c, d, e]⟩⟩ bt130.1 bt132.1 true)))) (fun k => ?_) (Ev.bind h1 (Ev.bind h2 ?_))
      · simp only [cron_ahead.j0]
        rw [if_neg (by decide), if_pos (by decide), if_pos (by rw [sz5]; decide), sz5]
      · cases hx : num [b, c] with
        | none => exact Ev.congr (fun k => if_neg (by decide)) (j1 _ _)
        | some x =>
          cases hy : num [d, e] with
          | none => exact Ev.congr (fun k => (if_pos rfl).trans (if_neg (by decide))) (j1 _ _)
          | some y =>
            simp only [aheadN]
            have lx := num_le hx
            have ly := num_le hy
            by_cases q1 : x ≤ 14
            · have n1 : ¬ (numR (some x)).1 > 14 := by show ¬ (x : Int) > 14; omega
              rw [if_pos q1]
              by_cases q2 : y ≤ 59
              · rw [if_pos q2]
                refine Ev.congr (f := fun k => cron_ahead.j1 k ⟨⟨[a, b, c, d, e]⟩⟩ (x : Int) (y : Int) false) (fun k => (if_pos rfl).trans ((if_pos rfl).trans ((if_neg n1).trans (by rw [decide_eq_false (show ¬ (numR (some y)).1 > 59 by show ¬ (y : Int) > 59; omega)]; rfl)))) ?_
                refine Ev.step (f := fun _ => some (if a = 45 then -((60 * x + y : Nat) : Int) else ((60 * x + y : Nat) : Int), true)) (fun k => ?_) (Ev.now _)
                simp only [cron_ahead.j1]
                have w1 : wrap64 (wrap64 (60 * (x : Int)) + (y : Int)) = ((60 * x + y : Nat) : Int) := by unfold wrap64; omega
                have w2 : wrap64 (-((60 * x + y : Nat) : Int)) = -((60 * x + y : Nat) : Int) := by unfold wrap64; omega
                rw [if_neg (by decide), if_pos (by rw [sz5]; decide), bt5, w1, w2]
                rcases hs with rfl | rfl
                · rw [if_neg (by decide), if_neg (by decide)]
                · rw [if_pos (by decide), if_pos (by decide)]
              · rw [if_neg q2]
                exact Ev.congr (fun k => (if_pos rfl).trans ((if_pos rfl).trans ((if_neg n1).trans (by rw [decide_eq_true (show (numR (some y)).1 > 59 by show (y : Int) > 59; omega)])))) (j1 _ _)
            · rw [if_neg q1]
              exact Ev.congr (fun k => (if_pos rfl).trans ((if_pos rfl).trans (if_pos (show (numR (some x)).1 > 14 by show (x : Int) > 14; omega)))) (j1 _ _)
    · rw [if_neg hs]
      refine Ev.congr (fun k => ?_) bad
      unfold cron_ahead.f
      rw [sz5, bt5, if_pos (by decide), if_pos (by decide), if_neg (show ¬ (a.toNat : Int) = 43 from fun q => hs (Or.inl (u8_eq (n := 43) (by decide) (by rw [q]; rfl))))]
      rw [show ((a.toNat : Int) != 45) = true from bne_iff_ne.mpr (fun q => hs (Or.inr (u8_eq (n := 45) (by decide) (by rw [q]; rfl))))]
  · rw [ahead_long h]
    refine Ev.congr (fun k => ?_) bad
    unfold cron_ahead.f
    rw [if_neg (by omega)]
def blk (c : UInt8) : Bool := c == 32 || c == 9
def tabC (c : UInt8) : UInt8 := if c = 9 then 32 else c
def ne0 (w : Bs) : Bool := !w.isEmpty
def wordsB (s : Bs) : List Bs := (spl 32 (s.map tabC)).filter ne0
theorem tab_blk {c : UInt8} (h : blk c = true) : tabC c = 32 := by
  unfold blk at h
  simp only [Bool.or_eq_true, beq_iff_eq] at h
  unfold tabC
  rcases h with h | h
  · rw [h]; rfl
  · rw [if_pos h]
theorem tab_not {c : UInt8} (h : blk c = false) : tabC c = c ∧ c ≠ 32 := by
  unfold blk at h
  simp only [Bool.or_eq_false_iff, beq_eq_false_iff_ne] at h
  exact ⟨by unfold tabC; rw [if_neg h.2], h.1⟩
theorem map_not : ∀ {p : Bs}, (∀ c ∈ p, blk c = false) → p.map tabC = p ∧ (32 : UInt8) ∉ p
  | [], _ => ⟨rfl, by simp⟩
  | c :: p, h => by
    have h1 := tab_not (h c (List.mem_cons_self ..))
    have h2 := map_not (p := p) fun d hd => h d (List.mem_cons_of_mem _ hd)
    exact ⟨by rw [List.map_cons, h1.1, h2.1], by simp only [List.mem_cons, not_or]; exact ⟨fun e => h1.2 e.symm, h2.2⟩⟩
theorem words_blank {c : UInt8} (t : Bs) (h : blk c = true) : wordsB (c :: t) = wordsB t := by
  unfold wordsB
  rw [List.map_cons, tab_blk h, spl, if_pos rfl, List.filter_cons_of_neg (by decide)]
theorem words_seg {p : Bs} {c : UInt8} (t : Bs) (hp : ∀ c ∈ p, blk c = false) (h0 : p ≠ []) (h : blk c = true) : wordsB (p ++ c :: t) = p :: wordsB t := by
  have hm := map_not hp
  unfold wordsB
  rw [List.map_append, List.map_cons, tab_blk h, hm.1, spl_at 32 p _ hm.2, List.filter_cons_of_pos (by cases p with | nil => exact absurd rfl h0 | cons => rfl)]
theorem words_last {p : Bs} (hp : ∀ c ∈ p, blk c = false) (h0 : p ≠ []) : wordsB p = [p] := by
  have hm := map_not hp
  unfold wordsB
  rw [hm.1, spl_none 32 p hm.2]
  cases p with
  | nil => exact absurd rfl h0
  | cons => rfl
theorem words_nil : wordsB [] = [] := rfl
theorem decN (n b0 b1 b2 b3 : Nat) (hn : 1 ≤ n) (h : 128 ≤ b0) : 128 ≤ (Lib.decodeN n b0 b1 b2 b3).1 ∧ 1 ≤ (Lib.decodeN n b0 b1 b2 b3).2 ∧ (Lib.decodeN n b0 b1 b2 b3).2 ≤ n ∧ (Lib.decodeN n b0 b1 b2 b3).2 ≤ 4 ∧
    (2 ≤ (Lib.decodeN n b0 b1 b2 b3).2 → 128 ≤ b1) ∧ (3 ≤ (Lib.decodeN n b0 b1 b2 b3).2 → 128 ≤ b2) ∧ (4 ≤ (Lib.decodeN n b0 b1 b2 b3).2 → 128 ≤ b3) := by
  unfold Lib.decodeN
  rw [if_neg (by omega)]
  repeat' split
  all_goals (simp only; omega)
theorem get_L (s : ByteArray) (i : Nat) (h : i < (L s).length) : s.get! i = (L s)[i] := by
  have h' : i < s.data.size := by simpa [L] using h
  show s.data[i]! = s.data.toList[i]
  rw [getElem!_pos s.data i h']
  simp
theorem big_not {c : UInt8} (h : 128 ≤ c.toNat) : blk c = false := by
  unfold blk
  simp only [Bool.or_eq_false_iff, beq_eq_false_iff_ne]
  constructor
  · rintro rfl; simp at h
  · rintro rfl; simp at h
theorem dec_at (s : ByteArray) (i : Nat) (h : i < (L s).length) :
    (blk (L s)[i] = true → isBlank (Utf8.decode s i).1 = true ∧ (Utf8.decode s i).2 = 1) ∧
    (blk (L s)[i] = false → isBlank (Utf8.decode s i).1 = false ∧ 1 ≤ (Utf8.decode s i).2 ∧ i + (Utf8.decode s i).2 ≤ (L s).length ∧ ∀ c ∈ ((L s).drop i).take (Utf8.decode s i).2, blk c = false) := by
  have hl := L_len s
  have hg := get_L s i h
  rw [Lib.decode_at, hg]
  by_cases hb : (L s)[i].toNat < 128
  · have e : Lib.decodeN (s.size - i) (L s)[i].toNat (s.get! (i + 1)).toNat (s.get! (i + 2)).toNat (s.get! (i + 3)).toNat = ((L s)[i].toNat, 1) := by
      unfold Lib.decodeN
      rw [if_pos hb]
    rw [e]
    have e2 : isBlank (L s)[i].toNat = blk (L s)[i] := by
      generalize (L s)[i] = c
      revert c
      refine all_bytes ?_
      decide +kernel
    simp only
    rw [e2]
    have e3 : ((L s).drop i).take 1 = [(L s)[i]] := by rw [List.drop_eq_getElem_cons h]; rfl
    refine ⟨fun q => ⟨q, trivial⟩, fun q => ⟨q, Nat.le_refl _, h, fun c hc => ?_⟩⟩
    rw [e3, List.mem_singleton] at hc
    rw [hc]
    exact q
  · have hb' : 128 ≤ (L s)[i].toNat := by omega
    obtain ⟨h1, h2, h3, h4, h5, h6, h7⟩ := decN (s.size - i) (L s)[i].toNat (s.get! (i + 1)).toNat (s.get! (i + 2)).toNat (s.get! (i + 3)).toNat (by omega) hb'
    generalize Lib.decodeN (s.size - i) (L s)[i].toNat (s.get! (i + 1)).toNat (s.get! (i + 2)).toNat (s.get! (i + 3)).toNat = r at h1 h2 h3 h4 h5 h6 h7 ⊢
    refine ⟨fun q => ?_, fun _ => ⟨?_, h2, by omega, fun c hc => ?_⟩⟩
    · rw [big_not hb'] at q; cases q
    · simp only [isBlank, Bool.or_eq_false_iff, beq_eq_false_iff_ne]; omega
    · obtain ⟨j, hj, rfl⟩ := List.mem_iff_getElem.mp hc
      have hj' : j < r.2 ∧ i + j < (L s).length := by
        simp only [List.length_take, List.length_drop] at hj
        omega
      have ec : (((L s).drop i).take r.2)[j] = (L s)[i + j]'hj'.2 := by simp
      rw [ec]
      apply big_not
      have e : j = 0 ∨ j = 1 ∨ j = 2 ∨ j = 3 := by omega
      rcases e with rfl | rfl | rfl | rfl
      · exact hb'
      · have := get_L s (i + 1) hj'.2
        rw [← this]; exact h5 (by omega)
      · have := get_L s (i + 2) hj'.2
        rw [← this]; exact h6 (by omega)
      · have := get_L s (i + 3) hj'.2
        rw [← this]; exact h7 (by omega)
def piece (s : ByteArray) (x : Nat × Nat) : Bs := L (s.extract x.1 x.2)
theorem take_more (l : Bs) (a p n : Nat) (h : a ≤ p) : (l.drop a).take (p + n - a) = (l.drop a).take (p - a) ++ (l.drop p).take n := by
  have e : l.drop p = (l.drop a).drop (p - a) := by rw [List.drop_drop]; congr 1; omega
  rw [e, show p + n - a = (p - a) + n by omega, List.take_add]
theorem spans_words (s : ByteArray) : ∀ (fuel pos : Nat) (acc : List (Nat × Nat)), (L s).length ≤ pos + fuel → pos ≤ (L s).length →
    ((Lib.closeSpans s (Lib.spansFromP isBlank s fuel pos none acc)).map (piece s) = acc.map (piece s) ++ wordsB ((L s).drop pos)) ∧
    ∀ a, a < pos → (∀ c ∈ ((L s).drop a).take (pos - a), blk c = false) → (Lib.closeSpans s (Lib.spansFromP isBlank s fuel pos (some a) acc)).map (piece s) = acc.map (piece s) ++ wordsB ((L s).drop a) := by
  have hl := L_len s
  intro fuel
  induction fuel with
  | zero =>
    intro pos acc h1 h2
    have e : (L s).drop pos = [] := List.drop_eq_nil_of_le (by omega)
    constructor
    · rw [e]
      simp [Lib.spansFromP, Lib.closeSpans, words_nil]
    · intro a ha hc
      have e2 : ((L s).drop a).take (pos - a) = (L s).drop a := List.take_of_length_le (by simp; omega)
      rw [e2] at hc
      have hne : (L s).drop a ≠ [] := fun q => by have := congrArg List.length q; simp at this; omega
      rw [words_last hc hne]
      simp only [Lib.spansFromP, Lib.closeSpans, List.map_append, List.map_cons, List.map_nil, piece]
      rw [L_extract, List.take_of_length_le (by simp; omega)]
  | succ fuel ih =>
    intro pos acc h1 h2
    by_cases hp : pos < (L s).length
    · have hp' : pos < s.size := by omega
      have hd := dec_at s pos hp
      cases hb : blk (L s)[pos] with
      | true =>
        obtain ⟨d1, d2⟩ := hd.1 hb
        have hdrop : (L s).drop pos = (L s)[pos] :: (L s).drop (pos + 1) := List.drop_eq_getElem_cons hp
        constructor
        · rw [Lib.spansFromP, if_pos hp', if_pos d1, d2, (ih (pos + 1) acc (by omega) (by omega)).1, hdrop, words_blank _ hb]
        · intro a ha hc
          rw [Lib.spansFromP, if_pos hp', if_pos d1, d2, (ih (pos + 1) (acc ++ [(a, pos)]) (by omega) (by omega)).1, List.map_append, List.append_assoc]
          congr 1
          have hs : (L s).drop a = ((L s).drop a).take (pos - a) ++ (L s)[pos] :: (L s).drop (pos + 1) := by
            have e : (L s).drop pos = ((L s).drop a).drop (pos - a) := by rw [List.drop_drop]; congr 1; omega
            rw [← hdrop, e, List.take_append_drop]
          have hne : ((L s).drop a).take (pos - a) ≠ [] := fun q => by have := congrArg List.length q; simp at this; omega
          conv => rhs; rw [hs, words_seg _ hc hne hb]
          simp only [List.map_cons, List.map_nil, List.singleton_append, piece]
          rw [L_extract]
      | false =>
        obtain ⟨d1, d2, d3, d4⟩ := hd.2 hb
        have d1' : ¬ isBlank (Utf8.decode s pos).1 = true := by rw [d1]; decide
        have hi := ih (pos + (Utf8.decode s pos).2) acc (by omega) d3
        constructor
        · rw [Lib.spansFromP, if_pos hp', if_neg d1']
          exact hi.2 pos (by omega) (by rw [Nat.add_sub_cancel_left]; exact d4)
        · intro a ha hc
          rw [Lib.spansFromP, if_pos hp', if_neg d1']
          refine hi.2 a (by omega) ?_
          rw [take_more _ _ _ _ (by omega)]
          intro c hcm
          rcases List.mem_append.1 hcm with q | q
          · exact hc c q
          · exact d4 c q
    · have e : (L s).drop pos = [] := List.drop_eq_nil_of_le (by omega)
      constructor
      · rw [e, Lib.spansFromP, if_neg (by omega)]
        simp [Lib.closeSpans, words_nil]
      · intro a ha hc
        have e2 : ((L s).drop a).take (pos - a) = (L s).drop a := List.take_of_length_le (by simp; omega)
        rw [e2] at hc
        have hne : (L s).drop a ≠ [] := fun q => by have := congrArg List.length q; simp at this; omega
        rw [words_last hc hne, Lib.spansFromP, if_neg (by omega)]
        simp only [Lib.closeSpans, List.map_append, List.map_cons, List.map_nil, piece]
        rw [L_extract, List.take_of_length_le (by simp; omega)]
theorem prog_words (s : ByteArray) (hs : s.size ≤ 100000) : ∃ l, cron_words.f s = some l ∧ l.map L = wordsB (L s) := by
  refine ⟨Lib.goFieldsP isBlank s, by unfold cron_words.f; rw [if_pos (by omega)], ?_⟩
  have h := (spans_words s s.size 0 [] (by rw [L_len]; omega) (Nat.zero_le _)).1
  rw [List.drop_zero, List.map_nil, List.nil_append] at h
  rw [← h]
  unfold Lib.goFieldsP Lib.spansOfP
  rw [List.map_map]
  rfl
theorem words_small (s : Bs) (n : Nat) (h : s.length ≤ n) : ∀ w ∈ wordsB s, w.length ≤ n ∧ w ≠ [] := by
  intro w hw
  unfold wordsB at hw
  obtain ⟨h1, h2⟩ := List.mem_filter.1 hw
  refine ⟨spl_small 32 n _ (by rw [List.length_map]; exact h) w h1, fun e => ?_⟩
  rw [e] at h2
  cases h2
abbrev Sp := Nat × Nat × Nat × Nat × Nat × Bool × Bool × Int
def star (s : Bs) : Bool := s.head? == some 42
/-- What five fields and the sixth one say. -/
def fiveS (a b c d e : Bs) (o : Option Int) : Option Sp := match field 0 a with
  | none => none
  | some y0 => match field 1 b with
    | none => none
    | some y1 => match field 2 c with
      | none => none
      | some y2 => match field 3 d with
        | none => none
        | some y3 => match field 4 e with
          | none => none
          | some y4 => match o with
            | none => none
            | some n => some (y0, y1, y2, y3, y4, star c, star e, n)
def fieldsOf : List Bs → Option Sp
  | [a, b, c, d, e] => fiveS a b c d e (some 0)
  | [a, b, c, d, e, g] => fiveS a b c d e (ahead g)
  | _ => none
def parse (s : Bs) : Option Sp := if 256 < s.length then none else fieldsOf (wordsB s)
abbrev Tp := Int × Int × Int × Int × Int × Bool × Bool × Int × Int
abbrev Tr := Int × Int × Int × Int × Int × Bool × Bool × Int × Bool
def prR (o : Option Sp) : Tp := match o with | none => parseBad | some x => (x.1, x.2.1, x.2.2.1, x.2.2.2.1, x.2.2.2.2.1, x.2.2.2.2.2.1, x.2.2.2.2.2.2.1, x.2.2.2.2.2.2.2, 0)
def onO {A T : Type} (o : Option A) (bad : T) (R : A → T) : T := match o with | none => bad | some n => R n
theorem fstep {T : Type} {g : Nat → Option (Int × Bool)} {o : Option Nat} (hg : Ev g (numR o)) {F : Nat → Int → Option T} {bad : T} {R : Nat → T} (h : ∀ n, o = some n → Ev (fun k => F k (n : Int)) (R n)) :
    Ev (fun k => (g k).bind fun n => if n.2 = true then F k n.1 else some bad) (onO o bad R) := by
  refine Ev.bind hg ?_
  cases o with
  | none => exact Ev.congr (f := fun _ => some bad) (fun k => if_neg (by decide)) (Ev.now _)
  | some n => exact Ev.congr (fun k => if_pos rfl) (h n rfl)
theorem astep {T : Type} {g : Nat → Option (Int × Bool)} {o : Option Int} (hg : Ev g (aheadR o)) {bad : T} {R : Int → T} :
    Ev (fun k => (g k).bind fun n => if n.2 = true then some (R n.1) else some bad) (onO o bad R) := by
  refine Ev.bind hg ?_
  cases o with
  | none => exact Ev.congr (f := fun _ => some bad) (fun k => if_neg (by decide)) (Ev.now _)
  | some n => exact Ev.congr (fun k => if_pos rfl) (Ev.now _)
theorem star_bt (s : ByteArray) (h : L s ≠ []) : (bt s 0 == 42) = star (L s) ∧ 0 < s.size := by
  obtain ⟨⟨l⟩⟩ := s
  cases l with
  | nil => exact absurd rfl h
  | cons a t =>
    refine ⟨?_, by show 0 < (a :: t).length; simp⟩
    have e : bt ⟨⟨a :: t⟩⟩ 0 = (a.toNat : Int) := rfl
    have e2 : star (L ⟨⟨a :: t⟩⟩) = (a == 42) := rfl
    rw [e, e2]
    revert a
    intro a _ _ _
    have := all_bytes (P := fun a => (((a.toNat : Int) == 42) = (a == 42))) (by decide +kernel) a
    exact this
theorem wd_map {l : List ByteArray} {j : Nat} {w : Bs} {ws : List Bs} (e : l.map L = ws) (h : ws[j]? = some w) : L (wdN l j) = w := by
  rw [← e, List.getElem?_map] at h
  cases hq : l[j]? with
  | none => rw [hq] at h; cases h
  | some x =>
    rw [hq] at h
    have : wdN l j = x := by simp [wdN, hq]
    rw [this]
    exact Option.some.inj h
theorem prog_fields (l : List ByteArray) (hs : ∀ x ∈ l.map L, x.length ≤ 100000 ∧ x ≠ []) (h : l.length = 5 ∨ l.length = 6) : Ev (fun k => parseR0 k l) (prR (fieldsOf (l.map L))) := by
  have hw : ∀ j, j < l.length → (l.map L)[j]? = some (L (wdN l j)) := by
    intro j hj
    simp [wdN, hj]
  have hsz : ∀ j, j < l.length → (wdN l j).size ≤ 100000 ∧ L (wdN l j) ≠ [] := by
    intro j hj
    have hm : L (wdN l j) ∈ l.map L := List.mem_of_getElem? (hw j hj)
    have := hs _ hm
    rw [← L_len]
    exact this
  have key : ∀ (o : Option Int) (tl : Nat → Int → Int → Int → Int → Int → Option Tp), 5 ≤ l.length → (∀ (y0 y1 y2 y3 y4 : Nat), Ev (fun k => tl k y0 y1 y2 y3 y4) (onO o parseBad fun n => ((y0 : Int), (y1 : Int), (y2 : Int), (y3 : Int), (y4 : Int), star (L (wdN l 2)), star (L (wdN l 4)), n, (0 : Int)))) →
      (∀ k y0 y1 y2 y3 y4, parseR5 k l y0 y1 y2 y3 y4 = tl k y0 y1 y2 y3 y4) → Ev (fun k => parseR0 k l) (prR (fiveS (L (wdN l 0)) (L (wdN l 1)) (L (wdN l 2)) (L (wdN l 3)) (L (wdN l 4)) o)) := by
    intro o tl h5 ht he
    have e : prR (fiveS (L (wdN l 0)) (L (wdN l 1)) (L (wdN l 2)) (L (wdN l 3)) (L (wdN l 4)) o) = (onO (field 0 (L (wdN l 0))) parseBad fun y0 => onO (field 1 (L (wdN l 1))) parseBad fun y1 => onO (field 2 (L (wdN l 2))) parseBad fun y2 => onO (field 3 (L (wdN l 3))) parseBad fun y3 => onO (field 4 (L (wdN l 4))) parseBad fun y4 => onO o parseBad fun n => ((y0 : Int), (y1 : Int), (y2 : Int), (y3 : Int), (y4 : Int), star (L (wdN l 2)), star (L (wdN l 4)), n, (0 : Int))) := by
      unfold fiveS
      cases field 0 (L (wdN l 0)) with
      | none => rfl
      | some y0 => cases field 1 (L (wdN l 1)) with
        | none => rfl
        | some y1 => cases field 2 (L (wdN l 2)) with
          | none => rfl
          | some y2 => cases field 3 (L (wdN l 3)) with
            | none => rfl
            | some y3 => cases field 4 (L (wdN l 4)) with
              | none => rfl
              | some y4 => cases o with
                | none => rfl
                | some n => rfl
    rw [e]
    unfold parseR0
    refine fstep (prog_field 0 (by decide) _ (hsz 0 (by omega)).1) fun y0 _ => ?_
    unfold parseR1
    refine fstep (prog_field 1 (by decide) _ (hsz 1 (by omega)).1) fun y1 _ => ?_
    unfold parseR2
    refine fstep (prog_field 2 (by decide) _ (hsz 2 (by omega)).1) fun y2 _ => ?_
    unfold parseR3
    refine fstep (prog_field 3 (by decide) _ (hsz 3 (by omega)).1) fun y3 _ => ?_
    unfold parseR4
    refine fstep (prog_field 4 (by decide) _ (hsz 4 (by omega)).1) fun y4 _ => ?_
    exact Ev.congr (fun k => he k _ _ _ _ _) (ht y0 y1 y2 y3 y4)
  have s2 := star_bt (wdN l 2) (hsz 2 (by omega)).2
  have s4 := star_bt (wdN l 4) (hsz 4 (by omega)).2
  rcases h with h | h
  · match l, h with
    | [a, b, c, d, e], h =>
      refine key (some 0) (fun k y0 y1 y2 y3 y4 => some (y0, y1, y2, y3, y4, star (L c), star (L e), 0, 0)) (by simp) (fun y0 y1 y2 y3 y4 => Ev.now _) ?_
      intro k y0 y1 y2 y3 y4
      unfold parseR5
      rw [if_pos s2.2, if_pos s4.2, if_neg (by simp), s2.1, s4.1]
      rfl
  · match l, h with
    | [a, b, c, d, e, g], h =>
      refine key (ahead (L g)) (fun k y0 y1 y2 y3 y4 => (cron_ahead.f k g).bind fun n => (if n.2 = true then (some (y0, y1, y2, y3, y4, star (L c), star (L e), n.1, 0)) else (some parseBad))) (by simp) (fun y0 y1 y2 y3 y4 => ?_) ?_
      · exact astep (R := fun n => ((y0 : Int), (y1 : Int), (y2 : Int), (y3 : Int), (y4 : Int), star (L c), star (L e), n, (0 : Int))) (prog_ahead_ev g)
      · intro k y0 y1 y2 y3 y4
        unfold parseR5
        rw [if_pos s2.2, if_pos s4.2, if_pos (by simp), s2.1, s4.1]
        rfl
theorem fieldsOf_none {l : List Bs} (h5 : l.length ≠ 5) (h6 : l.length ≠ 6) : fieldsOf l = none := by
  match l with
  | [] => rfl
  | [_] => rfl
  | [_, _] => rfl
  | [_, _, _] => rfl
  | [_, _, _, _] => rfl
  | [_, _, _, _, _] => exact absurd rfl h5
  | [_, _, _, _, _, _] => exact absurd rfl h6
  | _ :: _ :: _ :: _ :: _ :: _ :: _ :: _ => rfl
theorem prog_parse (s : ByteArray) (hs : s.size ≤ 100000) : Ev (fun k => cron_Parse.f k s) (prR (parse (L s))) := by
  obtain ⟨l, hl, he⟩ := prog_words s hs
  have hlen : l.length = (wordsB (L s)).length := by rw [← he, List.length_map]
  have hls := L_len s
  have e0 : ∀ k, cron_Parse.f k s = (if (s.size : Int) > 256 then (some parseBad) else (if (l.length : Int) < 5 then (some parseBad) else (if (l.length : Int) > 6 then (some parseBad) else (parseR0 k l)))) := by
    intro k
    unfold cron_Parse.f
    rw [hl]
    rfl
  refine Ev.congr e0 ?_
  unfold parse
  by_cases q : s.size > 256
  · rw [if_pos (by omega)]
    simp only [if_pos (show (s.size : Int) > 256 by omega)]
    exact Ev.now _
  · rw [if_neg (by omega)]
    simp only [if_neg (show ¬ (s.size : Int) > 256 by omega)]
    by_cases h5 : l.length < 5
    · simp only [if_pos (show (l.length : Int) < 5 by omega)]
      rw [← he, fieldsOf_none (by simp; omega) (by simp; omega)]
      exact Ev.now _
    · simp only [if_neg (show ¬ (l.length : Int) < 5 by omega)]
      by_cases h6 : l.length > 6
      · simp only [if_pos (show (l.length : Int) > 6 by omega)]
        rw [← he, fieldsOf_none (by simp; omega) (by simp; omega)]
        exact Ev.now _
      · simp only [if_neg (show ¬ (l.length : Int) > 6 by omega)]
        rw [← he]
        refine prog_fields l ?_ (by omega)
        rw [he]
        exact words_small (L s) 100000 (by omega)
theorem prR_err (o : Option Sp) : (prR o).2.2.2.2.2.2.2.2 = if o.isSome then 0 else 7 := by cases o <;> rfl
theorem awake_f : tompionlaw04_awake.f = some true := rfl
end Go.Proofs.YtmjfocfdbodmpaaDoor.CS
