/- Numbers, names, pieces and parts of a cron text, as plain functions over lists of bytes, and that the program's functions and the reference's answer so. -/
import Derived.Test.YtmjfocfdbodmpaaDoorX2
import Derived.Test.YtmjfocfdbodmpaaDoorX8
import Derived.Test.YtmjfocfdbodmpaaDoorCronA
namespace Go.Proofs.YtmjfocfdbodmpaaDoor.CS
open Go Go.RowKit Go.Proofs.YtmjfocfdbodmpaaDoorW.PrintWords Go.Proofs.YtmjfocfdbodmpaaDoor.X

/-! ### digits -/
def isD (c : UInt8) : Bool := decide (48 ≤ c.toNat) && decide (c.toNat ≤ 57)
def dg (c : UInt8) : Nat := c.toNat - 48
def num : Bs → Option Nat
  | [a] => if isD a = true then some (dg a) else none
  | [a, b] => if isD a = true then (if isD b = true then some (dg a * 10 + dg b) else none) else none
  | _ => none
theorem isD_no {c : UInt8} (h : isD c = false) : (c.toNat : Int) < 48 ∨ 57 < (c.toNat : Int) := by
  unfold isD at h
  by_cases h1 : 48 ≤ c.toNat
  · by_cases h2 : c.toNat ≤ 57
    · simp [h1, h2] at h
    · omega
  · omega
theorem isD_yes {c : UInt8} (h : isD c = true) : 48 ≤ c.toNat ∧ c.toNat ≤ 57 := by
  unfold isD at h
  simpa using h
theorem num_le {s : Bs} {n : Nat} (h : num s = some n) : n ≤ 99 := by
  unfold num at h
  split at h
  · split at h
    · rename_i a h1
      have := isD_yes h1
      have e := Option.some.inj h
      unfold dg at e
      omega
    · cases h
  · split at h
    · split at h
      · rename_i a b h1 h2
        have := isD_yes h1
        have := isD_yes h2
        have e := Option.some.inj h
        unfold dg at e
        omega
      · cases h
    · cases h
  · cases h
def numR (o : Option Nat) : Int × Bool := match o with | some n => ((n : Int), true) | none => (0, false)
def numQ (o : Option Nat) : Int := match o with | some n => (n : Int) | none => -1
theorem three (s : ByteArray) : (∃ a, s = ⟨⟨[a]⟩⟩) ∨ (∃ a b, s = ⟨⟨[a, b]⟩⟩) ∨ (s.size = 0 ∨ 2 < s.size) := by
  obtain ⟨⟨l⟩⟩ := s
  match l with
  | [] => exact Or.inr (Or.inr (Or.inl rfl))
  | [a] => exact Or.inl ⟨a, rfl⟩
  | [a, b] => exact Or.inr (Or.inl ⟨a, b, rfl⟩)
  | a :: b :: c :: t => exact Or.inr (Or.inr (Or.inr (by show 2 < (a :: b :: c :: t).length; simp)))
theorem num_long {s : ByteArray} (h : s.size = 0 ∨ 2 < s.size) : num (L s) = none := by
  obtain ⟨⟨l⟩⟩ := s
  match l with
  | [] => rfl
  | [a] => simp [ByteArray.size] at h
  | [a, b] => simp [ByteArray.size] at h
  | a :: b :: c :: t => rfl
theorem bt1 (a : UInt8) : bt ⟨⟨[a]⟩⟩ 0 = (a.toNat : Int) := rfl
theorem bt20 (a b : UInt8) : bt ⟨⟨[a, b]⟩⟩ 0 = (a.toNat : Int) := rfl
theorem bt21 (a b : UInt8) : bt ⟨⟨[a, b]⟩⟩ 1 = (b.toNat : Int) := rfl
theorem L1 (a : UInt8) : L ⟨⟨[a]⟩⟩ = [a] := rfl
theorem L2 (a b : UInt8) : L ⟨⟨[a, b]⟩⟩ = [a, b] := rfl
theorem sz1 (a : UInt8) : (⟨⟨[a]⟩⟩ : ByteArray).size = 1 := rfl
theorem sz2 (a b : UInt8) : (⟨⟨[a, b]⟩⟩ : ByteArray).size = 2 := rfl
theorem w01 : wrap64 (0 + 1) = 1 := by decide +kernel
theorem w12 : wrap64 (1 + 1) = 2 := by decide +kernel
theorem dl_ok {k : Nat} {s : ByteArray} {x n i : Int} (h : i < n) (h0 : 0 ≤ i) (h1 : i < (s.size : Int)) (h2 : 48 ≤ bt s i) (h3 : bt s i ≤ 57) :
    cron_digits.l0 (k + 1) s x n i = cron_digits.l0 k s (wrap64 (wrap64 (x * 10) + (bt s i - 48) % 256)) n (wrap64 (i + 1)) := by
  simp only [cron_digits.l0]
  rw [if_pos h, if_pos h0, if_pos h1, if_neg (by omega), if_neg (by omega)]
theorem dl_bad {k : Nat} {s : ByteArray} {x n i : Int} (h : i < n) (h0 : 0 ≤ i) (h1 : i < (s.size : Int)) (h2 : bt s i < 48 ∨ 57 < bt s i) : cron_digits.l0 (k + 1) s x n i = some (0, false) := by
  simp only [cron_digits.l0]
  rw [if_pos h, if_pos h0, if_pos h1]
  by_cases q : bt s i < 48
  · rw [if_pos q]
  · rw [if_neg q, if_pos (by omega)]
theorem dl_end {k : Nat} {s : ByteArray} {x n i : Int} (h : ¬ i < n) : cron_digits.l0 (k + 1) s x n i = some (x, true) := by
  simp only [cron_digits.l0]
  rw [if_neg h]
theorem nl_ok {k : Nat} {s : ByteArray} {x i : Int} (h0 : 0 ≤ i) (h1 : i < (s.size : Int)) (h2 : 48 ≤ bt s i) (h3 : bt s i ≤ 57) :
    tompionref04_number.l0 (k + 1) s x i = tompionref04_number.l0 k s (wrap64 (wrap64 (x * 10) + (bt s i - 48) % 256)) (wrap64 (i + 1)) := by
  simp only [tompionref04_number.l0]
  rw [if_pos h1, if_pos h0, if_neg (by omega), if_neg (by omega)]
theorem nl_bad {k : Nat} {s : ByteArray} {x i : Int} (h0 : 0 ≤ i) (h1 : i < (s.size : Int)) (h2 : bt s i < 48 ∨ 57 < bt s i) : tompionref04_number.l0 (k + 1) s x i = some (-1) := by
  simp only [tompionref04_number.l0]
  rw [if_pos h1, if_pos h0]
  by_cases q : bt s i < 48
  · rw [if_pos q]
  · rw [if_neg q, if_pos (by omega)]
theorem nl_end {k : Nat} {s : ByteArray} {x i : Int} (h1 : ¬ i < (s.size : Int)) : tompionref04_number.l0 (k + 1) s x i = some x := by
  simp only [tompionref04_number.l0]
  rw [if_neg h1]
theorem d_one {a : UInt8} (h : isD a = true) : wrap64 (wrap64 (0 * 10) + ((a.toNat : Int) - 48) % 256) = ((dg a : Nat) : Int) := by
  have := isD_yes h
  unfold wrap64 dg
  omega
theorem d_two {a b : UInt8} (h : isD a = true) (h' : isD b = true) : wrap64 (wrap64 (((dg a : Nat) : Int) * 10) + ((b.toNat : Int) - 48) % 256) = ((dg a * 10 + dg b : Nat) : Int) := by
  have := isD_yes h
  have := isD_yes h'
  unfold wrap64 dg
  omega
theorem digits_ev (s : ByteArray) : Ev (fun k => cron_digits.f k s) (numR (num (L s))) := by
  refine ⟨6, fun k hk => ?_⟩
  obtain ⟨k, rfl⟩ : ∃ m, k = m + 6 := ⟨k - 6, by omega⟩
  rcases three s with ⟨a, rfl⟩ | ⟨a, b, rfl⟩ | h
  · have e0 : cron_digits.f (k + 6) ⟨⟨[a]⟩⟩ = cron_digits.l0 (k + 5) ⟨⟨[a]⟩⟩ 0 1 0 := by simp [cron_digits.f, cron_digits.j0, sz1]
    rw [L1]
    refine e0.trans ?_
    cases h : isD a with
    | false =>
      rw [dl_bad (by decide) (by decide) (by rw [sz1]; decide) (by rw [bt1]; exact isD_no h)]
      simp only [num, h, numR]; rfl
    | true =>
      have := isD_yes h
      rw [dl_ok (by decide) (by decide) (by rw [sz1]; decide) (by rw [bt1]; omega) (by rw [bt1]; omega), w01, dl_end (by decide), bt1, d_one h]
      simp only [num, h, numR]; rfl
  · have e0 : cron_digits.f (k + 6) ⟨⟨[a, b]⟩⟩ = cron_digits.l0 (k + 5) ⟨⟨[a, b]⟩⟩ 0 2 0 := by simp [cron_digits.f, cron_digits.j0, sz2]
    rw [L2]
    refine e0.trans ?_
    cases h : isD a with
    | false =>
      rw [dl_bad (by decide) (by decide) (by rw [sz2]; decide) (by rw [bt20]; exact isD_no h)]
      simp only [num, h, numR]; rfl
    | true =>
      have := isD_yes h
      rw [dl_ok (by decide) (by decide) (by rw [sz2]; decide) (by rw [bt20]; omega) (by rw [bt20]; omega), w01, bt20, d_one h]
      cases h' : isD b with
      | false =>
        rw [dl_bad (by decide) (by decide) (by rw [sz2]; decide) (by rw [bt21]; exact isD_no h')]
        simp only [num, h, h', numR]; rfl
      | true =>
        have := isD_yes h'
        rw [dl_ok (by decide) (by decide) (by rw [sz2]; decide) (by rw [bt21]; omega) (by rw [bt21]; omega), w12, dl_end (by decide), bt21, d_two h h']
        simp only [num, h, h', numR]; rfl
  · rw [num_long h]
    simp only [cron_digits.f, cron_digits.j0, numR]
    rcases h with h | h
    · rw [if_pos (by omega)]; rfl
    · rw [if_neg (by omega)]; simp; omega
theorem number_ev (s : ByteArray) : Ev (fun k => tompionref04_number.f k s) (numQ (num (L s))) := by
  refine ⟨6, fun k hk => ?_⟩
  obtain ⟨k, rfl⟩ : ∃ m, k = m + 6 := ⟨k - 6, by omega⟩
  rcases three s with ⟨a, rfl⟩ | ⟨a, b, rfl⟩ | h
  · have e0 : tompionref04_number.f (k + 6) ⟨⟨[a]⟩⟩ = tompionref04_number.l0 (k + 5) ⟨⟨[a]⟩⟩ 0 0 := by simp [tompionref04_number.f, tompionref04_number.j0, sz1]
    rw [L1]
    refine e0.trans ?_
    cases h : isD a with
    | false =>
      rw [nl_bad (by decide) (by rw [sz1]; decide) (by rw [bt1]; exact isD_no h)]
      simp only [num, h, numQ]; rfl
    | true =>
      have := isD_yes h
      rw [nl_ok (by decide) (by rw [sz1]; decide) (by rw [bt1]; omega) (by rw [bt1]; omega), w01, nl_end (by rw [sz1]; decide), bt1, d_one h]
      simp only [num, h, numQ]; rfl
  · have e0 : tompionref04_number.f (k + 6) ⟨⟨[a, b]⟩⟩ = tompionref04_number.l0 (k + 5) ⟨⟨[a, b]⟩⟩ 0 0 := by simp [tompionref04_number.f, tompionref04_number.j0, sz2]
    rw [L2]
    refine e0.trans ?_
    cases h : isD a with
    | false =>
      rw [nl_bad (by decide) (by rw [sz2]; decide) (by rw [bt20]; exact isD_no h)]
      simp only [num, h, numQ]; rfl
    | true =>
      have := isD_yes h
      rw [nl_ok (by decide) (by rw [sz2]; decide) (by rw [bt20]; omega) (by rw [bt20]; omega), w01, bt20, d_one h]
      cases h' : isD b with
      | false =>
        rw [nl_bad (by decide) (by rw [sz2]; decide) (by rw [bt21]; exact isD_no h')]
        simp only [num, h, h', numQ]; rfl
      | true =>
        have := isD_yes h'
        rw [nl_ok (by decide) (by rw [sz2]; decide) (by rw [bt21]; omega) (by rw [bt21]; omega), w12, nl_end (by rw [sz2]; decide), bt21, d_two h h']
        simp only [num, h, h', numQ]; rfl
  · rw [num_long h]
    simp only [tompionref04_number.f, tompionref04_number.j0, numQ]
    rcases h with h | h
    · rw [if_pos (by omega)]; rfl
    · rw [if_neg (by omega)]; simp; omega

/-! ### cutting and splitting -/
def cut (c : UInt8) : Bs → Bs × Bs × Bool
  | [] => ([], [], false)
  | x :: t => if x = c then ([], t, true) else (x :: (cut c t).1, (cut c t).2.1, (cut c t).2.2)
def spl (c : UInt8) : Bs → List Bs
  | [] => [[]]
  | x :: t => if x = c then [] :: spl c t else (match spl c t with | [] => [[x]] | h :: r => (x :: h) :: r)
theorem spl_ne (c : UInt8) : ∀ s, spl c s ≠ []
  | [] => by simp [spl]
  | x :: t => by
    unfold spl
    split
    · simp
    · split <;> simp
theorem spl_none (c : UInt8) : ∀ (s : Bs), c ∉ s → spl c s = [s]
  | [], _ => rfl
  | x :: t, h => by
    have h1 : ¬ x = c := fun e => h (e ▸ List.mem_cons_self ..)
    have h2 : c ∉ t := fun e => h (List.mem_cons_of_mem _ e)
    unfold spl
    rw [if_neg h1, spl_none c t h2]
theorem spl_at (c : UInt8) : ∀ (p r : Bs), c ∉ p → spl c (p ++ c :: r) = p :: spl c r
  | [], r, _ => by simp [spl]
  | x :: t, r, h => by
    have h1 : ¬ x = c := fun e => h (e ▸ List.mem_cons_self ..)
    have h2 : c ∉ t := fun e => h (List.mem_cons_of_mem _ e)
    rw [List.cons_append, spl, if_neg h1, spl_at c t r h2]
theorem cut_none (c : UInt8) : ∀ (s : Bs), c ∉ s → cut c s = (s, [], false)
  | [], _ => rfl
  | x :: t, h => by
    have h1 : ¬ x = c := fun e => h (e ▸ List.mem_cons_self ..)
    have h2 : c ∉ t := fun e => h (List.mem_cons_of_mem _ e)
    unfold cut
    rw [if_neg h1, cut_none c t h2]
theorem cut_at (c : UInt8) : ∀ (p r : Bs), c ∉ p → cut c (p ++ c :: r) = (p, r, true)
  | [], r, _ => by simp [cut]
  | x :: t, r, h => by
    have h1 : ¬ x = c := fun e => h (e ▸ List.mem_cons_self ..)
    have h2 : c ∉ t := fun e => h (List.mem_cons_of_mem _ e)
    rw [List.cons_append, cut, if_neg h1, cut_at c t r h2]
/-- Does it occur; if so, where first? -/
theorem first_at (c : UInt8) : ∀ (s : Bs), c ∉ s ∨ ∃ p r, s = p ++ c :: r ∧ c ∉ p
  | [] => Or.inl (by simp)
  | x :: t => by
    by_cases h : x = c
    · subst h; exact Or.inr ⟨[], t, rfl, by simp⟩
    · rcases first_at c t with h2 | ⟨p, r, rfl, h2⟩
      · exact Or.inl (by simp [h2, Ne.symm h])
      · exact Or.inr ⟨x :: p, r, rfl, by simp [h2, Ne.symm h]⟩
theorem indexByte_none : ∀ (s : Bs) (c : UInt8), c ∉ s → Lib.indexByte s c = -1
  | [], _, _ => rfl
  | x :: t, c, h => by
    have h1 : ¬ x = c := fun e => h (e ▸ List.mem_cons_self ..)
    have h2 : c ∉ t := fun e => h (List.mem_cons_of_mem _ e)
    unfold Lib.indexByte
    rw [if_neg (by simpa using h1), indexByte_none t c h2]
    rfl
theorem indexByte_at : ∀ (p r : Bs) (c : UInt8), c ∉ p → Lib.indexByte (p ++ c :: r) c = (p.length : Int)
  | [], r, c, _ => by simp [Lib.indexByte]
  | x :: t, r, c, h => by
    have h1 : ¬ x = c := fun e => h (e ▸ List.mem_cons_self ..)
    have h2 : c ∉ t := fun e => h (List.mem_cons_of_mem _ e)
    rw [List.cons_append, Lib.indexByte, if_neg (by simpa using h1), indexByte_at t r c h2, if_neg (by simp)]
    simp
theorem drop_at (p r : Bs) (c : UInt8) : (p ++ c :: r).drop (p.length + 1) = r := by
  rw [List.drop_append]
  simp
/-- The program's split. -/
theorem splitK_spl (c : UInt8) : ∀ (n : Nat) (s : Bs), s.length ≤ n → Lib.splitK [c] 0 (Lib.count s [c]) s = spl c s
  | n, s, hn => by
    rcases first_at c s with h | ⟨p, r, rfl, h⟩
    · have hi : Lib.index s [c] = -1 := by rw [Lib.index_one, indexByte_none s c h]
      rw [Lib.count_miss hi, spl_none c s h]
      rfl
    · have hi : Lib.index (p ++ c :: r) [c] = (p.length : Int) := by rw [Lib.index_one, indexByte_at p r c h]
      rw [Lib.count_hit (by simp) hi, spl_at c p r h, Nat.add_comm]
      have e : ¬ (Lib.index (p ++ c :: r) [c] == -1) = true := by rw [hi]; simp
      rw [Lib.splitK, if_neg e, hi]
      have d : (p ++ c :: r).drop (p.length + [c].length) = r := by
        exact drop_at p r c
      simp only [Int.toNat_natCast, Nat.add_zero]
      rw [d, List.take_left' rfl]
      congr 1
      match n with
      | 0 => simp at hn
      | n + 1 => exact splitK_spl c n r (by simp at hn; omega)
end Go.Proofs.YtmjfocfdbodmpaaDoor.CS
