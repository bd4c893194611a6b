/- What is parsed is right, and, where it has a text, this says the same: the plain law. -/
import Derived.Test.YtmjfocfdbodmpaaDoorX14
import Derived.Test.YtmjfocfdbodmpaaDoorX5
import Derived.Test.YtmjfocfdbodmpaaDoorCronW
namespace Go.Proofs.YtmjfocfdbodmpaaDoor.CS
open Go Go.RowKit Go.Proofs.YtmjfocfdbodmpaaDoorW.PrintWords Go.Proofs.YtmjfocfdbodmpaaDoor.X

/-! ### what a field says lies within it, and is not nothing -/
def inF (f y : Nat) : Prop := ∀ i, y.testBit i = true → lo f ≤ i ∧ i ≤ hi6 f
theorem inF_or {f a b : Nat} (ha : inF f a) (hb : inF f b) : inF f (a ||| b) := by
  intro i hi
  rw [Nat.testBit_or, Bool.or_eq_true] at hi
  rcases hi with h | h
  · exact ha i h
  · exact hb i h
theorem bitsOf_in {f : Nat} {l : List Nat} (h : ∀ n ∈ l, lo f ≤ n ∧ n ≤ hi6 f) : inF f (bitsOf l) := by
  intro i hi
  rw [testBit_bitsOf] at hi
  exact h i (by simpa using hi)
theorem bitsOf_ne {n : Nat} {l : List Nat} (h : n ∈ l) : bitsOf l ≠ 0 := by
  intro e
  have h1 := testBit_bitsOf n l
  rw [e, Nat.zero_testBit, decide_eq_true h] at h1
  cases h1
theorem span_mem {a b step : Nat} (h : a ≤ b) : a ∈ span a b step := by
  unfold span
  rw [stepsL, if_pos h]
  exact List.mem_cons_self ..
theorem hi_hi6 (f : Nat) (hf : f < 5) (i : Nat) (h1 : lo f ≤ i) (h2 : i ≤ hi f) : lo f ≤ z7 f i ∧ z7 f i ≤ hi6 f := by
  unfold z7
  rcases five f hf with rfl | rfl | rfl | rfl | rfl
  · simpa [lo, hi6, hi] using h2
  · simpa [lo, hi6, hi] using h2
  · simp [lo, hi6, hi] at h1 h2 ⊢; omega
  · simp [lo, hi6, hi] at h1 h2 ⊢; omega
  · simp [lo, hi6, hi] at h1 h2 ⊢; split <;> omega
theorem lo_hi6 (f : Nat) : lo f ≤ hi6 f := by unfold lo hi6; split <;> split <;> simp_all
theorem partS_in {f step y : Nat} {w a b : Bs} {r : Bool} (hf : f < 5) (h : partS f step w a b r = some y) : inF f y ∧ y ≠ 0 := by
  unfold partS at h
  split at h
  · rw [← Option.some.inj h]
    exact ⟨bitsOf_in fun n hn => stepsL_le _ _ _ _ _ hn, bitsOf_ne (span_mem (lo_hi6 f))⟩
  · split at h
    · cases h
    · rename_i x hx
      split at h
      · cases h
      · rename_i z hz
        split at h
        · cases h
        · rename_i hlt
          have rx := place_range hf hx
          have rz : z ≤ hi f := by
            split at hz
            · exact (place_range hf hz).2
            · rw [← Option.some.inj hz]; exact rx.2
          rw [← Option.some.inj h]
          refine ⟨bitsOf_in fun n hn => ?_, bitsOf_ne (List.mem_map.2 ⟨x, span_mem (by omega), rfl⟩)⟩
          obtain ⟨m, hm, rfl⟩ := List.mem_map.1 hn
          have := stepsL_le _ _ _ _ _ hm
          exact hi_hi6 f hf m (by omega) (by omega)
theorem part_in {f y : Nat} {s : Bs} (hf : f < 5) (h : part f s = some y) : inF f y ∧ y ≠ 0 := by
  unfold part at h
  split at h
  · split at h
    · cases h
    · split at h
      · split at h
        · exact partS_in hf h
        · cases h
      · cases h
  · exact partS_in hf h
theorem fieldL_in {f : Nat} (hf : f < 5) : ∀ {l : List Bs} {y : Nat}, fieldL f l = some y → inF f y ∧ (l ≠ [] → y ≠ 0)
  | [], y, h => by
    rw [← Option.some.inj h]
    exact ⟨fun i hi => (by rw [Nat.zero_testBit] at hi; cases hi), fun h => absurd rfl h⟩
  | p :: t, y, h => by
    unfold fieldL at h
    cases hp : part f p with
    | none => rw [hp] at h; cases h
    | some a =>
      rw [hp] at h
      cases ht : fieldL f t with
      | none => rw [ht] at h; cases h
      | some b =>
        rw [ht] at h
        have e : a ||| b = y := Option.some.inj h
        have h1 := part_in hf hp
        have h2 := fieldL_in hf ht
        rw [← e]
        refine ⟨inF_or h1.1 h2.1, fun _ h0 => h1.2 ?_⟩
        exact Nat.eq_zero_of_le_zero (h0 ▸ Nat.left_le_or)
theorem field_in {f y : Nat} {s : Bs} (hf : f < 5) (h : field f s = some y) : inF f y ∧ y ≠ 0 ∧ y < 2 ^ 64 :=
  ⟨(fieldL_in hf h).1, (fieldL_in hf h).2 (spl_ne _ _), fieldL_lt hf h⟩
theorem fullM_eq : ∀ f : Fin 5, fullM f.val = ((full f.val 1 : Nat) : Int) := by decide +kernel
theorem full_bits : ∀ f : Fin 5, ∀ i : Fin 64, (full f.val 1).testBit i.val = (decide (lo f.val ≤ i.val) && decide (i.val ≤ hi6 f.val)) := by decide +kernel
theorem andNot_zero (y m : Nat) (h : ∀ i, y.testBit i = true → m.testBit i = true) : Go.bits .andNot .u64 (y : Int) (m : Int) = 0 := by
  have h1 : (BitVec.ofInt 64 (y : Int)) = BitVec.ofNat 64 y := BitVec.ofInt_natCast 64 y
  have h2 : (BitVec.ofInt 64 (m : Int)) = BitVec.ofNat 64 m := BitVec.ofInt_natCast 64 m
  have hz : BitVec.ofNat 64 y &&& ~~~ BitVec.ofNat 64 m = 0#64 := by
    apply BitVec.eq_of_getLsbD_eq
    intro i hi
    simp only [BitVec.getLsbD_and, BitVec.getLsbD_not, BitVec.getLsbD_ofNat]
    cases q : y.testBit i with
    | false => simp
    | true => simp [h i q, hi]
  show IntKind.u64.wrap ((BitVec.ofInt 64 (y : Int) &&& ~~~ BitVec.ofInt 64 (m : Int)).toNat : Int) = 0
  rw [h1, h2, hz]
  decide
theorem setOk_of {f y : Nat} (hf : f < 5) (hi' : inF f y) (h0 : y ≠ 0) (_ : y < 2 ^ 64) : setOk f (y : Int) = true := by
  have ha := andNot_zero y (full f 1) (by
    intro i q
    have r := hi' i q
    have h6 := hi6_le f
    rw [full_bits ⟨f, hf⟩ ⟨i, by omega⟩]
    simp [r.1, r.2])
  have e := fullM_eq ⟨f, hf⟩
  unfold setOk
  rw [show fullM f = ((full f 1 : Nat) : Int) from e, ha]
  simp
  omega

/-! ### a text's words are its fields -/
theorem words_inter : ∀ (l : List Bs), (∀ w ∈ l, w ≠ [] ∧ ∀ c ∈ w, blk c = false) → wordsB (inter 32 l) = l
  | [], _ => rfl
  | [w], h => by
    have h1 := h w (List.mem_cons_self ..)
    rw [inter_one]
    exact words_last h1.2 h1.1
  | w :: v :: l, h => by
    have h1 := h w (List.mem_cons_self ..)
    rw [inter_cons, words_seg _ h1.2 h1.1 (by decide), words_inter (v :: l) fun z hz => h z (List.mem_cons_of_mem _ hz)]
theorem spl_inter (c : UInt8) : ∀ (l : List Bs), l ≠ [] → (∀ w ∈ l, c ∉ w) → spl c (inter c l) = l
  | [], h, _ => absurd rfl h
  | [w], _, h => by
    rw [inter_one]
    exact spl_none c w (h w (List.mem_cons_self ..))
  | w :: v :: l, _, h => by
    rw [inter_cons, spl_at c w _ (h w (List.mem_cons_self ..)), spl_inter c (v :: l) (by simp) fun z hz => h z (List.mem_cons_of_mem _ hz)]
/-- A number below 100, its digits without a search. -/
def decE (n : Nat) : Bs := if n < 10 then [UInt8.ofNat (48 + n)] else d2 n
theorem dec_E {n : Nat} (h : n < 100) : dec n = decE n := by
  unfold decE
  by_cases q : n < 10
  · rw [if_pos q, dec_small q]
  · rw [if_neg q, dec_two (by omega) h]
theorem decE_dig : ∀ n : Fin 100, (decE n.val).all isD = true ∧ decE n.val ≠ [] := by decide +kernel
theorem isD_facts (c : UInt8) (h : isD c = true) : blk c = false ∧ c ≠ 44 ∧ c ≠ 42 := by
  revert c
  intro c
  exact all_bytes (P := fun c => isD c = true → blk c = false ∧ c ≠ 44 ∧ c ≠ 42) (by decide +kernel) c
theorem dec_dig {n : Nat} (h : n < 100) : (∀ c ∈ dec n, isD c = true) ∧ dec n ≠ [] := by
  have := decE_dig ⟨n, h⟩
  rw [dec_E h]
  exact ⟨fun c hc => List.all_eq_true.1 this.1 c hc, this.2⟩
theorem part_dec : ∀ f : Fin 5, ∀ m : Fin 60, lo f.val ≤ m.val → m.val ≤ hi6 f.val → part f.val (decE m.val) = some (2 ^ m.val) := by decide +kernel
theorem fieldL_dec (f : Nat) (hf : f < 5) : ∀ (l : List Nat), (∀ m ∈ l, lo f ≤ m ∧ m ≤ hi6 f) → fieldL f (l.map dec) = some (bitsOf l)
  | [], _ => rfl
  | m :: l, h => by
    have hm := h m (List.mem_cons_self ..)
    have h6 := hi6_le f
    have hp := part_dec ⟨f, hf⟩ ⟨m, by omega⟩ hm.1 hm.2
    rw [List.map_cons, fieldL, dec_E (by omega)]
    rw [show part f (decE m) = some (2 ^ m) from hp, fieldL_dec f hf l fun z hz => h z (List.mem_cons_of_mem _ hz)]
    rfl
theorem mem_nums (x : Nat) : ∀ (d n i : Nat), i ∈ numsFrom x d n ↔ n ≤ i ∧ i < n + d ∧ x.testBit i = true
  | 0, n, i => by simp [numsFrom]; omega
  | d + 1, n, i => by
    have ih := mem_nums x d (n + 1) i
    unfold numsFrom
    split
    · rename_i h
      rw [List.mem_cons, ih]
      constructor
      · rintro (rfl | h2)
        · exact ⟨Nat.le_refl _, by omega, h⟩
        · exact ⟨by omega, by omega, h2.2.2⟩
      · rintro ⟨h1, h2, h3⟩
        by_cases q : i = n
        · exact Or.inl q
        · exact Or.inr ⟨by omega, by omega, h3⟩
    · rename_i h
      rw [ih]
      constructor
      · rintro ⟨h1, h2, h3⟩; exact ⟨by omega, by omega, h3⟩
      · rintro ⟨h1, h2, h3⟩
        have : i ≠ n := fun e => h (e ▸ h3)
        exact ⟨by omega, by omega, h3⟩
theorem nums_bits {x : Nat} (hx : x < 2 ^ 64) : bitsOf (numsFrom x 64 0) = x := by
  apply Nat.eq_of_testBit_eq
  intro i
  rw [testBit_bitsOf]
  rw [Bool.eq_iff_iff, decide_eq_true_iff, mem_nums]
  constructor
  · rintro ⟨_, _, h⟩; exact h
  · intro h
    refine ⟨Nat.zero_le _, ?_, h⟩
    rcases Nat.lt_or_ge i 64 with q | q
    · omega
    · rw [Nat.testBit_lt_two_pow (Nat.lt_of_lt_of_le hx (Nat.pow_le_pow_right (by decide) q))] at h
      cases h
theorem nums_ne {x : Nat} (hx : x < 2 ^ 64) (h0 : x ≠ 0) : numsFrom x 64 0 ≠ [] := by
  intro e
  apply h0
  rw [← nums_bits hx, e]
  rfl
theorem listS_facts {f y : Nat} (hf : f < 5) (hi' : inF f y) (h0 : y ≠ 0) (hl : y < 2 ^ 64) : listS y ≠ [] ∧ (∀ c ∈ listS y, blk c = false) ∧ star (listS y) = false ∧ field f (listS y) = some y := by
  have hmem : ∀ m ∈ numsFrom y 64 0, lo f ≤ m ∧ m ≤ hi6 f ∧ m < 64 := by
    intro m hm
    have := (mem_nums y 64 0 m).1 hm
    have r := hi' m this.2.2
    exact ⟨r.1, r.2, by omega⟩
  have hw : ∀ w ∈ (numsFrom y 64 0).map dec, (∀ c ∈ w, isD c = true) ∧ w ≠ [] := by
    intro w hw
    obtain ⟨m, hm, rfl⟩ := List.mem_map.1 hw
    exact dec_dig (Nat.lt_trans (hmem m hm).2.2 (by decide))
  have hne : (numsFrom y 64 0).map dec ≠ [] := by simpa using nums_ne hl h0
  have gen : ∀ (l : List Bs), l ≠ [] → (∀ w ∈ l, (∀ c ∈ w, isD c = true) ∧ w ≠ []) → inter 44 l ≠ [] ∧ (∀ c ∈ inter 44 l, blk c = false) ∧ star (inter 44 l) = false := by
    intro l
    induction l with
    | nil => intro h; exact absurd rfl h
    | cons w l ih =>
      intro _ h
      have h1 := h w (List.mem_cons_self ..)
      obtain ⟨a, t, rfl⟩ : ∃ a t, w = a :: t := by
        cases w with
        | nil => exact absurd rfl h1.2
        | cons a t => exact ⟨a, t, rfl⟩
      have ha := isD_facts a (h1.1 a (List.mem_cons_self ..))
      have hst : ∀ r : Bs, star (a :: t ++ r) = false := by
        intro r
        show (some a == some 42) = false
        simpa using ha.2.2
      cases l with
      | nil =>
        rw [inter_one]
        refine ⟨by simp, fun c hc => (isD_facts c (h1.1 c hc)).1, ?_⟩
        have := hst []
        rwa [List.append_nil] at this
      | cons v l =>
        have h2 := ih (by simp) fun z hz => h z (List.mem_cons_of_mem _ hz)
        rw [inter_cons]
        refine ⟨by simp, fun c hc => ?_, hst _⟩
        rcases List.mem_append.1 hc with q | q
        · exact (isD_facts c (h1.1 c q)).1
        · rcases List.mem_cons.1 q with rfl | q
          · decide
          · exact h2.2.1 c q
  have hg := gen _ hne hw
  refine ⟨hg.1, hg.2.1, hg.2.2, ?_⟩
  unfold field listS
  rw [spl_inter 44 _ hne (fun w hw' hc => (isD_facts 44 ((hw w hw').1 44 hc)).2.1 rfl), fieldL_dec f hf _ (fun m hm => ⟨(hmem m hm).1, (hmem m hm).2.1⟩), nums_bits hl]
theorem any_star : ∀ f : Fin 5, field f.val [42] = some (full f.val 1) := by decide +kernel
theorem any_step : ∀ f : Fin 5, ∀ s : Fin 100, 2 ≤ s.val → field f.val ([42, 47] ++ decE s.val) = some (full f.val s.val) := by decide +kernel
theorem anyS_facts {f y : Nat} (hf : f < 5) (hn : anyS f y ≠ []) : (∀ c ∈ anyS f y, blk c = false) ∧ star (anyS f y) = true ∧ field f (anyS f y) = some y := by
  unfold anyS at hn ⊢
  by_cases q : y = full f 1
  · rw [if_pos q]
    refine ⟨by decide, by decide, ?_⟩
    rw [q]
    exact any_star ⟨f, hf⟩
  · rw [if_neg q] at hn ⊢
    cases ha : anyGo f y 98 2 with
    | none => rw [ha] at hn; exact absurd rfl hn
    | some s =>
      have r := anyGo_range f y 98 2 s ha
      have hd := dec_dig (n := s) (by omega)
      refine ⟨fun c hc => ?_, rfl, ?_⟩
      · have hc' : c ∈ [42, 47] ++ dec s := hc
        rcases List.mem_append.1 hc' with h | h
        · simp at h
          rcases h with rfl | rfl <;> decide
        · exact (isD_facts c (hd.1 c h)).1
      · show field f ([42, 47] ++ dec s) = some y
        rw [dec_E (by omega), r.2.2]
        exact any_step ⟨f, hf⟩ ⟨s, by omega⟩ (by simpa using r.1)
theorem wordS_facts {f y : Nat} {an : Bool} (hf : f < 5) (hi' : inF f y) (h0 : y ≠ 0) (hl : y < 2 ^ 64) (hw : wordS f y an ≠ []) : (∀ c ∈ wordS f y an, blk c = false) ∧ star (wordS f y an) = an ∧ field f (wordS f y an) = some y := by
  unfold wordS at hw ⊢
  cases an with
  | true => simp only [if_true] at hw ⊢; exact anyS_facts hf hw
  | false =>
    simp only [Bool.false_eq_true, if_false] at hw ⊢
    exact (listS_facts hf hi' h0 hl).2
theorem d2_num : ∀ n : Fin 100, num (d2 n.val) = some n.val ∧ (d2 n.val).all isD = true := by decide +kernel
theorem endS_facts (n : Int) (h1 : -899 ≤ n) (h2 : n ≤ 899) : (n = 0 ∧ endS n = []) ∨ ∃ w, endS n = [w] ∧ w ≠ [] ∧ (∀ c ∈ w, blk c = false) ∧ ahead w = some n := by
  have key : ∀ (s : UInt8) (A : Nat), A ≤ 899 → s = 43 ∨ s = 45 → (∀ c ∈ s :: (d2 (A / 60) ++ d2 (A % 60)), blk c = false) ∧ ahead (s :: (d2 (A / 60) ++ d2 (A % 60))) = some (if s = 45 then -(A : Int) else (A : Int)) := by
    intro s A hA hs
    have a1 := d2_num ⟨A / 60, by omega⟩
    have a2 := d2_num ⟨A % 60, by omega⟩
    constructor
    · intro c hc
      rcases List.mem_cons.1 hc with rfl | hc
      · rcases hs with rfl | rfl <;> decide
      · rcases List.mem_append.1 hc with h | h
        · exact (isD_facts c (List.all_eq_true.1 a1.2 c h)).1
        · exact (isD_facts c (List.all_eq_true.1 a2.2 c h)).1
    · show (if s = 43 ∨ s = 45 then aheadN s (num (d2 (A / 60))) (num (d2 (A % 60))) else none) = _
      rw [if_pos hs]
      rw [show num (d2 (A / 60)) = some (A / 60) from a1.1, show num (d2 (A % 60)) = some (A % 60) from a2.1]
      simp only [aheadN]
      rw [if_pos (by omega), if_pos (by omega)]
      have e : 60 * (A / 60) + A % 60 = A := by omega
      rw [e]
  unfold endS
  by_cases p : 0 < n
  · have k := key 43 n.natAbs (by omega) (Or.inl rfl)
    rw [if_pos p]
    refine Or.inr ⟨_, rfl, by simp, k.1, ?_⟩
    rw [k.2, if_neg (by decide)]
    congr 1
    omega
  · by_cases m : n < 0
    · have k := key 45 n.natAbs (by omega) (Or.inr rfl)
      rw [if_neg p, if_pos m]
      refine Or.inr ⟨_, rfl, by simp, k.1, ?_⟩
      rw [k.2, if_pos rfl]
      congr 1
      omega
    · rw [if_neg p, if_neg m]
      exact Or.inl ⟨by omega, rfl⟩
theorem back {x0 x1 x2 x3 x4 : Nat} {a d : Bool} {n : Int} (h0 : inF 0 x0 ∧ x0 ≠ 0 ∧ x0 < 2 ^ 64) (h1 : inF 1 x1 ∧ x1 ≠ 0 ∧ x1 < 2 ^ 64) (h2 : inF 2 x2 ∧ x2 ≠ 0 ∧ x2 < 2 ^ 64) (h3 : inF 3 x3 ∧ x3 ≠ 0 ∧ x3 < 2 ^ 64) (h4 : inF 4 x4 ∧ x4 ≠ 0 ∧ x4 < 2 ^ 64) (hn1 : -899 ≤ n) (hn2 : n ≤ 899) :
    (textS x0 x1 x2 x3 x4 a d n = [] → a = true ∨ d = true) ∧ (textS x0 x1 x2 x3 x4 a d n ≠ [] → (textS x0 x1 x2 x3 x4 a d n).length ≤ 256 → parse (textS x0 x1 x2 x3 x4 a d n) = some (x0, x1, x2, x3, x4, a, d, n)) := by
  have l0 := listS_facts (f := 0) (by decide) h0.1 h0.2.1 h0.2.2
  have l1 := listS_facts (f := 1) (by decide) h1.1 h1.2.1 h1.2.2
  have l2 := listS_facts (f := 2) (by decide) h2.1 h2.2.1 h2.2.2
  have l3 := listS_facts (f := 3) (by decide) h3.1 h3.2.1 h3.2.2
  have l4 := listS_facts (f := 4) (by decide) h4.1 h4.2.1 h4.2.2
  have n0 : wordS 0 x0 false ≠ [] := l0.1
  have n1 : wordS 1 x1 false ≠ [] := l1.1
  have n3 : wordS 3 x3 false ≠ [] := l3.1
  unfold textS
  rw [if_neg n0, if_neg n1]
  by_cases n2 : wordS 2 x2 a = []
  · rw [if_pos n2]
    refine ⟨fun _ => ?_, fun h => absurd rfl h⟩
    cases a with
    | true => exact Or.inl rfl
    | false => exact absurd n2 l2.1
  · rw [if_neg n2, if_neg n3]
    by_cases n4 : wordS 4 x4 d = []
    · rw [if_pos n4]
      refine ⟨fun _ => ?_, fun h => absurd rfl h⟩
      cases d with
      | true => exact Or.inr rfl
      | false => exact absurd n4 l4.1
    · rw [if_neg n4]
      have f0 := wordS_facts (an := false) (f := 0) (by decide) h0.1 h0.2.1 h0.2.2 n0
      have f1 := wordS_facts (an := false) (f := 1) (by decide) h1.1 h1.2.1 h1.2.2 n1
      have f2 := wordS_facts (an := a) (f := 2) (by decide) h2.1 h2.2.1 h2.2.2 n2
      have f3 := wordS_facts (an := false) (f := 3) (by decide) h3.1 h3.2.1 h3.2.2 n3
      have f4 := wordS_facts (an := d) (f := 4) (by decide) h4.1 h4.2.1 h4.2.2 n4
      refine ⟨fun h => ?_, fun _ hlen => ?_⟩
      · exfalso
        rw [List.cons_append] at h
        have : inter 32 (wordS 0 x0 false :: ([wordS 1 x1 false, wordS 2 x2 a, wordS 3 x3 false, wordS 4 x4 d] ++ endS n)) = wordS 0 x0 false ++ 32 :: inter 32 ([wordS 1 x1 false, wordS 2 x2 a, wordS 3 x3 false, wordS 4 x4 d] ++ endS n) := inter_cons 32 _ _ _
        rw [this] at h
        simp at h
      · unfold parse
        rw [if_neg (by omega)]
        have hw5 : ∀ w ∈ [wordS 0 x0 false, wordS 1 x1 false, wordS 2 x2 a, wordS 3 x3 false, wordS 4 x4 d], w ≠ [] ∧ ∀ c ∈ w, blk c = false := by
          intro w hw
          simp only [List.mem_cons, List.mem_nil_iff, or_false] at hw
          rcases hw with rfl | rfl | rfl | rfl | rfl
          · exact ⟨n0, f0.1⟩
          · exact ⟨n1, f1.1⟩
          · exact ⟨n2, f2.1⟩
          · exact ⟨n3, f3.1⟩
          · exact ⟨n4, f4.1⟩
        have five : ∀ o : Option Int, o = some n → fiveS (wordS 0 x0 false) (wordS 1 x1 false) (wordS 2 x2 a) (wordS 3 x3 false) (wordS 4 x4 d) o = some (x0, x1, x2, x3, x4, a, d, n) := by
          rintro o rfl
          unfold fiveS
          rw [f0.2.2, f1.2.2, f2.2.2, f3.2.2, f4.2.2, f2.2.1, f4.2.1]
        rcases endS_facts n hn1 hn2 with ⟨hz, he⟩ | ⟨w, he, hwn, hwb, hwa⟩
        · rw [he, List.append_nil, words_inter _ hw5]
          exact five (some 0) (by rw [hz])
        · rw [he, words_inter _ (by
            intro z hz
            rcases List.mem_append.1 hz with q | q
            · exact hw5 z q
            · rw [List.mem_singleton] at q
              rw [q]; exact ⟨hwn, hwb⟩)]
          exact five (ahead w) hwa
theorem ahead_range {s : Bs} {n : Int} (h : ahead s = some n) : -899 ≤ n ∧ n ≤ 899 := by
  unfold ahead at h
  split at h
  · split at h
    · unfold aheadN at h
      split at h
      · cases h
      · split at h
        · cases h
        · split at h
          · split at h
            · have e := Option.some.inj h
              split at e <;> omega
            · cases h
          · cases h
    · cases h
  · cases h
theorem fiveS_facts {a b c d e : Bs} {o : Option Int} {x : Sp} (h : fiveS a b c d e o = some x) (ho : ∀ n, o = some n → -899 ≤ n ∧ n ≤ 899) :
    (inF 0 x.1 ∧ x.1 ≠ 0 ∧ x.1 < 2 ^ 64) ∧ (inF 1 x.2.1 ∧ x.2.1 ≠ 0 ∧ x.2.1 < 2 ^ 64) ∧ (inF 2 x.2.2.1 ∧ x.2.2.1 ≠ 0 ∧ x.2.2.1 < 2 ^ 64) ∧ (inF 3 x.2.2.2.1 ∧ x.2.2.2.1 ≠ 0 ∧ x.2.2.2.1 < 2 ^ 64) ∧ (inF 4 x.2.2.2.2.1 ∧ x.2.2.2.2.1 ≠ 0 ∧ x.2.2.2.2.1 < 2 ^ 64) ∧ -899 ≤ x.2.2.2.2.2.2.2 ∧ x.2.2.2.2.2.2.2 ≤ 899 := by
  unfold fiveS at h
  split at h
  · cases h
  · rename_i y0 q0
    split at h
    · cases h
    · rename_i y1 q1
      split at h
      · cases h
      · rename_i y2 q2
        split at h
        · cases h
        · rename_i y3 q3
          split at h
          · cases h
          · rename_i y4 q4
            split at h
            · cases h
            · rename_i n
              rw [← Option.some.inj h]
              exact ⟨field_in (by decide) q0, field_in (by decide) q1, field_in (by decide) q2, field_in (by decide) q3, field_in (by decide) q4, ho n rfl⟩
theorem parse_facts {s : Bs} {x : Sp} (h : parse s = some x) :
    (inF 0 x.1 ∧ x.1 ≠ 0 ∧ x.1 < 2 ^ 64) ∧ (inF 1 x.2.1 ∧ x.2.1 ≠ 0 ∧ x.2.1 < 2 ^ 64) ∧ (inF 2 x.2.2.1 ∧ x.2.2.1 ≠ 0 ∧ x.2.2.1 < 2 ^ 64) ∧ (inF 3 x.2.2.2.1 ∧ x.2.2.2.1 ≠ 0 ∧ x.2.2.2.1 < 2 ^ 64) ∧ (inF 4 x.2.2.2.2.1 ∧ x.2.2.2.2.1 ≠ 0 ∧ x.2.2.2.2.1 < 2 ^ 64) ∧ -899 ≤ x.2.2.2.2.2.2.2 ∧ x.2.2.2.2.2.2.2 ≤ 899 := by
  unfold parse at h
  split at h
  · cases h
  · unfold fieldsOf at h
    split at h
    · exact fiveS_facts h (by intro n hn; rw [← Option.some.inj hn]; decide)
    · exact fiveS_facts h (fun n hn => ahead_range hn)
    · cases h
theorem right_of {x0 x1 x2 x3 x4 : Nat} {n : Int} (h0 : inF 0 x0 ∧ x0 ≠ 0 ∧ x0 < 2 ^ 64) (h1 : inF 1 x1 ∧ x1 ≠ 0 ∧ x1 < 2 ^ 64) (h2 : inF 2 x2 ∧ x2 ≠ 0 ∧ x2 < 2 ^ 64) (h3 : inF 3 x3 ∧ x3 ≠ 0 ∧ x3 < 2 ^ 64) (h4 : inF 4 x4 ∧ x4 ≠ 0 ∧ x4 < 2 ^ 64) (hn1 : -899 ≤ n) (hn2 : n ≤ 899) : rightB x0 x1 x2 x3 x4 n = true := by
  unfold rightB
  rw [setOk_of (f := 0) (by decide) h0.1 h0.2.1 h0.2.2, setOk_of (f := 1) (by decide) h1.1 h1.2.1 h1.2.2, setOk_of (f := 2) (by decide) h2.1 h2.2.1 h2.2.2, setOk_of (f := 3) (by decide) h3.1 h3.2.1 h3.2.2, setOk_of (f := 4) (by decide) h4.1 h4.2.1 h4.2.2]
  simp [hn1, hn2]
theorem cronBack : tompionlaw04_CronBack.Pure := by
  intro s _
  refine Ev.rounds ?_
  by_cases h : s.size > 400
  · refine Ev.congr (f := fun k => tompionlaw04_CronBack.j0 k s true) (fun k => ?_) (Ev.step (f := fun _ => some true) (fun k => ?_) (Ev.now _))
    · unfold tompionlaw04_CronBack.f
      rw [awake_f, Option.bind_some, if_pos rfl, decide_eq_true (by omega)]
    · simp only [tompionlaw04_CronBack.j0]
      rw [if_pos trivial, awake_f]
      rfl
  · have hp := prog_parse s (by omega)
    have e0 : ∀ k, tompionlaw04_CronBack.f k s = tompionlaw04_CronBack.j0 k s false := by
      intro k
      unfold tompionlaw04_CronBack.f
      rw [awake_f, Option.bind_some, if_pos rfl, decide_eq_false (by omega)]
    refine Ev.congr e0 ?_
    cases hx : parse (L s) with
    | none =>
      rw [hx] at hp
      obtain ⟨K, hK⟩ := hp
      refine ⟨K + 1, fun k hk => ?_⟩
      obtain ⟨k, rfl⟩ : ∃ m, k = m + 1 := ⟨k - 1, by omega⟩
      have hK := hK k (by omega)
      dsimp only at hK
      simp only [tompionlaw04_CronBack.j0]
      rw [if_neg (by decide), hK]
      rfl
    | some x =>
      obtain ⟨x0, x1, x2, x3, x4, a, d, n⟩ := x
      obtain ⟨f0, f1, f2, f3, f4, b1, b2⟩ := parse_facts hx
      dsimp only at f0 f1 f2 f3 f4 b1 b2
      have hr := right_of f0 f1 f2 f3 f4 b1 b2
      have ht := prog_text x0 x1 x2 x3 x4 a d n f0.2.2 f1.2.2 f2.2.2 f3.2.2 f4.2.2 hr
      obtain ⟨k1, k2⟩ := back (a := a) (d := d) f0 f1 f2 f3 f4 b1 b2
      have tl : (B (textS x0 x1 x2 x3 x4 a d n)).size ≤ 100000 := by
        have w0 := wordS_len 0 x0 false
        have w1 := wordS_len 1 x1 false
        have w2 := wordS_len 2 x2 a
        have w3 := wordS_len 3 x3 false
        have w4 := wordS_len 4 x4 d
        rw [B_size]
        unfold textS
        repeat' split
        all_goals first | (simp; done) | skip
        refine Nat.le_trans (inter_len 32 192 _ ?_) ?_
        · intro w hw
          rcases List.mem_append.1 hw with q | q
          · simp only [List.mem_cons, List.mem_nil_iff, or_false] at q
            rcases q with rfl | rfl | rfl | rfl | rfl <;> omega
          · unfold endS at q
            split at q
            · rw [List.mem_singleton] at q; rw [q]; simp [d2]
            · split at q
              · rw [List.mem_singleton] at q; rw [q]; simp [d2]
              · cases q
        · have : (endS n).length ≤ 1 := by unfold endS; split; simp; split <;> simp
          rw [List.length_append]
          simp
          omega
      have hq := prog_parse (B (textS x0 x1 x2 x3 x4 a d n)) tl
      rw [L_B] at hq
      rw [hx] at hp
      obtain ⟨K, hK⟩ := hp
      obtain ⟨K2, hK2⟩ := ht
      obtain ⟨K3, hK3⟩ := hq
      refine ⟨K + K2 + K3 + 1, fun k hk => ?_⟩
      obtain ⟨k, rfl⟩ : ∃ m, k = m + 1 := ⟨k - 1, by omega⟩
      have hK := hK k (by omega)
      have hK2 := hK2 k (by omega)
      have hK3 := hK3 k (by omega)
      dsimp only at hK hK2 hK3
      simp only [tompionlaw04_CronBack.j0]
      rw [if_neg (by decide), hK]
      simp only [Option.bind_some, prR, if_true]
      rw [hK2]
      simp only [Option.bind_some]
      rw [hK3]
      simp only [Option.bind_some, cron_Right.f, hr, if_true]
      by_cases t0 : textS x0 x1 x2 x3 x4 a d n = []
      · have he : (B (textS x0 x1 x2 x3 x4 a d n)).toList = ([] : List UInt8) := by rw [L_toList, L_B, t0]
        rw [if_pos he]
        rcases k1 t0 with rfl | rfl
        · simp
        · cases a <;> simp
      · have he : ¬ (B (textS x0 x1 x2 x3 x4 a d n)).toList = ([] : List UInt8) := by rw [L_toList, L_B]; exact t0
        rw [if_neg he]
        by_cases tl : (textS x0 x1 x2 x3 x4 a d n).length ≤ 256
        · rw [k2 t0 tl]
          simp [prR]
        · have hd : decide (((B (textS x0 x1 x2 x3 x4 a d n)).size : Int) > 256) = true := decide_eq_true (by rw [B_size]; omega)
          rw [hd]
          split
          · split <;> rfl
          · rfl
end Go.Proofs.YtmjfocfdbodmpaaDoor.CS
