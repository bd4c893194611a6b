/- The words of a cron text, and what it says: the program's Parse and the reference's give the plain answer. -/
import Derived.Test.YtmjfocfdbodmpaaDoorX12
import Derived.Test.YtmjfocfdbodmpaaDoorX2
import Derived.Test.YtmjfocfdbodmpaaDoorX8
import Derived.Test.YtmjfocfdbodmpaaDoorCronE
import Derived.Lib.DecodeN
namespace Go.Proofs.YtmjfocfdbodmpaaDoor.CS
open Go Go.RowKit Go.Proofs.YtmjfocfdbodmpaaDoorW.PrintWords Go.Proofs.YtmjfocfdbodmpaaDoor.X

/-! ### words -/
def blk (c : UInt8) : Bool := c == 32 || c == 9
def tabC (c : UInt8) : UInt8 := if c = 9 then 32 else c
def ne0 (w : Bs) : Bool := !w.isEmpty
def wordsB (s : Bs) : List Bs := (spl 32 (s.map tabC)).filter ne0
theorem tab_blk {c : UInt8} (h : blk c = true) : tabC c = 32 := by
  unfold blk at h
  simp only [Bool.or_eq_true, beq_iff_eq] at h
  unfold tabC
  rcases h with h | h
  · rw [h]; rfl
  · rw [if_pos h]
theorem tab_not {c : UInt8} (h : blk c = false) : tabC c = c ∧ c ≠ 32 := by
  unfold blk at h
  simp only [Bool.or_eq_false_iff, beq_eq_false_iff_ne] at h
  exact ⟨by unfold tabC; rw [if_neg h.2], h.1⟩
theorem map_not : ∀ {p : Bs}, (∀ c ∈ p, blk c = false) → p.map tabC = p ∧ (32 : UInt8) ∉ p
  | [], _ => ⟨rfl, by simp⟩
  | c :: p, h => by
    have h1 := tab_not (h c (List.mem_cons_self ..))
    have h2 := map_not (p := p) fun d hd => h d (List.mem_cons_of_mem _ hd)
    exact ⟨by rw [List.map_cons, h1.1, h2.1], by simp only [List.mem_cons, not_or]; exact ⟨fun e => h1.2 e.symm, h2.2⟩⟩
theorem words_blank {c : UInt8} (t : Bs) (h : blk c = true) : wordsB (c :: t) = wordsB t := by
  unfold wordsB
  rw [List.map_cons, tab_blk h, spl, if_pos rfl, List.filter_cons_of_neg (by decide)]
theorem words_seg {p : Bs} {c : UInt8} (t : Bs) (hp : ∀ c ∈ p, blk c = false) (h0 : p ≠ []) (h : blk c = true) : wordsB (p ++ c :: t) = p :: wordsB t := by
  have hm := map_not hp
  unfold wordsB
  rw [List.map_append, List.map_cons, tab_blk h, hm.1, spl_at 32 p _ hm.2, List.filter_cons_of_pos (by cases p with | nil => exact absurd rfl h0 | cons => rfl)]
theorem words_last {p : Bs} (hp : ∀ c ∈ p, blk c = false) (h0 : p ≠ []) : wordsB p = [p] := by
  have hm := map_not hp
  unfold wordsB
  rw [hm.1, spl_none 32 p hm.2]
  cases p with
  | nil => exact absurd rfl h0
  | cons => rfl
theorem words_nil : wordsB [] = [] := rfl
theorem decN (n b0 b1 b2 b3 : Nat) (hn : 1 ≤ n) (h : 128 ≤ b0) : 128 ≤ (Lib.decodeN n b0 b1 b2 b3).1 ∧ 1 ≤ (Lib.decodeN n b0 b1 b2 b3).2 ∧ (Lib.decodeN n b0 b1 b2 b3).2 ≤ n ∧ (Lib.decodeN n b0 b1 b2 b3).2 ≤ 4 ∧
    (2 ≤ (Lib.decodeN n b0 b1 b2 b3).2 → 128 ≤ b1) ∧ (3 ≤ (Lib.decodeN n b0 b1 b2 b3).2 → 128 ≤ b2) ∧ (4 ≤ (Lib.decodeN n b0 b1 b2 b3).2 → 128 ≤ b3) := by
  unfold Lib.decodeN
  rw [if_neg (by omega)]
  repeat' split
  all_goals (simp only; omega)
theorem get_L (s : ByteArray) (i : Nat) (h : i < (L s).length) : s.get! i = (L s)[i] := by
  have h' : i < s.data.size := by simpa [L] using h
  show s.data[i]! = s.data.toList[i]
  rw [getElem!_pos s.data i h']
  simp
theorem big_not {c : UInt8} (h : 128 ≤ c.toNat) : blk c = false := by
  unfold blk
  simp only [Bool.or_eq_false_iff, beq_eq_false_iff_ne]
  constructor
  · rintro rfl; simp at h
  · rintro rfl; simp at h
theorem dec_at (s : ByteArray) (i : Nat) (h : i < (L s).length) :
    (blk (L s)[i] = true → isBlank (Utf8.decode s i).1 = true ∧ (Utf8.decode s i).2 = 1) ∧
    (blk (L s)[i] = false → isBlank (Utf8.decode s i).1 = false ∧ 1 ≤ (Utf8.decode s i).2 ∧ i + (Utf8.decode s i).2 ≤ (L s).length ∧ ∀ c ∈ ((L s).drop i).take (Utf8.decode s i).2, blk c = false) := by
  have hl := L_len s
  have hg := get_L s i h
  rw [Lib.decode_at, hg]
  by_cases hb : (L s)[i].toNat < 128
  · have e : Lib.decodeN (s.size - i) (L s)[i].toNat (s.get! (i + 1)).toNat (s.get! (i + 2)).toNat (s.get! (i + 3)).toNat = ((L s)[i].toNat, 1) := by
      unfold Lib.decodeN
      rw [if_pos hb]
    rw [e]
    have e2 : isBlank (L s)[i].toNat = blk (L s)[i] := by
      generalize (L s)[i] = c
      revert c
      refine all_bytes ?_
      decide +kernel
    simp only
    rw [e2]
    have e3 : ((L s).drop i).take 1 = [(L s)[i]] := by rw [List.drop_eq_getElem_cons h]; rfl
    refine ⟨fun q => ⟨q, trivial⟩, fun q => ⟨q, Nat.le_refl _, h, fun c hc => ?_⟩⟩
    rw [e3, List.mem_singleton] at hc
    rw [hc]
    exact q
  · have hb' : 128 ≤ (L s)[i].toNat := by omega
    obtain ⟨h1, h2, h3, h4, h5, h6, h7⟩ := decN (s.size - i) (L s)[i].toNat (s.get! (i + 1)).toNat (s.get! (i + 2)).toNat (s.get! (i + 3)).toNat (by omega) hb'
    generalize Lib.decodeN (s.size - i) (L s)[i].toNat (s.get! (i + 1)).toNat (s.get! (i + 2)).toNat (s.get! (i + 3)).toNat = r at h1 h2 h3 h4 h5 h6 h7 ⊢
    refine ⟨fun q => ?_, fun _ => ⟨?_, h2, by omega, fun c hc => ?_⟩⟩
    · rw [big_not hb'] at q; cases q
    · simp only [isBlank, Bool.or_eq_false_iff, beq_eq_false_iff_ne]; omega
    · obtain ⟨j, hj, rfl⟩ := List.mem_iff_getElem.mp hc
      have hj' : j < r.2 ∧ i + j < (L s).length := by
        simp only [List.length_take, List.length_drop] at hj
        omega
      have ec : (((L s).drop i).take r.2)[j] = (L s)[i + j]'hj'.2 := by simp
      rw [ec]
      apply big_not
      have e : j = 0 ∨ j = 1 ∨ j = 2 ∨ j = 3 := by omega
      rcases e with rfl | rfl | rfl | rfl
      · exact hb'
      · have := get_L s (i + 1) hj'.2
        rw [← this]; exact h5 (by omega)
      · have := get_L s (i + 2) hj'.2
        rw [← this]; exact h6 (by omega)
      · have := get_L s (i + 3) hj'.2
        rw [← this]; exact h7 (by omega)
def piece (s : ByteArray) (x : Nat × Nat) : Bs := L (s.extract x.1 x.2)
theorem take_more (l : Bs) (a p n : Nat) (h : a ≤ p) : (l.drop a).take (p + n - a) = (l.drop a).take (p - a) ++ (l.drop p).take n := by
  have e : l.drop p = (l.drop a).drop (p - a) := by rw [List.drop_drop]; congr 1; omega
  rw [e, show p + n - a = (p - a) + n by omega, List.take_add]
theorem spans_words (s : ByteArray) : ∀ (fuel pos : Nat) (acc : List (Nat × Nat)), (L s).length ≤ pos + fuel → pos ≤ (L s).length →
    ((Lib.closeSpans s (Lib.spansFromP isBlank s fuel pos none acc)).map (piece s) = acc.map (piece s) ++ wordsB ((L s).drop pos)) ∧
    ∀ a, a < pos → (∀ c ∈ ((L s).drop a).take (pos - a), blk c = false) → (Lib.closeSpans s (Lib.spansFromP isBlank s fuel pos (some a) acc)).map (piece s) = acc.map (piece s) ++ wordsB ((L s).drop a) := by
  have hl := L_len s
  intro fuel
  induction fuel with
  | zero =>
    intro pos acc h1 h2
    have e : (L s).drop pos = [] := List.drop_eq_nil_of_le (by omega)
    constructor
    · rw [e]
      simp [Lib.spansFromP, Lib.closeSpans, words_nil]
    · intro a ha hc
      have e2 : ((L s).drop a).take (pos - a) = (L s).drop a := List.take_of_length_le (by simp; omega)
      rw [e2] at hc
      have hne : (L s).drop a ≠ [] := fun q => by have := congrArg List.length q; simp at this; omega
      rw [words_last hc hne]
      simp only [Lib.spansFromP, Lib.closeSpans, List.map_append, List.map_cons, List.map_nil, piece]
      rw [L_extract, List.take_of_length_le (by simp; omega)]
  | succ fuel ih =>
    intro pos acc h1 h2
    by_cases hp : pos < (L s).length
    · have hp' : pos < s.size := by omega
      have hd := dec_at s pos hp
      cases hb : blk (L s)[pos] with
      | true =>
        obtain ⟨d1, d2⟩ := hd.1 hb
        have hdrop : (L s).drop pos = (L s)[pos] :: (L s).drop (pos + 1) := List.drop_eq_getElem_cons hp
        constructor
        · rw [Lib.spansFromP, if_pos hp', if_pos d1, d2, (ih (pos + 1) acc (by omega) (by omega)).1, hdrop, words_blank _ hb]
        · intro a ha hc
          rw [Lib.spansFromP, if_pos hp', if_pos d1, d2, (ih (pos + 1) (acc ++ [(a, pos)]) (by omega) (by omega)).1, List.map_append, List.append_assoc]
          congr 1
          have hs : (L s).drop a = ((L s).drop a).take (pos - a) ++ (L s)[pos] :: (L s).drop (pos + 1) := by
            have e : (L s).drop pos = ((L s).drop a).drop (pos - a) := by rw [List.drop_drop]; congr 1; omega
            rw [← hdrop, e, List.take_append_drop]
          have hne : ((L s).drop a).take (pos - a) ≠ [] := fun q => by have := congrArg List.length q; simp at this; omega
          conv => rhs; rw [hs, words_seg _ hc hne hb]
          simp only [List.map_cons, List.map_nil, List.singleton_append, piece]
          rw [L_extract]
      | false =>
        obtain ⟨d1, d2, d3, d4⟩ := hd.2 hb
        have d1' : ¬ isBlank (Utf8.decode s pos).1 = true := by rw [d1]; decide
        have hi := ih (pos + (Utf8.decode s pos).2) acc (by omega) d3
        constructor
        · rw [Lib.spansFromP, if_pos hp', if_neg d1']
          exact hi.2 pos (by omega) (by rw [Nat.add_sub_cancel_left]; exact d4)
        · intro a ha hc
          rw [Lib.spansFromP, if_pos hp', if_neg d1']
          refine hi.2 a (by omega) ?_
          rw [take_more _ _ _ _ (by omega)]
          intro c hcm
          rcases List.mem_append.1 hcm with q | q
          · exact hc c q
          · exact d4 c q
    · have e : (L s).drop pos = [] := List.drop_eq_nil_of_le (by omega)
      constructor
      · rw [e, Lib.spansFromP, if_neg (by omega)]
        simp [Lib.closeSpans, words_nil]
      · intro a ha hc
        have e2 : ((L s).drop a).take (pos - a) = (L s).drop a := List.take_of_length_le (by simp; omega)
        rw [e2] at hc
        have hne : (L s).drop a ≠ [] := fun q => by have := congrArg List.length q; simp at this; omega
        rw [words_last hc hne, Lib.spansFromP, if_neg (by omega)]
        simp only [Lib.closeSpans, List.map_append, List.map_cons, List.map_nil, piece]
        rw [L_extract, List.take_of_length_le (by simp; omega)]
theorem prog_words (s : ByteArray) (hs : s.size ≤ 100000) : ∃ l, cron_words.f s = some l ∧ l.map L = wordsB (L s) := by
  refine ⟨Lib.goFieldsP isBlank s, by unfold cron_words.f; rw [if_pos (by omega)], ?_⟩
  have h := (spans_words s s.size 0 [] (by rw [L_len]; omega) (Nat.zero_le _)).1
  rw [List.drop_zero, List.map_nil, List.nil_append] at h
  rw [← h]
  unfold Lib.goFieldsP Lib.spansOfP
  rw [List.map_map]
  rfl
theorem L_nonE (x : ByteArray) : nonE x = ne0 (L x) := by
  obtain ⟨⟨l⟩⟩ := x
  cases l with
  | nil => rfl
  | cons a t => exact decide_eq_true (show 0 < (a :: t).length by simp)
theorem ref_words (s : ByteArray) (hs : s.size ≤ 300) : ∃ l, Ev (fun k => tompionref04_split.f k (strOfNums ((GB.bytesI s).map tabI)) 32) l ∧ 0 < l.length ∧ l.length ≤ 1000 ∧ (l.filter nonE).map L = wordsB (L s) := by
  have hL : L (strOfNums ((GB.bytesI s).map tabI)) = (L s).map tabC := by
    rw [L_nums]
    simp only [GB.bytesI, List.map_map, L]
    congr 1
    funext c
    show UInt8.ofNat (tabI (c.toNat : Int)).toNat = tabC c
    revert c
    refine all_bytes ?_
    decide +kernel
  have hsz : (strOfNums ((GB.bytesI s).map tabI)).size = s.size := by rw [size_of_L hL, List.length_map, L_len]
  obtain ⟨l, h, e⟩ := ref_split 32 (strOfNums ((GB.bytesI s).map tabI)) (by omega)
  have hlen : l.length = (spl 32 ((L s).map tabC)).length := by rw [← hL, ← e, List.length_map]
  have h1 := spl_count 32 ((L s).map tabC)
  rw [List.length_map, L_len] at h1
  have h2 : 0 < (spl 32 ((L s).map tabC)).length := List.length_pos_iff.mpr (spl_ne _ _)
  refine ⟨l, h, by omega, by omega, ?_⟩
  unfold wordsB
  rw [← hL, ← e, List.filter_map]
  congr 1
  refine List.filter_congr fun x _ => L_nonE x
theorem words_small (s : Bs) (n : Nat) (h : s.length ≤ n) : ∀ w ∈ wordsB s, w.length ≤ n ∧ w ≠ [] := by
  intro w hw
  unfold wordsB at hw
  obtain ⟨h1, h2⟩ := List.mem_filter.1 hw
  refine ⟨spl_small 32 n _ (by rw [List.length_map]; exact h) w h1, fun e => ?_⟩
  rw [e] at h2
  cases h2
end Go.Proofs.YtmjfocfdbodmpaaDoor.CS
