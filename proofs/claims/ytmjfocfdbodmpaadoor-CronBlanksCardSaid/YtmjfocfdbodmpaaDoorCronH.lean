/- Fields of parts, blanks and the size of letters: the plain laws. -/
import Derived.Test.YtmjfocfdbodmpaaDoorX15
import Derived.Test.YtmjfocfdbodmpaaDoorX7
import Derived.Test.YtmjfocfdbodmpaaDoorCronP
namespace Go.Proofs.YtmjfocfdbodmpaaDoor.CS
open Go Go.RowKit Go.Proofs.YtmjfocfdbodmpaaDoorW.PrintWords Go.Proofs.YtmjfocfdbodmpaaDoor.X

theorem L_append (a b : ByteArray) : L (a ++ b) = L a ++ L b := by
  simp [L, ByteArray.data_append]

/-! ### parts of a field -/
theorem fieldL_append (f : Nat) : ∀ (x y : List Bs), fieldL f (x ++ y) = (fieldL f x).bind fun a => (fieldL f y).map (a ||| ·)
  | [], y => by
    show fieldL f y = (some 0).bind fun a => (fieldL f y).map (a ||| ·)
    cases fieldL f y <;> simp
  | p :: x, y => by
    rw [List.cons_append, fieldL, fieldL, fieldL_append f x y]
    cases part f p with
    | none => rfl
    | some a =>
      cases fieldL f x with
      | none => rfl
      | some b =>
        cases fieldL f y with
        | none => rfl
        | some c => simp [Nat.or_assoc]
theorem spl_append (c : UInt8) : ∀ (x y : Bs), spl c (x ++ c :: y) = spl c x ++ spl c y
  | [], y => by simp [spl]
  | a :: x, y => by
    rw [List.cons_append, spl, spl, spl_append c x y]
    split
    · rfl
    · cases h : spl c x with
      | nil => exact absurd h (spl_ne c x)
      | cons p q => rfl
theorem field_parts (f : Nat) (a b : Bs) : field f (a ++ 44 :: b) = (field f a).bind fun x => (field f b).map (x ||| ·) := by
  unfold field
  rw [spl_append, fieldL_append]
theorem field_nil : field 0 [] = none := by decide +kernel
def tl4 : Bs := [32, 48, 32, 49, 32, 49, 32, 48]
def sp4 (x : Nat) : Sp := (x, 1, 2, 2, 1, false, false, 0)
theorem words_tl4 {p : Bs} (hp : ∀ c ∈ p, blk c = false) : wordsB (p ++ tl4) = (if p = [] then [] else [p]) ++ [[48], [49], [49], [48]] := by
  have h : wordsB [48, 32, 49, 32, 49, 32, 48] = [[48], [49], [49], [48]] := by decide +kernel
  by_cases h0 : p = []
  · subst h0
    rw [if_pos rfl]
    show wordsB (32 :: [48, 32, 49, 32, 49, 32, 48]) = _
    rw [words_blank _ (by decide), h]
    rfl
  · rw [if_neg h0]
    show wordsB (p ++ 32 :: [48, 32, 49, 32, 49, 32, 48]) = _
    rw [words_seg _ hp h0 (by decide), h]
    rfl
theorem parse_tl4 {p : Bs} (hp : ∀ c ∈ p, blk c = false) (hl : p.length ≤ 200) : parse (p ++ tl4) = (field 0 p).map sp4 := by
  have e1 : field 1 [48] = some 1 := by decide +kernel
  have e2 : field 2 [49] = some 2 := by decide +kernel
  have e3 : field 3 [49] = some 2 := by decide +kernel
  have e4 : field 4 [48] = some 1 := by decide +kernel
  unfold parse
  rw [if_neg (by simp [tl4]; omega), words_tl4 hp]
  by_cases h0 : p = []
  · subst h0
    rw [if_pos rfl, field_nil]
    rfl
  · rw [if_neg h0]
    show fiveS p [48] [49] [49] [48] (some 0) = _
    unfold fiveS
    rw [e1, e2, e3, e4]
    cases field 0 p <;> rfl
theorem parts_ev (a b : ByteArray) (ha : a.size ≤ 60) (hb : b.size ≤ 60) : ∀ (d i : Nat), i + d = a.size + b.size → (∀ c ∈ (L a ++ L b).take i, blk c = false) →
    Ev (fun k => tompionlaw04_CronParts.l0 k a b ((a.size + b.size : Nat) : Int) (i : Int)) true := by
  have la := L_len a
  have lb := L_len b
  have hL := L_append a b
  have hsz : (a ++ b).size = a.size + b.size := ByteArray.size_append
  intro d
  induction d with
  | zero =>
    intro i hi hc
    have e : (L a ++ L b).take i = L a ++ L b := List.take_of_length_le (by simp; omega)
    rw [e] at hc
    have ha' : ∀ c ∈ L a, blk c = false := fun c h => hc c (List.mem_append_left _ h)
    have hb' : ∀ c ∈ L b, blk c = false := fun c h => hc c (List.mem_append_right _ h)
    have sA : (a ++ (⟨#[32, 48, 32, 49, 32, 49, 32, 48]⟩ : ByteArray)).size = a.size + 8 := ByteArray.size_append
    have sB : (b ++ (⟨#[32, 48, 32, 49, 32, 49, 32, 48]⟩ : ByteArray)).size = b.size + 8 := ByteArray.size_append
    have sC : (a ++ (⟨#[44]⟩ : ByteArray)).size = a.size + 1 := ByteArray.size_append
    have sD : ((a ++ (⟨#[44]⟩ : ByteArray)) ++ b).size = a.size + 1 + b.size := by rw [ByteArray.size_append, sC]
    have sE : (((a ++ (⟨#[44]⟩ : ByteArray)) ++ b) ++ (⟨#[32, 48, 32, 49, 32, 49, 32, 48]⟩ : ByteArray)).size = a.size + 1 + b.size + 8 := by rw [ByteArray.size_append, sD]; rfl
    have lA : L (a ++ (⟨#[32, 48, 32, 49, 32, 49, 32, 48]⟩ : ByteArray)) = L a ++ tl4 := L_append _ _
    have lB : L (b ++ (⟨#[32, 48, 32, 49, 32, 49, 32, 48]⟩ : ByteArray)) = L b ++ tl4 := L_append _ _
    have lE : L (((a ++ (⟨#[44]⟩ : ByteArray)) ++ b) ++ (⟨#[32, 48, 32, 49, 32, 49, 32, 48]⟩ : ByteArray)) = (L a ++ 44 :: L b) ++ tl4 := by
      rw [L_append, L_append, L_append]
      show (L a ++ [44] ++ L b) ++ tl4 = _
      simp
    have hE : ∀ c ∈ L a ++ 44 :: L b, blk c = false := by
      intro c h
      rcases List.mem_append.1 h with h | h
      · exact ha' c h
      · rcases List.mem_cons.1 h with rfl | h
        · decide
        · exact hb' c h
    have p1 := prog_parse (a ++ (⟨#[32, 48, 32, 49, 32, 49, 32, 48]⟩ : ByteArray)) (by omega)
    have p2 := prog_parse (b ++ (⟨#[32, 48, 32, 49, 32, 49, 32, 48]⟩ : ByteArray)) (by omega)
    have p3 := prog_parse (((a ++ (⟨#[44]⟩ : ByteArray)) ++ b) ++ (⟨#[32, 48, 32, 49, 32, 49, 32, 48]⟩ : ByteArray)) (by omega)
    rw [lA, parse_tl4 ha' (by omega)] at p1
    rw [lB, parse_tl4 hb' (by omega)] at p2
    rw [lE, parse_tl4 hE (by simp; omega), field_parts] at p3
    have e0 : ∀ k, tompionlaw04_CronParts.l0 (k + 1) a b ((a.size + b.size : Nat) : Int) (i : Int) = ((cron_Parse.f k (a ++ (⟨#[32, 48, 32, 49, 32, 49, 32, 48]⟩ : ByteArray))).bind fun bt321 => ((cron_Parse.f k (b ++ (⟨#[32, 48, 32, 49, 32, 49, 32, 48]⟩ : ByteArray))).bind fun bt331 => ((cron_Parse.f k (((a ++ (⟨#[44]⟩ : ByteArray)) ++ b) ++ (⟨#[32, 48, 32, 49, 32, 49, 32, 48]⟩ : ByteArray))).bind fun bt341 => (if bt321.2.2.2.2.2.2.2.2 = 0 then (if bt331.2.2.2.2.2.2.2.2 = 0 then (if bt341.2.2.2.2.2.2.2.2 = 0 then (some (bt341.1 == (Go.bits .or .u64 bt321.1 bt331.1))) else (some false)) else (some (bt341.2.2.2.2.2.2.2.2 == 7))) else (some (bt341.2.2.2.2.2.2.2.2 == 7)))))) := by
      intro k
      have b1 : b.size + 8 ≤ 9223372036854775807 := by omega
      have b2 : a.size + 1 ≤ 9223372036854775807 := by omega
      have b3 : (a ++ (⟨#[44]⟩ : ByteArray)).size + b.size ≤ 9223372036854775807 := by omega
      have b4 : ((a ++ (⟨#[44]⟩ : ByteArray)) ++ b).size + 8 ≤ 9223372036854775807 := by omega
      simp only [tompionlaw04_CronParts.l0]
      rw [if_neg (by omega), if_pos (by omega)]
      simp only [if_pos b1, if_pos b2, if_pos b3, if_pos b4]
    refine Ev.step e0 (Ev.bind p1 (Ev.bind p2 (Ev.bind p3 ?_)))
    cases hx : field 0 (L a) with
    | none => exact Ev.congr (f := fun _ => some true) (fun k => by simp [prR, parseBad]) (Ev.now _)
    | some x =>
      cases hy : field 0 (L b) with
      | none => exact Ev.congr (f := fun _ => some true) (fun k => by simp [prR, parseBad, sp4]) (Ev.now _)
      | some y =>
        have hxl := fieldL_lt (f := 0) (by decide) hx
        have hyl := fieldL_lt (f := 0) (by decide) hy
        have hb := bor_nat x y hxl hyl
        exact Ev.congr (f := fun _ => some true) (fun k => by simp [prR, sp4, hb]) (Ev.now _)
  | succ d ih =>
    intro i hi hc
    have hlt : i < (L (a ++ b)).length := by rw [L_len]; omega
    have hlt' : i < (L a ++ L b).length := by rw [← hL]; exact hlt
    have hbt : bt (a ++ b) (i : Int) = ((L a ++ L b)[i].toNat : Int) := (bt_L (a ++ b) i hlt).trans (by simp only [hL])
    have e0 : ∀ k, tompionlaw04_CronParts.l0 (k + 1) a b ((a.size + b.size : Nat) : Int) (i : Int) = (if ((L a ++ L b)[i].toNat : Int) = 32 then (some true) else (if ((L a ++ L b)[i].toNat : Int) = 9 then (some true) else (tompionlaw04_CronParts.l0 k a b ((a.size + b.size : Nat) : Int) ((i + 1 : Nat) : Int)))) := by
      intro k
      simp only [tompionlaw04_CronParts.l0]
      rw [if_pos (by omega), if_pos (by omega), if_pos (by omega), if_pos (by omega), hbt, wrap_id (by omega) (by omega)]
      push_cast
      rfl
    refine Ev.step e0 ?_
    by_cases q1 : (L a ++ L b)[i].toNat = 32
    · exact Ev.congr (f := fun _ => some true) (fun k => if_pos (by omega)) (Ev.now _)
    · by_cases q2 : (L a ++ L b)[i].toNat = 9
      · exact Ev.congr (f := fun _ => some true) (fun k => (if_neg (by omega)).trans (if_pos (by omega))) (Ev.now _)
      · refine Ev.congr (fun k => (if_neg (by omega)).trans (if_neg (by omega))) (ih (i + 1) (by omega) ?_)
        intro c hcm
        rw [List.take_succ_eq_append_getElem hlt'] at hcm
        rcases List.mem_append.1 hcm with h | h
        · exact hc c h
        · rw [List.mem_singleton] at h
          rw [h]
          unfold blk
          simp only [Bool.or_eq_false_iff, beq_eq_false_iff_ne]
          exact ⟨fun e => q1 (by rw [e]; rfl), fun e => q2 (by rw [e]; rfl)⟩
theorem cronParts : tompionlaw04_CronParts.Pure := by
  intro a b _ _
  refine Ev.rounds ?_
  have bad : Ev (fun k => tompionlaw04_CronParts.j0 k a b true) true := by
    refine Ev.step (f := fun _ => some true) (fun k => ?_) (Ev.now _)
    simp only [tompionlaw04_CronParts.j0]
    rw [if_pos trivial, awake_f]
    rfl
  by_cases ha : a.size > 60
  · refine Ev.congr (fun k => ?_) bad
    unfold tompionlaw04_CronParts.f
    rw [awake_f, Option.bind_some, if_pos rfl, if_pos (by omega)]
  · by_cases hb : b.size > 60
    · refine Ev.congr (fun k => ?_) bad
      unfold tompionlaw04_CronParts.f
      rw [awake_f, Option.bind_some, if_pos rfl, if_neg (by omega), decide_eq_true (by omega)]
    · refine Ev.congr (f := fun k => tompionlaw04_CronParts.j0 k a b false) (fun k => ?_) (Ev.step (fun k => ?_) (parts_ev a b (by omega) (by omega) (a.size + b.size) 0 (by omega) (by simp)))
      · unfold tompionlaw04_CronParts.f
        rw [awake_f, Option.bind_some, if_pos rfl, if_neg (by omega), decide_eq_false (by omega)]
      · simp only [tompionlaw04_CronParts.j0]
        rw [if_neg (by decide), wrap_id (by omega) (by omega)]
        push_cast
        rfl

/-! ### blanks and letters -/
def upC (c : UInt8) : UInt8 := if 97 ≤ c.toNat then (if c.toNat ≤ 122 then c - 32 else c) else c
def tr1 (c : UInt8) : Bs := if blk c = true then [32, c] else [upC c]
theorem up_facts (c : UInt8) : lowC (upC c) = lowC c ∧ isD (upC c) = isD c ∧ (isD c = true → upC c = c) ∧ (upC c = 44 ↔ c = 44) ∧ (upC c = 47 ↔ c = 47) ∧ (upC c = 45 ↔ c = 45) ∧ (upC c = 42 ↔ c = 42) ∧ (upC c = 43 ↔ c = 43) ∧ blk (upC c) = blk c := by
  revert c
  refine all_bytes ?_
  decide +kernel
theorem up_num (s : Bs) : num (s.map upC) = num s := by
  match s with
  | [] => rfl
  | [a] =>
    obtain ⟨_, h1, h2, _⟩ := up_facts a
    simp only [List.map_cons, List.map_nil, num, h1]
    by_cases q : isD a = true
    · rw [if_pos q, if_pos q, h2 q]
    · rw [if_neg q, if_neg q]
  | [a, b] =>
    obtain ⟨_, h1, h2, _⟩ := up_facts a
    obtain ⟨_, h3, h4, _⟩ := up_facts b
    simp only [List.map_cons, List.map_nil, num, h1, h3]
    by_cases q : isD a = true
    · rw [if_pos q, if_pos q, h2 q]
      by_cases q' : isD b = true
      · rw [if_pos q', if_pos q', h4 q']
      · rw [if_neg q', if_neg q']
    · rw [if_neg q, if_neg q]
  | a :: b :: c :: t => rfl
theorem up_spl (d : UInt8) (h : ∀ c, upC c = d ↔ c = d) : ∀ (s : Bs), spl d (s.map upC) = (spl d s).map (·.map upC)
  | [] => rfl
  | c :: s => by
    rw [List.map_cons, spl, spl, up_spl d h s]
    by_cases q : c = d
    · rw [if_pos q, if_pos ((h c).2 q)]
      rfl
    · rw [if_neg q, if_neg (fun e => q ((h c).1 e))]
      cases spl d s with
      | nil => rfl
      | cons p r => rfl
theorem up_cut (d : UInt8) (h : ∀ c, upC c = d ↔ c = d) : ∀ (s : Bs), cut d (s.map upC) = ((cut d s).1.map upC, (cut d s).2.1.map upC, (cut d s).2.2)
  | [] => rfl
  | c :: s => by
    rw [List.map_cons, cut, cut, up_cut d h s]
    by_cases q : c = d
    · rw [if_pos q, if_pos ((h c).2 q)]
      rfl
    · rw [if_neg q, if_neg (fun e => q ((h c).1 e))]
      rfl
theorem up_place (f : Nat) (s : Bs) : place f (s.map upC) = place f s := by
  unfold place numIn
  rw [up_num, List.map_map, show (lowC ∘ upC) = lowC from funext fun c => (up_facts c).1]
theorem up_star (w : Bs) : (w.map upC = [42]) ↔ w = [42] := by
  match w with
  | [] => simp
  | [a] => simp [(up_facts a).2.2.2.2.2.2.1]
  | a :: b :: t => simp
theorem up_partS (f step : Nat) (w a b : Bs) (r : Bool) : partS f step (w.map upC) (a.map upC) (b.map upC) r = partS f step w a b r := by
  unfold partS
  rw [up_place, up_place]
  simp only [up_star]
theorem up_part (f : Nat) (s : Bs) : part f (s.map upC) = part f s := by
  unfold part
  rw [up_cut 47 (fun c => (up_facts c).2.2.2.2.1)]
  simp only [up_cut 45 (fun c => (up_facts c).2.2.2.2.2.1), up_num, up_partS, up_star]
theorem up_fieldL (f : Nat) : ∀ (l : List Bs), fieldL f (l.map (·.map upC)) = fieldL f l
  | [] => rfl
  | p :: l => by rw [List.map_cons, fieldL, fieldL, up_part, up_fieldL f l]
theorem up_field (f : Nat) (s : Bs) : field f (s.map upC) = field f s := by
  unfold field
  rw [up_spl 44 (fun c => (up_facts c).2.2.2.1), up_fieldL]
theorem up_ahead (s : Bs) : ahead (s.map upC) = ahead s := by
  match s with
  | [] => rfl
  | [a] => rfl
  | [a, b] => rfl
  | [a, b, c] => rfl
  | [a, b, c, d] => rfl
  | [a, b, c, d, e] =>
    have h1 := up_num [b, c]
    have h2 := up_num [d, e]
    obtain ⟨_, _, _, _, _, h45, _, h43, _⟩ := up_facts a
    simp only [List.map_cons, List.map_nil] at h1 h2 ⊢
    simp only [ahead, h1, h2, aheadN, h45, h43]
  | a :: b :: c :: d :: e :: f :: t => rfl
theorem up_head (s : Bs) : star (s.map upC) = star s := by
  cases s with
  | nil => rfl
  | cons a t =>
    have h := (up_facts a).2.2.2.2.2.2.1
    show (some (upC a) == some 42) = (some a == some 42)
    rw [Bool.eq_iff_iff]
    simp [h]
theorem up_fields (l : List Bs) : fieldsOf (l.map (·.map upC)) = fieldsOf l := by
  match l with
  | [] => rfl
  | [_] => rfl
  | [_, _] => rfl
  | [_, _, _] => rfl
  | [_, _, _, _] => rfl
  | [a, b, c, d, e] =>
    simp only [List.map_cons, List.map_nil, fieldsOf, fiveS, up_field, up_head]
  | [a, b, c, d, e, g] =>
    simp only [List.map_cons, List.map_nil, fieldsOf, fiveS, up_field, up_head, up_ahead]
  | _ :: _ :: _ :: _ :: _ :: _ :: _ :: _ => rfl
theorem blank_first : ∀ (s : Bs), (∀ c ∈ s, blk c = false) ∨ ∃ p c r, s = p ++ c :: r ∧ (∀ d ∈ p, blk d = false) ∧ blk c = true
  | [] => Or.inl (by simp)
  | x :: t => by
    cases h : blk x with
    | true => exact Or.inr ⟨[], x, t, rfl, by simp, h⟩
    | false =>
      rcases blank_first t with h2 | ⟨p, c, r, rfl, h2, h3⟩
      · exact Or.inl (by intro c hc; rcases List.mem_cons.1 hc with rfl | hc; exact h; exact h2 c hc)
      · exact Or.inr ⟨x :: p, c, r, rfl, by intro c hc; rcases List.mem_cons.1 hc with rfl | hc; exact h; exact h2 c hc, h3⟩
theorem tr_seg : ∀ {p : Bs}, (∀ c ∈ p, blk c = false) → p.flatMap tr1 = p.map upC
  | [], _ => rfl
  | c :: p, h => by
    have h1 := h c (List.mem_cons_self ..)
    rw [List.flatMap_cons, tr_seg (p := p) fun d hd => h d (List.mem_cons_of_mem _ hd)]
    unfold tr1
    rw [if_neg (by rw [h1]; decide)]
    rfl
theorem seg_words {p : Bs} {c : UInt8} (t : Bs) (hp : ∀ c ∈ p, blk c = false) (h : blk c = true) : wordsB (p ++ c :: t) = (if p = [] then [] else [p]) ++ wordsB t := by
  by_cases h0 : p = []
  · subst h0
    rw [if_pos rfl, List.nil_append, words_blank _ h]
    rfl
  · rw [if_neg h0, words_seg _ hp h0 h]
    rfl
theorem last_words {p : Bs} (hp : ∀ c ∈ p, blk c = false) : wordsB p = if p = [] then [] else [p] := by
  by_cases h0 : p = []
  · subst h0; rfl
  · rw [if_neg h0, words_last hp h0]
theorem up_not {p : Bs} (hp : ∀ c ∈ p, blk c = false) : ∀ c ∈ p.map upC, blk c = false := by
  intro c hc
  obtain ⟨d, hd, rfl⟩ := List.mem_map.1 hc
  rw [(up_facts d).2.2.2.2.2.2.2.2]
  exact hp d hd
theorem tr_words : ∀ (n : Nat) (s : Bs), s.length ≤ n → wordsB (s.flatMap tr1 ++ [9]) = (wordsB s).map (·.map upC)
  | n, s, hn => by
    rcases blank_first s with h | ⟨p, c, r, rfl, hp, hc⟩
    · rw [tr_seg h, seg_words [] (up_not h) (by decide), last_words h, words_nil, List.append_nil]
      by_cases h0 : s = []
      · subst h0; rfl
      · rw [if_neg h0, if_neg (by simp [h0])]
        rfl
    · have e : (p ++ c :: r).flatMap tr1 ++ [9] = p.map upC ++ 32 :: c :: (r.flatMap tr1 ++ [9]) := by
        rw [List.flatMap_append, List.flatMap_cons, tr_seg hp]
        unfold tr1
        rw [if_pos hc]
        simp
      have hr : wordsB (r.flatMap tr1 ++ [9]) = (wordsB r).map (·.map upC) := by
        match n with
        | 0 => simp at hn
        | n + 1 => exact tr_words n r (by simp at hn; omega)
      rw [e, seg_words _ (up_not hp) (by decide), words_blank _ hc, seg_words r hp hc, hr]
      by_cases h0 : p = []
      · subst h0; rfl
      · rw [if_neg h0, if_neg (by simp [h0])]
        rfl
theorem tr_len : ∀ (s : Bs), (s.flatMap tr1).length ≤ 2 * s.length
  | [] => by simp
  | c :: s => by
    have := tr_len s
    have h1 : (tr1 c).length ≤ 2 := by unfold tr1; split <;> simp
    rw [List.flatMap_cons, List.length_append, List.length_cons]
    omega
theorem tr_parse (s : Bs) (h : s.length ≤ 100) : parse (32 :: (s.flatMap tr1 ++ [9])) = parse s := by
  have hl := tr_len s
  unfold parse
  rw [if_neg (by rw [List.length_cons, List.length_append, List.length_singleton]; omega), if_neg (by omega), words_blank _ (by decide), tr_words _ s (Nat.le_refl _), up_fields]
def u8s (l : List Int) : Bs := l.map fun n => UInt8.ofNat n.toNat
theorem u8s_append (a b : List Int) : u8s (a ++ b) = u8s a ++ u8s b := by simp [u8s]
theorem u8_back (c : UInt8) : UInt8.ofNat ((c.toNat : Int)).toNat = c := by
  revert c
  refine all_bytes ?_
  decide +kernel
theorem u8_up (c : UInt8) (h1 : 97 ≤ c.toNat) (h2 : c.toNat ≤ 122) : UInt8.ofNat (((c.toNat : Int) - 32) % 256).toNat = upC c ∧ blk c = false := by
  have : ∀ n : Fin 256, 97 ≤ (UInt8.ofNat n.val).toNat → (UInt8.ofNat n.val).toNat ≤ 122 → UInt8.ofNat ((((UInt8.ofNat n.val).toNat : Int) - 32) % 256).toNat = upC (UInt8.ofNat n.val) ∧ blk (UInt8.ofNat n.val) = false := by decide +kernel
  have h := this ⟨c.toNat, c.toNat_lt⟩
  rw [show UInt8.ofNat (⟨c.toNat, c.toNat_lt⟩ : Fin 256).val = c from by simp] at h
  exact h h1 h2
theorem u8_same (c : UInt8) (h : ¬ (97 ≤ c.toNat ∧ c.toNat ≤ 122)) : upC c = c := by
  unfold upC
  split
  · split
    · rename_i a b; exact absurd ⟨a, b⟩ h
    · rfl
  · rfl
theorem blanks_ev (s : ByteArray) (hs : s.size ≤ 100) : ∀ (d i : Nat) (l : List Int), i + d = s.size → u8s l = ((L s).take i).flatMap tr1 → l.length ≤ 2 * i →
    Ev (fun k => tompionlaw04_CronBlanks.l0 k s l (s.size : Int) (i : Int)) true := by
  have hls := L_len s
  intro d
  induction d with
  | zero =>
    intro i l hi hl hn
    rw [List.take_of_length_le (by omega)] at hl
    have sz : (strOfNums l).size = l.length := by rw [← L_len, L_nums]; simp
    have sA : ((⟨#[32]⟩ : ByteArray) ++ (strOfNums l)).size = 1 + (strOfNums l).size := ByteArray.size_append
    have sB : (((⟨#[32]⟩ : ByteArray) ++ (strOfNums l)) ++ (⟨#[9]⟩ : ByteArray)).size = 1 + (strOfNums l).size + 1 := by rw [ByteArray.size_append, sA]; rfl
    have lB : L (((⟨#[32]⟩ : ByteArray) ++ (strOfNums l)) ++ (⟨#[9]⟩ : ByteArray)) = 32 :: ((L s).flatMap tr1 ++ [9]) := by
      rw [L_append, L_append, L_nums]
      show ([32] ++ u8s l) ++ [9] = _
      rw [hl]
      rfl
    have p1 := prog_parse s (by omega)
    have p2 := prog_parse (((⟨#[32]⟩ : ByteArray) ++ (strOfNums l)) ++ (⟨#[9]⟩ : ByteArray)) (by omega)
    rw [lB, tr_parse _ (by omega)] at p2
    have e0 : ∀ k, tompionlaw04_CronBlanks.l0 (k + 1) s l (s.size : Int) (i : Int) = ((cron_Parse.f k s).bind fun bt278 => ((cron_Parse.f k (((⟨#[32]⟩ : ByteArray) ++ (strOfNums l)) ++ (⟨#[9]⟩ : ByteArray))).bind fun bt288 => (if (bt278.1 == bt288.1 && (bt278.2.1 == bt288.2.1 && (bt278.2.2.1 == bt288.2.2.1 && (bt278.2.2.2.1 == bt288.2.2.2.1 && (bt278.2.2.2.2.1 == bt288.2.2.2.2.1 && (bt278.2.2.2.2.2.1 == bt288.2.2.2.2.2.1 && (bt278.2.2.2.2.2.2.1 == bt288.2.2.2.2.2.2.1 && (bt278.2.2.2.2.2.2.2.1 == bt288.2.2.2.2.2.2.2.1)))))))) = true then (some (bt278.2.2.2.2.2.2.2.2 == bt288.2.2.2.2.2.2.2.2)) else (some false)))) := by
      intro k
      have b1 : 1 + (strOfNums l).size ≤ 9223372036854775807 := by omega
      have b2 : ((⟨#[32]⟩ : ByteArray) ++ (strOfNums l)).size + 1 ≤ 9223372036854775807 := by omega
      simp only [tompionlaw04_CronBlanks.l0]
      rw [if_neg (by omega)]
      simp only [if_pos b1, if_pos b2]
    refine Ev.step e0 (Ev.bind p1 (Ev.bind p2 ?_))
    exact Ev.congr (f := fun _ => some true) (fun k => by simp) (Ev.now _)
  | succ d ih =>
    intro i l hi hl hn
    have hlt : i < (L s).length := by omega
    have hb := bt_L s i hlt
    generalize hc : (L s)[i] = c at hb
    have ht : (L s).take (i + 1) = (L s).take i ++ [c] := by rw [List.take_succ_eq_append_getElem hlt, hc]
    have hc0 := c.toNat_lt
    -- one round
    have go : ∀ (x3 : List Int) (b : Bool), x3.length ≤ 2 * i → (b = true → (97 ≤ c.toNat ∧ c.toNat ≤ 122) → False) → u8s (if b = true then x3 ++ [32, (c.toNat : Int)] else x3 ++ [if 97 ≤ c.toNat ∧ c.toNat ≤ 122 then ((c.toNat : Int) - 32) % 256 else (c.toNat : Int)]) = ((L s).take (i + 1)).flatMap tr1 →
        Ev (fun k => tompionlaw04_CronBlanks.j2 k s x3 (c.toNat : Int) (s.size : Int) (i : Int) b) true := by
      intro x3 b hx hbl hu
      have hx' := ih (i + 1) _ (by omega) hu (by split <;> simp <;> omega)
      refine Ev.step (fun k => ?_) hx'
      have l1 : x3.length < 140737488355328 := by omega
      have l2 : (x3 ++ [(32 : Int)]).length < 140737488355328 := by simp; omega
      simp only [tompionlaw04_CronBlanks.j2]
      rw [wrap_id (by omega) (by omega)]
      cases b with
      | true =>
        simp only [if_true, Option.bind_some, if_pos l1, if_pos l2]
        have hno := hbl rfl
        have e1 : x3 ++ [(32 : Int)] ++ [(c.toNat : Int)] = x3 ++ [32, (c.toNat : Int)] := by simp
        by_cases q1 : 97 ≤ c.toNat
        · by_cases q2 : c.toNat ≤ 122
          · exact absurd ⟨q1, q2⟩ hno
          · rw [if_pos (by omega), if_neg (by omega), e1]; push_cast; rfl
        · rw [if_neg (by omega), e1]; push_cast; rfl
      | false =>
        simp only [Bool.false_eq_true, if_false, if_pos l1]
        by_cases q1 : 97 ≤ c.toNat
        · by_cases q2 : c.toNat ≤ 122
          · rw [if_pos (by omega), if_pos (by omega), if_pos ⟨q1, q2⟩]; push_cast; rfl
          · rw [if_pos (by omega), if_neg (by omega), if_neg (fun h => q2 h.2)]; push_cast; rfl
        · rw [if_neg (by omega), if_neg (fun h => q1 h.1)]; push_cast; rfl
    have e0 : ∀ k, tompionlaw04_CronBlanks.l0 (k + 1) s l (s.size : Int) (i : Int) = tompionlaw04_CronBlanks.j2 k s l (c.toNat : Int) (s.size : Int) (i : Int) (blk c) := by
      intro k
      simp only [tompionlaw04_CronBlanks.l0]
      rw [if_pos (by omega), if_pos (by omega), if_pos (by omega), hb]
      by_cases q : c = 32
      · subst q; rfl
      · have q' : ¬ (c.toNat : Int) = 32 := fun e => q (u8_eq (n := 32) (by decide) (by rw [e]; rfl))
        rw [if_neg q']
        congr 1
        unfold blk
        rw [show (c == 32) = false from beq_eq_false_iff_ne.mpr q, Bool.false_or]
        clear q q'
        revert c
        intro c _ _ _ _ _
        exact all_bytes (P := fun c => ((c.toNat : Int) == 9) = (c == 9)) (by decide +kernel) c
    refine Ev.step e0 (go l (blk c) hn ?_ ?_)
    · intro hbk hr
      have := (u8_up c hr.1 hr.2).2
      rw [hbk] at this
      cases this
    · rw [ht, List.flatMap_append, ← hl]
      cases hbk : blk c with
      | true =>
        rw [if_pos rfl, u8s_append]
        congr 1
        simp [u8s, tr1, hbk]
      | false =>
        rw [if_neg (by decide), u8s_append]
        congr 1
        by_cases q : 97 ≤ c.toNat ∧ c.toNat ≤ 122
        · rw [if_pos q]
          simp only [u8s, List.map_cons, List.map_nil, (u8_up c q.1 q.2).1, List.flatMap_cons, List.flatMap_nil, tr1, hbk]
          rfl
        · rw [if_neg q]
          simp only [u8s, List.map_cons, List.map_nil, u8_back, List.flatMap_cons, List.flatMap_nil, tr1, hbk, u8_same c q]
          rfl
theorem cronBlanks : tompionlaw04_CronBlanks.Pure := by
  intro s _
  refine Ev.rounds ?_
  by_cases h : s.size > 100
  · refine Ev.congr (f := fun k => tompionlaw04_CronBlanks.j0 k s true) (fun k => ?_) (Ev.step (f := fun _ => some true) (fun k => ?_) (Ev.now _))
    · unfold tompionlaw04_CronBlanks.f
      rw [awake_f, Option.bind_some, if_pos rfl, decide_eq_true (by omega)]
    · simp only [tompionlaw04_CronBlanks.j0]
      rw [if_pos trivial, awake_f]
      rfl
  · refine Ev.congr (f := fun k => tompionlaw04_CronBlanks.j0 k s false) (fun k => ?_) (Ev.step (fun k => ?_) (blanks_ev s (by omega) s.size 0 [] (by omega) rfl (Nat.le_refl _)))
    · unfold tompionlaw04_CronBlanks.f
      rw [awake_f, Option.bind_some, if_pos rfl, decide_eq_false (by omega)]
    · simp only [tompionlaw04_CronBlanks.j0]
      rw [if_neg (by decide)]
      rfl
end Go.Proofs.YtmjfocfdbodmpaaDoor.CS
