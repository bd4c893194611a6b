/- Fields and the sixth field of a cron text: the program's functions and the reference's give the plain answers. -/
import Derived.Test.YtmjfocfdbodmpaaDoorX10
import Derived.Test.YtmjfocfdbodmpaaDoorX11
import Derived.Test.YtmjfocfdbodmpaaDoorX2
import Derived.Test.YtmjfocfdbodmpaaDoorX3
import Derived.Test.YtmjfocfdbodmpaaDoorX4
import Derived.Test.YtmjfocfdbodmpaaDoorX8
import Derived.Test.YtmjfocfdbodmpaaDoorCronD
namespace Go.Proofs.YtmjfocfdbodmpaaDoor.CS
open Go Go.RowKit Go.Proofs.YtmjfocfdbodmpaaDoorW.PrintWords Go.Proofs.YtmjfocfdbodmpaaDoor.X

theorem ref_part (f : Nat) (hf : f < 5) (s : ByteArray) (hs : s.size ≤ 100000) : Ev (fun k => tompionref04_part.f k (f : Int) s) (numR (part f (L s))) := by
  obtain ⟨l, hl', he⟩ := ref_split 47 s hs
  have hl : Ev (fun k => tompionref04_split.f k s 47) l := hl'
  clear hl'
  have hls := L_len s
  refine Ev.bind hl ?_
  clear hl
  rcases first_at 47 (L s) with h | ⟨p, r, e, h⟩
  · rw [spl_none 47 _ h] at he
    obtain ⟨w, rfl, hw⟩ := map_one he
    have : w = s := L_ext hw
    subst this
    have hp : part f (L w) = partS f 1 (L w) (cut 45 (L w)).1 (cut 45 (L w)).2.1 (cut 45 (L w)).2.2 := by
      unfold part
      rw [cut_none 47 _ h]
      rfl
    rw [hp]
    obtain ⟨ends, hn', hne⟩ := ref_split 45 w hs
    have hn : Ev (fun k => tompionref04_split.f k w 45) ends := hn'
    have hj := ref_j0 f 1 w [] ends hf (Nat.le_refl _) (by decide) hs hne
    refine Ev.congr (f := fun k => (tompionref04_split.f k w 45).bind fun t200 => tompionref04_part.j0 k (f : Int) 1 [w] t200) (fun k => ?_) (Ev.bind hn hj)
    rw [if_neg (by simp), if_pos (by simp)]
    have c : ¬ (([w] : List ByteArray).length : Int) = 2 := by simp
    simp only [if_neg c]
    rfl
  · rw [e, spl_at 47 p r h] at he
    obtain ⟨w, l', rfl, hw, he'⟩ := map_cons' he
    have hlen : p.length + 1 + r.length = s.size := by rw [← hls, e]; simp; omega
    have sw : w.size ≤ 100000 := by rw [size_of_L hw]; omega
    by_cases hr : (47 : UInt8) ∈ r
    · have h2l := spl_len 47 r hr
      rw [← he', List.length_map] at h2l
      have hp : part f (L s) = none := by
        unfold part
        rw [e, cut_at 47 p r h]
        simp only [if_true]
        rw [num_bad hr (by decide)]
      rw [hp]
      refine Ev.congr (f := fun _ => some (0, false)) (fun k => ?_) (Ev.now _)
      rw [if_pos (by simp; omega)]
    · rw [spl_none 47 r hr] at he'
      obtain ⟨b, rfl, hb⟩ := map_one he'
      have sb : b.size ≤ 100000 := by rw [size_of_L hb]; omega
      obtain ⟨ends, hn', hne⟩ := ref_split 45 w sw
      have hn : Ev (fun k => tompionref04_split.f k w 45) ends := hn'
      have c1 : ¬ (([w, b] : List ByteArray).length : Int) > 2 := by simp
      have c2 : 0 < (([w, b] : List ByteArray).length : Int) := by simp
      have c3 : (([w, b] : List ByteArray).length : Int) = 2 := by simp
      have c4 : 1 < (([w, b] : List ByteArray).length : Int) := by simp
      refine Ev.congr (f := fun k => (tompionref04_split.f k w 45).bind fun t200 => ((tompionref04_number.f k b).bind fun t204 => (if t204 < 1 then (some (0, false)) else (if L w = ([42] : List UInt8) then (tompionref04_part.j0 k (f : Int) t204 [w, b] t200) else (if (t200.length : Int) = 2 then (tompionref04_part.j0 k (f : Int) t204 [w, b] t200) else (some (0, false))))))) (fun k => ?_) (Ev.bind hn (Ev.bind (number_ev b) ?_))
      · rw [if_neg c1, if_pos c2]
        simp only [if_pos c3, if_pos c4]
        rw [← L_toList]
        rfl
      · rw [hb]
        have hp : part f (L s) = (match num r with
          | none => none
          | some n => if 1 ≤ n then (if p = [42] ∨ (cut 45 p).2.2 = true then partS f n p (cut 45 p).1 (cut 45 p).2.1 (cut 45 p).2.2 else none) else none) := by
          unfold part
          rw [e, cut_at 47 p r h]
          rfl
        rw [hp]
        clear hp
        cases hq : num r with
        | none => exact Ev.congr (f := fun _ => some (0, false)) (fun k => if_pos (show numQ none < 1 by decide)) (Ev.now _)
        | some n =>
          have hle := num_le hq
          simp only
          by_cases q : 1 ≤ n
          · rw [if_pos q]
            have hj := ref_j0 f n w [b] ends hf q hle sw hne
            rw [hw] at hj hne
            have n1 : ¬ numQ (some n) < 1 := by show ¬ (n : Int) < 1; omega
            by_cases h42 : p = [42]
            · rw [if_pos (Or.inl h42)]
              exact Ev.congr (fun k => (if_neg n1).trans (if_pos (hw.trans h42))) hj
            · have h42' : ¬ L w = [42] := fun q => h42 (hw.symm.trans q)
              rcases first_at 45 p with g | ⟨p2, r2, e2, g⟩
              · rw [cut_none 45 p g, if_neg (by simp [h42])]
                rw [spl_none 45 p g] at hne
                have hl1 := congrArg List.length hne
                rw [List.length_map] at hl1
                exact Ev.congr (f := fun _ => some (0, false)) (fun k => (if_neg n1).trans ((if_neg h42').trans (if_neg (show ¬ (ends.length : Int) = 2 by rw [hl1]; simp)))) (Ev.now _)
              · rw [e2, cut_at 45 p2 r2 g] at hj ⊢
                rw [if_pos (Or.inr rfl)]
                rw [e2, spl_at 45 p2 r2 g] at hne
                by_cases hr2 : (45 : UInt8) ∈ r2
                · have h2l := spl_len 45 r2 hr2
                  have hl1 := congrArg List.length hne
                  rw [List.length_map, List.length_cons] at hl1
                  have hno : partS f n (p2 ++ 45 :: r2) p2 r2 true = none := by
                    unfold partS
                    rw [← e2, if_neg h42, place_dash hf hr2]
                    cases place f p2 <;> rfl
                  rw [hno]
                  exact Ev.congr (f := fun _ => some (0, false)) (fun k => (if_neg n1).trans ((if_neg h42').trans (if_neg (show ¬ (ends.length : Int) = 2 by omega)))) (Ev.now _)
                · rw [spl_none 45 r2 hr2] at hne
                  have hl1 := congrArg List.length hne
                  rw [List.length_map] at hl1
                  exact Ev.congr (fun k => (if_neg n1).trans ((if_neg h42').trans (if_pos (show (ends.length : Int) = 2 by rw [hl1]; rfl)))) hj
          · rw [if_neg q]
            exact Ev.congr (f := fun _ => some (0, false)) (fun k => if_pos (show numQ (some n) < 1 by show (n : Int) < 1; omega)) (Ev.now _)

/-! ### fields -/
def fieldL (f : Nat) : List Bs → Option Nat
  | [] => some 0
  | p :: t => match part f p with | none => none | some a => (fieldL f t).map (a ||| ·)
def field (f : Nat) (s : Bs) : Option Nat := fieldL f (spl 44 s)
theorem fieldL_lt {f : Nat} (hf : f < 5) : ∀ {l : List Bs} {n : Nat}, fieldL f l = some n → n < 2 ^ 64
  | [], n, h => by rw [← Option.some.inj h]; decide
  | p :: t, n, h => by
    unfold fieldL at h
    cases hp : part f p with
    | none => rw [hp] at h; cases h
    | some a =>
      rw [hp] at h
      cases ht : fieldL f t with
      | none => rw [ht] at h; cases h
      | some b =>
        rw [ht] at h
        have e : a ||| b = n := Option.some.inj h
        rw [← e]
        exact Nat.or_lt_two_pow (part_lt hf hp) (fieldL_lt hf ht)
theorem spl_small (c : UInt8) (n : Nat) : ∀ (s : Bs), s.length ≤ n → ∀ t ∈ spl c s, t.length ≤ n
  | [], h, t, ht => by simp [spl] at ht; rw [ht]; simp
  | x :: r, h, t, ht => by
    have hr : r.length ≤ n := by simp at h; omega
    have key : ∀ t ∈ spl c r, t.length ≤ r.length := spl_small c r.length r (Nat.le_refl _)
    unfold spl at ht
    split at ht
    · rcases List.mem_cons.1 ht with rfl | ht
      · simp
      · exact Nat.le_trans (key t ht) hr
    · split at ht
      · rename_i e; exact absurd e (spl_ne c r)
      · rename_i a b e
        rcases List.mem_cons.1 ht with rfl | ht
        · have := key a (by rw [e]; exact List.mem_cons_self ..)
          simp at h ⊢
          omega
        · exact Nat.le_trans (key t (by rw [e]; exact List.mem_cons_of_mem _ ht)) hr
theorem small_of {l : List ByteArray} {c : UInt8} {s : ByteArray} (he : l.map L = spl c (L s)) (hs : s.size ≤ 100000) : ∀ x ∈ l, x.size ≤ 100000 := by
  intro x hx
  have h1 : L x ∈ spl c (L s) := by rw [← he]; exact List.mem_map_of_mem hx
  have h2 := spl_small c 100000 (L s) (by rw [L_len]; exact hs) _ h1
  rw [← L_len]
  exact h2
def orO (acc : Nat) (o : Option Nat) : Option Nat := o.map (acc ||| ·)
theorem orO_step (acc a : Nat) (o : Option Nat) : orO acc (o.map (a ||| ·)) = orO (acc ||| a) o := by
  cases o with
  | none => rfl
  | some b => simp [orO, Nat.or_assoc]
theorem prog_field_ev (f : Nat) (hf : f < 5) (l : List ByteArray) (hl : ∀ x ∈ l, x.size ≤ 100000) (hn : l.length ≤ 200000) : ∀ (d i acc : Nat), i + d = l.length → acc < 2 ^ 64 →
    Ev (fun k => cron_field.l0 k (f : Int) (acc : Int) l (l.length : Int) (i : Int)) (numR (orO acc (fieldL f ((l.map L).drop i)))) := by
  intro d
  induction d with
  | zero =>
    intro i acc hi' ha
    rw [List.drop_eq_nil_of_le (by simp; omega)]
    refine Ev.step (f := fun _ => some (((acc : Nat) : Int), true)) (fun k => ?_) (by simp only [fieldL, orO, Option.map_some, Nat.or_zero, numR]; exact Ev.now _)
    simp only [cron_field.l0]
    rw [if_neg (by omega)]
  | succ d ih =>
    intro i acc hi' ha
    have hlt : i < l.length := by omega
    have hd : (l.map L).drop i = L l[i] :: (l.map L).drop (i + 1) := by
      rw [List.drop_eq_getElem_cons (by simpa using hlt)]
      simp
    have hr : rdOf ByteArray.empty l (i : Int) = l[i] := by simp [rdOf, hlt]
    have hp := prog_part f hf l[i] (hl _ (List.getElem_mem hlt))
    rw [hd]
    have e : ∀ k, cron_field.l0 (k + 1) (f : Int) (acc : Int) l (l.length : Int) (i : Int) = (cron_part.f k (f : Int) l[i]).bind fun bt128 => (if bt128.2 = true then (cron_field.l0 k (f : Int) (Go.bits .or .u64 (acc : Int) bt128.1) l (l.length : Int) ((i + 1 : Nat) : Int)) else (some (0, false))) := by
      intro k
      simp only [cron_field.l0]
      rw [if_pos (by omega), if_pos (by omega), if_pos (by omega), hr, wrap_id (by omega) (by omega)]
      push_cast
      rfl
    refine Ev.step e (Ev.bind hp ?_)
    cases hq : part f (L l[i]) with
    | none =>
      simp only [fieldL, hq, numR, orO, Option.map_none]
      exact Ev.congr (f := fun _ => some (0, false)) (fun k => if_neg (by decide)) (Ev.now _)
    | some a =>
      have hal := part_lt hf hq
      have hx := ih (i + 1) (acc ||| a) (by omega) (Nat.or_lt_two_pow ha hal)
      simp only [fieldL, hq]
      rw [orO_step]
      refine Ev.congr (fun k => ?_) hx
      simp only [numR, if_true]
      rw [bor_nat _ _ ha hal]
theorem spl_count (c : UInt8) : ∀ (s : Bs), (spl c s).length ≤ s.length + 1
  | [] => by simp [spl]
  | x :: t => by
    have := spl_count c t
    unfold spl
    split
    · simp; omega
    · split
      · simp
      · rename_i e; rw [e] at this; simp at this ⊢; omega
theorem prog_field (f : Nat) (hf : f < 5) (s : ByteArray) (hs : s.size ≤ 100000) : Ev (fun k => cron_field.f k (f : Int) s) (numR (field f (L s))) := by
  obtain ⟨l, hl, he⟩ := prog_split s hs
  have hc := spl_count 44 (L s)
  have hls := L_len s
  have hll : l.length = (spl 44 (L s)).length := by rw [← he, List.length_map]
  have h := prog_field_ev f hf l (small_of he hs) (by omega) l.length 0 0 (by omega) (by decide)
  have e0 : orO 0 (fieldL f ((l.map L).drop 0)) = field f (L s) := by
    rw [List.drop_zero, he]
    unfold field orO
    cases fieldL f (spl 44 (L s)) <;> simp
  rw [e0] at h
  refine Ev.congr (fun k => ?_) h
  unfold cron_field.f
  rw [hl]
  rfl
theorem ref_field_ev (f : Nat) (hf : f < 5) (l : List ByteArray) (hl : ∀ x ∈ l, x.size ≤ 100000) (hn : l.length ≤ 200000) : ∀ (d i acc : Nat), i + d = l.length → acc < 2 ^ 64 →
    Ev (fun k => tompionref04_field.l0 k (f : Int) l (acc : Int) (i : Int)) (numR (orO acc (fieldL f ((l.map L).drop i)))) := by
  intro d
  induction d with
  | zero =>
    intro i acc hi' ha
    rw [List.drop_eq_nil_of_le (by simp; omega)]
    refine Ev.step (f := fun _ => some (((acc : Nat) : Int), true)) (fun k => ?_) (by simp only [fieldL, orO, Option.map_some, Nat.or_zero, numR]; exact Ev.now _)
    simp only [tompionref04_field.l0]
    rw [if_neg (by omega)]
  | succ d ih =>
    intro i acc hi' ha
    have hlt : i < l.length := by omega
    have hd : (l.map L).drop i = L l[i] :: (l.map L).drop (i + 1) := by
      rw [List.drop_eq_getElem_cons (by simpa using hlt)]
      simp
    have hr : rdOf ByteArray.empty l (i : Int) = l[i] := by simp [rdOf, hlt]
    have hp := ref_part f hf l[i] (hl _ (List.getElem_mem hlt))
    rw [hd]
    have e : ∀ k, tompionref04_field.l0 (k + 1) (f : Int) l (acc : Int) (i : Int) = (tompionref04_part.f k (f : Int) l[i]).bind fun bt128 => (if bt128.2 = true then (tompionref04_field.l0 k (f : Int) l (Go.bits .or .u64 (acc : Int) bt128.1) ((i + 1 : Nat) : Int)) else (some (0, false))) := by
      intro k
      simp only [tompionref04_field.l0]
      rw [if_pos (by omega), if_pos (by omega), hr, wrap_id (by omega) (by omega)]
      push_cast
      rfl
    refine Ev.step e (Ev.bind hp ?_)
    cases hq : part f (L l[i]) with
    | none =>
      simp only [fieldL, hq, numR, orO, Option.map_none]
      exact Ev.congr (f := fun _ => some (0, false)) (fun k => if_neg (by decide)) (Ev.now _)
    | some a =>
      have hal := part_lt hf hq
      have hx := ih (i + 1) (acc ||| a) (by omega) (Nat.or_lt_two_pow ha hal)
      simp only [fieldL, hq]
      rw [orO_step]
      refine Ev.congr (fun k => ?_) hx
      simp only [numR, if_true]
      rw [bor_nat _ _ ha hal]
theorem ref_field (f : Nat) (hf : f < 5) (s : ByteArray) (hs : s.size ≤ 100000) : Ev (fun k => tompionref04_field.f k (f : Int) s) (numR (field f (L s))) := by
  obtain ⟨l, hl, he⟩ := ref_split 44 s hs
  have hc := spl_count 44 (L s)
  have hls := L_len s
  have hll : l.length = (spl 44 (L s)).length := by rw [← he, List.length_map]
  have h := ref_field_ev f hf l (small_of he hs) (by omega) l.length 0 0 (by omega) (by decide)
  have e0 : orO 0 (fieldL f ((l.map L).drop 0)) = field f (L s) := by
    rw [List.drop_zero, he]
    unfold field orO
    cases fieldL f (spl 44 (L s)) <;> simp
  rw [e0] at h
  exact Ev.bind hl h

/-! ### the sixth field -/
def aheadN (a : UInt8) (h m : Option Nat) : Option Int := match h with
  | none => none
  | some h => match m with
    | none => none
    | some m => if h ≤ 14 then (if m ≤ 59 then some (if a = 45 then -((60 * h + m : Nat) : Int) else ((60 * h + m : Nat) : Int)) else none) else none
def ahead : Bs → Option Int
  | [a, b, c, d, e] => if a = 43 ∨ a = 45 then aheadN a (num [b, c]) (num [d, e]) else none
  | _ => none
def aheadR (o : Option Int) : Int × Bool := match o with | some n => (n, true) | none => (0, false)
theorem five_or (s : ByteArray) : (∃ a b c d e, s = ⟨⟨[a, b, c, d, e]⟩⟩) ∨ s.size ≠ 5 := by
  obtain ⟨⟨l⟩⟩ := s
  match l with
  | [] => exact Or.inr (by simp [ByteArray.size])
  | [a] => exact Or.inr (by simp [ByteArray.size])
  | [a, b] => exact Or.inr (by simp [ByteArray.size])
  | [a, b, c] => exact Or.inr (by simp [ByteArray.size])
  | [a, b, c, d] => exact Or.inr (by simp [ByteArray.size])
  | [a, b, c, d, e] => exact Or.inl ⟨a, b, c, d, e, rfl⟩
  | a :: b :: c :: d :: e :: f :: t => exact Or.inr (by show (a :: b :: c :: d :: e :: f :: t).length ≠ 5; simp)
theorem ahead_long {s : ByteArray} (h : s.size ≠ 5) : ahead (L s) = none := by
  obtain ⟨⟨l⟩⟩ := s
  match l with
  | [] => rfl
  | [a] => rfl
  | [a, b] => rfl
  | [a, b, c] => rfl
  | [a, b, c, d] => rfl
  | [a, b, c, d, e] => exact absurd rfl h
  | a :: b :: c :: d :: e :: f :: t => rfl
theorem sz5 (a b c d e : UInt8) : (⟨⟨[a, b, c, d, e]⟩⟩ : ByteArray).size = 5 := rfl
theorem bt5 (a b c d e : UInt8) : bt ⟨⟨[a, b, c, d, e]⟩⟩ 0 = (a.toNat : Int) := rfl
theorem ex1 (a b c d e : UInt8) : L ((⟨⟨[a, b, c, d, e]⟩⟩ : ByteArray).extract 1 3) = [b, c] := by rw [L_extract]; rfl
theorem ex2 (a b c d e : UInt8) : L ((⟨⟨[a, b, c, d, e]⟩⟩ : ByteArray).extract 3 5) = [d, e] := by rw [L_extract]; rfl
theorem u8_eq {a : UInt8} {n : Nat} (hn : n < 256) (h : (a.toNat : Int) = (n : Int)) : a = UInt8.ofNat n := by
  apply UInt8.toNat_inj.mp
  have : a.toNat = n := by omega
  rw [this]
  simp
  omega
theorem prog_ahead_ev (s : ByteArray) : Ev (fun k => cron_ahead.f k s) (aheadR (ahead (L s))) := by
  have bad : Ev (fun k => cron_ahead.j0 k s true) (0, false) := by
    refine Ev.step (f := fun _ => some (0, false)) (fun k => ?_) (Ev.now _)
    simp only [cron_ahead.j0]
    rw [if_pos trivial]
  rcases five_or s with ⟨a, b, c, d, e, rfl⟩ | h
  · have hA : ahead (L ⟨⟨[a, b, c, d, e]⟩⟩) = if a = 43 ∨ a = 45 then aheadN a (num [b, c]) (num [d, e]) else none := rfl
    rw [hA]
    by_cases hs : a = 43 ∨ a = 45
    · rw [if_pos hs]
      have e0 : ∀ k, cron_ahead.f k ⟨⟨[a, b, c, d, e]⟩⟩ = cron_ahead.j0 k ⟨⟨[a, b, c, d, e]⟩⟩ false := by
        intro k
        unfold cron_ahead.f
        rw [sz5, bt5, if_pos (by decide), if_pos (by decide)]
        rcases hs with rfl | rfl
        · rw [if_pos (by decide)]
        · rw [if_neg (by decide)]; rfl
      refine Ev.congr e0 ?_
      have h1 := digits_ev ((⟨⟨[a, b, c, d, e]⟩⟩ : ByteArray).extract 1 3)
      have h2 := digits_ev ((⟨⟨[a, b, c, d, e]⟩⟩ : ByteArray).extract 3 5)
      rw [ex1] at h1
      rw [ex2] at h2
      have j1 : ∀ (x y : Int), Ev (fun k => cron_ahead.j1 k ⟨⟨[a, b, c, d, e]⟩⟩ x y true) (0, false) := by
        intro x y
        refine Ev.step (f := fun _ => some (0, false)) (fun k => ?_) (Ev.now _)
        simp only [cron_ahead.j1]
        rw [if_pos trivial]
      refine Ev.step (f := fun k => (cron_digits.f k ((⟨⟨[a, b, c, d, e]⟩⟩ : ByteArray).extract 1 3)).bind fun bt130 => ((cron_digits.f k ((⟨⟨[a, b, c, d, e]⟩⟩ : ByteArray).extract 3 5)).bind fun bt132 => (if bt130.2 = true then (if bt132.2 = true then (if bt130.1 > 14 then (cron_ahead.j1 k ⟨⟨[a, b, c, d, e]⟩⟩ bt130.1 bt132.1 true) else (cron_ahead.j1 k ⟨⟨[a, b, c, d, e]⟩⟩ bt130.1 bt132.1 (decide (bt132.1 > 59)))) else (cron_ahead.j1 k ⟨⟨[a, b, c, d, e]⟩⟩ bt130.1 bt132.1 true)) else (cron_ahead.j1 k ⟨⟨[a, b, c, d, e]⟩⟩ bt130.1 bt132.1 true)))) (fun k => ?_) (Ev.bind h1 (Ev.bind h2 ?_))
      · simp only [cron_ahead.j0]
        rw [if_neg (by decide), if_pos (by decide), if_pos (by rw [sz5]; decide), sz5]
      · cases hx : num [b, c] with
        | none => exact Ev.congr (fun k => if_neg (by decide)) (j1 _ _)
        | some x =>
          cases hy : num [d, e] with
          | none => exact Ev.congr (fun k => (if_pos rfl).trans (if_neg (by decide))) (j1 _ _)
          | some y =>
            simp only [aheadN]
            have lx := num_le hx
            have ly := num_le hy
            by_cases q1 : x ≤ 14
            · have n1 : ¬ (numR (some x)).1 > 14 := by show ¬ (x : Int) > 14; omega
              rw [if_pos q1]
              by_cases q2 : y ≤ 59
              · rw [if_pos q2]
                refine Ev.congr (f := fun k => cron_ahead.j1 k ⟨⟨[a, b, c, d, e]⟩⟩ (x : Int) (y : Int) false) (fun k => (if_pos rfl).trans ((if_pos rfl).trans ((if_neg n1).trans (by rw [decide_eq_false (show ¬ (numR (some y)).1 > 59 by show ¬ (y : Int) > 59; omega)]; rfl)))) ?_
                refine Ev.step (f := fun _ => some (if a = 45 then -((60 * x + y : Nat) : Int) else ((60 * x + y : Nat) : Int), true)) (fun k => ?_) (Ev.now _)
                simp only [cron_ahead.j1]
                have w1 : wrap64 (wrap64 (60 * (x : Int)) + (y : Int)) = ((60 * x + y : Nat) : Int) := by unfold wrap64; omega
                have w2 : wrap64 (-((60 * x + y : Nat) : Int)) = -((60 * x + y : Nat) : Int) := by unfold wrap64; omega
                rw [if_neg (by decide), if_pos (by rw [sz5]; decide), bt5, w1, w2]
                rcases hs with rfl | rfl
                · rw [if_neg (by decide), if_neg (by decide)]
                · rw [if_pos (by decide), if_pos (by decide)]
              · rw [if_neg q2]
                exact Ev.congr (fun k => (if_pos rfl).trans ((if_pos rfl).trans ((if_neg n1).trans (by rw [decide_eq_true (show (numR (some y)).1 > 59 by show (y : Int) > 59; omega)])))) (j1 _ _)
            · rw [if_neg q1]
              exact Ev.congr (fun k => (if_pos rfl).trans ((if_pos rfl).trans (if_pos (show (numR (some x)).1 > 14 by show (x : Int) > 14; omega)))) (j1 _ _)
    · rw [if_neg hs]
      refine Ev.congr (fun k => ?_) bad
      unfold cron_ahead.f
      rw [sz5, bt5, if_pos (by decide), if_pos (by decide), if_neg (show ¬ (a.toNat : Int) = 43 from fun q => hs (Or.inl (u8_eq (n := 43) (by decide) (by rw [q]; rfl))))]
      rw [show ((a.toNat : Int) != 45) = true from bne_iff_ne.mpr (fun q => hs (Or.inr (u8_eq (n := 45) (by decide) (by rw [q]; rfl))))]
  · rw [ahead_long h]
    refine Ev.congr (fun k => ?_) bad
    unfold cron_ahead.f
    rw [if_neg (by omega)]
theorem ref_ahead_ev (s : ByteArray) : Ev (fun k => tompionref04_ahead.f k s) (aheadR (ahead (L s))) := by
  have bad : Ev (fun k => tompionref04_ahead.j0 k s true) (0, false) := by
    refine Ev.step (f := fun _ => some (0, false)) (fun k => ?_) (Ev.now _)
    simp only [tompionref04_ahead.j0]
    rw [if_pos trivial]
  rcases five_or s with ⟨a, b, c, d, e, rfl⟩ | h
  · have hA : ahead (L ⟨⟨[a, b, c, d, e]⟩⟩) = if a = 43 ∨ a = 45 then aheadN a (num [b, c]) (num [d, e]) else none := rfl
    rw [hA]
    by_cases hs : a = 43 ∨ a = 45
    · rw [if_pos hs]
      have e0 : ∀ k, tompionref04_ahead.f k ⟨⟨[a, b, c, d, e]⟩⟩ = tompionref04_ahead.j0 k ⟨⟨[a, b, c, d, e]⟩⟩ false := by
        intro k
        unfold tompionref04_ahead.f
        rw [sz5, bt5, if_pos (by decide), if_pos (by decide)]
        rcases hs with rfl | rfl
        · rw [if_pos (by decide)]
        · rw [if_neg (by decide)]; rfl
      refine Ev.congr e0 ?_
      have h1 := number_ev ((⟨⟨[a, b, c, d, e]⟩⟩ : ByteArray).extract 1 3)
      have h2 := number_ev ((⟨⟨[a, b, c, d, e]⟩⟩ : ByteArray).extract 3 5)
      rw [ex1] at h1
      rw [ex2] at h2
      have j1 : ∀ (x y : Int), Ev (fun k => tompionref04_ahead.j1 k ⟨⟨[a, b, c, d, e]⟩⟩ x y true) (0, false) := by
        intro x y
        refine Ev.step (f := fun _ => some (0, false)) (fun k => ?_) (Ev.now _)
        simp only [tompionref04_ahead.j1]
        rw [if_pos trivial]
      refine Ev.step (f := fun k => (tompionref04_number.f k ((⟨⟨[a, b, c, d, e]⟩⟩ : ByteArray).extract 1 3)).bind fun t219 => ((tompionref04_number.f k ((⟨⟨[a, b, c, d, e]⟩⟩ : ByteArray).extract 3 5)).bind fun t220 => (if t219 < 0 then (tompionref04_ahead.j1 k ⟨⟨[a, b, c, d, e]⟩⟩ t219 t220 true) else (if t219 > 14 then (tompionref04_ahead.j1 k ⟨⟨[a, b, c, d, e]⟩⟩ t219 t220 true) else (if t220 < 0 then (tompionref04_ahead.j1 k ⟨⟨[a, b, c, d, e]⟩⟩ t219 t220 true) else (tompionref04_ahead.j1 k ⟨⟨[a, b, c, d, e]⟩⟩ t219 t220 (decide (t220 > 59)))))))) (fun k => ?_) (Ev.bind h1 (Ev.bind h2 ?_))
      · simp only [tompionref04_ahead.j0]
        rw [if_neg (by decide), if_pos (by decide), if_pos (by rw [sz5]; decide)]
        have c1 : (3 : Nat) ≤ 5 := by decide
        have c2 : (5 : Int) ≤ ((⟨⟨[a, b, c, d, e]⟩⟩ : ByteArray).size : Int) := by rw [sz5]; decide
        simp only [if_pos c1, if_pos c2]
      · cases hx : num [b, c] with
        | none => exact Ev.congr (fun k => if_pos (show numQ none < 0 by decide)) (j1 _ _)
        | some x =>
          have n0 : ¬ numQ (some x) < 0 := by show ¬ (x : Int) < 0; omega
          have lx := num_le hx
          by_cases q1 : x ≤ 14
          · have n1 : ¬ numQ (some x) > 14 := by show ¬ (x : Int) > 14; omega
            cases hy : num [d, e] with
            | none => exact Ev.congr (fun k => (if_neg n0).trans ((if_neg n1).trans (if_pos (show numQ none < 0 by decide)))) (j1 _ _)
            | some y =>
              have m0 : ¬ numQ (some y) < 0 := by show ¬ (y : Int) < 0; omega
              have ly := num_le hy
              simp only [aheadN]
              rw [if_pos q1]
              by_cases q2 : y ≤ 59
              · rw [if_pos q2]
                refine Ev.congr (f := fun k => tompionref04_ahead.j1 k ⟨⟨[a, b, c, d, e]⟩⟩ (x : Int) (y : Int) false) (fun k => (if_neg n0).trans ((if_neg n1).trans ((if_neg m0).trans (by rw [decide_eq_false (show ¬ numQ (some y) > 59 by show ¬ (y : Int) > 59; omega)]; rfl)))) ?_
                refine Ev.step (f := fun _ => some (if a = 45 then -((60 * x + y : Nat) : Int) else ((60 * x + y : Nat) : Int), true)) (fun k => ?_) (Ev.now _)
                simp only [tompionref04_ahead.j1]
                have w1 : wrap64 (wrap64 (60 * (x : Int)) + (y : Int)) = ((60 * x + y : Nat) : Int) := by unfold wrap64; omega
                have w2 : wrap64 (wrap64 ((-60) * (x : Int)) - (y : Int)) = -((60 * x + y : Nat) : Int) := by unfold wrap64; omega
                rw [if_neg (by decide), if_pos (by rw [sz5]; decide), bt5, w1, w2]
                rcases hs with rfl | rfl
                · rw [if_neg (by decide), if_neg (by decide)]
                · rw [if_pos (by decide), if_pos (by decide)]
              · rw [if_neg q2]
                exact Ev.congr (fun k => (if_neg n0).trans ((if_neg n1).trans ((if_neg m0).trans (by rw [decide_eq_true (show numQ (some y) > 59 by show (y : Int) > 59; omega)])))) (j1 _ _)
          · have hno : aheadN a (some x) (num [d, e]) = none := by
              unfold aheadN
              cases num [d, e] with
              | none => rfl
              | some y => simp only; rw [if_neg q1]
            rw [hno]
            exact Ev.congr (fun k => (if_neg n0).trans (if_pos (show numQ (some x) > 14 by show (x : Int) > 14; omega))) (j1 _ _)
    · rw [if_neg hs]
      refine Ev.congr (fun k => ?_) bad
      unfold tompionref04_ahead.f
      rw [sz5, bt5, if_pos (by decide), if_pos (by decide), if_neg (show ¬ (a.toNat : Int) = 43 from fun q => hs (Or.inl (u8_eq (n := 43) (by decide) (by rw [q]; rfl))))]
      rw [show ((a.toNat : Int) != 45) = true from bne_iff_ne.mpr (fun q => hs (Or.inr (u8_eq (n := 45) (by decide) (by rw [q]; rfl))))]
  · rw [ahead_long h]
    refine Ev.congr (fun k => ?_) bad
    unfold tompionref04_ahead.f
    rw [if_neg (by omega)]
end Go.Proofs.YtmjfocfdbodmpaaDoor.CS
