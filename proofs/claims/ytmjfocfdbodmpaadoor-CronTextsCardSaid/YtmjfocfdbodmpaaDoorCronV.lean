/- The text of a spec: the reference's Text answers as the program's does; what a parsed text's own text says. -/
import Derived.Test.YtmjfocfdbodmpaaDoorX13
import Derived.Test.YtmjfocfdbodmpaaDoorX4
import Derived.Test.YtmjfocfdbodmpaaDoorX5
import Derived.Test.YtmjfocfdbodmpaaDoorX6
import Derived.Test.YtmjfocfdbodmpaaDoorX7
import Derived.Test.YtmjfocfdbodmpaaDoorCronW
import Derived.Test.YtmjfocfdbodmpaaDoorCronQ
namespace Go.Proofs.YtmjfocfdbodmpaaDoor.CS
open Go Go.RowKit Go.Proofs.YtmjfocfdbodmpaaDoorW.PrintWords Go.Proofs.YtmjfocfdbodmpaaDoor.X

theorem rtwo_d2 (n : Nat) (h : n < 100) : tompionref04_two.f (n : Int) = some (B (d2 n)) := two_d2 n h
theorem rlist_ev (x : Nat) (hx : x < 2 ^ 64) : ∀ (d n : Nat) (l : List Nat), n + d = 64 → (∀ m ∈ l, m < 64) → l.length ≤ n →
    Ev (fun k => tompionref04_list.l0 k (x : Int) (B (inter 44 (l.map dec))) (n : Int)) (B (inter 44 ((l ++ numsFrom x d n).map dec))) := by
  intro d
  induction d with
  | zero =>
    intro n l hn hl hlen
    refine Ev.step (f := fun _ => some (B (inter 44 (l.map dec)))) (fun k => ?_) (by simpa [numsFrom] using Ev.now (B (inter 44 (l.map dec))))
    simp only [tompionref04_list.l0]
    rw [if_neg (by omega)]
  | succ d ih =>
    intro n l hn hl hlen
    by_cases q : x.testBit n = true
    · have h2 := dec_len (n := n) (by omega)
      have hx' := ih (n + 1) (l ++ [n]) (by omega) (by
        intro m hm
        rcases List.mem_append.1 hm with h | h
        · exact hl m h
        · rw [List.mem_singleton] at h; omega) (by simp; omega)
      have e : (l ++ [n]) ++ numsFrom x d (n + 1) = l ++ numsFrom x (d + 1) n := by
        rw [numsFrom, if_pos q]
        simp
      rw [e] at hx'
      have hbl := inter_len 44 2 (l.map dec) (by
        intro y hy
        obtain ⟨m, hm, rfl⟩ := List.mem_map.1 hy
        exact (dec_len (Nat.lt_trans (hl m hm) (by decide))).2)
      rw [List.length_map] at hbl
      -- what the round adds
      have add : ∀ (t : ByteArray), t = B (dec n) → (if l = [] then B (inter 44 (l.map dec)) ++ t else (B (inter 44 (l.map dec)) ++ (⟨#[44]⟩ : ByteArray)) ++ t) = B (inter 44 ((l ++ [n]).map dec)) := by
        rintro t rfl
        by_cases l0 : l = []
        · subst l0
          rw [if_pos rfl]
          refine of_L ?_
          rw [L_app2]
          show inter 44 [] ++ dec n = inter 44 [dec n]
          rw [inter_one]
          rfl
        · rw [if_neg l0]
          refine of_L ?_
          rw [L_app2, L_app2, List.map_append, List.map_cons, List.map_nil, inter_snoc 44 (l.map dec) (dec n) (by simpa using l0)]
          simp [L_B]
          rfl
      refine Ev.step (fun k => ?_) hx'
      have nB : (⟨#[44]⟩ : ByteArray).size = 1 := rfl
      have sz : (B (inter 44 (l.map dec))).size = (inter 44 (l.map dec)).length := rfl
      have emp : (B (inter 44 (l.map dec))).toList = ([] : List UInt8) ↔ l = [] := by
        rw [L_toList, L_B]
        constructor
        · intro h
          cases l with
          | nil => rfl
          | cons a t =>
            exfalso
            have ha := (dec_len (n := a) (Nat.lt_trans (hl a (List.mem_cons_self ..)) (by decide))).1
            cases t with
            | nil =>
              rw [List.map_cons, List.map_nil, inter_one] at h
              rw [h] at ha
              simp at ha
            | cons b t =>
              rw [List.map_cons, List.map_cons, inter_cons] at h
              simp at h
        · rintro rfl; rfl
      simp only [tompionref04_list.l0]
      rw [if_pos (by omega), if_pos (by omega), if_pos ((bit_at x n hx (by omega)).2 q), wrap_id (i := (n : Int) + 1) (by omega) (by omega)]
      have tw : (n : Int) ≥ 10 → tompionref04_two.f (n : Int) = some (B (dec n)) := by
        intro h
        rw [rtwo_d2 n (by omega), dec_two (by omega) (by omega)]
      have on : ¬ (n : Int) ≥ 10 → strOfNums [(wrap64 (48 + (n : Int))) % 256] = B (dec n) := by
        intro h
        have e1 : wrap64 (48 + (n : Int)) % 256 = ((48 + n : Nat) : Int) := by unfold wrap64; omega
        rw [e1, dec_small (by omega)]
        rfl
      have szd : (B (dec n)).size ≤ 2 := h2.2
      by_cases l0 : l = []
      · rw [if_pos (emp.2 l0)]
        have ad := add _ rfl
        rw [if_pos l0] at ad
        by_cases h10 : (n : Int) ≥ 10
        · rw [if_pos h10, tw h10, Option.bind_some, if_pos (by omega), ad]
          push_cast
          rfl
        · rw [if_neg h10, Option.bind_some, on h10, if_pos (by omega), ad]
          push_cast
          rfl
      · rw [if_neg (fun h => l0 (emp.1 h)), if_pos (by omega)]
        have ad := add _ rfl
        rw [if_neg l0] at ad
        have szc : (B (inter 44 (l.map dec)) ++ (⟨#[44]⟩ : ByteArray)).size = (inter 44 (l.map dec)).length + 1 := by rw [ByteArray.size_append]; rfl
        by_cases h10 : (n : Int) ≥ 10
        · rw [if_pos h10, tw h10, Option.bind_some, if_pos (by omega), ad]
          push_cast
          rfl
        · rw [if_neg h10, Option.bind_some, on h10, if_pos (by omega), ad]
          push_cast
          rfl
    · have hx' := ih (n + 1) l (by omega) hl (by omega)
      have e : l ++ numsFrom x d (n + 1) = l ++ numsFrom x (d + 1) n := by
        rw [numsFrom, if_neg q]
      rw [e] at hx'
      refine Ev.step (fun k => ?_) hx'
      simp only [tompionref04_list.l0]
      rw [if_pos (by omega), if_pos (by omega), if_neg (fun h => q ((bit_at x n hx (by omega)).1 h)), wrap_id (by omega) (by omega)]
      push_cast
      rfl
theorem ref_list_ev (x : Nat) (hx : x < 2 ^ 64) : Ev (fun k => tompionref04_list.f k (x : Int)) (B (listS x)) := rlist_ev x hx 64 0 [] rfl (by simp) (Nat.le_refl _)
theorem nums_one : ∀ s : Fin 64, numsFrom (2 ^ s.val) 64 0 = [s.val] := by decide +kernel
theorem list_one (s : Nat) (h : s < 64) : listS (2 ^ s) = dec s := by
  unfold listS
  rw [nums_one ⟨s, h⟩]
  exact inter_one _ _
theorem full_far (f s : Nat) (h : 63 ≤ s) : full f s = full f 63 := by
  have h6 := hi6_le f
  have key : ∀ st, 63 ≤ st → stepsL (hi6 f) st 64 (lo f) = if lo f ≤ hi6 f then [lo f] else [] := by
    intro st hst
    rw [stepsL]
    split
    · rw [stepsL, if_neg (by omega)]
    · rfl
  unfold full span
  rw [key s h, key 63 (Nat.le_refl _)]
theorem rany_ev (f x : Nat) (hf : f < 5) (hx1 : x ≠ full f 1) : ∀ (d s : Nat), s + d = 100 → 1 ≤ s → (∀ j, 2 ≤ j → j < s → x ≠ full f j) →
    Ev (fun k => tompionref04_any.l0 k (f : Int) (x : Int) (s : Int)) (B (anyT (anyGo f x d s))) := by
  intro d
  induction d with
  | zero =>
    intro s hs h2 hj
    refine Ev.step (f := fun _ => some (B [])) (fun k => ?_) (Ev.now _)
    simp only [tompionref04_any.l0]
    rw [if_neg (by omega)]
    rfl
  | succ d ih =>
    intro s hs h2 hj
    have e : ∀ k, tompionref04_any.l0 (k + 1) (f : Int) (x : Int) (s : Int) = (tompionref04_all.f k (f : Int) (s : Int)).bind fun t154 => (if (x : Int) = t154 then (if 0 ≤ (Int.tmod (s : Int) 64) then ((tompionref04_list.f k (shl .u64 1 (Int.tmod (s : Int) 64))).bind fun t155 => (if 2 + t155.size ≤ 9223372036854775807 then (some ((⟨#[42, 47]⟩ : ByteArray) ++ t155)) else (none))) else (none)) else (tompionref04_any.l0 k (f : Int) (x : Int) ((s + 1 : Nat) : Int))) := by
      intro k
      simp only [tompionref04_any.l0]
      rw [if_pos (by omega), wrap_id (by omega) (by omega)]
      push_cast
      rfl
    refine Ev.step e (Ev.bind (ref_all_ev f s hf (by omega) (by omega)) ?_)
    by_cases q : x = full f s
    · have hs1 : s ≠ 1 := fun h => hx1 (by rw [q, h])
      have hs64 : s < 64 := by
        rcases Nat.lt_or_ge s 64 with h | h
        · exact h
        · exact absurd (q.trans (full_far f s (by omega))) (hj 63 (by decide) (by omega))
      have hm : Int.tmod (s : Int) 64 = (s : Int) := by rw [Int.tmod_eq_emod_of_nonneg (by omega)]; omega
      have hp : (2 : Nat) ^ s < 2 ^ 64 := Nat.pow_lt_pow_right (by decide) hs64
      rw [anyGo, if_pos q, hm, shl_one s hs64]
      have hl := ref_list_ev (2 ^ s) hp
      rw [list_one s hs64] at hl
      have h2l := dec_len (n := s) (by omega)
      have hb : 2 + (B (dec s)).size ≤ 9223372036854775807 := by rw [B_size]; omega
      have hB : (⟨#[42, 47]⟩ : ByteArray) ++ B (dec s) = B ([42, 47] ++ dec s) := of_L (by rw [L_app2]; rfl)
      refine Ev.congr (fun k => (if_pos (by omega)).trans (if_pos (by omega))) (Ev.bind hl ?_)
      rw [if_pos hb, hB]
      exact Ev.now _
    · rw [anyGo, if_neg q]
      refine Ev.congr (fun k => if_neg (by omega)) (ih (s + 1) (by omega) (by omega) ?_)
      intro j h1 h3
      rcases Nat.lt_or_ge j s with h | h
      · exact hj j h1 h
      · have : j = s := by omega
        rw [this]; exact q
theorem ref_any_ev (f x : Nat) (hf : f < 5) : Ev (fun k => tompionref04_any.f k (f : Int) (x : Int)) (B (anyS f x)) := by
  refine Ev.bind (ref_all_ev f 1 hf (Nat.le_refl _) (by decide)) ?_
  unfold anyS
  by_cases q : x = full f 1
  · rw [if_pos q]
    exact Ev.congr (f := fun _ => some (B [42])) (fun k => if_pos (by omega)) (Ev.now _)
  · rw [if_neg q]
    have h := rany_ev f x hf q 99 1 rfl (Nat.le_refl _) (by intro j h1 h2; omega)
    rw [anyGo, if_neg q] at h
    exact Ev.congr (fun k => if_neg (by omega)) h
theorem wordR_ev (f x : Nat) (an : Bool) (hf : f < 5) (hx : x < 2 ^ 64) : Ev (fun k => wordR k (f : Int) (x : Int) an) (B (wordS f x an)) := by
  refine Ev.bind (ref_list_ev x hx) ?_
  unfold wordS
  cases an with
  | true => simp only [if_true]; exact ref_any_ev f x hf
  | false => simp only [Bool.false_eq_true, if_false]; exact Ev.now _
theorem inter_end (c : UInt8) (l : List Bs) (h : l ≠ []) : ∀ (m : List Bs), inter c (l ++ m) = inter c l ++ m.flatMap (c :: ·)
  | [] => by simp
  | x :: m => by
    have e : l ++ x :: m = (l ++ [x]) ++ m := by simp
    rw [e, inter_end c (l ++ [x]) (by simp) m, inter_snoc c l x h]
    simp
theorem rtextEnd_eq (n : Int) (h1 : -899 ≤ n) (h2 : n ≤ 899) (l : List Bs) (hl : l ≠ []) : rtextEnd n (B (inter 32 l)) = some (B (inter 32 (l ++ endS n))) := by
  rw [inter_end 32 l hl]
  have jn : ∀ (c : UInt8) (A : Nat), B (inter 32 l) ++ (((⟨#[32, c]⟩ : ByteArray) ++ B (d2 (A / 60))) ++ B (d2 (A % 60))) = B (inter 32 l ++ [c :: (d2 (A / 60) ++ d2 (A % 60))].flatMap ((32 : UInt8) :: ·)) := by
    intro c A
    refine of_L ?_
    rw [L_app2, L_app2, L_app2]
    show inter 32 l ++ ([32, c] ++ d2 (A / 60) ++ d2 (A % 60)) = _
    simp
  unfold rtextEnd endS
  by_cases p : 0 < n
  · obtain ⟨A, rfl⟩ : ∃ A : Nat, n = (A : Int) := ⟨n.toNat, by omega⟩
    rw [if_pos p, if_pos p]
    have e1 : Int.tdiv (A : Int) 60 = ((A / 60 : Nat) : Int) := by rw [Int.tdiv_eq_ediv_of_nonneg (by omega)]; omega
    have e2 : Int.tmod (A : Int) 60 = ((A % 60 : Nat) : Int) := by rw [Int.tmod_eq_emod_of_nonneg (by omega)]; omega
    rw [e1, e2, rtwo_d2 _ (by omega), rtwo_d2 _ (by omega)]
    simp only [Option.bind_some, Int.natAbs_natCast]
    rw [jn 43 A]
  · rw [if_neg p, if_neg p]
    by_cases m : n < 0
    · obtain ⟨A, rfl⟩ : ∃ A : Nat, n = -(A : Int) := ⟨n.natAbs, by omega⟩
      rw [if_pos m, if_pos m]
      have e1 : Int.tdiv (-(-(A : Int))) 60 = ((A / 60 : Nat) : Int) := by rw [Int.neg_neg, Int.tdiv_eq_ediv_of_nonneg (by omega)]; omega
      have e2 : Int.tmod (-(-(A : Int))) 60 = ((A % 60 : Nat) : Int) := by rw [Int.neg_neg, Int.tmod_eq_emod_of_nonneg (by omega)]; omega
      rw [e1, e2, rtwo_d2 _ (by omega), rtwo_d2 _ (by omega)]
      simp only [Option.bind_some, Int.natAbs_neg, Int.natAbs_natCast]
      rw [jn 45 A]
    · rw [if_neg m, if_neg m]
      simp
theorem rstep {F : Nat → ByteArray → Option ByteArray} {g : Nat → Option ByteArray} {w r : Bs} (hg : Ev g (B w)) (hs : w.length ≤ 100000) (h : w ≠ [] → Ev (fun k => F k (B w)) (B r)) :
    Ev (fun k => (g k).bind fun t => if t = (⟨#[]⟩ : ByteArray) then some (⟨#[]⟩ : ByteArray) else (if t.size ≤ 100000 then F k t else none)) (B (if w = [] then [] else r)) :=
  wstep (F := fun k t => if t.size ≤ 100000 then F k t else none) hg fun hw => Ev.congr (fun k => if_pos (by rw [B_size]; exact hs)) (h hw)
theorem out_snoc (l : List Bs) (w : Bs) (hl : l ≠ []) : (B (inter 32 l) ++ (⟨#[32]⟩ : ByteArray)) ++ B w = B (inter 32 (l ++ [w])) := by
  refine of_L ?_
  rw [L_app2, L_app2, inter_snoc 32 l w hl]
  show inter 32 l ++ [32] ++ w = _
  simp
theorem rtext_ev (x0 x1 x2 x3 x4 : Nat) (a d : Bool) (n : Int) (h0 : x0 < 2 ^ 64) (h1 : x1 < 2 ^ 64) (h2 : x2 < 2 ^ 64) (h3 : x3 < 2 ^ 64) (h4 : x4 < 2 ^ 64) (hn1 : -899 ≤ n) (hn2 : n ≤ 899) :
    Ev (fun k => rtextR0 k x0 x1 x2 x3 x4 a d n (⟨#[]⟩ : ByteArray)) (B (textS x0 x1 x2 x3 x4 a d n)) := by
  have w0 := wordS_len 0 x0 false
  have w1 := wordS_len 1 x1 false
  have w2 := wordS_len 2 x2 a
  have w3 := wordS_len 3 x3 false
  have w4 := wordS_len 4 x4 d
  unfold textS rtextR0
  refine rstep (wordR_ev 0 x0 false (by decide) h0) (by omega) fun _ => ?_
  have e0 : (⟨#[]⟩ : ByteArray) ++ B (wordS 0 x0 false) = B (inter 32 [wordS 0 x0 false]) := of_L (by rw [L_app2, inter_one]; rfl)
  rw [e0]
  unfold rtextR1
  refine rstep (wordR_ev 1 x1 false (by decide) h1) (by omega) fun _ => ?_
  rw [out_snoc _ _ (by simp)]
  unfold rtextR2
  refine rstep (wordR_ev 2 x2 a (by decide) h2) (by omega) fun _ => ?_
  rw [out_snoc _ _ (by simp)]
  unfold rtextR3
  refine rstep (wordR_ev 3 x3 false (by decide) h3) (by omega) fun _ => ?_
  rw [out_snoc _ _ (by simp)]
  unfold rtextR4
  refine rstep (wordR_ev 4 x4 d (by decide) h4) (by omega) fun _ => ?_
  rw [out_snoc _ _ (by simp)]
  unfold rtextR5
  rw [rtextEnd_eq n hn1 hn2 _ (by simp)]
  exact Ev.now _
theorem nat_u64 {x : Int} (h : (Lit.int .u64 x).wf = true) : ∃ X : Nat, x = (X : Int) ∧ X < 2 ^ 64 := by
  have h' : 0 ≤ x ∧ x ≤ 18446744073709551615 := by simpa [Lit.wf, IntKind.min, IntKind.max, IntKind.signed, IntKind.bits] using h
  exact ⟨x.toNat, by omega, by omega⟩
theorem cronTexts (a0_0 a0_1 a0_2 a0_3 a0_4 : Int) (a0_5 a0_6 : Bool) (a0_7 : Int) (w0 : (Lit.int .u64 a0_0).wf = true) (w1 : (Lit.int .u64 a0_1).wf = true) (w2 : (Lit.int .u64 a0_2).wf = true) (w3 : (Lit.int .u64 a0_3).wf = true) (w4 : (Lit.int .u64 a0_4).wf = true) :
    ∃ k, tompionlaw04_CronTexts.f k a0_0 a0_1 a0_2 a0_3 a0_4 a0_5 a0_6 a0_7 = some true := by
  refine Ev.rounds ?_
  obtain ⟨x0, rfl, h0⟩ := nat_u64 w0
  obtain ⟨x1, rfl, h1⟩ := nat_u64 w1
  obtain ⟨x2, rfl, h2⟩ := nat_u64 w2
  obtain ⟨x3, rfl, h3⟩ := nat_u64 w3
  obtain ⟨x4, rfl, h4⟩ := nat_u64 w4
  have both : ∃ t, Ev (fun k => cron_Text.f k x0 x1 x2 x3 x4 a0_5 a0_6 a0_7) t ∧ Ev (fun k => tompionref04_Text.f k x0 x1 x2 x3 x4 a0_5 a0_6 a0_7) t := by
    by_cases hr : rightB x0 x1 x2 x3 x4 a0_7 = true
    · have hb := right_bounds hr
      refine ⟨_, prog_text x0 x1 x2 x3 x4 a0_5 a0_6 a0_7 h0 h1 h2 h3 h4 hr, Ev.congr (fun k => ?_) (rtext_ev x0 x1 x2 x3 x4 a0_5 a0_6 a0_7 h0 h1 h2 h3 h4 hb.1 hb.2)⟩
      unfold tompionref04_Text.f
      rw [if_pos hr]
    · refine ⟨(⟨#[]⟩ : ByteArray), Ev.congr (f := fun _ => some (⟨#[]⟩ : ByteArray)) (fun k => ?_) (Ev.now _), Ev.congr (f := fun _ => some (⟨#[]⟩ : ByteArray)) (fun k => ?_) (Ev.now _)⟩
      · unfold cron_Text.f; rw [if_neg hr]
      · unfold tompionref04_Text.f; rw [if_neg hr]
  obtain ⟨t, e1, e2⟩ := both
  refine Ev.congr (f := fun k => (cron_Text.f k x0 x1 x2 x3 x4 a0_5 a0_6 a0_7).bind fun t247 => ((tompionref04_Text.f k x0 x1 x2 x3 x4 a0_5 a0_6 a0_7).bind fun t248 => (some (t247.toList == t248.toList)))) (fun k => ?_) (Ev.bind e1 (Ev.bind e2 ?_))
  · unfold tompionlaw04_CronTexts.f
    rw [awake_f, Option.bind_some, if_pos rfl]
    unfold cron_Right.f tompionref04_Right.f
    simp only [Option.bind_some, beq_self_eq_true, if_true]
  · rw [beq_self_eq_true]
    exact Ev.now _
theorem cronTexts_walk (a0_0 a0_1 a0_2 a0_3 a0_4 : Int) (a0_5 a0_6 : Bool) (a0_7 : Int) (w0 : (Lit.int .u64 a0_0).wf = true) (w1 : (Lit.int .u64 a0_1).wf = true) (w2 : (Lit.int .u64 a0_2).wf = true) (w3 : (Lit.int .u64 a0_3).wf = true) (w4 : (Lit.int .u64 a0_4).wf = true) (_ : (Lit.int .i64 a0_7).wf = true) (W : World) :
    Calls Tryd.prog 4 #[.agg #[.int .u64 a0_0, .int .u64 a0_1, .int .u64 a0_2, .int .u64 a0_3, .int .u64 a0_4, .bool a0_5, .bool a0_6, .int .i64 a0_7]] W fun e W' => e = .returned (.bool true) ∧ Below W.heap.size W W' := by
  obtain ⟨k, h⟩ := cronTexts a0_0 a0_1 a0_2 a0_3 a0_4 a0_5 a0_6 a0_7 w0 w1 w2 w3 w4
  exact tompionlaw04_CronTexts.calls k a0_0 a0_1 a0_2 a0_3 a0_4 a0_5 a0_6 a0_7 true W h
end Go.Proofs.YtmjfocfdbodmpaaDoor.CS
