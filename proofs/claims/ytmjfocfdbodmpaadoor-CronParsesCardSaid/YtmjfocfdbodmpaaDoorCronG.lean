/- What a cron text says, as a plain function; the program's Parse and the reference's answer so. -/
import Derived.Test.YtmjfocfdbodmpaaDoorX11
import Derived.Test.YtmjfocfdbodmpaaDoorX12
import Derived.Test.YtmjfocfdbodmpaaDoorX4
import Derived.Test.YtmjfocfdbodmpaaDoorX7
import Derived.Test.YtmjfocfdbodmpaaDoorX8
import Derived.Test.YtmjfocfdbodmpaaDoorCronF
namespace Go.Proofs.YtmjfocfdbodmpaaDoor.CS
open Go Go.RowKit Go.Proofs.YtmjfocfdbodmpaaDoorW.PrintWords Go.Proofs.YtmjfocfdbodmpaaDoor.X

abbrev Sp := Nat × Nat × Nat × Nat × Nat × Bool × Bool × Int
def star (s : Bs) : Bool := s.head? == some 42
/-- What five fields and the sixth one say. -/
def fiveS (a b c d e : Bs) (o : Option Int) : Option Sp := match field 0 a with
  | none => none
  | some y0 => match field 1 b with
    | none => none
    | some y1 => match field 2 c with
      | none => none
      | some y2 => match field 3 d with
        | none => none
        | some y3 => match field 4 e with
          | none => none
          | some y4 => match o with
            | none => none
            | some n => some (y0, y1, y2, y3, y4, star c, star e, n)
def fieldsOf : List Bs → Option Sp
  | [a, b, c, d, e] => fiveS a b c d e (some 0)
  | [a, b, c, d, e, g] => fiveS a b c d e (ahead g)
  | _ => none
def parse (s : Bs) : Option Sp := if 256 < s.length then none else fieldsOf (wordsB s)
abbrev Tp := Int × Int × Int × Int × Int × Bool × Bool × Int × Int
abbrev Tr := Int × Int × Int × Int × Int × Bool × Bool × Int × Bool
def prR (o : Option Sp) : Tp := match o with | none => parseBad | some x => (x.1, x.2.1, x.2.2.1, x.2.2.2.1, x.2.2.2.2.1, x.2.2.2.2.2.1, x.2.2.2.2.2.2.1, x.2.2.2.2.2.2.2, 0)
def rrR (o : Option Sp) : Tr := match o with | none => rparseBad | some x => (x.1, x.2.1, x.2.2.1, x.2.2.2.1, x.2.2.2.2.1, x.2.2.2.2.2.1, x.2.2.2.2.2.2.1, x.2.2.2.2.2.2.2, true)
def onO {A T : Type} (o : Option A) (bad : T) (R : A → T) : T := match o with | none => bad | some n => R n
theorem fstep {T : Type} {g : Nat → Option (Int × Bool)} {o : Option Nat} (hg : Ev g (numR o)) {F : Nat → Int → Option T} {bad : T} {R : Nat → T} (h : ∀ n, o = some n → Ev (fun k => F k (n : Int)) (R n)) :
    Ev (fun k => (g k).bind fun n => if n.2 = true then F k n.1 else some bad) (onO o bad R) := by
  refine Ev.bind hg ?_
  cases o with
  | none => exact Ev.congr (f := fun _ => some bad) (fun k => if_neg (by decide)) (Ev.now _)
  | some n => exact Ev.congr (fun k => if_pos rfl) (h n rfl)
theorem astep {T : Type} {g : Nat → Option (Int × Bool)} {o : Option Int} (hg : Ev g (aheadR o)) {bad : T} {R : Int → T} :
    Ev (fun k => (g k).bind fun n => if n.2 = true then some (R n.1) else some bad) (onO o bad R) := by
  refine Ev.bind hg ?_
  cases o with
  | none => exact Ev.congr (f := fun _ => some bad) (fun k => if_neg (by decide)) (Ev.now _)
  | some n => exact Ev.congr (fun k => if_pos rfl) (Ev.now _)
theorem star_bt (s : ByteArray) (h : L s ≠ []) : (bt s 0 == 42) = star (L s) ∧ 0 < s.size := by
  obtain ⟨⟨l⟩⟩ := s
  cases l with
  | nil => exact absurd rfl h
  | cons a t =>
    refine ⟨?_, by show 0 < (a :: t).length; simp⟩
    have e : bt ⟨⟨a :: t⟩⟩ 0 = (a.toNat : Int) := rfl
    have e2 : star (L ⟨⟨a :: t⟩⟩) = (a == 42) := rfl
    rw [e, e2]
    revert a
    intro a _ _ _
    have := all_bytes (P := fun a => (((a.toNat : Int) == 42) = (a == 42))) (by decide +kernel) a
    exact this
theorem wd_map {l : List ByteArray} {j : Nat} {w : Bs} {ws : List Bs} (e : l.map L = ws) (h : ws[j]? = some w) : L (wdN l j) = w := by
  rw [← e, List.getElem?_map] at h
  cases hq : l[j]? with
  | none => rw [hq] at h; cases h
  | some x =>
    rw [hq] at h
    have : wdN l j = x := by simp [wdN, hq]
    rw [this]
    exact Option.some.inj h
theorem prog_fields (l : List ByteArray) (hs : ∀ x ∈ l.map L, x.length ≤ 100000 ∧ x ≠ []) (h : l.length = 5 ∨ l.length = 6) : Ev (fun k => parseR0 k l) (prR (fieldsOf (l.map L))) := by
  have hw : ∀ j, j < l.length → (l.map L)[j]? = some (L (wdN l j)) := by
    intro j hj
    simp [wdN, hj]
  have hsz : ∀ j, j < l.length → (wdN l j).size ≤ 100000 ∧ L (wdN l j) ≠ [] := by
    intro j hj
    have hm : L (wdN l j) ∈ l.map L := List.mem_of_getElem? (hw j hj)
    have := hs _ hm
    rw [← L_len]
    exact this
  have key : ∀ (o : Option Int) (tl : Nat → Int → Int → Int → Int → Int → Option Tp), 5 ≤ l.length → (∀ (y0 y1 y2 y3 y4 : Nat), Ev (fun k => tl k y0 y1 y2 y3 y4) (onO o parseBad fun n => ((y0 : Int), (y1 : Int), (y2 : Int), (y3 : Int), (y4 : Int), star (L (wdN l 2)), star (L (wdN l 4)), n, (0 : Int)))) →
      (∀ k y0 y1 y2 y3 y4, parseR5 k l y0 y1 y2 y3 y4 = tl k y0 y1 y2 y3 y4) → Ev (fun k => parseR0 k l) (prR (fiveS (L (wdN l 0)) (L (wdN l 1)) (L (wdN l 2)) (L (wdN l 3)) (L (wdN l 4)) o)) := by
    intro o tl h5 ht he
    have e : prR (fiveS (L (wdN l 0)) (L (wdN l 1)) (L (wdN l 2)) (L (wdN l 3)) (L (wdN l 4)) o) = (onO (field 0 (L (wdN l 0))) parseBad fun y0 => onO (field 1 (L (wdN l 1))) parseBad fun y1 => onO (field 2 (L (wdN l 2))) parseBad fun y2 => onO (field 3 (L (wdN l 3))) parseBad fun y3 => onO (field 4 (L (wdN l 4))) parseBad fun y4 => onO o parseBad fun n => ((y0 : Int), (y1 : Int), (y2 : Int), (y3 : Int), (y4 : Int), star (L (wdN l 2)), star (L (wdN l 4)), n, (0 : Int))) := by
      unfold fiveS
      cases field 0 (L (wdN l 0)) with
      | none => rfl
      | some y0 => cases field 1 (L (wdN l 1)) with
        | none => rfl
        | some y1 => cases field 2 (L (wdN l 2)) with
          | none => rfl
          | some y2 => cases field 3 (L (wdN l 3)) with
            | none => rfl
            | some y3 => cases field 4 (L (wdN l 4)) with
              | none => rfl
              | some y4 => cases o with
                | none => rfl
                | some n => rfl
    rw [e]
    unfold parseR0
    refine fstep (prog_field 0 (by decide) _ (hsz 0 (by omega)).1) fun y0 _ => ?_
    unfold parseR1
    refine fstep (prog_field 1 (by decide) _ (hsz 1 (by omega)).1) fun y1 _ => ?_
    unfold parseR2
    refine fstep (prog_field 2 (by decide) _ (hsz 2 (by omega)).1) fun y2 _ => ?_
    unfold parseR3
    refine fstep (prog_field 3 (by decide) _ (hsz 3 (by omega)).1) fun y3 _ => ?_
    unfold parseR4
    refine fstep (prog_field 4 (by decide) _ (hsz 4 (by omega)).1) fun y4 _ => ?_
    exact Ev.congr (fun k => he k _ _ _ _ _) (ht y0 y1 y2 y3 y4)
  have s2 := star_bt (wdN l 2) (hsz 2 (by omega)).2
  have s4 := star_bt (wdN l 4) (hsz 4 (by omega)).2
  rcases h with h | h
  · match l, h with
    | [a, b, c, d, e], h =>
      refine key (some 0) (fun k y0 y1 y2 y3 y4 => some (y0, y1, y2, y3, y4, star (L c), star (L e), 0, 0)) (by simp) (fun y0 y1 y2 y3 y4 => Ev.now _) ?_
      intro k y0 y1 y2 y3 y4
      unfold parseR5
      rw [if_pos s2.2, if_pos s4.2, if_neg (by simp), s2.1, s4.1]
      rfl
  · match l, h with
    | [a, b, c, d, e, g], h =>
      refine key (ahead (L g)) (fun k y0 y1 y2 y3 y4 => (cron_ahead.f k g).bind fun n => (if n.2 = true then (some (y0, y1, y2, y3, y4, star (L c), star (L e), n.1, 0)) else (some parseBad))) (by simp) (fun y0 y1 y2 y3 y4 => ?_) ?_
      · exact astep (R := fun n => ((y0 : Int), (y1 : Int), (y2 : Int), (y3 : Int), (y4 : Int), star (L c), star (L e), n, (0 : Int))) (prog_ahead_ev g)
      · intro k y0 y1 y2 y3 y4
        unfold parseR5
        rw [if_pos s2.2, if_pos s4.2, if_pos (by simp), s2.1, s4.1]
        rfl
theorem ref_fields (l : List ByteArray) (hs : ∀ x ∈ l.map L, x.length ≤ 100000 ∧ x ≠ []) (h : l.length = 5 ∨ l.length = 6) : Ev (fun k => rparseR0 k l) (rrR (fieldsOf (l.map L))) := by
  have hw : ∀ j, j < l.length → (l.map L)[j]? = some (L (wdN l j)) := by
    intro j hj
    simp [wdN, hj]
  have hsz : ∀ j, j < l.length → (wdN l j).size ≤ 100000 ∧ L (wdN l j) ≠ [] := by
    intro j hj
    have hm : L (wdN l j) ∈ l.map L := List.mem_of_getElem? (hw j hj)
    have := hs _ hm
    rw [← L_len]
    exact this
  have key : ∀ (o : Option Int) (tl : Nat → Int → Int → Int → Int → Int → Option Tr), 5 ≤ l.length → (∀ (y0 y1 y2 y3 y4 : Nat), Ev (fun k => tl k y0 y1 y2 y3 y4) (onO o rparseBad fun n => ((y0 : Int), (y1 : Int), (y2 : Int), (y3 : Int), (y4 : Int), star (L (wdN l 2)), star (L (wdN l 4)), n, true))) →
      (∀ k y0 y1 y2 y3 y4, rparseR5 k l y0 y1 y2 y3 y4 = tl k y0 y1 y2 y3 y4) → Ev (fun k => rparseR0 k l) (rrR (fiveS (L (wdN l 0)) (L (wdN l 1)) (L (wdN l 2)) (L (wdN l 3)) (L (wdN l 4)) o)) := by
    intro o tl h5 ht he
    have e : rrR (fiveS (L (wdN l 0)) (L (wdN l 1)) (L (wdN l 2)) (L (wdN l 3)) (L (wdN l 4)) o) = (onO (field 0 (L (wdN l 0))) rparseBad fun y0 => onO (field 1 (L (wdN l 1))) rparseBad fun y1 => onO (field 2 (L (wdN l 2))) rparseBad fun y2 => onO (field 3 (L (wdN l 3))) rparseBad fun y3 => onO (field 4 (L (wdN l 4))) rparseBad fun y4 => onO o rparseBad fun n => ((y0 : Int), (y1 : Int), (y2 : Int), (y3 : Int), (y4 : Int), star (L (wdN l 2)), star (L (wdN l 4)), n, true)) := by
      unfold fiveS
      cases field 0 (L (wdN l 0)) with
      | none => rfl
      | some y0 => cases field 1 (L (wdN l 1)) with
        | none => rfl
        | some y1 => cases field 2 (L (wdN l 2)) with
          | none => rfl
          | some y2 => cases field 3 (L (wdN l 3)) with
            | none => rfl
            | some y3 => cases field 4 (L (wdN l 4)) with
              | none => rfl
              | some y4 => cases o with
                | none => rfl
                | some n => rfl
    rw [e]
    unfold rparseR0
    refine fstep (ref_field 0 (by decide) _ (hsz 0 (by omega)).1) fun y0 _ => ?_
    unfold rparseR1
    refine fstep (ref_field 1 (by decide) _ (hsz 1 (by omega)).1) fun y1 _ => ?_
    unfold rparseR2
    refine fstep (ref_field 2 (by decide) _ (hsz 2 (by omega)).1) fun y2 _ => ?_
    unfold rparseR3
    refine fstep (ref_field 3 (by decide) _ (hsz 3 (by omega)).1) fun y3 _ => ?_
    unfold rparseR4
    refine fstep (ref_field 4 (by decide) _ (hsz 4 (by omega)).1) fun y4 _ => ?_
    exact Ev.congr (fun k => he k _ _ _ _ _) (ht y0 y1 y2 y3 y4)
  have s2 := star_bt (wdN l 2) (hsz 2 (by omega)).2
  have s4 := star_bt (wdN l 4) (hsz 4 (by omega)).2
  rcases h with h | h
  · match l, h with
    | [a, b, c, d, e], h =>
      refine key (some 0) (fun k y0 y1 y2 y3 y4 => some (y0, y1, y2, y3, y4, star (L c), star (L e), 0, true)) (by simp) (fun y0 y1 y2 y3 y4 => Ev.now _) ?_
      intro k y0 y1 y2 y3 y4
      unfold rparseR5
      rw [if_pos s2.2, if_pos s4.2, if_neg (by simp), s2.1, s4.1]
      rfl
  · match l, h with
    | [a, b, c, d, e, g], h =>
      refine key (ahead (L g)) (fun k y0 y1 y2 y3 y4 => (tompionref04_ahead.f k g).bind fun n => (if n.2 = true then (some (y0, y1, y2, y3, y4, star (L c), star (L e), n.1, true)) else (some rparseBad))) (by simp) (fun y0 y1 y2 y3 y4 => ?_) ?_
      · exact astep (R := fun n => ((y0 : Int), (y1 : Int), (y2 : Int), (y3 : Int), (y4 : Int), star (L c), star (L e), n, true)) (ref_ahead_ev g)
      · intro k y0 y1 y2 y3 y4
        unfold rparseR5
        rw [if_pos s2.2, if_pos s4.2, if_pos (by simp), s2.1, s4.1]
        rfl
theorem fieldsOf_none {l : List Bs} (h5 : l.length ≠ 5) (h6 : l.length ≠ 6) : fieldsOf l = none := by
  match l with
  | [] => rfl
  | [_] => rfl
  | [_, _] => rfl
  | [_, _, _] => rfl
  | [_, _, _, _] => rfl
  | [_, _, _, _, _] => exact absurd rfl h5
  | [_, _, _, _, _, _] => exact absurd rfl h6
  | _ :: _ :: _ :: _ :: _ :: _ :: _ :: _ => rfl
theorem prog_parse (s : ByteArray) (hs : s.size ≤ 100000) : Ev (fun k => cron_Parse.f k s) (prR (parse (L s))) := by
  obtain ⟨l, hl, he⟩ := prog_words s hs
  have hlen : l.length = (wordsB (L s)).length := by rw [← he, List.length_map]
  have hls := L_len s
  have e0 : ∀ k, cron_Parse.f k s = (if (s.size : Int) > 256 then (some parseBad) else (if (l.length : Int) < 5 then (some parseBad) else (if (l.length : Int) > 6 then (some parseBad) else (parseR0 k l)))) := by
    intro k
    unfold cron_Parse.f
    rw [hl]
    rfl
  refine Ev.congr e0 ?_
  unfold parse
  by_cases q : s.size > 256
  · rw [if_pos (by omega)]
    simp only [if_pos (show (s.size : Int) > 256 by omega)]
    exact Ev.now _
  · rw [if_neg (by omega)]
    simp only [if_neg (show ¬ (s.size : Int) > 256 by omega)]
    by_cases h5 : l.length < 5
    · simp only [if_pos (show (l.length : Int) < 5 by omega)]
      rw [← he, fieldsOf_none (by simp; omega) (by simp; omega)]
      exact Ev.now _
    · simp only [if_neg (show ¬ (l.length : Int) < 5 by omega)]
      by_cases h6 : l.length > 6
      · simp only [if_pos (show (l.length : Int) > 6 by omega)]
        rw [← he, fieldsOf_none (by simp; omega) (by simp; omega)]
        exact Ev.now _
      · simp only [if_neg (show ¬ (l.length : Int) > 6 by omega)]
        rw [← he]
        refine prog_fields l ?_ (by omega)
        rw [he]
        exact words_small (L s) 100000 (by omega)
theorem ref_parse (s : ByteArray) : Ev (fun k => tompionref04_Parse.f k s) (rrR (parse (L s))) := by
  have hls := L_len s
  unfold parse
  by_cases q : s.size > 256
  · rw [if_pos (by omega)]
    refine Ev.congr (f := fun _ => some rparseBad) (fun k => ?_) (Ev.now _)
    unfold tompionref04_Parse.f
    rw [if_pos (by omega)]
  · rw [if_neg (by omega)]
    obtain ⟨l, hl, h0, h1, he⟩ := ref_words s (by omega)
    refine Ev.congr (f := fun k => (tompionref04_split.f k (strOfNums ((GB.bytesI s).map tabI)) 32).bind fun l => (if 0 < l.length then (if l.length ≤ 1000 then (rparseW k (l.filter nonE)) else none) else none)) (fun k => ?_) (Ev.bind hl ?_)
    · unfold tompionref04_Parse.f
      rw [if_neg (by omega)]
    · simp only [if_pos h0, if_pos h1]
      have hlen : (l.filter nonE).length = (wordsB (L s)).length := by rw [← he, List.length_map]
      unfold rparseW
      have hsm : ∀ x ∈ (l.filter nonE).map L, x.length ≤ 100000 ∧ x ≠ [] := by rw [he]; exact words_small (L s) 100000 (by omega)
      by_cases h5 : (l.filter nonE).length = 5
      · simp only [if_pos h5]
        rw [← he]
        exact ref_fields _ hsm (Or.inl h5)
      · simp only [if_neg h5]
        by_cases h6 : (l.filter nonE).length = 6
        · simp only [if_pos h6]
          rw [← he]
          exact ref_fields _ hsm (Or.inr h6)
        · simp only [if_neg h6]
          rw [fieldsOf_none (by omega) (by omega)]
          exact Ev.now _
theorem prR_err (o : Option Sp) : (prR o).2.2.2.2.2.2.2.2 = if o.isSome then 0 else 7 := by cases o <;> rfl
theorem awake_f : tompionlaw04_awake.f = some true := rfl
/-- The law: the two say the same. -/
theorem cronParses : tompionlaw04_CronParses.Pure := by
  intro s _
  refine Ev.rounds ?_
  have key : ∀ b : Bool, b = decide ((s.size : Int) > 400) → Ev (fun k => tompionlaw04_CronParses.j0 k s b) true := by
    intro b hb
    by_cases h : (s.size : Int) > 400
    · rw [decide_eq_true h] at hb
      subst hb
      refine Ev.step (f := fun _ => some true) (fun k => ?_) (Ev.now _)
      simp only [tompionlaw04_CronParses.j0]
      rw [if_pos trivial, awake_f]
      rfl
    · rw [decide_eq_false h] at hb
      subst hb
      have hp := prog_parse s (by omega)
      have hr := ref_parse s
      have e : ∀ k, tompionlaw04_CronParses.j0 (k + 1) s false = ((cron_Parse.f k s).bind fun bt223 => ((tompionref04_Parse.f k s).bind fun bt233 => (if (bt223.1 == bt233.1 && (bt223.2.1 == bt233.2.1 && (bt223.2.2.1 == bt233.2.2.1 && (bt223.2.2.2.1 == bt233.2.2.2.1 && (bt223.2.2.2.2.1 == bt233.2.2.2.2.1 && (bt223.2.2.2.2.2.1 == bt233.2.2.2.2.2.1 && (bt223.2.2.2.2.2.2.1 == bt233.2.2.2.2.2.2.1 && (bt223.2.2.2.2.2.2.2.1 == bt233.2.2.2.2.2.2.2.1)))))))) = true then (if ((bt223.2.2.2.2.2.2.2.2 == 0) == bt233.2.2.2.2.2.2.2.2) = true then (if bt233.2.2.2.2.2.2.2.2 = true then (some true) else (some (bt223.2.2.2.2.2.2.2.2 == 7))) else (some false)) else (some false)))) := by
        intro k
        simp only [tompionlaw04_CronParses.j0]
        rw [if_neg (by decide)]
      refine Ev.step e (Ev.bind hp (Ev.bind hr ?_))
      cases parse (L s) with
      | none => exact Ev.congr (f := fun _ => some true) (fun k => by decide) (Ev.now _)
      | some x =>
        refine Ev.congr (f := fun _ => some true) (fun k => ?_) (Ev.now _)
        simp [prR, rrR]
  refine Ev.congr (fun k => ?_) (key _ rfl)
  unfold tompionlaw04_CronParses.f
  rw [awake_f]
  rfl
end Go.Proofs.YtmjfocfdbodmpaaDoor.CS
