/- Pieces, places and parts of a cron text: the program's functions and the reference's give the plain answers. -/
import Derived.Test.YtmjfocfdbodmpaaDoorX2
import Derived.Test.YtmjfocfdbodmpaaDoorX4
import Derived.Test.YtmjfocfdbodmpaaDoorX8
import Derived.Test.YtmjfocfdbodmpaaDoorX9
import Derived.Test.YtmjfocfdbodmpaaDoorCronB
namespace Go.Proofs.YtmjfocfdbodmpaaDoor.CS
open Go Go.RowKit Go.Proofs.YtmjfocfdbodmpaaDoorW.PrintWords Go.Proofs.YtmjfocfdbodmpaaDoor.X

/-! ### the library's split and cut -/
theorem prog_split (s : ByteArray) (hs : s.size ≤ 100000) : ∃ l, strings_Split.f s (⟨#[44]⟩ : ByteArray) = some l ∧ l.map L = spl 44 (L s) := by
  refine ⟨Lib.splitB ⟨#[44]⟩ 0 (Lib.countB s ⟨#[44]⟩) s, ?_, ?_⟩
  · show (if s.size < 4294967281 then some (Lib.splitB ⟨#[44]⟩ 0 (Lib.countB s ⟨#[44]⟩) s) else none) = _
    rw [if_pos (by omega)]
  · exact (Lib.splitB_data ⟨#[44]⟩ 0 _ s).trans (splitK_spl 44 _ (L s) (Nat.le_refl _))
theorem prog_cut (c : UInt8) (s : ByteArray) (hs : s.size ≤ 100000) : ∃ a b, strings_Cut.f s (⟨#[c]⟩ : ByteArray) = some (a, b, (cut c (L s)).2.2) ∧ L a = (cut c (L s)).1 ∧ L b = (cut c (L s)).2.1 := by
  have hi : stringslite_Index.f s (⟨#[c]⟩ : ByteArray) = some (Lib.indexByte (L s) c) := rfl
  have h1 : ((⟨#[c]⟩ : ByteArray).size : Int) = 1 := rfl
  simp only [strings_Cut.f, stringslite_Cut.f, hi, Option.bind_some, h1]
  have hl := L_len s
  rcases first_at c (L s) with h | ⟨p, r, e, h⟩
  · rw [indexByte_none _ c h, cut_none c _ h, if_neg (by decide)]
    exact ⟨s, ⟨#[]⟩, rfl, rfl, rfl⟩
  · have hp : p.length + 1 + r.length = s.size := by rw [← hl, e]; simp; omega
    rw [e, indexByte_at p r c h, cut_at c p r h, if_pos (by omega), if_pos (by omega), if_pos (by omega), wrap_id (by omega) (by omega), if_pos (by omega), if_pos (by omega)]
    refine ⟨_, _, rfl, ?_, ?_⟩
    · rw [L_extract, e]
      simp
    · rw [L_extract, e]
      have e2 : ((p.length : Int) + 1).toNat = p.length + 1 := by omega
      rw [e2, drop_at]
      exact List.take_of_length_le (by omega)

/-! ### the reference's split -/
theorem ref_split_ev (c : UInt8) (s : ByteArray) (hs : s.size ≤ 100000) : ∀ (d i a : Nat) (out : List ByteArray), i + d = s.size → a ≤ i → out.length ≤ i → c ∉ ((L s).drop a).take (i - a) →
    ∃ r, Ev (fun k => tompionref04_split.l0 k s (c.toNat : Int) out (a : Int) (i : Int)) (out ++ r) ∧ r.map L = spl c ((L s).drop a) := by
  have hl := L_len s
  intro d
  induction d with
  | zero =>
    intro i a out hi ha ho hc
    have hi' : i = s.size := by omega
    subst hi'
    have e : ((L s).drop a).take (s.size - a) = (L s).drop a := List.take_of_length_le (by simp [hl])
    rw [e] at hc
    refine ⟨[s.extract a s.size], ?_, ?_⟩
    · refine Ev.step (f := fun k => tompionref04_split.l0 k s (c.toNat : Int) (out ++ [s.extract a s.size]) (wrap64 ((s.size : Int) + 1)) (wrap64 ((s.size : Int) + 1))) (fun k => ?_) (Ev.step (f := fun _ => some (out ++ [s.extract a s.size])) (fun k => ?_) (Ev.now _))
      · simp only [tompionref04_split.l0]
        rw [if_pos (by omega), if_pos trivial, if_pos (by omega), if_pos (by omega), if_pos (by omega)]
        rfl
      · simp only [tompionref04_split.l0]
        rw [wrap_id (by omega) (by omega), if_neg (by omega)]
    · rw [List.map_cons, List.map_nil, L_extract, e, spl_none c _ hc]
  | succ d ih =>
    intro i a out hi ha ho hc
    have hlt : i < (L s).length := by omega
    have hb := bt_L s i hlt
    have hd : (L s).drop a = ((L s).drop a).take (i - a) ++ (L s)[i] :: (L s).drop (i + 1) := by
      have h1 : ((L s).drop a).drop (i - a) = (L s).drop i := by rw [List.drop_drop]; congr 1; omega
      have h2 := (List.take_append_drop (i - a) ((L s).drop a)).symm
      rw [h1, List.drop_eq_getElem_cons hlt] at h2
      exact h2
    by_cases q : (L s)[i] = c
    · obtain ⟨r, hr, hm⟩ := ih (i + 1) (i + 1) (out ++ [s.extract a i]) (by omega) (Nat.le_refl _) (by simp; omega) (by simp)
      refine ⟨s.extract a i :: r, ?_, ?_⟩
      · rw [show out ++ s.extract a i :: r = out ++ [s.extract a i] ++ r by simp]
        refine Ev.step (fun k => ?_) hr
        simp only [tompionref04_split.l0]
        rw [if_pos (by omega), if_neg (by omega), if_pos (by omega), if_pos (by omega), hb, q, if_pos rfl, if_pos (by omega), if_pos (by omega), if_pos (by omega), wrap_id (by omega) (by omega)]
        push_cast
        rfl
      · rw [List.map_cons, hm, L_extract, hd, q, spl_at c _ _ hc]
        congr 1
        rw [← q, ← hd]
    · obtain ⟨r, hr, hm⟩ := ih (i + 1) a out (by omega) (by omega) (by omega) (by
        have h1 : ((L s).drop a).take (i + 1 - a) = ((L s).drop a).take (i - a) ++ [(L s)[i]] := by
          have hlt' : i - a < ((L s).drop a).length := by simp; omega
          rw [show i + 1 - a = (i - a) + 1 by omega, List.take_succ_eq_append_getElem hlt']
          congr 2
          simp
          congr 1
          omega
        rw [h1]
        simp only [List.mem_append, List.mem_singleton, not_or]
        exact ⟨hc, fun e => q e.symm⟩)
      refine ⟨r, ?_, hm⟩
      refine Ev.step (fun k => ?_) hr
      have q' : ¬ ((L s)[i].toNat : Int) = (c.toNat : Int) := fun e => q (UInt8.toNat_inj.mp (by omega))
      simp only [tompionref04_split.l0]
      rw [if_pos (by omega), if_neg (by omega), if_pos (by omega), if_pos (by omega), hb, if_neg q', wrap_id (by omega) (by omega)]
      push_cast
      rfl
theorem ref_split (c : UInt8) (s : ByteArray) (hs : s.size ≤ 100000) : ∃ l, Ev (fun k => tompionref04_split.f k s (c.toNat : Int)) l ∧ l.map L = spl c (L s) := by
  obtain ⟨r, h, e⟩ := ref_split_ev c s hs s.size 0 0 [] (by omega) (Nat.le_refl _) (Nat.le_refl _) (by simp)
  exact ⟨r, h, e⟩

/-! ### letters -/
def lowC (c : UInt8) : UInt8 := UInt8.ofNat (lowI (c.toNat : Int)).toNat
theorem all_bytes {P : UInt8 → Prop} (h : ∀ n : Fin 256, P (UInt8.ofNat n.val)) (c : UInt8) : P c := by
  have := h ⟨c.toNat, c.toNat_lt⟩
  rwa [show UInt8.ofNat (⟨c.toNat, c.toNat_lt⟩ : Fin 256).val = c from by simp] at this
theorem small_low (c : UInt8) : UInt8.ofNat (smallI (c.toNat : Int)).toNat = lowC c := by
  revert c
  refine all_bytes ?_
  decide +kernel
theorem L_nums (xs : List Int) : L (strOfNums xs) = xs.map fun n => UInt8.ofNat n.toNat := by simp [L, strOfNums]
theorem prog_lower (s : ByteArray) (hs : s.size ≤ 100000) : ∃ t, cron_lower.f s = some t ∧ L t = (L s).map lowC := by
  refine ⟨_, by unfold cron_lower.f; rw [if_pos (by omega)], ?_⟩
  rw [L_nums]
  simp only [GB.bytesI, List.map_map, L]
  rfl
theorem ref_small (s : ByteArray) (hs : s.size ≤ 100000) : ∃ t, tompionref04_small.f s = some t ∧ L t = (L s).map lowC := by
  refine ⟨_, by unfold tompionref04_small.f; rw [if_pos (by omega)], ?_⟩
  rw [L_nums]
  simp only [GB.bytesI, List.map_map, L]
  congr 1
  funext c
  exact small_low c

/-! ### places -/
def ix : List Bs → Bs → Option Nat
  | [], _ => none
  | a :: t, s => if s = a then some 0 else (ix t s).map (· + 1)
def names (f : Nat) : List Bs := match f with
  | 3 => [[106, 97, 110], [102, 101, 98], [109, 97, 114], [97, 112, 114], [109, 97, 121], [106, 117, 110], [106, 117, 108], [97, 117, 103], [115, 101, 112], [111, 99, 116], [110, 111, 118], [100, 101, 99]]
  | 4 => [[115, 117, 110], [109, 111, 110], [116, 117, 101], [119, 101, 100], [116, 104, 117], [102, 114, 105], [115, 97, 116]]
  | _ => []
def numIn (f : Nat) (s : Bs) : Option Nat := match num s with | some n => if lo f ≤ n then (if n ≤ hi f then some n else none) else none | none => none
def place (f : Nat) (s : Bs) : Option Nat := match ix (names f) (s.map lowC) with | some i => some (lo f + i) | none => numIn f s
def dictO (o : Option Nat) (l : Int) : Option Int := o.map fun i => l + (i : Int)
theorem dict3 (t : Bs) : dictF 1 (⟨#[106, 97, 110, 102, 101, 98, 109, 97, 114, 97, 112, 114, 109, 97, 121, 106, 117, 110, 106, 117, 108, 97, 117, 103, 115, 101, 112, 111, 99, 116, 110, 111, 118, 100, 101, 99]⟩ : ByteArray) 12 t = dictO (ix (names 3) t) 1 := by
  by_cases h0 : t = [106, 97, 110]; · subst h0; decide +kernel
  by_cases h1 : t = [102, 101, 98]; · subst h1; decide +kernel
  by_cases h2 : t = [109, 97, 114]; · subst h2; decide +kernel
  by_cases h3 : t = [97, 112, 114]; · subst h3; decide +kernel
  by_cases h4 : t = [109, 97, 121]; · subst h4; decide +kernel
  by_cases h5 : t = [106, 117, 110]; · subst h5; decide +kernel
  by_cases h6 : t = [106, 117, 108]; · subst h6; decide +kernel
  by_cases h7 : t = [97, 117, 103]; · subst h7; decide +kernel
  by_cases h8 : t = [115, 101, 112]; · subst h8; decide +kernel
  by_cases h9 : t = [111, 99, 116]; · subst h9; decide +kernel
  by_cases h10 : t = [110, 111, 118]; · subst h10; decide +kernel
  by_cases h11 : t = [100, 101, 99]; · subst h11; decide +kernel
  have e : ix (names 3) t = none := by simp [ix, names, h0, h1, h2, h3, h4, h5, h6, h7, h8, h9, h10, h11]
  rw [e]
  unfold dictF; rw [if_neg (by exact h11)]
  unfold dictF; rw [if_neg (by exact h10)]
  unfold dictF; rw [if_neg (by exact h9)]
  unfold dictF; rw [if_neg (by exact h8)]
  unfold dictF; rw [if_neg (by exact h7)]
  unfold dictF; rw [if_neg (by exact h6)]
  unfold dictF; rw [if_neg (by exact h5)]
  unfold dictF; rw [if_neg (by exact h4)]
  unfold dictF; rw [if_neg (by exact h3)]
  unfold dictF; rw [if_neg (by exact h2)]
  unfold dictF; rw [if_neg (by exact h1)]
  unfold dictF; rw [if_neg (by exact h0)]
  rfl
theorem dict4 (t : Bs) : dictF 0 (⟨#[115, 117, 110, 109, 111, 110, 116, 117, 101, 119, 101, 100, 116, 104, 117, 102, 114, 105, 115, 97, 116]⟩ : ByteArray) 7 t = dictO (ix (names 4) t) 0 := by
  by_cases h0 : t = [115, 117, 110]; · subst h0; decide +kernel
  by_cases h1 : t = [109, 111, 110]; · subst h1; decide +kernel
  by_cases h2 : t = [116, 117, 101]; · subst h2; decide +kernel
  by_cases h3 : t = [119, 101, 100]; · subst h3; decide +kernel
  by_cases h4 : t = [116, 104, 117]; · subst h4; decide +kernel
  by_cases h5 : t = [102, 114, 105]; · subst h5; decide +kernel
  by_cases h6 : t = [115, 97, 116]; · subst h6; decide +kernel
  have e : ix (names 4) t = none := by simp [ix, names, h0, h1, h2, h3, h4, h5, h6]
  rw [e]
  unfold dictF; rw [if_neg (by exact h6)]
  unfold dictF; rw [if_neg (by exact h5)]
  unfold dictF; rw [if_neg (by exact h4)]
  unfold dictF; rw [if_neg (by exact h3)]
  unfold dictF; rw [if_neg (by exact h2)]
  unfold dictF; rw [if_neg (by exact h1)]
  unfold dictF; rw [if_neg (by exact h0)]
  rfl
theorem prog_dict (f : Nat) (hf : f < 5) (t : Bs) : ∃ b, cron_bounds.f (f : Int) = some b ∧ b.1 = ((lo f : Nat) : Int) ∧ b.2.1 = ((hi f : Nat) : Int) ∧ dictF b.1 b.2.2 (b.2.2.size / 3) t = dictO (ix (names f) t) b.1 := by
  rcases five f hf with rfl | rfl | rfl | rfl | rfl
  · exact ⟨_, rfl, rfl, rfl, rfl⟩
  · exact ⟨_, rfl, rfl, rfl, rfl⟩
  · exact ⟨_, rfl, rfl, rfl, rfl⟩
  · exact ⟨_, rfl, rfl, rfl, dict3 t⟩
  · exact ⟨_, rfl, rfl, rfl, dict4 t⟩
theorem prog_place (f : Nat) (hf : f < 5) (s : ByteArray) (hs : s.size ≤ 100000) : ∃ v, Ev (fun k => cron_place.f k (f : Int) s) (v, (place f (L s)).isSome) ∧ ∀ n, place f (L s) = some n → v = (n : Int) := by
  obtain ⟨t, ht, hL⟩ := prog_lower s hs
  obtain ⟨b, hb, h1, h2, h3⟩ := prog_dict f hf (L t)
  have hd := digits_ev s
  cases hi' : ix (names f) (L t) with
  | some i =>
    rw [hi'] at h3
    have hp : place f (L s) = some (lo f + i) := by unfold place; rw [← hL, hi']
    refine ⟨((lo f + i : Nat) : Int), ?_, fun n hn => by rw [hp] at hn; rw [Option.some.inj hn]⟩
    refine Ev.congr (f := fun _ => some (((lo f + i : Nat) : Int), true)) (fun k => ?_) (by rw [hp]; exact Ev.now _)
    unfold cron_place.f
    rw [hb, Option.bind_some, ht, Option.bind_some]
    show (if (dictF b.1 b.2.2 (b.2.2.size / 3) (L t)).isSome = true then some ((dictF b.1 b.2.2 (b.2.2.size / 3) (L t)).getD 0, true) else _) = _
    rw [h3, if_pos (show (dictO (some i) b.1).isSome = true from rfl), h1]
    simp [dictO]
  | none =>
    rw [hi'] at h3
    have hp : place f (L s) = numIn f (L s) := by unfold place; rw [← hL, hi']
    rw [hp]
    have key : ∀ (k : Nat), cron_place.f k (f : Int) s = (cron_digits.f k s).bind fun t => (if t.2 = true then (if t.1 ≥ b.1 then some (t.1, decide (t.1 ≤ b.2.1)) else some (t.1, false)) else some (t.1, false)) := by
      intro k
      unfold cron_place.f
      rw [hb, Option.bind_some, ht, Option.bind_some]
      show (if (dictF b.1 b.2.2 (b.2.2.size / 3) (L t)).isSome = true then some ((dictF b.1 b.2.2 (b.2.2.size / 3) (L t)).getD 0, true) else _) = _
      rw [h3, if_neg (by simp [dictO])]
    refine ⟨(numR (num (L s))).1, Ev.congr key (Ev.bind hd ?_), ?_⟩
    · cases hn : num (L s) with
      | none => simp only [numR, numIn, hn]; exact Ev.now _
      | some n =>
        simp only [numR, numIn, hn, if_true, h1, h2]
        by_cases q1 : lo f ≤ n
        · rw [if_pos (by omega)]
          by_cases q2 : n ≤ hi f
          · rw [if_pos q1, if_pos q2, decide_eq_true (by omega)]; exact Ev.now _
          · rw [if_pos q1, if_neg q2, decide_eq_false (by omega)]; exact Ev.now _
        · rw [if_neg (by omega), if_neg q1]; exact Ev.now _
    · intro n hn
      unfold numIn at hn
      cases hm : num (L s) with
      | none => rw [hm] at hn; cases hn
      | some m =>
        rw [hm] at hn
        simp only at hn
        split at hn
        · split at hn
          · rw [← Option.some.inj hn]; rfl
          · cases hn
        · cases hn
theorem ref_names (f : Nat) (hf : f < 5) : ∃ l, tompionref04_names.f (f : Int) = some l ∧ l.map L = names f ∧ l.length ≤ 12 := by
  rcases five f hf with rfl | rfl | rfl | rfl | rfl
  · exact ⟨_, rfl, rfl, by decide⟩
  · exact ⟨_, rfl, rfl, by decide⟩
  · exact ⟨_, rfl, rfl, by decide⟩
  · exact ⟨_, rfl, rfl, by decide⟩
  · exact ⟨_, rfl, rfl, by decide⟩
theorem place_range {f n : Nat} {s : Bs} (hf : f < 5) (h : place f s = some n) : lo f ≤ n ∧ n ≤ hi f := by
  unfold place at h
  split at h
  · rename_i i hi'
    have hlt : i < (names f).length := by
      have gen : ∀ (l : List Bs) (t : Bs) (i : Nat), ix l t = some i → i < l.length := by
        intro l
        induction l with
        | nil => intro t i h; cases h
        | cons a l ih =>
          intro t i h
          unfold ix at h
          split at h
          · rw [← Option.some.inj h]; simp
          · cases hq : ix l t with
            | none => rw [hq] at h; cases h
            | some j =>
              rw [hq] at h
              have := ih t j hq
              have e : j + 1 = i := Option.some.inj h
              simp
              omega
      exact gen _ _ _ hi'
    have e := Option.some.inj h
    rcases five f hf with rfl | rfl | rfl | rfl | rfl <;> simp [names, lo, hi] at hlt e ⊢ <;> omega
  · unfold numIn at h
    split at h
    · split at h
      · split at h
        · rename_i h1 h2
          rw [← Option.some.inj h]
          exact ⟨h1, h2⟩
        · cases h
      · cases h
    · cases h
theorem ref_place_ev (f : Nat) (hf : f < 5) (s t : ByteArray) (ht : tompionref04_small.f s = some t) (l : List ByteArray) (hl : l.length ≤ 12) : ∀ (d i : Nat), i + d = l.length →
    Ev (fun k => tompionref04_place.l0 k (f : Int) s l (i : Int)) (numQ (match ix ((l.map L).drop i) (L t) with | some j => some (lo f + i + j) | none => numIn f (L s))) := by
  intro d
  induction d with
  | zero =>
    intro i hi'
    have e : (l.map L).drop i = [] := List.drop_eq_nil_of_le (by simp; omega)
    rw [e]
    refine Ev.step (f := fun k => (tompionref04_number.f k s).bind fun t193 => ((tompionref04_low.f f).bind fun t194 => (if t193 < t194 then (some (-1)) else ((tompionref04_high.f f).bind fun t195 => (if t193 > t195 then (some (-1)) else (some t193)))))) (fun k => ?_) (Ev.bind (number_ev s) ?_)
    · simp only [tompionref04_place.l0]
      rw [if_neg (by omega)]
    · rw [ref_low f hf, ref_high f hf]
      simp only [Option.bind_some, ix]
      cases hn : num (L s) with
      | none =>
        have r : numIn f (L s) = none := by simp [numIn, hn]
        rw [r]
        show Ev (fun _ => if (-1 : Int) < ((lo f : Nat) : Int) then some (-1 : Int) else (if (-1 : Int) > ((hi f : Nat) : Int) then some (-1) else some (-1))) (-1)
        rw [if_pos (by omega)]
        exact Ev.now _
      | some n =>
        have r : numIn f (L s) = if lo f ≤ n then (if n ≤ hi f then some n else none) else none := by simp [numIn, hn]
        rw [r]
        show Ev (fun _ => if (n : Int) < ((lo f : Nat) : Int) then some (-1 : Int) else (if (n : Int) > ((hi f : Nat) : Int) then some (-1) else some (n : Int))) _
        by_cases q1 : lo f ≤ n
        · rw [if_neg (by omega), if_pos q1]
          by_cases q2 : n ≤ hi f
          · rw [if_neg (by omega), if_pos q2]; exact Ev.now _
          · rw [if_pos (by omega), if_neg q2]; exact Ev.now _
        · rw [if_pos (by omega), if_neg q1]; exact Ev.now _
  | succ d ih =>
    intro i hi'
    have hlt : i < l.length := by omega
    have hd : (l.map L).drop i = L l[i] :: (l.map L).drop (i + 1) := by
      rw [List.drop_eq_getElem_cons (by simpa using hlt)]
      simp
    have hr : rdOf ByteArray.empty l (i : Int) = l[i] := by simp [rdOf, hlt]
    have h2 := lo_le f
    rw [hd]
    by_cases q : L t = L l[i]
    · refine Ev.step (f := fun _ => some ((lo f + i : Nat) : Int)) (fun k => ?_) (by rw [ix, if_pos q]; simp only [numQ, Nat.add_zero]; exact Ev.now _)
      simp only [tompionref04_place.l0]
      rw [if_pos (by omega), ht, Option.bind_some, if_pos (by omega), hr, L_toList, L_toList, if_pos q, ref_low f hf, Option.bind_some, wrap_id (by omega) (by omega)]
      push_cast
      rfl
    · have hx := ih (i + 1) (by omega)
      have e : (match ix (L l[i] :: (l.map L).drop (i + 1)) (L t) with | some j => some (lo f + i + j) | none => numIn f (L s)) = (match ix ((l.map L).drop (i + 1)) (L t) with | some j => some (lo f + (i + 1) + j) | none => numIn f (L s)) := by
        rw [ix, if_neg q]
        cases ix ((l.map L).drop (i + 1)) (L t) with
        | none => rfl
        | some j => simp; omega
      rw [e]
      refine Ev.step (fun k => ?_) hx
      simp only [tompionref04_place.l0]
      rw [if_pos (by omega), ht, Option.bind_some, if_pos (by omega), hr, L_toList, L_toList, if_neg q, wrap_id (by omega) (by omega)]
      push_cast
      rfl
theorem ref_place (f : Nat) (hf : f < 5) (s : ByteArray) (hs : s.size ≤ 100000) : Ev (fun k => tompionref04_place.f k (f : Int) s) (numQ (place f (L s))) := by
  obtain ⟨t, ht, hL⟩ := ref_small s hs
  obtain ⟨l, hl, hn, hlen⟩ := ref_names f hf
  have h := ref_place_ev f hf s t ht l hlen l.length 0 (by omega)
  rw [List.drop_zero, hn, hL] at h
  refine Ev.congr (fun k => ?_) h
  · unfold tompionref04_place.f
    rw [hl]
    rfl
end Go.Proofs.YtmjfocfdbodmpaaDoor.CS
