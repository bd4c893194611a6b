/- The text of a spec, as a plain function; the program's Text answers so. -/
import Derived.Test.YtmjfocfdbodmpaaDoorX2
import Derived.Test.YtmjfocfdbodmpaaDoorX5
import Derived.Test.YtmjfocfdbodmpaaDoorX6
import Derived.Test.YtmjfocfdbodmpaaDoorCronP
namespace Go.Proofs.YtmjfocfdbodmpaaDoor.CS
open Go Go.RowKit Go.Proofs.YtmjfocfdbodmpaaDoorW.PrintWords Go.Proofs.YtmjfocfdbodmpaaDoor.X

def B (s : Bs) : ByteArray := ⟨⟨s⟩⟩
theorem L_B (s : Bs) : L (B s) = s := rfl
theorem B_L (x : ByteArray) : B (L x) = x := rfl
theorem of_L {x : ByteArray} {s : Bs} (h : L x = s) : x = B s := by rw [← h, B_L]
theorem B_size (s : Bs) : (B s).size = s.length := rfl
theorem B_nil (s : Bs) : B s = (⟨#[]⟩ : ByteArray) ↔ s = [] := by
  constructor
  · intro h
    have := congrArg L h
    exact this
  · rintro rfl; rfl

/-! ### joined by a byte -/
def inter (c : UInt8) (l : List Bs) : Bs := [c].intercalate l
theorem inter_one (c : UInt8) (x : Bs) : inter c [x] = x := by simp [inter, List.intercalate]
theorem inter_cons (c : UInt8) (x y : Bs) (l : List Bs) : inter c (x :: y :: l) = x ++ c :: inter c (y :: l) := by
  unfold inter
  simp [List.intercalate, List.intersperse]
theorem inter_snoc (c : UInt8) : ∀ (l : List Bs) (y : Bs), l ≠ [] → inter c (l ++ [y]) = inter c l ++ c :: y
  | [], _, h => absurd rfl h
  | [x], y, _ => by
    show inter c (x :: y :: []) = _
    rw [inter_cons, inter_one, inter_one]
  | x :: z :: l, y, _ => by
    have ih := inter_snoc c (z :: l) y (by simp)
    show inter c (x :: z :: (l ++ [y])) = _
    rw [inter_cons, inter_cons]
    rw [show z :: (l ++ [y]) = (z :: l) ++ [y] from rfl, ih]
    simp
theorem inter_len (c : UInt8) (m : Nat) : ∀ (l : List Bs), (∀ x ∈ l, x.length ≤ m) → (inter c l).length ≤ (m + 1) * l.length
  | [], _ => by simp [inter, List.intercalate]
  | [x], h => by
    rw [inter_one]
    have := h x (List.mem_cons_self ..)
    simp
    omega
  | x :: y :: l, h => by
    have h1 := h x (List.mem_cons_self ..)
    have ih := inter_len c m (y :: l) fun z hz => h z (List.mem_cons_of_mem _ hz)
    rw [inter_cons, List.length_append, List.length_cons]
    have e : (m + 1) * (x :: y :: l).length = (m + 1) * (y :: l).length + (m + 1) := by rw [List.length_cons (a := x), Nat.mul_add, Nat.mul_one]
    omega
theorem prog_join (c : UInt8) (l : List ByteArray) (hl : l.length ≤ 1000) (h : ∀ x ∈ l, x.size ≤ 1000) : strings_Join.f l (⟨#[c]⟩ : ByteArray) = some (B (inter c (l.map L))) := by
  have hlen := inter_len c 1000 (l.map L) (by
    intro x hx
    obtain ⟨y, hy, rfl⟩ := List.mem_map.1 hx
    rw [L_len]
    exact h y hy)
  rw [List.length_map] at hlen
  have hle : (1000 + 1) * l.length ≤ 1001 * 1000 := Nat.mul_le_mul_left _ hl
  unfold strings_Join.f
  rw [if_pos (by omega)]
  have e : Lib.join (l.map (·.data.toList)) (⟨#[c]⟩ : ByteArray).data.toList = inter c (l.map L) := rfl
  rw [e, if_pos (by omega)]
  rfl

/-! ### a number's digits, and a set's list -/
abbrev dec (n : Nat) : Bs := Lib.decDigits n
def d2 (n : Nat) : Bs := [UInt8.ofNat (48 + n / 10), UInt8.ofNat (48 + n % 10)]
theorem dec_small {n : Nat} (h : n < 10) : dec n = [UInt8.ofNat (48 + n)] := by
  unfold dec
  rw [Lib.decDigits, dif_pos h]
theorem dec_two {n : Nat} (h : 10 ≤ n) (h2 : n < 100) : dec n = d2 n := by
  unfold dec
  rw [Lib.decDigits, dif_neg (by omega), show Lib.decDigits (n / 10) = [UInt8.ofNat (48 + n / 10)] from dec_small (by omega)]
  rfl
theorem dec_len {n : Nat} (h : n < 100) : 1 ≤ (dec n).length ∧ (dec n).length ≤ 2 := by
  by_cases q : n < 10
  · rw [dec_small q]; simp
  · rw [dec_two (by omega) h]; simp [d2]
theorem itoa_dec (n : Nat) (h : n < 100) : strconv_Itoa.f (n : Int) = some (B (dec n)) := by
  unfold strconv_Itoa.f
  rw [if_pos (by omega), if_pos (by omega)]
  rfl
theorem two_d2 (n : Nat) (h : n < 100) : cron_two.f (n : Int) = some (B (d2 n)) := by
  unfold cron_two.f
  have e1 : wrap64 (48 + wrap64 (Int.tdiv (n : Int) 10)) % 256 = ((48 + n / 10 : Nat) : Int) := by
    rw [Int.tdiv_eq_ediv_of_nonneg (by omega)]
    unfold wrap64
    omega
  have e2 : wrap64 (48 + Int.tmod (n : Int) 10) % 256 = ((48 + n % 10 : Nat) : Int) := by
    rw [Int.tmod_eq_emod_of_nonneg (by omega)]
    unfold wrap64
    omega
  rw [e1, e2]
  rfl
theorem bit_at (x n : Nat) (hx : x < 2 ^ 64) (hn : n < 64) : (Go.bits .and .u64 (shr .u64 (x : Int) (n : Int)) 1 = 1) ↔ x.testBit n = true := by
  have e : shr .u64 (x : Int) (n : Int) = ((x / 2 ^ n : Nat) : Int) := by
    unfold shr
    have e : min (n : Int).toNat IntKind.u64.bits = n := by
      rw [Int.toNat_natCast]
      exact Nat.min_eq_left (by simp only [IntKind.bits]; omega)
    rw [e]
    push_cast
    rfl
  have h2 : x / 2 ^ n < 2 ^ 64 := Nat.lt_of_le_of_lt (Nat.div_le_self _ _) hx
  have h3 := band_nat (x / 2 ^ n) 1 h2 (by decide)
  rw [e, show (1 : Int) = ((1 : Nat) : Int) from rfl, h3, Nat.and_one_is_mod, Nat.testBit_eq_decide_div_mod_eq]
  simp only [decide_eq_true_eq]
  omega
/-- The numbers of a set, from one on. -/
def numsFrom (x : Nat) : Nat → Nat → List Nat
  | 0, _ => []
  | d + 1, n => if x.testBit n = true then n :: numsFrom x d (n + 1) else numsFrom x d (n + 1)
def listS (x : Nat) : Bs := inter 44 ((numsFrom x 64 0).map dec)
theorem list_ev (x : Nat) (hx : x < 2 ^ 64) : ∀ (d n : Nat) (l : List ByteArray), n + d = 64 → l.length ≤ n → (∀ y ∈ l, y.size ≤ 2) →
    Ev (fun k => cron_list.l0 k (x : Int) l (n : Int)) (B (inter 44 (l.map L ++ (numsFrom x d n).map dec))) := by
  intro d
  induction d with
  | zero =>
    intro n l hn hl hy
    refine Ev.step (f := fun _ => some (B (inter 44 (l.map L ++ (numsFrom x 0 n).map dec)))) (fun k => ?_) (Ev.now _)
    simp only [cron_list.l0]
    rw [if_neg (by omega), prog_join 44 l (by omega) (fun y h => Nat.le_trans (hy y h) (by decide))]
    simp [numsFrom]
  | succ d ih =>
    intro n l hn hl hy
    by_cases q : x.testBit n = true
    · have h2 := dec_len (n := n) (by omega)
      have hx' := ih (n + 1) (l ++ [B (dec n)]) (by omega) (by simp; omega) (by
        intro y h
        rcases List.mem_append.1 h with h | h
        · exact hy y h
        · rw [List.mem_singleton] at h
          rw [h, B_size]
          exact h2.2)
      have e : (l ++ [B (dec n)]).map L ++ (numsFrom x d (n + 1)).map dec = l.map L ++ (numsFrom x (d + 1) n).map dec := by
        rw [numsFrom, if_pos q]
        simp [L_B]
      rw [e] at hx'
      refine Ev.step (fun k => ?_) hx'
      simp only [cron_list.l0]
      rw [if_pos (by omega), if_pos (by omega), if_pos ((bit_at x n hx (by omega)).2 q), itoa_dec n (by omega), Option.bind_some, if_pos (by omega), wrap_id (by omega) (by omega)]
      push_cast
      rfl
    · have hx' := ih (n + 1) l (by omega) (by omega) hy
      have e : l.map L ++ (numsFrom x d (n + 1)).map dec = l.map L ++ (numsFrom x (d + 1) n).map dec := by
        rw [numsFrom, if_neg q]
      rw [e] at hx'
      refine Ev.step (fun k => ?_) hx'
      simp only [cron_list.l0]
      rw [if_pos (by omega), if_pos (by omega), if_neg (fun h => q ((bit_at x n hx (by omega)).1 h)), wrap_id (by omega) (by omega)]
      push_cast
      rfl
theorem cron_list_ev (x : Nat) (hx : x < 2 ^ 64) : Ev (fun k => cron_list.f k (x : Int)) (B (listS x)) := list_ev x hx 64 0 [] rfl (Nat.le_refl _) (by simp)

/-! ### a field that is any -/
/-- The first step from one on that gives a set. -/
def anyGo (f x : Nat) : Nat → Nat → Option Nat
  | 0, _ => none
  | d + 1, s => if x = full f s then some s else anyGo f x d (s + 1)
def anyT (o : Option Nat) : Bs := match o with | some s => [42, 47] ++ dec s | none => []
def anyS (f x : Nat) : Bs := if x = full f 1 then [42] else anyT (anyGo f x 98 2)
theorem L_app2 (a b : ByteArray) : L (a ++ b) = L a ++ L b := by simp [L, ByteArray.data_append]
theorem any_ev (f x : Nat) (hf : f < 5) : ∀ (d s : Nat), s + d = 100 → 2 ≤ s → Ev (fun k => cron_any.l0 k (f : Int) (x : Int) (s : Int)) (B (anyT (anyGo f x d s))) := by
  intro d
  induction d with
  | zero =>
    intro s hs h2
    refine Ev.step (f := fun _ => some (B [])) (fun k => ?_) (Ev.now _)
    simp only [cron_any.l0]
    rw [if_neg (by omega)]
    rfl
  | succ d ih =>
    intro s hs h2
    have e : ∀ k, cron_any.l0 (k + 1) (f : Int) (x : Int) (s : Int) = (cron_full.f k (f : Int) (s : Int)).bind fun t162 => (if (x : Int) = t162 then (some (B ([42, 47] ++ dec s))) else (cron_any.l0 k (f : Int) (x : Int) ((s + 1 : Nat) : Int))) := by
      intro k
      have hl := dec_len (n := s) (by omega)
      have hb : 2 + (B (dec s)).size ≤ 9223372036854775807 := by rw [B_size]; omega
      have hB : (⟨#[42, 47]⟩ : ByteArray) ++ B (dec s) = B ([42, 47] ++ dec s) := of_L (by rw [L_app2]; rfl)
      simp only [cron_any.l0]
      rw [if_pos (by omega), itoa_dec s (by omega), wrap_id (by omega) (by omega)]
      simp only [Option.bind_some, if_pos hb, hB]
      push_cast
      rfl
    refine Ev.step e (Ev.bind (cron_full_ev f s hf (by omega) (by omega)) ?_)
    by_cases q : x = full f s
    · rw [anyGo, if_pos q]
      exact Ev.congr (f := fun _ => some (B ([42, 47] ++ dec s))) (fun k => if_pos (by omega)) (Ev.now _)
    · rw [anyGo, if_neg q]
      exact Ev.congr (fun k => if_neg (by omega)) (ih (s + 1) (by omega) (by omega))
theorem cron_any_ev (f x : Nat) (hf : f < 5) : Ev (fun k => cron_any.f k (f : Int) (x : Int)) (B (anyS f x)) := by
  refine Ev.bind (cron_full_ev f 1 hf (Nat.le_refl _) (by decide)) ?_
  unfold anyS
  by_cases q : x = full f 1
  · rw [if_pos q]
    exact Ev.congr (f := fun _ => some (B [42])) (fun k => if_pos (by omega)) (Ev.now _)
  · rw [if_neg q]
    exact Ev.congr (fun k => if_neg (by omega)) (any_ev f x hf 98 2 rfl (Nat.le_refl _))

/-! ### the text -/
def wordS (f x : Nat) (an : Bool) : Bs := if an = true then anyS f x else listS x
theorem numsFrom_len (x : Nat) : ∀ (d n : Nat), (numsFrom x d n).length ≤ d ∧ ∀ m ∈ numsFrom x d n, n ≤ m ∧ m < n + d
  | 0, n => by simp [numsFrom]
  | d + 1, n => by
    have ih := numsFrom_len x d (n + 1)
    unfold numsFrom
    split
    · refine ⟨by simp; omega, fun m hm => ?_⟩
      rcases List.mem_cons.1 hm with rfl | hm
      · omega
      · have := ih.2 m hm; omega
    · exact ⟨by omega, fun m hm => by have := ih.2 m hm; omega⟩
theorem anyGo_range (f x : Nat) : ∀ (d s r : Nat), anyGo f x d s = some r → s ≤ r ∧ r < s + d ∧ x = full f r
  | 0, s, r, h => by cases h
  | d + 1, s, r, h => by
    unfold anyGo at h
    split at h
    · have := Option.some.inj h
      subst this
      exact ⟨Nat.le_refl _, by omega, by assumption⟩
    · have := anyGo_range f x d (s + 1) r h
      exact ⟨by omega, by omega, this.2.2⟩
theorem wordS_len (f x : Nat) (an : Bool) : (wordS f x an).length ≤ 192 := by
  unfold wordS
  split
  · unfold anyS
    split
    · simp
    · unfold anyT
      split
      · rename_i s hs
        have := anyGo_range f x 98 2 s hs
        have := dec_len (n := s) (by omega)
        simp; omega
      · simp
  · have h := numsFrom_len x 64 0
    have := inter_len 44 2 ((numsFrom x 64 0).map dec) (by
      intro y hy
      obtain ⟨m, hm, rfl⟩ := List.mem_map.1 hy
      have := h.2 m hm
      exact (dec_len (n := m) (by omega)).2)
    rw [List.length_map] at this
    unfold listS
    omega
theorem wordM_ev (f x : Nat) (an : Bool) (hf : f < 5) (hx : x < 2 ^ 64) : Ev (fun k => wordM k (f : Int) (x : Int) an) (B (wordS f x an)) := by
  refine Ev.bind (cron_list_ev x hx) ?_
  unfold wordS
  cases an with
  | true => simp only [if_true]; exact cron_any_ev f x hf
  | false => simp only [Bool.false_eq_true, if_false]; exact Ev.now _
/-- The sixth field's text. -/
def endS (n : Int) : List Bs := if 0 < n then [43 :: (d2 (n.natAbs / 60) ++ d2 (n.natAbs % 60))] else if n < 0 then [45 :: (d2 (n.natAbs / 60) ++ d2 (n.natAbs % 60))] else []
def textS (x0 x1 x2 x3 x4 : Nat) (a d : Bool) (n : Int) : Bs :=
  if wordS 0 x0 false = [] then [] else if wordS 1 x1 false = [] then [] else if wordS 2 x2 a = [] then [] else if wordS 3 x3 false = [] then [] else if wordS 4 x4 d = [] then [] else
  inter 32 ([wordS 0 x0 false, wordS 1 x1 false, wordS 2 x2 a, wordS 3 x3 false, wordS 4 x4 d] ++ endS n)
theorem textEnd_eq (n : Int) (h1 : -899 ≤ n) (h2 : n ≤ 899) (l : List ByteArray) (hl : l.length ≤ 10) (hy : ∀ y ∈ l, y.size ≤ 1000) : textEnd n l = some (B (inter 32 (l.map L ++ endS n))) := by
  have jn : ∀ (c : UInt8) (A : Nat), A ≤ 899 → strings_Join.f (l ++ [((⟨#[c]⟩ : ByteArray) ++ B (d2 (A / 60))) ++ B (d2 (A % 60))]) (⟨#[32]⟩ : ByteArray) = some (B (inter 32 (l.map L ++ [c :: (d2 (A / 60) ++ d2 (A % 60))]))) := by
    intro c A _
    have hL : L (((⟨#[c]⟩ : ByteArray) ++ B (d2 (A / 60))) ++ B (d2 (A % 60))) = c :: (d2 (A / 60) ++ d2 (A % 60)) := by
      rw [L_app2, L_app2]; rfl
    rw [prog_join 32 _ (by simp; omega) (by
      intro y h
      rcases List.mem_append.1 h with h | h
      · exact hy y h
      · rw [List.mem_singleton] at h
        rw [h, size_of_L hL]
        simp [d2])]
    rw [List.map_append, List.map_cons, hL]
    rfl
  unfold textEnd endS
  by_cases p : 0 < n
  · obtain ⟨A, rfl⟩ : ∃ A : Nat, n = (A : Int) := ⟨n.toNat, by omega⟩
    rw [if_pos p, if_pos p]
    have e1 : Int.tdiv (A : Int) 60 = ((A / 60 : Nat) : Int) := by rw [Int.tdiv_eq_ediv_of_nonneg (by omega)]; omega
    have e2 : Int.tmod (A : Int) 60 = ((A % 60 : Nat) : Int) := by rw [Int.tmod_eq_emod_of_nonneg (by omega)]; omega
    rw [e1, e2, two_d2 _ (by omega), two_d2 _ (by omega)]
    simp only [Option.bind_some, Int.natAbs_natCast]
    exact jn 43 A (by omega)
  · rw [if_neg p, if_neg p]
    by_cases m : n < 0
    · obtain ⟨A, rfl⟩ : ∃ A : Nat, n = -(A : Int) := ⟨n.natAbs, by omega⟩
      rw [if_pos m, if_pos m]
      have e1 : Int.tdiv (-(-(A : Int))) 60 = ((A / 60 : Nat) : Int) := by rw [Int.neg_neg, Int.tdiv_eq_ediv_of_nonneg (by omega)]; omega
      have e2 : Int.tmod (-(-(A : Int))) 60 = ((A % 60 : Nat) : Int) := by rw [Int.neg_neg, Int.tmod_eq_emod_of_nonneg (by omega)]; omega
      rw [e1, e2, two_d2 _ (by omega), two_d2 _ (by omega)]
      simp only [Option.bind_some, Int.natAbs_neg, Int.natAbs_natCast]
      exact jn 45 A (by omega)
    · rw [if_neg m, if_neg m, List.append_nil, prog_join 32 l (by omega) hy]
theorem wstep {F : Nat → ByteArray → Option ByteArray} {g : Nat → Option ByteArray} {w r : Bs} (hg : Ev g (B w)) (h : w ≠ [] → Ev (fun k => F k (B w)) (B r)) :
    Ev (fun k => (g k).bind fun t => if t = (⟨#[]⟩ : ByteArray) then some (⟨#[]⟩ : ByteArray) else F k t) (B (if w = [] then [] else r)) := by
  refine Ev.bind hg ?_
  by_cases q : w = []
  · rw [if_pos q]
    exact Ev.congr (f := fun _ => some (B [])) (fun k => if_pos ((B_nil w).2 q)) (Ev.now _)
  · rw [if_neg q]
    exact Ev.congr (fun k => if_neg (fun e => q ((B_nil w).1 e))) (h q)
theorem text_ev (x0 x1 x2 x3 x4 : Nat) (a d : Bool) (n : Int) (h0 : x0 < 2 ^ 64) (h1 : x1 < 2 ^ 64) (h2 : x2 < 2 ^ 64) (h3 : x3 < 2 ^ 64) (h4 : x4 < 2 ^ 64) (hn1 : -899 ≤ n) (hn2 : n ≤ 899) :
    Ev (fun k => textR0 k x0 x1 x2 x3 x4 a d n []) (B (textS x0 x1 x2 x3 x4 a d n)) := by
  have w0 := wordS_len 0 x0 false
  have w1 := wordS_len 1 x1 false
  have w2 := wordS_len 2 x2 a
  have w3 := wordS_len 3 x3 false
  have w4 := wordS_len 4 x4 d
  unfold textS textR0
  refine wstep (wordM_ev 0 x0 false (by decide) h0) fun _ => ?_
  unfold textR1
  refine wstep (wordM_ev 1 x1 false (by decide) h1) fun _ => ?_
  unfold textR2
  refine wstep (wordM_ev 2 x2 a (by decide) h2) fun _ => ?_
  unfold textR3
  refine wstep (wordM_ev 3 x3 false (by decide) h3) fun _ => ?_
  unfold textR4
  refine wstep (wordM_ev 4 x4 d (by decide) h4) fun _ => ?_
  unfold textR5
  refine Ev.congr (f := fun _ => some _) (fun k => ?_) (Ev.now _)
  rw [textEnd_eq n hn1 hn2 _ (by simp) (by
    intro y hy
    simp only [List.nil_append, List.cons_append, List.mem_cons, List.mem_nil_iff, or_false] at hy
    rcases hy with rfl | rfl | rfl | rfl | rfl <;> rw [B_size] <;> omega)]
  rfl
theorem prog_text (x0 x1 x2 x3 x4 : Nat) (a d : Bool) (n : Int) (h0 : x0 < 2 ^ 64) (h1 : x1 < 2 ^ 64) (h2 : x2 < 2 ^ 64) (h3 : x3 < 2 ^ 64) (h4 : x4 < 2 ^ 64) (hr : rightB x0 x1 x2 x3 x4 n = true) :
    Ev (fun k => cron_Text.f k x0 x1 x2 x3 x4 a d n) (B (textS x0 x1 x2 x3 x4 a d n)) := by
  have hb := right_bounds hr
  refine Ev.congr (fun k => ?_) (text_ev x0 x1 x2 x3 x4 a d n h0 h1 h2 h3 h4 hb.1 hb.2)
  unfold cron_Text.f
  rw [if_pos hr]
end Go.Proofs.YtmjfocfdbodmpaaDoor.CS
