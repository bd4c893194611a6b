/- Blocks of bytes that a conversion of a string has made: what their cells hold, behind stores and behind what leaves them alone. -/
import Derived.Test.YtmjfocfdbodmpaaDoorWWords
import Derived.Lib.ConvBytes
namespace Go.Proofs.YtmjfocfdbodmpaaDoor.GB
open Go.RowKit Go.Proofs.YtmjfocfdbodmpaaDoorW.PrintWords

/-- A string's bytes as numbers. -/
def bytesI (s : ByteArray) : List Int := s.data.toList.map fun c => (c.toNat : Int)
theorem bytesI_len (s : ByteArray) : (bytesI s).length = s.size := by simp [bytesI]
/-- Block b holds these numbers, from its beginning on; none of these cells is frozen. -/
structure IsBytes (w : World) (b : Nat) (xs : List Int) : Prop where
  lt : b < w.heap.size
  cell : ∀ j, j < xs.length → w.cell? ⟨b, j, none⟩ = some (.int .u8 (xs.getD j 0))
  free : ∀ j, j < xs.length → w.frozen? ⟨b, j, none⟩ = false
theorem IsBytes.new (w : World) (e : TypeId) (s : ByteArray) : IsBytes (Lib.bytesWorld w e s) w.heap.size (bytesI s) := by
  refine ⟨by rw [Lib.bytesWorld_size]; omega, fun j hj => ?_, fun j hj => ?_⟩
  · rw [bytesI_len] at hj
    rw [Lib.bytesWorld_cell w e s j hj]
    simp [bytesI, List.getD_eq_getElem?_getD, hj]
  · rw [bytesI_len] at hj
    have hc : j < (Lib.bytesCells w e s).size := by simp [Lib.bytesCells]; omega
    simp [World.frozen?, Lib.bytesWorld_at_new]
    omega
theorem IsBytes.below {w w' : World} {b : Nat} {xs : List Int} (h : IsBytes w b xs) (hb : Below w.heap.size w w') : IsBytes w' b xs :=
  ⟨Nat.lt_of_lt_of_le h.lt hb.size, fun j hj => (hb.cell (p := ⟨b, j, none⟩) h.lt).trans (h.cell j hj), fun j hj => (hb.frozen (p := ⟨b, j, none⟩) h.lt).trans (h.free j hj)⟩
theorem IsBytes.set {w : World} {b : Nat} {xs : List Int} (h : IsBytes w b xs) (i : Nat) (x : Int) : IsBytes (w.setCell ⟨b, i, none⟩ (.int .u8 x)) b (xs.set i x) := by
  refine ⟨by rw [World.size_setCell]; exact h.lt, fun j hj => ?_, fun j hj => ?_⟩
  · rw [List.length_set] at hj
    by_cases e : i = j
    · subst e
      rw [World.cell?_setCell_same _ _ _ (h.cell i hj)]
      simp [List.getD_eq_getElem?_getD, hj]
    · rw [World.cell?_setCell_other _ _ _ _ (fun q => e (by injection q)), h.cell j hj]
      simp [List.getD_eq_getElem?_getD, e]
  · rw [List.length_set] at hj
    rw [World.frozen?_setCell]; exact h.free j hj
theorem IsBytes.reads {w : World} {b : Nat} {xs : List Int} (h : IsBytes w b xs) (hn : xs.length ≤ 9223372036854775807) : ReadsInt w .u8 (some ⟨b, 0, none⟩) xs.length xs := by
  refine ⟨rfl, hn, fun _ => ⟨⟨b, 0, none⟩, rfl, fun j hj => ?_⟩⟩
  have e : (⟨b, 0, none⟩ : Addr).add j = ⟨b, j, none⟩ := by
    unfold Addr.add
    split
    · rename_i z; rw [z]
    · simp
  rw [e]; exact h.cell j hj
theorem below_bytes (w : World) (e : TypeId) (s : ByteArray) : Below w.heap.size w (Lib.bytesWorld w e s) := by
  exact ⟨rfl, rfl, rfl, by rw [Lib.bytesWorld_size]; omega, fun k hk => Lib.bytesWorld_at_old w e s k hk⟩

/-- What stands behind k rounds of a loop that turns byte by byte. -/
def part (f : Int → Int) (xs : List Int) (k : Nat) : List Int := (xs.take k).map f ++ xs.drop k
theorem part_len (f : Int → Int) (xs : List Int) (k : Nat) (h : k ≤ xs.length) : (part f xs k).length = xs.length := by
  simp [part]; omega
theorem part_zero (f : Int → Int) (xs : List Int) : part f xs 0 = xs := by simp [part]
theorem part_all (f : Int → Int) (xs : List Int) : part f xs xs.length = xs.map f := by simp [part]
theorem part_at (f : Int → Int) (xs : List Int) (k : Nat) (h : k < xs.length) : (part f xs k).getD k 0 = xs.getD k 0 := by
  unfold part
  rw [List.getD_eq_getElem?_getD, List.getD_eq_getElem?_getD, List.getElem?_append_right (by simp; omega)]
  simp [List.getElem?_drop]
  congr 2; omega
theorem part_set (f : Int → Int) (xs : List Int) (k : Nat) (h : k < xs.length) : (part f xs k).set k (f (xs.getD k 0)) = part f xs (k + 1) := by
  unfold part
  have e1 : ((xs.take k).map f).length = k := by simp; omega
  rw [List.set_append_right _ _ (by omega), e1, Nat.sub_self, List.take_succ_eq_append_getElem h, List.map_append, List.drop_eq_getElem_cons h]
  rw [List.set_cons_zero, List.getD_eq_getElem?_getD, List.getElem?_eq_getElem h]
  simp
theorem part_keep (f : Int → Int) (xs : List Int) (k : Nat) (h : k < xs.length) (e : f (xs.getD k 0) = xs.getD k 0) : part f xs (k + 1) = part f xs k := by
  rw [← part_set f xs k h, e]
  apply List.ext_getElem?
  intro i
  by_cases q : k = i
  · subst q
    rw [List.getElem?_set_self (by rw [part_len f xs k (by omega)]; exact h)]
    have := part_at f xs k h
    rw [List.getD_eq_getElem?_getD, List.getElem?_eq_getElem (by rw [part_len f xs k (by omega)]; exact h)] at this
    rw [List.getElem?_eq_getElem (by rw [part_len f xs k (by omega)]; exact h)]
    simp only [Option.getD_some] at this
    rw [this]
  · rw [List.getElem?_set_ne q]
theorem bytesI_range (s : ByteArray) (k : Nat) : 0 ≤ (bytesI s).getD k 0 ∧ (bytesI s).getD k 0 ≤ 255 := by
  rw [List.getD_eq_getElem?_getD]
  unfold bytesI
  rw [List.getElem?_map]
  cases h : s.data.toList[k]? with
  | none => simp
  | some c => simp; have := c.toNat_lt; omega
/-- A block of eight cells, laid open. -/
theorem cells8 {w : World} {g : Nat} {t : TypeId} {c0 c1 c2 c3 c4 c5 c6 c7 : Value} (h : w.heap[g]? = some (.cells #[c0, c1, c2, c3, c4, c5, c6, c7] t (0, 0))) :
    w.cell? ⟨g, 0, none⟩ = some c0 ∧ w.cell? ⟨g, 1, none⟩ = some c1 ∧ w.cell? ⟨g, 2, none⟩ = some c2 ∧ w.cell? ⟨g, 3, none⟩ = some c3 ∧ w.cell? ⟨g, 4, none⟩ = some c4 ∧ w.cell? ⟨g, 5, none⟩ = some c5 ∧ w.cell? ⟨g, 6, none⟩ = some c6 ∧ w.cell? ⟨g, 7, none⟩ = some c7 ∧ w.frozen? ⟨g, 0, none⟩ = false ∧ w.frozen? ⟨g, 1, none⟩ = false ∧ w.frozen? ⟨g, 2, none⟩ = false ∧ w.frozen? ⟨g, 3, none⟩ = false ∧ w.frozen? ⟨g, 4, none⟩ = false ∧ w.frozen? ⟨g, 5, none⟩ = false ∧ w.frozen? ⟨g, 6, none⟩ = false ∧ w.frozen? ⟨g, 7, none⟩ = false :=
  ⟨blk_cell h 0, blk_cell h 1, blk_cell h 2, blk_cell h 3, blk_cell h 4, blk_cell h 5, blk_cell h 6, blk_cell h 7, blk_frozen h 0, blk_frozen h 1, blk_frozen h 2, blk_frozen h 3, blk_frozen h 4, blk_frozen h 5, blk_frozen h 6, blk_frozen h 7⟩
end Go.Proofs.YtmjfocfdbodmpaaDoor.GB
