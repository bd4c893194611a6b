/- The statement CronTexts is proved: any spec is right, and has the text, that the document says. Conditions: none beyond the row's own (the tables of Go's library start as its text lays them). -/
import Derived.Test.YtmjfocfdbodmpaaDoorRows
import Derived.Test.YtmjfocfdbodmpaaDoorCronV
import Derived.Test.YtmjfocfdbodmpaaDoorCards
import Derived.Test.YtmjfocfdbodmpaaDoorTie
import Derived.Lay
import Derived.SevenTiedAt
import Derived.Lib.SmallJoins
import Derived.WalkKit
import Derived.ProofKit
import Derived.OpenShut
import Derived.ShutString
import Derived.ChangeOld
import Derived.Below
import Derived.SizedLaws
namespace Go.Proofs.YtmjfocfdbodmpaaDoor.cronTexts
open Go.ChangeShapes Go.WideShapes Go.ChangeAt Go.RowKit
open Go.ChangeMaps (open_string shut_string)
theorem own : ownKnob Tryd.prog.godebug = none := by kernel_rfl
theorem laidOut : laidOutB Tryd.prog = true := by kernel_rfl
set_option maxRecDepth 100000 in
/-- A struct of 8 fields of one cell each, as a value. -/
theorem open_st25 {H : Type} {enc : TypeId × Value → H} {W : World} {b0 : Nat} {r : Reach} {v : Value} {d : DataW H} {p : List MemPlace} (hv : Value.okWide Tryd.prog W r b0 25 v) (h : DataW.Trod enc Tryd.prog W 0 (fun _ => true) true 25 v d p) :
    ∃ (x0 : Int) (x1 : Int) (x2 : Int) (x3 : Int) (x4 : Int) (x5 : Bool) (x6 : Bool) (x7 : Int), v = .agg #[.int .u64 x0, .int .u64 x1, .int .u64 x2, .int .u64 x3, .int .u64 x4, .bool x5, .bool x6, .int .i64 x7] ∧ (Lit.int .u64 x0).wf = true ∧ (Lit.int .u64 x1).wf = true ∧ (Lit.int .u64 x2).wf = true ∧ (Lit.int .u64 x3).wf = true ∧ (Lit.int .u64 x4).wf = true ∧ (Lit.int .i64 x7).wf = true := by
  have hs := Tryd.underlying25
  have hC : Tryd.prog.cellsOf 25 = 8 := by kernel_rfl
  obtain ⟨cs, rfl, hsz⟩ := okWide_struct hs hv
  obtain ⟨l⟩ := cs
  match l, hsz.trans hC with
  | [c0, c1, c2, c3, c4, c5, c6, c7], _ =>
    obtain ⟨fuel, hf⟩ := h
    obtain ⟨xs, n, _, hx, _, hlen, hg⟩ := DataW.trod_struct hs hf
    match xs, hlen with
    | [z0, z1, z2, z3, z4, z5, z6, z7], _ =>
      have g0 : DataW.trod enc Tryd.prog W 0 (fun _ => true) true n 23 (List.take (Tryd.prog.cellsOf 23) (List.drop 0 (Value.agg ⟨[c0, c1, c2, c3, c4, c5, c6, c7]⟩).cells.toList)) = [z0, z1, z2, z3, z4, z5, z6, z7][0]? := hg 0 _ rfl
      rw [show Tryd.prog.cellsOf 23 = 1 by kernel_rfl] at g0
      have g1 : DataW.trod enc Tryd.prog W 0 (fun _ => true) true n 23 (List.take (Tryd.prog.cellsOf 23) (List.drop 1 (Value.agg ⟨[c0, c1, c2, c3, c4, c5, c6, c7]⟩).cells.toList)) = [z0, z1, z2, z3, z4, z5, z6, z7][1]? := hg 1 _ rfl
      rw [show Tryd.prog.cellsOf 23 = 1 by kernel_rfl] at g1
      have g2 : DataW.trod enc Tryd.prog W 0 (fun _ => true) true n 23 (List.take (Tryd.prog.cellsOf 23) (List.drop 2 (Value.agg ⟨[c0, c1, c2, c3, c4, c5, c6, c7]⟩).cells.toList)) = [z0, z1, z2, z3, z4, z5, z6, z7][2]? := hg 2 _ rfl
      rw [show Tryd.prog.cellsOf 23 = 1 by kernel_rfl] at g2
      have g3 : DataW.trod enc Tryd.prog W 0 (fun _ => true) true n 23 (List.take (Tryd.prog.cellsOf 23) (List.drop 3 (Value.agg ⟨[c0, c1, c2, c3, c4, c5, c6, c7]⟩).cells.toList)) = [z0, z1, z2, z3, z4, z5, z6, z7][3]? := hg 3 _ rfl
      rw [show Tryd.prog.cellsOf 23 = 1 by kernel_rfl] at g3
      have g4 : DataW.trod enc Tryd.prog W 0 (fun _ => true) true n 23 (List.take (Tryd.prog.cellsOf 23) (List.drop 4 (Value.agg ⟨[c0, c1, c2, c3, c4, c5, c6, c7]⟩).cells.toList)) = [z0, z1, z2, z3, z4, z5, z6, z7][4]? := hg 4 _ rfl
      rw [show Tryd.prog.cellsOf 23 = 1 by kernel_rfl] at g4
      have g5 : DataW.trod enc Tryd.prog W 0 (fun _ => true) true n 4 (List.take (Tryd.prog.cellsOf 4) (List.drop 5 (Value.agg ⟨[c0, c1, c2, c3, c4, c5, c6, c7]⟩).cells.toList)) = [z0, z1, z2, z3, z4, z5, z6, z7][5]? := hg 5 _ rfl
      rw [show Tryd.prog.cellsOf 4 = 1 by kernel_rfl] at g5
      have g6 : DataW.trod enc Tryd.prog W 0 (fun _ => true) true n 4 (List.take (Tryd.prog.cellsOf 4) (List.drop 6 (Value.agg ⟨[c0, c1, c2, c3, c4, c5, c6, c7]⟩).cells.toList)) = [z0, z1, z2, z3, z4, z5, z6, z7][6]? := hg 6 _ rfl
      rw [show Tryd.prog.cellsOf 4 = 1 by kernel_rfl] at g6
      have g7 : DataW.trod enc Tryd.prog W 0 (fun _ => true) true n 3 (List.take (Tryd.prog.cellsOf 3) (List.drop 7 (Value.agg ⟨[c0, c1, c2, c3, c4, c5, c6, c7]⟩).cells.toList)) = [z0, z1, z2, z3, z4, z5, z6, z7][7]? := hg 7 _ rfl
      rw [show Tryd.prog.cellsOf 3 = 1 by kernel_rfl] at g7
      obtain ⟨x0, e0, _, u0⟩ := DataW.trod_int Tryd.underlying23 g0
      simp [Value.cells] at e0
      subst e0
      obtain ⟨x1, e1, _, u1⟩ := DataW.trod_int Tryd.underlying23 g1
      simp [Value.cells] at e1
      subst e1
      obtain ⟨x2, e2, _, u2⟩ := DataW.trod_int Tryd.underlying23 g2
      simp [Value.cells] at e2
      subst e2
      obtain ⟨x3, e3, _, u3⟩ := DataW.trod_int Tryd.underlying23 g3
      simp [Value.cells] at e3
      subst e3
      obtain ⟨x4, e4, _, u4⟩ := DataW.trod_int Tryd.underlying23 g4
      simp [Value.cells] at e4
      subst e4
      obtain ⟨x5, e5, _⟩ := DataW.trod_bool Tryd.underlying4 g5
      simp [Value.cells] at e5
      subst e5
      obtain ⟨x6, e6, _⟩ := DataW.trod_bool Tryd.underlying4 g6
      simp [Value.cells] at e6
      subst e6
      obtain ⟨x7, e7, _, u7⟩ := DataW.trod_int Tryd.underlying3 g7
      simp [Value.cells] at e7
      subst e7
      exact ⟨x0, x1, x2, x3, x4, x5, x6, x7, rfl, u0, u1, u2, u3, u4, u7⟩
set_option maxRecDepth 100000 in
theorem lifted (os : Os) (started : os.Started) (H : Type) (enc : TypeId × Value → H) :
    ReturnsInHanded {} Tryd.checked os 4 .any (fun w args => (Rows.cronTextsSpec.pre enc Tryd.prog Tryd.f4 Rows.cronTextsRow.domain false w args ∧ laidMetH Tryd.prog Rows.cronTextsRow.laid w) ∧ sizedMet enc Tryd.prog Tryd.f4 (OpenSpec.ofChange Rows.cronTextsSpec) false w args) (Rows.cronTextsSpec.post enc Tryd.prog Tryd.f4 false true false false) := by
  refine returnsInHanded_of_change_and (C := Tryd.checked) (X := fun w _ => laidMetH Tryd.prog Rows.cronTextsRow.laid w) (fun _ _ _ hh h => h.of_heap hh) own started (by kernel_rfl) Tryd.func4
    (ChangeSpec.witness_shaped (enc := enc) (C := Tryd.checked) (os := os) (X := fun w _ => laidMetH Tryd.prog Rows.cronTextsRow.laid w) false (World.laidAll Tryd.prog os Rows.cronTextsRow.laid) #[.agg #[.int .u64 0, .int .u64 0, .int .u64 0, .int .u64 0, .int .u64 0, .bool false, .bool false, .int .i64 0]] 8 (World.laidAll_os _ _ _)
      (World.shaped_of_ZipB (by kernel_rfl) (by kernel_rfl)) (by kernel_rfl) (by kernel_rfl) (by kernel_rfl)
      (by rw [MakeChecks.laidMetH_plain _ _ _ (by kernel_rfl)]; exact laidMet_laidAll _ (by kernel_rfl) (by kernel_rfl))) ?_
  intro W base args ds gs before hval0 hW _ hsz0 _ _
  have hval : ∀ (j : Nat) t v, Tryd.f4.params[j]? = some t → args[j]? = some v → Value.okWide Tryd.prog W .any base t v := hval0
  have hW' := hW
  obtain ⟨p, q, hA0, hV, rfl, _, _⟩ := hW
  have hA : DataW.TrodAll enc Tryd.prog W 0 (fun _ => true) true Tryd.f4.params.toList args.toList ds p := hA0
  rw [Tryd.params4] at hA hval
  obtain ⟨v0, vs0, d0, ds0, p0, q0, hargs, rfl, rfl, h0, r0⟩ := trodAll_cons hA
  obtain ⟨rfl, rfl, rfl⟩ := trodAll_nil r0
  obtain rfl : args = #[v0] := by cases args; simp_all
  obtain ⟨rfl, rfl⟩ := trodVars_none hV
  have k0 := h0
  have lt0 : ∀ x ∈ p0, x.block < W.heap.size := by obtain ⟨m, hm⟩ := k0; exact DataW.trod_lt m _ _ _ hm
  obtain ⟨a0_0, a0_1, a0_2, a0_3, a0_4, a0_5, a0_6, a0_7, rfl, w0_0, w0_1, w0_2, w0_3, w0_4, w0_7⟩ := open_st25 (hval 0 25 v0 rfl rfl) h0
  clear hA0 hval0 hsz0
  refine (CS.cronTexts_walk a0_0 a0_1 a0_2 a0_3 a0_4 a0_5 a0_6 a0_7 w0_0 w0_1 w0_2 w0_3 w0_4 w0_7 W).mono fun e W' ⟨he, bel⟩ => ?_
  subst he
  exact ⟨_, rfl, _, _, _, [], _, [], hW', trodAll_mk1 (shut_bool Tryd.underlying4 _), (trodAll_cons_mk (Below.trod laidOut (by kernel_rfl) (of_decide_eq_true (by kernel_rfl)) k0 bel lt0) trodAll_mk0), rfl, bel.frame _, fun h => by cases h⟩
theorem over : Rows.cronTextsRow.holds Tryd.pinned (OpenSpec.ofChange Rows.cronTextsSpec) :=
  OpenClaim.holds_of_wide 4 Tryd.f4 rfl rfl rfl rfl rfl rfl rfl ⟨rfl, rfl, rfl, rfl, rfl⟩ rfl rfl rfl rfl rfl (by kernel_rfl) Tryd.func4 (by kernel_rfl)
    (of_decide_eq_true (by kernel_rfl)) (by unfold Func.isWrapper; first | (rw [if_pos (by decide +kernel)]; kernel_rfl) | (rw [if_neg (by decide +kernel)]; exact ⟨rfl, rfl⟩))
    (fun os started H enc _ => lifted os started H enc)
end Go.Proofs.YtmjfocfdbodmpaaDoor.cronTexts
namespace Go.Proofs.YtmjfocfdbodmpaaDoor
/-- The statement. -/
theorem cronTexts_row : Rows.CronTextsSaid := cronTexts.over
/-- The card of the statement. -/
theorem cronTexts_holds : Rows.CronTextsCardSaid :=
  Claim7.holds_tied_plain_at .later [] [.data, .data, .data, .data, .pinned] true (true, "271ac8451e91fc3ec7f2345670d4611029d96f84b3ac66586d9c696869522f3f") false cronTexts_row (fun _ h => by cases h) (by kernel_rfl) (fun _ h => by cases h) cronTexts_row_tie rfl ⟨rfl, rfl⟩ (by kernel_rfl) rfl
    (fun f fn hf hfn => by
      obtain rfl : f = 4 := Option.some.inj ((show Tryd.prog.funcNamed "tompion/tompionlaw04.CronTexts" = some 4 by kernel_rfl).symm.trans hf) |>.symm
      obtain rfl : fn = Tryd.f4 := (Option.some.inj (Tryd.func4.symm.trans hfn)).symm
      exact ⟨by kernel_rfl, fun j t ht => by
        rw [Tryd.params4] at ht
        have hm : t ∈ [25] := by have hm_ := Array.mem_of_getElem? ht; simp at hm_ ⊢; first | exact hm_ | (rcases hm_ with h_ | h_ <;> simp [h_]) | (rcases hm_ with h_ | h_ | h_ <;> simp [h_])
        have hall : ([25].all fun u => !Tryd.prog.wantsStandIn u) = true := by kernel_rfl
        exact (show Tryd.prog.wantsStandIn t = false by simpa using List.all_eq_true.1 hall t hm)⟩)
    (by kernel_rfl)
#print axioms cronTexts_holds
end Go.Proofs.YtmjfocfdbodmpaaDoor
