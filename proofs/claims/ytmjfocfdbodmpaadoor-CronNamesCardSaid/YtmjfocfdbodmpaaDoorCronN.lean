/- A day's or a month's name says its number: the walks of the law, and the plain law. -/
import Derived.Test.YtmjfocfdbodmpaaDoorX7
import Derived.Test.YtmjfocfdbodmpaaDoorX8
import Derived.Test.YtmjfocfdbodmpaaDoorCronP
import Derived.RegionTactic
import Derived.BigRegion
import Derived.LoopTactic
import Derived.Deep.RegionHeld3
import Derived.IntWalk
namespace Go.Proofs.YtmjfocfdbodmpaaDoor.X
open Go.RowKit Go.Proofs.YtmjfocfdbodmpaaDoorW.PrintWords Go.Proofs.YtmjfocfdbodmpaaDoorW.PrintLast Go.Proofs.YtmjfocfdbodmpaaDoorW.PrintMore
theorem shift_run (n : Int) (h0 : 0 ≤ n) (w : World) : Sem.run Tryd.prog (Op.shift BinOp.shl IntKind.u64 1 IntKind.i64 n) w = .ok (.int .u64 (IntKind.u64.wrap (1 * 2 ^ min n.toNat 64))) w := by
  simp [go_sem, h0]
set_option maxHeartbeats 4000000 in
set_option maxRecDepth 100000 in
theorem names_low (month day mv dv : Int) (M D E k : Nat) (w : World) (hM : (IntKind.u64.wrap month).tmod 12 = (M : Int)) (hD : (IntKind.u64.wrap day).tmod 8 = (D : Int)) (h12 : M < 12) (h8 : D < 8) (hE : (D : Int).tmod 7 = (E : Int)) (hE2 : (D : Int) % 7 = (E : Int)) (hm : IntKind.u64.wrap (2 ^ (M + 1)) = mv) (hd : IntKind.u64.wrap (2 ^ E) = dv)
    (P1 : Aside0 (cron_Parse.f k ((((⟨#[48, 32, 48, 32, 49, 32]⟩ : ByteArray) ++ (⟨#[106, 97, 110, 102, 101, 98, 109, 97, 114, 97, 112, 114, 109, 97, 121, 106, 117, 110, 106, 117, 108, 97, 117, 103, 115, 101, 112, 111, 99, 116, 110, 111, 118, 100, 101, 99]⟩ : ByteArray).extract (3 * M) (3 * M + 3)) ++ (⟨#[32]⟩ : ByteArray)) ++ (⟨#[115, 117, 110, 109, 111, 110, 116, 117, 101, 119, 101, 100, 116, 104, 117, 102, 114, 105, 115, 97, 116, 115, 117, 110]⟩ : ByteArray).extract (3 * D) (3 * D + 3)) = some (1, 1, 2, mv, dv, false, false, 0, 0)))
    (P2 : Aside0 (cron_Parse.f k ((((⟨#[48, 32, 48, 32, 49, 32]⟩ : ByteArray) ++ strOfNums [48 + ((M : Int) + 1) / 10, 48 + ((M : Int) + 1) % 10]) ++ (⟨#[32]⟩ : ByteArray)) ++ strOfNums [48 + (D : Int)]) = some (1, 1, 2, mv, dv, false, false, 0, 0))) :
    Calls Tryd.prog 8 #[.int .i64 month, .int .i64 day, .bool false] w fun e w' => e = .returned (.bool true) ∧ Below w.heap.size w w' := by
  have b1 : (M : Int) < 12 := by omega
  have b2 : (D : Int) < 8 := by omega
  have c1 : (0 : Int) ≤ 3 * (M : Int) := by omega
  have c2 : 3 * (M : Int) ≤ 3 * (M : Int) + 3 := by omega
  have c3 : 3 * (M : Int) + 3 ≤ 36 := by omega
  have c4 : (0 : Int) ≤ 3 * (M : Int) + 3 := by omega
  have d1 : (0 : Int) ≤ 3 * (D : Int) := by omega
  have d2 : 3 * (D : Int) ≤ 3 * (D : Int) + 3 := by omega
  have d3 : 3 * (D : Int) + 3 ≤ 24 := by omega
  have d4 : (0 : Int) ≤ 3 * (D : Int) + 3 := by omega
  have e1 : IntKind.i64.wrap ((M : Int) + 1) = (M : Int) + 1 := IntWalk.i64_in _ (by omega)
  go_enter Tryd.func8, Tryd.ntmps8
  go_wp2_with (first | (go_at_call 11; (with_reducible refine (cron_Parse.calls k _ 1 1 2 mv dv false false 0 0 _ P1.out).mono ?_); rintro e w1 ⟨rfl, hb⟩; have HB := Aside0.mk hb; clear hb) | ((with_reducible refine gate_dst (N := 11) rfl ?_); refine box_event ?hg (N := 11) ?hd (cs := #[.int .u64 0, .int .u64 0, .int .u64 0, .int .u64 0, .int .u64 0, .bool false, .bool false, .int .i64 0]) (t := 25) ?hr ?_; (case hd => rfl); (case hg => rfl); (case hr => first | (go_simp; done) | (go_simp; rfl)); intro g1 hg w2 hx hb; have HX := Aside0.mk hx; have HG := Aside0.mk (show w.heap.size ≤ g1 by rw [hg]; exact HB.out.size); have n_ := Aside0.mk (below_step HB.out hb); clear HB; have HB := n_; clear n_; clear hb hg; obtain ⟨hca0, hca1, hca2, hca3, hca4, hca5, hca6, hca7, hfa0, hfa1, hfa2, hfa3, hfa4, hfa5, hfa6, hfa7⟩ := GB.cells8 hx; clear hx) | ((with_reducible refine gate_store (t := 25) (p := 11) rfl ?_); refine store_event (t := 25) (p := 11) (v := ?vo_w3) (w1 := ((((((((w2.setCell ⟨g1, 0, none⟩ (.int .u64 1)).setCell ⟨g1, 1, none⟩ (.int .u64 1)).setCell ⟨g1, 2, none⟩ (.int .u64 2)).setCell ⟨g1, 3, none⟩ (.int .u64 mv)).setCell ⟨g1, 4, none⟩ (.int .u64 dv)).setCell ⟨g1, 5, none⟩ (.bool false)).setCell ⟨g1, 6, none⟩ (.bool false)).setCell ⟨g1, 7, none⟩ (.int .i64 0))) ?hg ?ho ?hn ?hr ?_; (case ho => rfl); (case hg => rfl); (case hn => rfl); (case hr => first | (go_simp; done) | (go_simp; rfl)); intro w3 hw; clear hca0 hca1 hca2 hca3 hca4 hca5 hca6 hca7 hfa0 hfa1 hfa2 hfa3 hfa4 hfa5 hfa6 hfa7; have f := set8 HX.out HB.out HG.out (.int .u64 1) (.int .u64 1) (.int .u64 2) (.int .u64 mv) (.int .u64 dv) (.bool false) (.bool false) (.int .i64 0); rw [← hw] at f; clear HB; have BK1 := Aside0.mk f.1; have HB := Aside0.mk f.2; clear HX HG hw f) | ((with_reducible refine gate_dst (N := 78) rfl ?_); refine Kd.R_lit (Kd.int .u8) _ 5 ?hg (N := 78) ?hd (xs := ([48 + ((M : Int) + 1) / 10, 48 + ((M : Int) + 1) % 10] : List Int)) (inner := [.int .u8 (48 + ((M : Int) + 1) / 10), .int .u8 (48 + ((M : Int) + 1) % 10)]) (ok := fun _ => True) (okp := fun _ => True) ?hr ?hp (fun _ hk => hk) trivial (Below.refl _ _) (Nat.le_refl _) (by simp) ?_; (case hd => rfl); (case hg => rfl); (case hr => first | (go_simp; done) | (go_simp; rfl)); (case hp => exact (Reps.one (show Kd.M (Kd.int .u8) _ _ _ (48 + ((M : Int) + 1) / 10) [.int .u8 (48 + ((M : Int) + 1) / 10)] from rfl) (Reps.one (show Kd.M (Kd.int .u8) _ _ _ (48 + ((M : Int) + 1) % 10) [.int .u8 (48 + ((M : Int) + 1) % 10)] from rfl) (Reps.none _ _)))); intro v78 w4 ho hb hg_ hnew_; clear hg_ hnew_; have n_ := Aside0.mk (below_step (by repeat (first | (with_reducible first | exact HB.out | apply below_alloc | apply pw_below_drewN | apply below_drew1) | exact HB.out)) hb); clear HB; have HB := n_; clear n_; have n_ := Aside0.mk ((hb.block _ (blk_lt BK1.out)).trans BK1.out); clear BK1; have BK1 := n_; clear n_; have HL1 := Aside0.mk ho; clear hb ho; have hcv1 := own_string (P := Tryd.prog) Tryd.underlying34 Tryd.underlying5 Tryd.underlying9 (Kd.own_of_R HL1.out)) | ((with_reducible refine gate_dst (N := 85) rfl ?_); refine Kd.R_lit (Kd.int .u8) _ 5 ?hg (N := 85) ?hd (xs := ([48 + (D : Int)] : List Int)) (inner := [.int .u8 (48 + (D : Int))]) (ok := fun _ => True) (okp := fun _ => True) ?hr ?hp (fun _ hk => hk) trivial (Below.refl _ _) (Nat.le_refl _) (by simp) ?_; (case hd => rfl); (case hg => rfl); (case hr => first | (go_simp; done) | (go_simp; rfl)); (case hp => exact (Reps.one (show Kd.M (Kd.int .u8) _ _ _ (48 + (D : Int)) [.int .u8 (48 + (D : Int))] from rfl) (Reps.none _ _))); intro v85 w5 ho hb hg_ hnew_; clear hg_ hnew_; have n_ := Aside0.mk (below_step (by repeat (first | (with_reducible first | exact HB.out | apply below_alloc | apply pw_below_drewN | apply below_drew1) | exact HB.out)) hb); clear HB; have HB := n_; clear n_; have n_ := Aside0.mk ((hb.block _ (blk_lt BK1.out)).trans BK1.out); clear BK1; have BK1 := n_; clear n_; have HL2 := Aside0.mk ho; clear hb ho; have hcv2 := own_string (P := Tryd.prog) Tryd.underlying34 Tryd.underlying5 Tryd.underlying9 (Kd.own_of_R HL2.out)) | (go_at_call 11; (with_reducible refine (cron_Parse.calls k _ 1 1 2 mv dv false false 0 0 _ P2.out).mono ?_); rintro e w6 ⟨rfl, hb⟩; have n_ := Aside0.mk (below_step (by repeat (first | (with_reducible first | exact HB.out | apply below_alloc | apply pw_below_drewN | apply below_drew1) | exact HB.out)) hb); clear HB; have HB := n_; clear n_; have n_ := Aside0.mk ((hb.block _ (blk_lt BK1.out)).trans BK1.out); clear BK1; have BK1 := n_; clear n_; clear hb) | ((with_reducible refine gate_dst (N := 13) rfl ?_); refine box_event ?hg (N := 13) ?hd (cs := #[.int .u64 0, .int .u64 0, .int .u64 0, .int .u64 0, .int .u64 0, .bool false, .bool false, .int .i64 0]) (t := 25) ?hr ?_; (case hd => rfl); (case hg => rfl); (case hr => first | (go_simp; done) | (go_simp; rfl)); intro g2 hg w7 hx hb; have HX := Aside0.mk hx; have HG := Aside0.mk (show w.heap.size ≤ g2 by rw [hg]; exact HB.out.size); have HN := Aside0.mk (show g1 ≠ g2 by have q := blk_lt BK1.out; omega); have n_ := Aside0.mk (below_step HB.out hb); clear HB; have HB := n_; clear n_; have n_ := Aside0.mk ((hb.block _ (blk_lt BK1.out)).trans BK1.out); clear BK1; have BK1 := n_; clear n_; clear hb hg; obtain ⟨hca0, hca1, hca2, hca3, hca4, hca5, hca6, hca7, hfa0, hfa1, hfa2, hfa3, hfa4, hfa5, hfa6, hfa7⟩ := GB.cells8 hx; clear hx) | ((with_reducible refine gate_store (t := 25) (p := 13) rfl ?_); refine store_event (t := 25) (p := 13) (v := ?vo_w8) (w1 := ((((((((w7.setCell ⟨g2, 0, none⟩ (.int .u64 1)).setCell ⟨g2, 1, none⟩ (.int .u64 1)).setCell ⟨g2, 2, none⟩ (.int .u64 2)).setCell ⟨g2, 3, none⟩ (.int .u64 mv)).setCell ⟨g2, 4, none⟩ (.int .u64 dv)).setCell ⟨g2, 5, none⟩ (.bool false)).setCell ⟨g2, 6, none⟩ (.bool false)).setCell ⟨g2, 7, none⟩ (.int .i64 0))) ?hg ?ho ?hn ?hr ?_; (case ho => rfl); (case hg => rfl); (case hn => rfl); (case hr => first | (go_simp; done) | (go_simp; rfl)); intro w8 hw; clear hca0 hca1 hca2 hca3 hca4 hca5 hca6 hca7 hfa0 hfa1 hfa2 hfa3 hfa4 hfa5 hfa6 hfa7; have f := set8 HX.out HB.out HG.out (.int .u64 1) (.int .u64 1) (.int .u64 2) (.int .u64 mv) (.int .u64 dv) (.bool false) (.bool false) (.int .i64 0); have q := set8_other BK1.out HN.out (.int .u64 1) (.int .u64 1) (.int .u64 2) (.int .u64 mv) (.int .u64 dv) (.bool false) (.bool false) (.int .i64 0); rw [← hw] at f q; clear HB BK1; have BK1 := Aside0.mk q; have BK2 := Aside0.mk f.1; have HB := Aside0.mk f.2; clear HX HG HN hw f q; obtain ⟨hcb0, hcb1, hcb2, hcb3, hcb4, hcb5, hcb6, hcb7, hfb0, hfb1, hfb2, hfb3, hfb4, hfb5, hfb6, hfb7⟩ := GB.cells8 BK1.out; obtain ⟨hcc0, hcc1, hcc2, hcc3, hcc4, hcc5, hcc6, hcc7, hfc0, hfc1, hfc2, hfc3, hfc4, hfc5, hfc6, hfc7⟩ := GB.cells8 BK2.out))
  go_region_held3 (fun w' => w'.cell? ⟨g1, 0, none⟩ = some (.int .u64 1) ∧ w'.cell? ⟨g1, 1, none⟩ = some (.int .u64 1) ∧ w'.cell? ⟨g1, 2, none⟩ = some (.int .u64 2) ∧ w'.cell? ⟨g1, 3, none⟩ = some (.int .u64 mv) ∧ w'.cell? ⟨g1, 4, none⟩ = some (.int .u64 dv) ∧ w'.cell? ⟨g1, 5, none⟩ = some (.bool false) ∧ w'.cell? ⟨g1, 6, none⟩ = some (.bool false) ∧ w'.cell? ⟨g1, 7, none⟩ = some (.int .i64 0) ∧ w'.cell? ⟨g2, 0, none⟩ = some (.int .u64 1) ∧ w'.cell? ⟨g2, 1, none⟩ = some (.int .u64 1) ∧ w'.cell? ⟨g2, 2, none⟩ = some (.int .u64 2) ∧ w'.cell? ⟨g2, 3, none⟩ = some (.int .u64 mv) ∧ w'.cell? ⟨g2, 4, none⟩ = some (.int .u64 dv) ∧ w'.cell? ⟨g2, 5, none⟩ = some (.bool false) ∧ w'.cell? ⟨g2, 6, none⟩ = some (.bool false) ∧ w'.cell? ⟨g2, 7, none⟩ = some (.int .i64 0)) (go_keep) ((go_at_call 10; (with_reducible refine (tompionlaw04_awake.calls true _ rfl).mono ?_); rintro e wz ⟨rfl, hb⟩; clear hcb0 hcb1 hcb2 hcb3 hcb4 hcb5 hcb6 hcb7 hfb0 hfb1 hfb2 hfb3 hfb4 hfb5 hfb6 hfb7; clear hcc0 hcc1 hcc2 hcc3 hcc4 hcc5 hcc6 hcc7 hfc0 hfc1 hfc2 hfc3 hfc4 hfc5 hfc6 hfc7; have n_ := Aside0.mk (below_step (by repeat (first | (with_reducible first | exact HB.out | apply below_alloc | apply pw_below_drewN | apply below_drew1) | exact HB.out)) hb); clear HB; have HB := n_; clear n_; have n_ := Aside0.mk ((hb.block g1 (show g1 < w8.heap.size from blk_lt BK1.out)).trans (show w8.heap[g1]? = _ from BK1.out)); clear BK1; have BK1 := n_; clear n_; have n_ := Aside0.mk ((hb.block g2 (show g2 < w8.heap.size from blk_lt BK2.out)).trans (show w8.heap[g2]? = _ from BK2.out)); clear BK2; have BK2 := n_; clear n_ hb; obtain ⟨hcb0, hcb1, hcb2, hcb3, hcb4, hcb5, hcb6, hcb7, hfb0, hfb1, hfb2, hfb3, hfb4, hfb5, hfb6, hfb7⟩ := GB.cells8 BK1.out; obtain ⟨hcc0, hcc1, hcc2, hcc3, hcc4, hcc5, hcc6, hcc7, hfc0, hfc1, hfc2, hfc3, hfc4, hfc5, hfc6, hfc7⟩ := GB.cells8 BK2.out))
  all_goals (go_wp2; go_ret; exact ⟨rfl, HB.out⟩)
def upI (x : Int) : Int := (x - 32) % 256
theorem bytes_sub {w : World} {b : Nat} {xs : List Int} (h : GB.IsBytes w b xs) (a n : Nat) (hl : a + n ≤ xs.length) (hn : n ≤ 9223372036854775807) : ReadsInt w .u8 (some ⟨b, a, none⟩) n ((xs.drop a).take n) := by
  refine ⟨by simp; omega, hn, fun _ => ⟨⟨b, a, none⟩, rfl, fun j hj => ?_⟩⟩
  have e : (⟨b, a, none⟩ : Addr).add j = ⟨b, a + j, none⟩ := by
    unfold Addr.add
    split
    · rename_i z; rw [z, Nat.add_zero]
    · rfl
  rw [e, h.cell (a + j) (by omega)]
  simp [List.getD_eq_getElem?_getD, hj]
set_option maxHeartbeats 4000000 in
set_option maxRecDepth 100000 in
theorem names_up (month day mv dv : Int) (M D E k : Nat) (w : World) (hM : (IntKind.u64.wrap month).tmod 12 = (M : Int)) (hD : (IntKind.u64.wrap day).tmod 8 = (D : Int)) (h12 : M < 12) (h8 : D < 8) (hE : (D : Int).tmod 7 = (E : Int)) (hE2 : (D : Int) % 7 = (E : Int)) (hm : IntKind.u64.wrap (2 ^ (M + 1)) = mv) (hd : IntKind.u64.wrap (2 ^ E) = dv)
    (P1 : Aside0 (cron_Parse.f k ((((⟨#[48, 32, 48, 32, 49, 32]⟩ : ByteArray) ++ strOfNums (((GB.bytesI ((⟨#[106, 97, 110, 102, 101, 98, 109, 97, 114, 97, 112, 114, 109, 97, 121, 106, 117, 110, 106, 117, 108, 97, 117, 103, 115, 101, 112, 111, 99, 116, 110, 111, 118, 100, 101, 99]⟩ : ByteArray).extract (3 * M) (3 * M + 3) ++ (⟨#[115, 117, 110, 109, 111, 110, 116, 117, 101, 119, 101, 100, 116, 104, 117, 102, 114, 105, 115, 97, 116, 115, 117, 110]⟩ : ByteArray).extract (3 * D) (3 * D + 3))).map upI).take 3)) ++ (⟨#[32]⟩ : ByteArray)) ++ strOfNums (((GB.bytesI ((⟨#[106, 97, 110, 102, 101, 98, 109, 97, 114, 97, 112, 114, 109, 97, 121, 106, 117, 110, 106, 117, 108, 97, 117, 103, 115, 101, 112, 111, 99, 116, 110, 111, 118, 100, 101, 99]⟩ : ByteArray).extract (3 * M) (3 * M + 3) ++ (⟨#[115, 117, 110, 109, 111, 110, 116, 117, 101, 119, 101, 100, 116, 104, 117, 102, 114, 105, 115, 97, 116, 115, 117, 110]⟩ : ByteArray).extract (3 * D) (3 * D + 3))).map upI).drop 3)) = some (1, 1, 2, mv, dv, false, false, 0, 0)))
    (P2 : Aside0 (cron_Parse.f k ((((⟨#[48, 32, 48, 32, 49, 32]⟩ : ByteArray) ++ strOfNums [48 + ((M : Int) + 1) / 10, 48 + ((M : Int) + 1) % 10]) ++ (⟨#[32]⟩ : ByteArray)) ++ strOfNums [48 + (D : Int)]) = some (1, 1, 2, mv, dv, false, false, 0, 0))) :
    Calls Tryd.prog 8 #[.int .i64 month, .int .i64 day, .bool true] w fun e w' => e = .returned (.bool true) ∧ Below w.heap.size w w' := by
  have b1 : (M : Int) < 12 := by omega
  have b2 : (D : Int) < 8 := by omega
  have c1 : (0 : Int) ≤ 3 * (M : Int) := by omega
  have c2 : 3 * (M : Int) ≤ 3 * (M : Int) + 3 := by omega
  have c3 : 3 * (M : Int) + 3 ≤ 36 := by omega
  have c4 : (0 : Int) ≤ 3 * (M : Int) + 3 := by omega
  have d1 : (0 : Int) ≤ 3 * (D : Int) := by omega
  have d2 : 3 * (D : Int) ≤ 3 * (D : Int) + 3 := by omega
  have d3 : 3 * (D : Int) + 3 ≤ 24 := by omega
  have d4 : (0 : Int) ≤ 3 * (D : Int) + 3 := by omega
  have e1 : IntKind.i64.wrap ((M : Int) + 1) = (M : Int) + 1 := IntWalk.i64_in _ (by omega)
  have sm : ((⟨#[106, 97, 110, 102, 101, 98, 109, 97, 114, 97, 112, 114, 109, 97, 121, 106, 117, 110, 106, 117, 108, 97, 117, 103, 115, 101, 112, 111, 99, 116, 110, 111, 118, 100, 101, 99]⟩ : ByteArray).extract (3 * M) (3 * M + 3)).size = 3 := by rw [ByteArray.size_extract]; show min (3 * M + 3) 36 - 3 * M = 3; omega
  have sd : ((⟨#[115, 117, 110, 109, 111, 110, 116, 117, 101, 119, 101, 100, 116, 104, 117, 102, 114, 105, 115, 97, 116, 115, 117, 110]⟩ : ByteArray).extract (3 * D) (3 * D + 3)).size = 3 := by rw [ByteArray.size_extract]; show min (3 * D + 3) 24 - 3 * D = 3; omega
  obtain ⟨s, hs⟩ : ∃ s, s = (⟨#[106, 97, 110, 102, 101, 98, 109, 97, 114, 97, 112, 114, 109, 97, 121, 106, 117, 110, 106, 117, 108, 97, 117, 103, 115, 101, 112, 111, 99, 116, 110, 111, 118, 100, 101, 99]⟩ : ByteArray).extract (3 * M) (3 * M + 3) ++ (⟨#[115, 117, 110, 109, 111, 110, 116, 117, 101, 119, 101, 100, 116, 104, 117, 102, 114, 105, 115, 97, 116, 115, 117, 110]⟩ : ByteArray).extract (3 * D) (3 * D + 3) := ⟨_, rfl⟩
  have s6 : s.size = 6 := by rw [hs, ByteArray.size_append, sm, sd]
  have hsr : (⟨#[106, 97, 110, 102, 101, 98, 109, 97, 114, 97, 112, 114, 109, 97, 121, 106, 117, 110, 106, 117, 108, 97, 117, 103, 115, 101, 112, 111, 99, 116, 110, 111, 118, 100, 101, 99]⟩ : ByteArray).extract (3 * M) (3 * M + 3) ++ (⟨#[115, 117, 110, 109, 111, 110, 116, 117, 101, 119, 101, 100, 116, 104, 117, 102, 114, 105, 115, 97, 116, 115, 117, 110]⟩ : ByteArray).extract (3 * D) (3 * D + 3) = s := hs.symm
  rw [hsr] at P1
  clear hs
  have kc := fun (w : World) => Lib.run_convert_string_bytes (P := Tryd.prog) w 9 34 5 s Tryd.underlying9 Tryd.underlying34 Tryd.underlying5
  go_enter Tryd.func8, Tryd.ntmps8
  go_wp2_with fail
  clear kc
  go_loopw [42] (fun v wr => ∃ i : Nat, i ≤ 6 ∧ v = .int .i64 i ∧ Aside0 (GB.IsBytes wr w.heap.size (GB.part upI (GB.bytesI s) i)) ∧ Aside0 (Below w.heap.size w wr)) (fun v _ => 6 - (intOf v).toNat)
  case atStart => exact ⟨0, Nat.zero_le _, rfl, ⟨by rw [GB.part_zero]; exact GB.IsBytes.new w _ s⟩, ⟨GB.below_bytes w _ s⟩⟩
  case round =>
    obtain ⟨i, hk, rfl, HI, HB⟩ := hrel
    have hl : (GB.bytesI s).length = 6 := by rw [GB.bytesI_len, s6]
    by_cases hlt : i < 6
    · have hc := HI.out.cell i (by rw [GB.part_len _ _ _ (by omega)]; omega)
      have hf := HI.out.free i (by rw [GB.part_len _ _ _ (by omega)]; omega)
      rw [GB.part_at _ _ _ (by omega)] at hc
      have hr := GB.bytesI_range s i
      have hset := Aside0.mk (GB.part_set upI (GB.bytesI s) i (by omega))
      clear hl
      generalize hx : (GB.bytesI s).getD i 0 = x at hc hr hset
      clear hx
      go_wp2
      go_roundw
      case measure => simp [intOf]; omega
      case rel => exact ⟨i + 1, by omega, by go_num, ⟨by have := HI.out.set i (upI x); rw [hset.out] at this; exact this⟩, ⟨HB.out.setCell (by simp) _⟩⟩
    · obtain rfl : i = 6 := by omega
      have hi := HI.out
      rw [← hl, GB.part_all] at hi
      obtain ⟨xs, hxs⟩ : ∃ xs, xs = (GB.bytesI s).map upI := ⟨_, rfl⟩
      rw [← hxs] at hi P1
      have hn : xs.length = 6 := by rw [hxs, List.length_map, hl]
      have hst1 := fun (c : Nat) => string_of_reads (P := Tryd.prog) (c := c) Tryd.underlying34 Tryd.underlying5 Tryd.underlying9 (bytes_sub hi 0 3 (by omega) (by decide))
      have hst2 := fun (c : Nat) => string_of_reads (P := Tryd.prog) (c := c) Tryd.underlying34 Tryd.underlying5 Tryd.underlying9 (bytes_sub hi 3 3 (by omega) (by decide))
      have ed : (xs.drop 3).take 3 = xs.drop 3 := List.take_of_length_le (by simp; omega)
      rw [List.drop_zero] at hst1
      have hcap := grownCap_ge w 6 0 5
      rw [ed] at hst2
      have hi2 : GB.IsBytes wr.drew w.heap.size xs := hi.below (Below.refl _ _).drew
      have hst3 := fun (c : Nat) => string_of_reads (P := Tryd.prog) (c := c) Tryd.underlying34 Tryd.underlying5 Tryd.underlying9 (bytes_sub hi2 0 3 (by omega) (by decide))
      have hst4 := fun (c : Nat) => string_of_reads (P := Tryd.prog) (c := c) Tryd.underlying34 Tryd.underlying5 Tryd.underlying9 (bytes_sub hi2 3 3 (by omega) (by decide))
      rw [List.drop_zero] at hst3
      rw [ed] at hst4
      have z1 : (strOfNums (xs.take 3)).size = 3 := by show ((xs.take 3).map _).length = 3; simp; omega
      have z2 : (strOfNums (xs.drop 3)).size = 3 := by show ((xs.drop 3).map _).length = 3; simp; omega
      clear hi hi2 hn hl hlt hk HI hxs ed
      go_wp2_with fail
      go_region
      all_goals
        go_wp2_with (first | (go_at_call 11; (with_reducible refine (cron_Parse.calls k _ 1 1 2 mv dv false false 0 0 _ P1.out).mono ?_); rintro e w1 ⟨rfl, hb⟩; have n_ := Aside0.mk (below_step (by repeat (first | (with_reducible first | exact HB.out | apply below_alloc | apply pw_below_drewN | apply below_drew1) | exact HB.out)) hb); clear HB; have HB := n_; clear n_; clear hb) | ((with_reducible refine gate_dst (N := 11) rfl ?_); refine box_event ?hg (N := 11) ?hd (cs := #[.int .u64 0, .int .u64 0, .int .u64 0, .int .u64 0, .int .u64 0, .bool false, .bool false, .int .i64 0]) (t := 25) ?hr ?_; (case hd => rfl); (case hg => rfl); (case hr => first | (go_simp; done) | (go_simp; rfl)); intro g1 hg w2 hx hb; have HX := Aside0.mk hx; have HG := Aside0.mk (show w.heap.size ≤ g1 by rw [hg]; exact HB.out.size); have n_ := Aside0.mk (below_step HB.out hb); clear HB; have HB := n_; clear n_; clear hb hg; obtain ⟨hca0, hca1, hca2, hca3, hca4, hca5, hca6, hca7, hfa0, hfa1, hfa2, hfa3, hfa4, hfa5, hfa6, hfa7⟩ := GB.cells8 hx; clear hx) | ((with_reducible refine gate_store (t := 25) (p := 11) rfl ?_); refine store_event (t := 25) (p := 11) (v := ?vo_w3) (w1 := ((((((((w2.setCell ⟨g1, 0, none⟩ (.int .u64 1)).setCell ⟨g1, 1, none⟩ (.int .u64 1)).setCell ⟨g1, 2, none⟩ (.int .u64 2)).setCell ⟨g1, 3, none⟩ (.int .u64 mv)).setCell ⟨g1, 4, none⟩ (.int .u64 dv)).setCell ⟨g1, 5, none⟩ (.bool false)).setCell ⟨g1, 6, none⟩ (.bool false)).setCell ⟨g1, 7, none⟩ (.int .i64 0))) ?hg ?ho ?hn ?hr ?_; (case ho => rfl); (case hg => rfl); (case hn => rfl); (case hr => first | (go_simp; done) | (go_simp; rfl)); intro w3 hw; clear hca0 hca1 hca2 hca3 hca4 hca5 hca6 hca7 hfa0 hfa1 hfa2 hfa3 hfa4 hfa5 hfa6 hfa7; have f := set8 HX.out HB.out HG.out (.int .u64 1) (.int .u64 1) (.int .u64 2) (.int .u64 mv) (.int .u64 dv) (.bool false) (.bool false) (.int .i64 0); rw [← hw] at f; clear HB; have BK1 := Aside0.mk f.1; have HB := Aside0.mk f.2; clear HX HG hw f) | ((with_reducible refine gate_dst (N := 78) rfl ?_); refine Kd.R_lit (Kd.int .u8) _ 5 ?hg (N := 78) ?hd (xs := ([48 + ((M : Int) + 1) / 10, 48 + ((M : Int) + 1) % 10] : List Int)) (inner := [.int .u8 (48 + ((M : Int) + 1) / 10), .int .u8 (48 + ((M : Int) + 1) % 10)]) (ok := fun _ => True) (okp := fun _ => True) ?hr ?hp (fun _ hk => hk) trivial (Below.refl _ _) (Nat.le_refl _) (by simp) ?_; (case hd => rfl); (case hg => rfl); (case hr => first | (go_simp; done) | (go_simp; rfl)); (case hp => exact (Reps.one (show Kd.M (Kd.int .u8) _ _ _ (48 + ((M : Int) + 1) / 10) [.int .u8 (48 + ((M : Int) + 1) / 10)] from rfl) (Reps.one (show Kd.M (Kd.int .u8) _ _ _ (48 + ((M : Int) + 1) % 10) [.int .u8 (48 + ((M : Int) + 1) % 10)] from rfl) (Reps.none _ _)))); intro v78 w4 ho hb hg_ hnew_; clear hg_ hnew_; have n_ := Aside0.mk (below_step (by repeat (first | (with_reducible first | exact HB.out | apply below_alloc | apply pw_below_drewN | apply below_drew1) | exact HB.out)) hb); clear HB; have HB := n_; clear n_; have n_ := Aside0.mk ((hb.block _ (blk_lt BK1.out)).trans BK1.out); clear BK1; have BK1 := n_; clear n_; have HL1 := Aside0.mk ho; clear hb ho; have hcv1 := own_string (P := Tryd.prog) Tryd.underlying34 Tryd.underlying5 Tryd.underlying9 (Kd.own_of_R HL1.out)) | ((with_reducible refine gate_dst (N := 85) rfl ?_); refine Kd.R_lit (Kd.int .u8) _ 5 ?hg (N := 85) ?hd (xs := ([48 + (D : Int)] : List Int)) (inner := [.int .u8 (48 + (D : Int))]) (ok := fun _ => True) (okp := fun _ => True) ?hr ?hp (fun _ hk => hk) trivial (Below.refl _ _) (Nat.le_refl _) (by simp) ?_; (case hd => rfl); (case hg => rfl); (case hr => first | (go_simp; done) | (go_simp; rfl)); (case hp => exact (Reps.one (show Kd.M (Kd.int .u8) _ _ _ (48 + (D : Int)) [.int .u8 (48 + (D : Int))] from rfl) (Reps.none _ _))); intro v85 w5 ho hb hg_ hnew_; clear hg_ hnew_; have n_ := Aside0.mk (below_step (by repeat (first | (with_reducible first | exact HB.out | apply below_alloc | apply pw_below_drewN | apply below_drew1) | exact HB.out)) hb); clear HB; have HB := n_; clear n_; have n_ := Aside0.mk ((hb.block _ (blk_lt BK1.out)).trans BK1.out); clear BK1; have BK1 := n_; clear n_; have HL2 := Aside0.mk ho; clear hb ho; have hcv2 := own_string (P := Tryd.prog) Tryd.underlying34 Tryd.underlying5 Tryd.underlying9 (Kd.own_of_R HL2.out)) | (go_at_call 11; (with_reducible refine (cron_Parse.calls k _ 1 1 2 mv dv false false 0 0 _ P2.out).mono ?_); rintro e w6 ⟨rfl, hb⟩; have n_ := Aside0.mk (below_step (by repeat (first | (with_reducible first | exact HB.out | apply below_alloc | apply pw_below_drewN | apply below_drew1) | exact HB.out)) hb); clear HB; have HB := n_; clear n_; have n_ := Aside0.mk ((hb.block _ (blk_lt BK1.out)).trans BK1.out); clear BK1; have BK1 := n_; clear n_; clear hb) | ((with_reducible refine gate_dst (N := 13) rfl ?_); refine box_event ?hg (N := 13) ?hd (cs := #[.int .u64 0, .int .u64 0, .int .u64 0, .int .u64 0, .int .u64 0, .bool false, .bool false, .int .i64 0]) (t := 25) ?hr ?_; (case hd => rfl); (case hg => rfl); (case hr => first | (go_simp; done) | (go_simp; rfl)); intro g2 hg w7 hx hb; have HX := Aside0.mk hx; have HG := Aside0.mk (show w.heap.size ≤ g2 by rw [hg]; exact HB.out.size); have HN := Aside0.mk (show g1 ≠ g2 by have q := blk_lt BK1.out; omega); have n_ := Aside0.mk (below_step HB.out hb); clear HB; have HB := n_; clear n_; have n_ := Aside0.mk ((hb.block _ (blk_lt BK1.out)).trans BK1.out); clear BK1; have BK1 := n_; clear n_; clear hb hg; obtain ⟨hca0, hca1, hca2, hca3, hca4, hca5, hca6, hca7, hfa0, hfa1, hfa2, hfa3, hfa4, hfa5, hfa6, hfa7⟩ := GB.cells8 hx; clear hx) | ((with_reducible refine gate_store (t := 25) (p := 13) rfl ?_); refine store_event (t := 25) (p := 13) (v := ?vo_w8) (w1 := ((((((((w7.setCell ⟨g2, 0, none⟩ (.int .u64 1)).setCell ⟨g2, 1, none⟩ (.int .u64 1)).setCell ⟨g2, 2, none⟩ (.int .u64 2)).setCell ⟨g2, 3, none⟩ (.int .u64 mv)).setCell ⟨g2, 4, none⟩ (.int .u64 dv)).setCell ⟨g2, 5, none⟩ (.bool false)).setCell ⟨g2, 6, none⟩ (.bool false)).setCell ⟨g2, 7, none⟩ (.int .i64 0))) ?hg ?ho ?hn ?hr ?_; (case ho => rfl); (case hg => rfl); (case hn => rfl); (case hr => first | (go_simp; done) | (go_simp; rfl)); intro w8 hw; clear hca0 hca1 hca2 hca3 hca4 hca5 hca6 hca7 hfa0 hfa1 hfa2 hfa3 hfa4 hfa5 hfa6 hfa7; have f := set8 HX.out HB.out HG.out (.int .u64 1) (.int .u64 1) (.int .u64 2) (.int .u64 mv) (.int .u64 dv) (.bool false) (.bool false) (.int .i64 0); have q := set8_other BK1.out HN.out (.int .u64 1) (.int .u64 1) (.int .u64 2) (.int .u64 mv) (.int .u64 dv) (.bool false) (.bool false) (.int .i64 0); rw [← hw] at f q; clear HB BK1; have BK1 := Aside0.mk q; have BK2 := Aside0.mk f.1; have HB := Aside0.mk f.2; clear HX HG HN hw f q; obtain ⟨hcb0, hcb1, hcb2, hcb3, hcb4, hcb5, hcb6, hcb7, hfb0, hfb1, hfb2, hfb3, hfb4, hfb5, hfb6, hfb7⟩ := GB.cells8 BK1.out; obtain ⟨hcc0, hcc1, hcc2, hcc3, hcc4, hcc5, hcc6, hcc7, hfc0, hfc1, hfc2, hfc3, hfc4, hfc5, hfc6, hfc7⟩ := GB.cells8 BK2.out))
        go_region_held3 (fun w' => w'.cell? ⟨g1, 0, none⟩ = some (.int .u64 1) ∧ w'.cell? ⟨g1, 1, none⟩ = some (.int .u64 1) ∧ w'.cell? ⟨g1, 2, none⟩ = some (.int .u64 2) ∧ w'.cell? ⟨g1, 3, none⟩ = some (.int .u64 mv) ∧ w'.cell? ⟨g1, 4, none⟩ = some (.int .u64 dv) ∧ w'.cell? ⟨g1, 5, none⟩ = some (.bool false) ∧ w'.cell? ⟨g1, 6, none⟩ = some (.bool false) ∧ w'.cell? ⟨g1, 7, none⟩ = some (.int .i64 0) ∧ w'.cell? ⟨g2, 0, none⟩ = some (.int .u64 1) ∧ w'.cell? ⟨g2, 1, none⟩ = some (.int .u64 1) ∧ w'.cell? ⟨g2, 2, none⟩ = some (.int .u64 2) ∧ w'.cell? ⟨g2, 3, none⟩ = some (.int .u64 mv) ∧ w'.cell? ⟨g2, 4, none⟩ = some (.int .u64 dv) ∧ w'.cell? ⟨g2, 5, none⟩ = some (.bool false) ∧ w'.cell? ⟨g2, 6, none⟩ = some (.bool false) ∧ w'.cell? ⟨g2, 7, none⟩ = some (.int .i64 0)) (go_keep) ((go_at_call 10; (with_reducible refine (tompionlaw04_awake.calls true _ rfl).mono ?_); rintro e wz ⟨rfl, hb⟩; clear hcb0 hcb1 hcb2 hcb3 hcb4 hcb5 hcb6 hcb7 hfb0 hfb1 hfb2 hfb3 hfb4 hfb5 hfb6 hfb7; clear hcc0 hcc1 hcc2 hcc3 hcc4 hcc5 hcc6 hcc7 hfc0 hfc1 hfc2 hfc3 hfc4 hfc5 hfc6 hfc7; have n_ := Aside0.mk (below_step (by repeat (first | (with_reducible first | exact HB.out | apply below_alloc | apply pw_below_drewN | apply below_drew1) | exact HB.out)) hb); clear HB; have HB := n_; clear n_; have n_ := Aside0.mk ((hb.block g1 (show g1 < w8.heap.size from blk_lt BK1.out)).trans (show w8.heap[g1]? = _ from BK1.out)); clear BK1; have BK1 := n_; clear n_; have n_ := Aside0.mk ((hb.block g2 (show g2 < w8.heap.size from blk_lt BK2.out)).trans (show w8.heap[g2]? = _ from BK2.out)); clear BK2; have BK2 := n_; clear n_ hb; obtain ⟨hcb0, hcb1, hcb2, hcb3, hcb4, hcb5, hcb6, hcb7, hfb0, hfb1, hfb2, hfb3, hfb4, hfb5, hfb6, hfb7⟩ := GB.cells8 BK1.out; obtain ⟨hcc0, hcc1, hcc2, hcc3, hcc4, hcc5, hcc6, hcc7, hfc0, hfc1, hfc2, hfc3, hfc4, hfc5, hfc6, hfc7⟩ := GB.cells8 BK2.out))
        all_goals (go_wp2; go_ret; exact ⟨rfl, HB.out⟩)
end Go.Proofs.YtmjfocfdbodmpaaDoor.X
namespace Go.Proofs.YtmjfocfdbodmpaaDoor.CS
open Go Go.RowKit Go.Proofs.YtmjfocfdbodmpaaDoorW.PrintWords Go.Proofs.YtmjfocfdbodmpaaDoor.X
def nm3 (M : Nat) : ByteArray := (⟨#[106, 97, 110, 102, 101, 98, 109, 97, 114, 97, 112, 114, 109, 97, 121, 106, 117, 110, 106, 117, 108, 97, 117, 103, 115, 101, 112, 111, 99, 116, 110, 111, 118, 100, 101, 99]⟩ : ByteArray).extract (3 * M) (3 * M + 3)
def nd3 (D : Nat) : ByteArray := (⟨#[115, 117, 110, 109, 111, 110, 116, 117, 101, 119, 101, 100, 116, 104, 117, 102, 114, 105, 115, 97, 116, 115, 117, 110]⟩ : ByteArray).extract (3 * D) (3 * D + 3)
def nT1 (M D : Nat) : ByteArray := (((⟨#[48, 32, 48, 32, 49, 32]⟩ : ByteArray) ++ nm3 M) ++ (⟨#[32]⟩ : ByteArray)) ++ nd3 D
def nT2 (M D : Nat) : ByteArray := (((⟨#[48, 32, 48, 32, 49, 32]⟩ : ByteArray) ++ strOfNums [48 + ((M : Int) + 1) / 10, 48 + ((M : Int) + 1) % 10]) ++ (⟨#[32]⟩ : ByteArray)) ++ strOfNums [48 + (D : Int)]
def nT3 (M D : Nat) : ByteArray := (((⟨#[48, 32, 48, 32, 49, 32]⟩ : ByteArray) ++ strOfNums (((GB.bytesI (nm3 M ++ nd3 D)).map upI).take 3)) ++ (⟨#[32]⟩ : ByteArray)) ++ strOfNums (((GB.bytesI (nm3 M ++ nd3 D)).map upI).drop 3)
def okT (T : ByteArray) (x3 x4 : Nat) : Bool := decide (T.size ≤ 100000) && (match parse (L T) with
  | some (y0, y1, y2, y3, y4, a, d, n) => y0 == 1 && y1 == 1 && y2 == 2 && y3 == x3 && y4 == x4 && !a && !d && n == 0
  | none => false)
theorem okT_says {T : ByteArray} {x3 x4 : Nat} (h : okT T x3 x4 = true) : T.size ≤ 100000 ∧ parse (L T) = some (1, 1, 2, x3, x4, false, false, 0) := by
  unfold okT at h
  rw [Bool.and_eq_true] at h
  refine ⟨of_decide_eq_true h.1, ?_⟩
  have h2 := h.2
  split at h2
  · rename_i y0 y1 y2 y3 y4 a d n e
    simp only [Bool.and_eq_true, beq_iff_eq, Bool.not_eq_true'] at h2
    obtain ⟨⟨⟨⟨⟨⟨⟨rfl, rfl⟩, rfl⟩, rfl⟩, rfl⟩, rfl⟩, rfl⟩, rfl⟩ := h2
    exact e
  · cases h2
theorem nT1_says : ∀ M : Fin 12, ∀ D : Fin 8, okT (nT1 M.val D.val) (2 ^ (M.val + 1)) (2 ^ (D.val % 7)) = true := by decide +kernel
theorem nT2_says : ∀ M : Fin 12, ∀ D : Fin 8, okT (nT2 M.val D.val) (2 ^ (M.val + 1)) (2 ^ (D.val % 7)) = true := by decide +kernel
theorem nT3_says : ∀ M : Fin 12, ∀ D : Fin 8, okT (nT3 M.val D.val) (2 ^ (M.val + 1)) (2 ^ (D.val % 7)) = true := by decide +kernel
theorem says_at {T : ByteArray} {x3 x4 : Nat} (h : T.size ≤ 100000 ∧ parse (L T) = some (1, 1, 2, x3, x4, false, false, 0)) : ∃ K, ∀ k, K ≤ k → cron_Parse.f k T = some (1, 1, 2, (x3 : Int), (x4 : Int), false, false, 0, 0) := by
  have e := prog_parse T h.1
  rw [h.2] at e
  exact e
theorem u64_pow {n : Nat} (h : n < 64) : IntKind.u64.wrap (2 ^ n) = ((2 ^ n : Nat) : Int) := by
  have h2 : (2 : Nat) ^ n < 2 ^ 64 := Nat.pow_lt_pow_right (by decide) h
  have c : ((2 : Int) ^ n) = ((2 ^ n : Nat) : Int) := by push_cast; rfl
  rw [c]
  generalize (2 : Nat) ^ n = m at h2 ⊢
  simp only [IntKind.wrap, IntKind.bits, IntKind.signed, Bool.false_and, Bool.false_eq_true, if_false]
  omega
theorem cronNames_walk (month day : Int) (up : Bool) (W : World) :
    Calls Tryd.prog 8 #[.int .i64 month, .int .i64 day, .bool up] W fun e W' => e = .returned (.bool true) ∧ Below W.heap.size W W' := by
  have um : 0 ≤ IntKind.u64.wrap month := by simp only [IntKind.wrap, IntKind.bits, IntKind.signed, Bool.false_and, Bool.false_eq_true, if_false]; omega
  have ud : 0 ≤ IntKind.u64.wrap day := by simp only [IntKind.wrap, IntKind.bits, IntKind.signed, Bool.false_and, Bool.false_eq_true, if_false]; omega
  have tm : (IntKind.u64.wrap month).tmod 12 = IntKind.u64.wrap month % 12 := Int.tmod_eq_emod_of_nonneg um
  have td : (IntKind.u64.wrap day).tmod 8 = IntKind.u64.wrap day % 8 := Int.tmod_eq_emod_of_nonneg ud
  obtain ⟨M, hM⟩ : ∃ M : Nat, (IntKind.u64.wrap month).tmod 12 = (M : Int) := ⟨((IntKind.u64.wrap month).tmod 12).toNat, by omega⟩
  obtain ⟨D, hD⟩ : ∃ D : Nat, (IntKind.u64.wrap day).tmod 8 = (D : Int) := ⟨((IntKind.u64.wrap day).tmod 8).toNat, by omega⟩
  have h12 : M < 12 := by omega
  have h8 : D < 8 := by omega
  have e7 : (D : Int).tmod 7 = ((D % 7 : Nat) : Int) := by rw [Int.tmod_eq_emod_of_nonneg (by omega)]; omega
  have e7' : (D : Int) % 7 = ((D % 7 : Nat) : Int) := by omega
  obtain ⟨K1, p1⟩ := says_at (okT_says (nT1_says ⟨M, h12⟩ ⟨D, h8⟩))
  obtain ⟨K2, p2⟩ := says_at (okT_says (nT2_says ⟨M, h12⟩ ⟨D, h8⟩))
  obtain ⟨K3, p3⟩ := says_at (okT_says (nT3_says ⟨M, h12⟩ ⟨D, h8⟩))
  have a1 := p1 (K1 + K2 + K3) (by omega)
  have a2 := p2 (K1 + K2 + K3) (by omega)
  have a3 := p3 (K1 + K2 + K3) (by omega)
  have q1 : IntKind.u64.wrap (2 ^ (M + 1)) = ((2 ^ (M + 1) : Nat) : Int) := u64_pow (by omega)
  have q2 : IntKind.u64.wrap (2 ^ (D % 7)) = ((2 ^ (D % 7) : Nat) : Int) := u64_pow (by omega)
  cases up with
  | false => exact names_low month day _ _ M D (D % 7) (K1 + K2 + K3) W hM hD h12 h8 e7 e7' q1 q2 ⟨a1⟩ ⟨a2⟩
  | true => exact names_up month day _ _ M D (D % 7) (K1 + K2 + K3) W hM hD h12 h8 e7 e7' q1 q2 ⟨a3⟩ ⟨a2⟩
end Go.Proofs.YtmjfocfdbodmpaaDoor.CS
