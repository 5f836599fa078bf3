/- Contracts of functions that the laws reach, part Xb12. Conditions: each theorem names its own. -/
import Derived.Test.YthpheknchikodaaXb1
import Derived.Test.YthpheknchikodaaXb11
-- Written for this claim by a program of this session (over the kit's print). Lean checks it.
namespace Go.Proofs.Ythpheknchikodaa.P
open Go.RowKit Go.Proofs.YthpheknchikodaaW.PrintWords Go.Proofs.YthpheknchikodaaW.PrintLast
set_option linter.unusedVariables false
set_option linter.unusedSimpArgs false

/-! ### palantypelaw05_house: function 54 -/
def palantypelaw05_house.f  : Option (Int × Int × (List (S59)) × (List (S109))) := (palantypelaw05_span.f 100 110).bind fun bt102 => ((palantypelaw05_span.f 200 220).bind fun bt105 => ((palantypelaw05_span.f 190 230).bind fun bt107 => ((palantypelaw05_span.f 300 300).bind fun bt109 => ((palantypelaw05_span.f 150 150).bind fun bt111 => ((palantypelaw05_span.f 400 400).bind fun bt113 => (some (3, 2, (([(⟨0, 0, (⟨bt102.1, bt102.2⟩ : S49), (⟨bt105.1, bt105.2⟩ : S49)⟩ : S59), (⟨1, 0, (⟨bt107.1, bt107.2⟩ : S49), (⟨bt109.1, bt109.2⟩ : S49)⟩ : S59), (⟨0, 1, (⟨bt111.1, bt111.2⟩ : S49), (⟨bt113.1, bt113.2⟩ : S49)⟩ : S59)] : List (S59))), (([(⟨0, 0, (⟨#[65, 110, 110, 32, 76, 101, 101]⟩ : ByteArray)⟩ : S109), (⟨0, 250, (⟨#[76, 97, 100, 121, 32, 76, 101, 101]⟩ : ByteArray)⟩ : S109)] : List (S109))))))))))
def palantypelaw05_house.T2 : Bool × List (List Nat × List Nat) := (true, [([], []), ([], []), ([0, 1], [0, 1]), ([1], []), ([3], []), ([3, 4], [3, 4]), ([4], []), ([6], []), ([6, 7], [6, 7]), ([2, 5, 8], [2, 5, 8]), ([], []), ([], []), ([10, 11], [10, 11]), ([9, 12], [9, 12]), ([13, 7, 0, 1, 2, 3, 4, 5, 6, 7, 8, 9, 10, 11, 12, 13], [13])])
def palantypelaw05_house.B2 : List Nat := [0, 0, 3, 2, 10, 26, 26, 90, 218, 511, 0, 0, 3072, 8191, 16383]
theorem palantypelaw05_house.tab2 : rtab .any (opsOf Try.f54 2) = palantypelaw05_house.T2 := by kernel_rfl
theorem palantypelaw05_house.bits2 : waitsOk palantypelaw05_house.T2.2 palantypelaw05_house.B2 = true := by kernel_rfl
set_option maxHeartbeats 8000000 in
set_option maxRecDepth 100000 in
theorem palantypelaw05_house.calls  (r1 : Int) (r2 : Int) (r3 : List (S59)) (r4 : List (S109)) (w : World) (h : palantypelaw05_house.f  = some (r1, r2, r3, r4)) :
    Calls Try.prog 54 #[] w fun e w' => ∃ v2_ v3_ : Value, e = .returned (.agg #[.int .i64 r1, .int .i64 r2, v2_, v3_]) ∧ Kd.R k59 59 w' w.heap.size (fun _ => True) v2_ r3 ∧ Kd.R k109 109 w' w.heap.size (fun _ => True) v3_ r4 ∧ Below w.heap.size w w' := by
  have hu35 := Try.underlying35
  have hu49 := Try.underlying49
  have hu59 := Try.underlying59
  have hu109 := Try.underlying109
  have HB := Aside0.mk (Below.refl w.heap.size w)
  have H : ((palantypelaw05_span.f 100 110).bind fun bt102 => ((palantypelaw05_span.f 200 220).bind fun bt105 => ((palantypelaw05_span.f 190 230).bind fun bt107 => ((palantypelaw05_span.f 300 300).bind fun bt109 => ((palantypelaw05_span.f 150 150).bind fun bt111 => ((palantypelaw05_span.f 400 400).bind fun bt113 => (some (3, 2, (([(⟨0, 0, (⟨bt102.1, bt102.2⟩ : S49), (⟨bt105.1, bt105.2⟩ : S49)⟩ : S59), (⟨1, 0, (⟨bt107.1, bt107.2⟩ : S49), (⟨bt109.1, bt109.2⟩ : S49)⟩ : S59), (⟨0, 1, (⟨bt111.1, bt111.2⟩ : S49), (⟨bt113.1, bt113.2⟩ : S49)⟩ : S59)] : List (S59))), (([(⟨0, 0, (⟨#[65, 110, 110, 32, 76, 101, 101]⟩ : ByteArray)⟩ : S109), (⟨0, 250, (⟨#[76, 97, 100, 121, 32, 76, 101, 101]⟩ : ByteArray)⟩ : S109)] : List (S109))))))))))) = some (r1, r2, r3, r4) := h
  clear h
  replace H := Option.bind_eq_some_iff.mp H
  obtain ⟨⟨t102, t103⟩, A10, H⟩ := H
  replace H : ((palantypelaw05_span.f 200 220).bind fun bt105 => ((palantypelaw05_span.f 190 230).bind fun bt107 => ((palantypelaw05_span.f 300 300).bind fun bt109 => ((palantypelaw05_span.f 150 150).bind fun bt111 => ((palantypelaw05_span.f 400 400).bind fun bt113 => (some (3, 2, (([(⟨0, 0, (⟨t102, t103⟩ : S49), (⟨bt105.1, bt105.2⟩ : S49)⟩ : S59), (⟨1, 0, (⟨bt107.1, bt107.2⟩ : S49), (⟨bt109.1, bt109.2⟩ : S49)⟩ : S59), (⟨0, 1, (⟨bt111.1, bt111.2⟩ : S49), (⟨bt113.1, bt113.2⟩ : S49)⟩ : S59)] : List (S59))), (([(⟨0, 0, (⟨#[65, 110, 110, 32, 76, 101, 101]⟩ : ByteArray)⟩ : S109), (⟨0, 250, (⟨#[76, 97, 100, 121, 32, 76, 101, 101]⟩ : ByteArray)⟩ : S109)] : List (S109)))))))))) = some (r1, r2, r3, r4) := H
  have A1 := Aside0.mk A10
  clear A10
  replace H := Option.bind_eq_some_iff.mp H
  obtain ⟨⟨t105, t106⟩, A20, H⟩ := H
  replace H : ((palantypelaw05_span.f 190 230).bind fun bt107 => ((palantypelaw05_span.f 300 300).bind fun bt109 => ((palantypelaw05_span.f 150 150).bind fun bt111 => ((palantypelaw05_span.f 400 400).bind fun bt113 => (some (3, 2, (([(⟨0, 0, (⟨t102, t103⟩ : S49), (⟨t105, t106⟩ : S49)⟩ : S59), (⟨1, 0, (⟨bt107.1, bt107.2⟩ : S49), (⟨bt109.1, bt109.2⟩ : S49)⟩ : S59), (⟨0, 1, (⟨bt111.1, bt111.2⟩ : S49), (⟨bt113.1, bt113.2⟩ : S49)⟩ : S59)] : List (S59))), (([(⟨0, 0, (⟨#[65, 110, 110, 32, 76, 101, 101]⟩ : ByteArray)⟩ : S109), (⟨0, 250, (⟨#[76, 97, 100, 121, 32, 76, 101, 101]⟩ : ByteArray)⟩ : S109)] : List (S109))))))))) = some (r1, r2, r3, r4) := H
  have A2 := Aside0.mk A20
  clear A20
  replace H := Option.bind_eq_some_iff.mp H
  obtain ⟨⟨t107, t108⟩, A30, H⟩ := H
  replace H : ((palantypelaw05_span.f 300 300).bind fun bt109 => ((palantypelaw05_span.f 150 150).bind fun bt111 => ((palantypelaw05_span.f 400 400).bind fun bt113 => (some (3, 2, (([(⟨0, 0, (⟨t102, t103⟩ : S49), (⟨t105, t106⟩ : S49)⟩ : S59), (⟨1, 0, (⟨t107, t108⟩ : S49), (⟨bt109.1, bt109.2⟩ : S49)⟩ : S59), (⟨0, 1, (⟨bt111.1, bt111.2⟩ : S49), (⟨bt113.1, bt113.2⟩ : S49)⟩ : S59)] : List (S59))), (([(⟨0, 0, (⟨#[65, 110, 110, 32, 76, 101, 101]⟩ : ByteArray)⟩ : S109), (⟨0, 250, (⟨#[76, 97, 100, 121, 32, 76, 101, 101]⟩ : ByteArray)⟩ : S109)] : List (S109)))))))) = some (r1, r2, r3, r4) := H
  have A3 := Aside0.mk A30
  clear A30
  replace H := Option.bind_eq_some_iff.mp H
  obtain ⟨⟨t109, t110⟩, A40, H⟩ := H
  replace H : ((palantypelaw05_span.f 150 150).bind fun bt111 => ((palantypelaw05_span.f 400 400).bind fun bt113 => (some (3, 2, (([(⟨0, 0, (⟨t102, t103⟩ : S49), (⟨t105, t106⟩ : S49)⟩ : S59), (⟨1, 0, (⟨t107, t108⟩ : S49), (⟨t109, t110⟩ : S49)⟩ : S59), (⟨0, 1, (⟨bt111.1, bt111.2⟩ : S49), (⟨bt113.1, bt113.2⟩ : S49)⟩ : S59)] : List (S59))), (([(⟨0, 0, (⟨#[65, 110, 110, 32, 76, 101, 101]⟩ : ByteArray)⟩ : S109), (⟨0, 250, (⟨#[76, 97, 100, 121, 32, 76, 101, 101]⟩ : ByteArray)⟩ : S109)] : List (S109))))))) = some (r1, r2, r3, r4) := H
  have A4 := Aside0.mk A40
  clear A40
  replace H := Option.bind_eq_some_iff.mp H
  obtain ⟨⟨t111, t112⟩, A50, H⟩ := H
  replace H : ((palantypelaw05_span.f 400 400).bind fun bt113 => (some (3, 2, (([(⟨0, 0, (⟨t102, t103⟩ : S49), (⟨t105, t106⟩ : S49)⟩ : S59), (⟨1, 0, (⟨t107, t108⟩ : S49), (⟨t109, t110⟩ : S49)⟩ : S59), (⟨0, 1, (⟨t111, t112⟩ : S49), (⟨bt113.1, bt113.2⟩ : S49)⟩ : S59)] : List (S59))), (([(⟨0, 0, (⟨#[65, 110, 110, 32, 76, 101, 101]⟩ : ByteArray)⟩ : S109), (⟨0, 250, (⟨#[76, 97, 100, 121, 32, 76, 101, 101]⟩ : ByteArray)⟩ : S109)] : List (S109)))))) = some (r1, r2, r3, r4) := H
  have A5 := Aside0.mk A50
  clear A50
  replace H := Option.bind_eq_some_iff.mp H
  obtain ⟨⟨t113, t114⟩, A60, H⟩ := H
  replace H : (some (3, 2, (([(⟨0, 0, (⟨t102, t103⟩ : S49), (⟨t105, t106⟩ : S49)⟩ : S59), (⟨1, 0, (⟨t107, t108⟩ : S49), (⟨t109, t110⟩ : S49)⟩ : S59), (⟨0, 1, (⟨t111, t112⟩ : S49), (⟨t113, t114⟩ : S49)⟩ : S59)] : List (S59))), (([(⟨0, 0, (⟨#[65, 110, 110, 32, 76, 101, 101]⟩ : ByteArray)⟩ : S109), (⟨0, 250, (⟨#[76, 97, 100, 121, 32, 76, 101, 101]⟩ : ByteArray)⟩ : S109)] : List (S109))))) = some (r1, r2, r3, r4) := H
  have A6 := Aside0.mk A60
  clear A60
  obtain ⟨y115, hy115⟩ : ∃ y_ : List (S59), y_ = (([(⟨0, 0, (⟨t102, t103⟩ : S49), (⟨t105, t106⟩ : S49)⟩ : S59), (⟨1, 0, (⟨t107, t108⟩ : S49), (⟨t109, t110⟩ : S49)⟩ : S59), (⟨0, 1, (⟨t111, t112⟩ : S49), (⟨t113, t114⟩ : S49)⟩ : S59)] : List (S59))) := ⟨_, rfl⟩
  replace H : (some (3, 2, y115, (([(⟨0, 0, (⟨#[65, 110, 110, 32, 76, 101, 101]⟩ : ByteArray)⟩ : S109), (⟨0, 250, (⟨#[76, 97, 100, 121, 32, 76, 101, 101]⟩ : ByteArray)⟩ : S109)] : List (S109))))) = some (r1, r2, r3, r4) := by first | (rw [hy115]; with_reducible exact H) | (have H2_ := (Option.bind_some _ _).symm.trans H; rw [hy115]; with_reducible exact H2_) | (have H2_ := (Option.bind_some _ _).symm.trans H; with_reducible exact H2_) | with_reducible exact H | (rw [hy115]; exact H) | exact H
  have Ny115 := Aside0.mk hy115
  clear hy115
  obtain ⟨y118, hy118⟩ : ∃ y_ : List (S109), y_ = (([(⟨0, 0, (⟨#[65, 110, 110, 32, 76, 101, 101]⟩ : ByteArray)⟩ : S109), (⟨0, 250, (⟨#[76, 97, 100, 121, 32, 76, 101, 101]⟩ : ByteArray)⟩ : S109)] : List (S109))) := ⟨_, rfl⟩
  replace H : (some (3, 2, y115, y118)) = some (r1, r2, r3, r4) := by first | (rw [hy118]; with_reducible exact H) | (have H2_ := (Option.bind_some _ _).symm.trans H; rw [hy118]; with_reducible exact H2_) | (have H2_ := (Option.bind_some _ _).symm.trans H; with_reducible exact H2_) | with_reducible exact H | (rw [hy118]; exact H) | exact H
  have Ny118 := Aside0.mk hy118
  clear hy118
  simp only [Option.some.injEq, Prod.mk.injEq] at H
  obtain ⟨rfl, rfl, rfl, rfl⟩ := H
  go_enter Try.func54, Try.ntmps54
  try go_wp2_with (first | ((with_reducible refine gate_dst (N := 0) rfl ?_); refine box_event ?hg (N := 0) ?hd (cs := #[.int .i64 0, .int .i64 0, .slice none 0 0, .slice none 0 0]) (t := 35) ?hr ?_; (case hd => rfl); (case hg => rfl); (case hr => first | (go_simp; done) | (go_simp; rfl)); intro gb101 hg w7 hbox hb; have n0_ := Aside0.mk (below_step (by repeat (first | (with_reducible first | exact HB.out | apply below_alloc | apply pw_below_drewN | apply below_drew1) | exact HB.out)) hb); have n1_ := Aside0.mk (hbox); have n2_ := Aside0.mk ((by rw [hg]; exact (below_size (by repeat (first | (with_reducible first | exact HB.out | apply below_alloc | apply pw_below_drewN | apply below_drew1) | exact HB.out))) : w.heap.size ≤ gb101)); have n3_ := Aside0.mk ((by rw [hg]; exact (below_size (by repeat (first | (with_reducible first | exact HB.out | apply below_alloc | apply pw_below_drewN | apply below_drew1) | exact HB.out))) : w.heap.size ≤ gb101)); clear HB; have HB := n0_; have BK101 := n1_; have GW101 := n2_; have GE101 := n3_; clear n0_ n1_ n2_ n3_; clear hb hbox hg) | ((with_reducible refine gate_callee (f := 55) rfl ?_); refine goesL_ (some 2) rfl rfl Try.func55 (by kernel_rfl) rfl #[.int .i64 100, .int .i64 110] rfl (by (try simp only [List.map_toArray, List.map_cons, List.map_nil]); first | done | rfl | (simp only [List.length_drop, List.length_take]; rfl)) ?_; (with_reducible refine (palantypelaw05_span.calls 100 110 t102 t103 _ A1.out).mono ?_); rintro e w8 ⟨rfl, hb⟩; refine ⟨_, rfl, ?_⟩; have n0_ := Aside0.mk (blk_below (g := gb101) (o := .cells #[.int .i64 0, .int .i64 0, .slice none 0 0, .slice none 0 0] 35 (0, 0)) (by (with_reducible repeat (first | refine blk_drewN ?_ _ | refine blk_drew ?_ | refine blk_alloc ?_ _)); exact BK101.out) hb); have n1_ := Aside0.mk (below_step (by repeat (first | (with_reducible first | exact HB.out | apply below_alloc | apply pw_below_drewN | apply below_drew1 | refine below_set ?_ GE101.out) | exact HB.out)) hb); clear BK101; clear HB; have BK101 := n0_; have HB := n1_; clear n0_ n1_; (try clear hb); (try clear hb2); (try clear hk); (try clear hi)) | ((with_reducible refine gate_dst (N := 1) rfl ?_); refine box_event ?hg (N := 1) ?hd (cs := #[.int .i64 0, .int .i64 0]) (t := 49) ?hr ?_; (case hd => rfl); (case hg => rfl); (case hr => first | (go_simp; done) | (go_simp; rfl)); intro gb104 hg w9 hbox hb; have n0_ := Aside0.mk (blk_below (g := gb101) (o := .cells #[.int .i64 0, .int .i64 0, .slice none 0 0, .slice none 0 0] 35 (0, 0)) (by (with_reducible repeat (first | refine blk_drewN ?_ _ | refine blk_drew ?_ | refine blk_alloc ?_ _)); exact BK101.out) hb); have n1_ := Aside0.mk (below_step (by repeat (first | (with_reducible first | exact HB.out | apply below_alloc | apply pw_below_drewN | apply below_drew1 | refine below_set ?_ GE101.out) | exact HB.out)) hb); have n2_ := Aside0.mk (hbox); have n3_ := Aside0.mk ((by rw [hg]; exact (below_size (by repeat (first | (with_reducible first | exact HB.out | apply below_alloc | apply pw_below_drewN | apply below_drew1 | refine below_set ?_ GE101.out) | exact HB.out))) : w.heap.size ≤ gb104)); have n4_ := Aside0.mk ((by rw [hg]; exact (below_size (by repeat (first | (with_reducible first | exact HB.out | apply below_alloc | apply pw_below_drewN | apply below_drew1 | refine below_set ?_ GE101.out) | exact HB.out))) : w.heap.size ≤ gb104)); have n5_ := Aside0.mk ((by rw [hg]; exact Nat.ne_of_lt (blk_lt (g := gb101) (o := .cells #[.int .i64 0, .int .i64 0, .slice none 0 0, .slice none 0 0] 35 (0, 0)) (by (with_reducible repeat (first | refine blk_drewN ?_ _ | refine blk_drew ?_ | refine blk_alloc ?_ _)); exact BK101.out)) : gb101 ≠ gb104)); have n6_ := Aside0.mk ((by rw [hg]; exact Nat.ne_of_gt (blk_lt (g := gb101) (o := .cells #[.int .i64 0, .int .i64 0, .slice none 0 0, .slice none 0 0] 35 (0, 0)) (by (with_reducible repeat (first | refine blk_drewN ?_ _ | refine blk_drew ?_ | refine blk_alloc ?_ _)); exact BK101.out)) : gb104 ≠ gb101)); clear BK101; clear HB; have BK101 := n0_; have HB := n1_; have BK104 := n2_; have GW104 := n3_; have GE104 := n4_; have NB101_104 := n5_; have NB104_101 := n6_; clear n0_ n1_ n2_ n3_ n4_ n5_ n6_; clear hb hbox hg; have hnb10 := NB104_101.out; have hnc10 := NB101_104.out; have hcz11_0 : w9.cell? ⟨gb104, 0, none⟩ = some (.int .i64 0) := (blk_cell BK104.out 0).trans rfl; have hcz11_1 : w9.cell? ⟨gb104, 1, none⟩ = some (.int .i64 0) := (blk_cell BK104.out 1).trans rfl; have hfz11_0 := blk_frozen BK104.out 0; have hfz11_1 := blk_frozen BK104.out 1))
  have n0_ : Aside0 (((w9.setCell ⟨gb104, 0, none⟩ (.int .i64 t102)).setCell ⟨gb104, 1, none⟩ (.int .i64 t103)).heap[gb101]? = some (.cells #[.int .i64 0, .int .i64 0, .slice none 0 0, .slice none 0 0] 35 (0, 0))) := ⟨by (with_reducible repeat (first | refine blk_drewN ?_ _ | refine blk_drew ?_ | refine blk_alloc ?_ _)); refine blk_far ?_ NB101_104.out _; (with_reducible repeat (first | refine blk_drewN ?_ _ | refine blk_drew ?_ | refine blk_alloc ?_ _)); refine blk_far ?_ NB101_104.out _; (with_reducible repeat (first | refine blk_drewN ?_ _ | refine blk_drew ?_ | refine blk_alloc ?_ _)); exact BK101.out⟩
  have n1_ : Aside0 (((w9.setCell ⟨gb104, 0, none⟩ (.int .i64 t102)).setCell ⟨gb104, 1, none⟩ (.int .i64 t103)).heap[gb104]? = some (.cells #[.int .i64 t102, .int .i64 t103] 49 (0, 0))) := ⟨by (with_reducible repeat (first | refine blk_drewN ?_ _ | refine blk_drew ?_ | refine blk_alloc ?_ _)); refine blk_put (cs := #[.int .i64 t102, .int .i64 0]) ?_ 1 _ rfl; (with_reducible repeat (first | refine blk_drewN ?_ _ | refine blk_drew ?_ | refine blk_alloc ?_ _)); refine blk_put (cs := #[.int .i64 0, .int .i64 0]) ?_ 0 _ rfl; (with_reducible repeat (first | refine blk_drewN ?_ _ | refine blk_drew ?_ | refine blk_alloc ?_ _)); exact BK104.out⟩
  have n2_ : Aside0 (Below w.heap.size w ((w9.setCell ⟨gb104, 0, none⟩ (.int .i64 t102)).setCell ⟨gb104, 1, none⟩ (.int .i64 t103))) := ⟨by repeat (first | (with_reducible first | exact HB.out | apply below_alloc | apply pw_below_drewN | apply below_drew1 | refine below_set ?_ GE101.out | refine below_set ?_ GE104.out) | exact HB.out)⟩
  (try clear BK101)
  (try clear BK104)
  (try clear HB)
  generalize ((w9.setCell ⟨gb104, 0, none⟩ (.int .i64 t102)).setCell ⟨gb104, 1, none⟩ (.int .i64 t103)) = w12 at n0_ n1_ n2_ ⊢
  have BK101 := n0_
  have BK104 := n1_
  have HB := n2_
  clear n0_ n1_ n2_
  have n0_ := Aside0.mk (blk_drew BK101.out)
  have n1_ := Aside0.mk (blk_drew BK104.out)
  have n2_ := Aside0.mk (below_drew1 HB.out)
  clear BK101
  clear BK104
  clear HB
  have BK101 := n0_
  have BK104 := n1_
  have HB := n2_
  clear n0_ n1_ n2_
  refine start_ (n := 15) (S := fun w' => True) (ds := []) #[false, false, false, false, false, false, false, false, false, false, false, false, false, false, false] (by kernel_rfl) rfl rfl trivial (fun hHeld => ?_); refine with_tabW palantypelaw05_house.tab2 palantypelaw05_house.bits2 (fun HT_ HW_ => ?_)
  generalize w12.drew = w13 at BK101 BK104 HB hHeld ⊢
  refine inv_at [0, 1, 2, 3, 4, 5, 6, 7, 8, 9, 10, 11, 12, 13, 14] (fun a0_ b a w' => ∃ (v116 : Value) (v119 : Value) (m13_ : Value), a = putSel a0_ b [(0, 3, .agg #[.int .i64 t102, .int .i64 t103]), (1, 4, .agg #[.int .i64 t105, .int .i64 t106]), (2, 5, .agg #[.int .i64 0, .int .i64 0, .int .i64 t102, .int .i64 t103, .int .i64 t105, .int .i64 t106]), (3, 6, .agg #[.int .i64 t107, .int .i64 t108]), (4, 7, .agg #[.int .i64 t109, .int .i64 t110]), (5, 8, .agg #[.int .i64 1, .int .i64 0, .int .i64 t107, .int .i64 t108, .int .i64 t109, .int .i64 t110]), (6, 9, .agg #[.int .i64 t111, .int .i64 t112]), (7, 10, .agg #[.int .i64 t113, .int .i64 t114]), (8, 11, .agg #[.int .i64 0, .int .i64 1, .int .i64 t111, .int .i64 t112, .int .i64 t113, .int .i64 t114]), (9, 12, v116), (10, 13, .agg #[.int .i64 0, .int .i64 0, .string (⟨#[65, 110, 110, 32, 76, 101, 101]⟩ : ByteArray)]), (11, 14, .agg #[.int .i64 0, .int .i64 250, .string (⟨#[76, 97, 100, 121, 32, 76, 101, 101]⟩ : ByteArray)]), (12, 15, v119), (13, 16, m13_)] ∧ (b 14 = false → w'.heap[gb101]? = some (.cells #[.int .i64 0, .int .i64 0, .slice none 0 0, .slice none 0 0] 35 (0, 0))) ∧ (w'.heap[gb104]? = some (.cells #[.int .i64 t102, .int .i64 t103] 49 (0, 0))) ∧ (Below w.heap.size w w') ∧ (b 9 = true → Kd.R k59 59 w' w.heap.size (fun _ => True) v116 y115) ∧ (b 12 = true → Kd.R k109 109 w' w.heap.size (fun _ => True) v119 y118) ∧ (b 14 = true → w'.heap[gb101]? = some (.cells #[.int .i64 3, .int .i64 2, v116, v119] 35 (0, 0))) ∧ (b 13 = true → (m13_ : Value) = .agg #[.int .i64 3, .int .i64 2, v116, v119])) HT_.out HW_.out (by kernel_rfl) (by kernel_rfl) ?_ ?_ ?_
  · exact ⟨.bool false, .bool false, .bool false, by simp only [putSel, Bool.false_eq_true, if_false], fun _ => BK101.out, BK104.out, HB.out, fun h_ => absurd h_ (by decide), fun h_ => absurd h_ (by decide), fun h_ => absurd h_ (by decide), fun h_ => absurd h_ (by decide)⟩
  · skip
    clear BK101 BK104 HB
    refine steps_cons ?_ ?_
    · rintro b a w' ⟨v116, v119, m13_, ha, Q_BK101, Q_BK104, Q_HB, Q_HO117, Q_HO120, Q_BK101_e14, Q_X13_⟩ hb_ hon hoff
      refine ⟨_, rfl, fun K hK => ?_⟩
      have e1 : a.tmps[1]? = some (.pointer (some ⟨gb104, 0, none⟩)) := by rw [ha]; exact (putSel_off rfl).trans rfl
      replace ha := Aside0.mk ha
      have BK101 := Aside0.mk (Q_BK101 (hoff 14 (by kernel_rfl)))
      have BK104 := Aside0.mk Q_BK104
      have HB := Aside0.mk Q_HB
      have hc0_ : w'.cell? ⟨gb104, 0, none⟩ = some (.int .i64 t102) := (blk_cell BK104.out 0).trans rfl
      have hc1_ : w'.cell? ⟨gb104, 1, none⟩ = some (.int .i64 t103) := (blk_cell BK104.out 1).trans rfl
      refine value_ (w1 := w') (v := .agg #[.int .i64 t102, .int .i64 t103]) (by rfl) rfl ?_ ?_
      · go_simp
        (try simp only [i64_w])
        try rfl
      refine hK.out _ _ ⟨v116, v119, m13_, (by rw [ha.out]; exact putSel_upk 0 hb_ rfl rfl rfl), Q_BK101, Q_BK104, Q_HB, fun h0_ => absurd ((hoff 9 (by kernel_rfl)).symm.trans h0_) (by decide), Q_HO120, fun h0_ => absurd ((hoff 14 (by kernel_rfl)).symm.trans h0_) (by decide), fun h0_ => absurd ((hoff 13 (by kernel_rfl)).symm.trans h0_) (by decide)⟩
    refine steps_cons ?_ ?_
    · rintro b a w' ⟨v116, v119, m13_, ha, Q_BK101, Q_BK104, Q_HB, Q_HO117, Q_HO120, Q_BK101_e14, Q_X13_⟩ hb_ hon hoff
      refine ⟨_, rfl, fun K hK => ?_⟩
      replace ha := Aside0.mk ha
      have BK101 := Aside0.mk (Q_BK101 (hoff 14 (by kernel_rfl)))
      have BK104 := Aside0.mk Q_BK104
      have HB := Aside0.mk Q_HB
      refine goes_ Try.func55 (by kernel_rfl) rfl #[.int .i64 200, .int .i64 220] (by rfl) rfl rfl (by first | (simp only [List.map_toArray, List.map_cons, List.map_nil, Act.eval, Array.getD_eq_getD_getElem?, Option.getD_some]; done) | (simp only [List.map_toArray, List.map_cons, List.map_nil, Act.eval, Array.getD_eq_getD_getElem?, Option.getD_some]; rfl)) ?_
      with_reducible refine (palantypelaw05_span.calls 200 220 t105 t106 _ A2.out).mono ?_
      rintro e w14 ⟨rfl, hb⟩
      refine ⟨_, rfl, ?_⟩
      have n0_ := Aside0.mk (blk_below (g := gb101) (o := .cells #[.int .i64 0, .int .i64 0, .slice none 0 0, .slice none 0 0] 35 (0, 0)) (by (with_reducible repeat (first | refine blk_drewN ?_ _ | refine blk_drew ?_ | refine blk_alloc ?_ _)); exact BK101.out) hb)
      have n1_ := Aside0.mk (blk_below (g := gb104) (o := .cells #[.int .i64 t102, .int .i64 t103] 49 (0, 0)) (by (with_reducible repeat (first | refine blk_drewN ?_ _ | refine blk_drew ?_ | refine blk_alloc ?_ _)); exact BK104.out) hb)
      have n2_ := Aside0.mk (below_step (by repeat (first | (with_reducible first | exact HB.out | apply below_alloc | apply pw_below_drewN | apply below_drew1 | refine below_set ?_ GE101.out | refine below_set ?_ GE104.out) | exact HB.out)) hb)
      have z_HO120 := fun (h0_ : b 12 = true) => (show Kd.R k109 109 w14 w.heap.size (fun _ => True) v119 y118 from by first | exact (Kd.R_below (by (with_reducible repeat (first | apply Kd.R_alloc | apply Kd.R_drewN | apply Kd.R_drew)); exact (Q_HO120 h0_)) hb) | exact Kd.R_mono (Kd.R_below (by (with_reducible repeat (first | apply Kd.R_alloc | apply Kd.R_drewN | apply Kd.R_drew)); exact (Q_HO120 h0_)) hb) (fun _ h_ => by first | trivial | exact h_ | exact h_.1))
      clear BK101
      clear BK104
      clear HB
      have BK101 := n0_
      have BK104 := n1_
      have HB := n2_
      clear n0_ n1_ n2_
      (try clear hb)
      (try clear hb2)
      (try clear hk)
      (try clear hi)
      refine hK.out _ _ ⟨v116, v119, m13_, (by rw [ha.out]; exact putSel_upk 1 hb_ rfl rfl rfl), fun _ => (by (with_reducible repeat (first | refine blk_drewN ?_ _ | refine blk_drew ?_ | refine blk_alloc ?_ _)); exact BK101.out), (by (with_reducible repeat (first | refine blk_drewN ?_ _ | refine blk_drew ?_ | refine blk_alloc ?_ _)); exact BK104.out), (by repeat (first | (with_reducible first | exact HB.out | apply below_alloc | apply pw_below_drewN | apply below_drew1 | refine below_set ?_ GE101.out | refine below_set ?_ GE104.out) | exact HB.out)), fun h0_ => absurd ((hoff 9 (by kernel_rfl)).symm.trans h0_) (by decide), z_HO120, fun h0_ => absurd ((hoff 14 (by kernel_rfl)).symm.trans h0_) (by decide), fun h0_ => absurd ((hoff 13 (by kernel_rfl)).symm.trans h0_) (by decide)⟩
    refine steps_cons ?_ ?_
    · rintro b a w' ⟨v116, v119, m13_, ha, Q_BK101, Q_BK104, Q_HB, Q_HO117, Q_HO120, Q_BK101_e14, Q_X13_⟩ hb_ hon hoff
      refine ⟨_, rfl, fun K hK => ?_⟩
      have e3 : a.tmps[3]? = some (.agg #[.int .i64 t102, .int .i64 t103]) := by rw [ha]; exact putSel_on (e := (0, 3, .agg #[.int .i64 t102, .int .i64 t103])) 0 rfl rfl (hon 0 (by kernel_rfl)) rfl
      have e4 : a.tmps[4]? = some (.agg #[.int .i64 t105, .int .i64 t106]) := by rw [ha]; exact putSel_on (e := (1, 4, .agg #[.int .i64 t105, .int .i64 t106])) 1 rfl rfl (hon 1 (by kernel_rfl)) rfl
      replace ha := Aside0.mk ha
      have BK101 := Aside0.mk (Q_BK101 (hoff 14 (by kernel_rfl)))
      have BK104 := Aside0.mk Q_BK104
      have HB := Aside0.mk Q_HB
      refine value_ (w1 := w') (v := .agg #[.int .i64 0, .int .i64 0, .int .i64 t102, .int .i64 t103, .int .i64 t105, .int .i64 t106]) (by rfl) rfl ?_ ?_
      · go_simp
        (try simp only [i64_w])
        try rfl
      refine hK.out _ _ ⟨v116, v119, m13_, (by rw [ha.out]; exact putSel_upk 2 hb_ rfl rfl rfl), Q_BK101, Q_BK104, Q_HB, fun h0_ => absurd ((hoff 9 (by kernel_rfl)).symm.trans h0_) (by decide), Q_HO120, fun h0_ => absurd ((hoff 14 (by kernel_rfl)).symm.trans h0_) (by decide), fun h0_ => absurd ((hoff 13 (by kernel_rfl)).symm.trans h0_) (by decide)⟩
    refine steps_cons ?_ ?_
    · rintro b a w' ⟨v116, v119, m13_, ha, Q_BK101, Q_BK104, Q_HB, Q_HO117, Q_HO120, Q_BK101_e14, Q_X13_⟩ hb_ hon hoff
      refine ⟨_, rfl, fun K hK => ?_⟩
      replace ha := Aside0.mk ha
      have BK101 := Aside0.mk (Q_BK101 (hoff 14 (by kernel_rfl)))
      have BK104 := Aside0.mk Q_BK104
      have HB := Aside0.mk Q_HB
      refine goes_ Try.func55 (by kernel_rfl) rfl #[.int .i64 190, .int .i64 230] (by rfl) rfl rfl (by first | (simp only [List.map_toArray, List.map_cons, List.map_nil, Act.eval, Array.getD_eq_getD_getElem?, Option.getD_some]; done) | (simp only [List.map_toArray, List.map_cons, List.map_nil, Act.eval, Array.getD_eq_getD_getElem?, Option.getD_some]; rfl)) ?_
      with_reducible refine (palantypelaw05_span.calls 190 230 t107 t108 _ A3.out).mono ?_
      rintro e w16 ⟨rfl, hb⟩
      refine ⟨_, rfl, ?_⟩
      have n0_ := Aside0.mk (blk_below (g := gb101) (o := .cells #[.int .i64 0, .int .i64 0, .slice none 0 0, .slice none 0 0] 35 (0, 0)) (by (with_reducible repeat (first | refine blk_drewN ?_ _ | refine blk_drew ?_ | refine blk_alloc ?_ _)); exact BK101.out) hb)
      have n1_ := Aside0.mk (blk_below (g := gb104) (o := .cells #[.int .i64 t102, .int .i64 t103] 49 (0, 0)) (by (with_reducible repeat (first | refine blk_drewN ?_ _ | refine blk_drew ?_ | refine blk_alloc ?_ _)); exact BK104.out) hb)
      have n2_ := Aside0.mk (below_step (by repeat (first | (with_reducible first | exact HB.out | apply below_alloc | apply pw_below_drewN | apply below_drew1 | refine below_set ?_ GE101.out | refine below_set ?_ GE104.out) | exact HB.out)) hb)
      have z_HO120 := fun (h0_ : b 12 = true) => (show Kd.R k109 109 w16 w.heap.size (fun _ => True) v119 y118 from by first | exact (Kd.R_below (by (with_reducible repeat (first | apply Kd.R_alloc | apply Kd.R_drewN | apply Kd.R_drew)); exact (Q_HO120 h0_)) hb) | exact Kd.R_mono (Kd.R_below (by (with_reducible repeat (first | apply Kd.R_alloc | apply Kd.R_drewN | apply Kd.R_drew)); exact (Q_HO120 h0_)) hb) (fun _ h_ => by first | trivial | exact h_ | exact h_.1))
      clear BK101
      clear BK104
      clear HB
      have BK101 := n0_
      have BK104 := n1_
      have HB := n2_
      clear n0_ n1_ n2_
      (try clear hb)
      (try clear hb2)
      (try clear hk)
      (try clear hi)
      refine hK.out _ _ ⟨v116, v119, m13_, (by rw [ha.out]; exact putSel_upk 3 hb_ rfl rfl rfl), fun _ => (by (with_reducible repeat (first | refine blk_drewN ?_ _ | refine blk_drew ?_ | refine blk_alloc ?_ _)); exact BK101.out), (by (with_reducible repeat (first | refine blk_drewN ?_ _ | refine blk_drew ?_ | refine blk_alloc ?_ _)); exact BK104.out), (by repeat (first | (with_reducible first | exact HB.out | apply below_alloc | apply pw_below_drewN | apply below_drew1 | refine below_set ?_ GE101.out | refine below_set ?_ GE104.out) | exact HB.out)), fun h0_ => absurd ((hoff 9 (by kernel_rfl)).symm.trans h0_) (by decide), z_HO120, fun h0_ => absurd ((hoff 14 (by kernel_rfl)).symm.trans h0_) (by decide), fun h0_ => absurd ((hoff 13 (by kernel_rfl)).symm.trans h0_) (by decide)⟩
    refine steps_cons ?_ ?_
    · rintro b a w' ⟨v116, v119, m13_, ha, Q_BK101, Q_BK104, Q_HB, Q_HO117, Q_HO120, Q_BK101_e14, Q_X13_⟩ hb_ hon hoff
      refine ⟨_, rfl, fun K hK => ?_⟩
      replace ha := Aside0.mk ha
      have BK101 := Aside0.mk (Q_BK101 (hoff 14 (by kernel_rfl)))
      have BK104 := Aside0.mk Q_BK104
      have HB := Aside0.mk Q_HB
      refine goes_ Try.func55 (by kernel_rfl) rfl #[.int .i64 300, .int .i64 300] (by rfl) rfl rfl (by first | (simp only [List.map_toArray, List.map_cons, List.map_nil, Act.eval, Array.getD_eq_getD_getElem?, Option.getD_some]; done) | (simp only [List.map_toArray, List.map_cons, List.map_nil, Act.eval, Array.getD_eq_getD_getElem?, Option.getD_some]; rfl)) ?_
      with_reducible refine (palantypelaw05_span.calls 300 300 t109 t110 _ A4.out).mono ?_
      rintro e w17 ⟨rfl, hb⟩
      refine ⟨_, rfl, ?_⟩
      have n0_ := Aside0.mk (blk_below (g := gb101) (o := .cells #[.int .i64 0, .int .i64 0, .slice none 0 0, .slice none 0 0] 35 (0, 0)) (by (with_reducible repeat (first | refine blk_drewN ?_ _ | refine blk_drew ?_ | refine blk_alloc ?_ _)); exact BK101.out) hb)
      have n1_ := Aside0.mk (blk_below (g := gb104) (o := .cells #[.int .i64 t102, .int .i64 t103] 49 (0, 0)) (by (with_reducible repeat (first | refine blk_drewN ?_ _ | refine blk_drew ?_ | refine blk_alloc ?_ _)); exact BK104.out) hb)
      have n2_ := Aside0.mk (below_step (by repeat (first | (with_reducible first | exact HB.out | apply below_alloc | apply pw_below_drewN | apply below_drew1 | refine below_set ?_ GE101.out | refine below_set ?_ GE104.out) | exact HB.out)) hb)
      have z_HO120 := fun (h0_ : b 12 = true) => (show Kd.R k109 109 w17 w.heap.size (fun _ => True) v119 y118 from by first | exact (Kd.R_below (by (with_reducible repeat (first | apply Kd.R_alloc | apply Kd.R_drewN | apply Kd.R_drew)); exact (Q_HO120 h0_)) hb) | exact Kd.R_mono (Kd.R_below (by (with_reducible repeat (first | apply Kd.R_alloc | apply Kd.R_drewN | apply Kd.R_drew)); exact (Q_HO120 h0_)) hb) (fun _ h_ => by first | trivial | exact h_ | exact h_.1))
      clear BK101
      clear BK104
      clear HB
      have BK101 := n0_
      have BK104 := n1_
      have HB := n2_
      clear n0_ n1_ n2_
      (try clear hb)
      (try clear hb2)
      (try clear hk)
      (try clear hi)
      refine hK.out _ _ ⟨v116, v119, m13_, (by rw [ha.out]; exact putSel_upk 4 hb_ rfl rfl rfl), fun _ => (by (with_reducible repeat (first | refine blk_drewN ?_ _ | refine blk_drew ?_ | refine blk_alloc ?_ _)); exact BK101.out), (by (with_reducible repeat (first | refine blk_drewN ?_ _ | refine blk_drew ?_ | refine blk_alloc ?_ _)); exact BK104.out), (by repeat (first | (with_reducible first | exact HB.out | apply below_alloc | apply pw_below_drewN | apply below_drew1 | refine below_set ?_ GE101.out | refine below_set ?_ GE104.out) | exact HB.out)), fun h0_ => absurd ((hoff 9 (by kernel_rfl)).symm.trans h0_) (by decide), z_HO120, fun h0_ => absurd ((hoff 14 (by kernel_rfl)).symm.trans h0_) (by decide), fun h0_ => absurd ((hoff 13 (by kernel_rfl)).symm.trans h0_) (by decide)⟩
    refine steps_cons ?_ ?_
    · rintro b a w' ⟨v116, v119, m13_, ha, Q_BK101, Q_BK104, Q_HB, Q_HO117, Q_HO120, Q_BK101_e14, Q_X13_⟩ hb_ hon hoff
      refine ⟨_, rfl, fun K hK => ?_⟩
      have e6 : a.tmps[6]? = some (.agg #[.int .i64 t107, .int .i64 t108]) := by rw [ha]; exact putSel_on (e := (3, 6, .agg #[.int .i64 t107, .int .i64 t108])) 3 rfl rfl (hon 3 (by kernel_rfl)) rfl
      have e7 : a.tmps[7]? = some (.agg #[.int .i64 t109, .int .i64 t110]) := by rw [ha]; exact putSel_on (e := (4, 7, .agg #[.int .i64 t109, .int .i64 t110])) 4 rfl rfl (hon 4 (by kernel_rfl)) rfl
      replace ha := Aside0.mk ha
      have BK101 := Aside0.mk (Q_BK101 (hoff 14 (by kernel_rfl)))
      have BK104 := Aside0.mk Q_BK104
      have HB := Aside0.mk Q_HB
      refine value_ (w1 := w') (v := .agg #[.int .i64 1, .int .i64 0, .int .i64 t107, .int .i64 t108, .int .i64 t109, .int .i64 t110]) (by rfl) rfl ?_ ?_
      · go_simp
        (try simp only [i64_w])
        try rfl
      refine hK.out _ _ ⟨v116, v119, m13_, (by rw [ha.out]; exact putSel_upk 5 hb_ rfl rfl rfl), Q_BK101, Q_BK104, Q_HB, fun h0_ => absurd ((hoff 9 (by kernel_rfl)).symm.trans h0_) (by decide), Q_HO120, fun h0_ => absurd ((hoff 14 (by kernel_rfl)).symm.trans h0_) (by decide), fun h0_ => absurd ((hoff 13 (by kernel_rfl)).symm.trans h0_) (by decide)⟩
    refine steps_cons ?_ ?_
    · rintro b a w' ⟨v116, v119, m13_, ha, Q_BK101, Q_BK104, Q_HB, Q_HO117, Q_HO120, Q_BK101_e14, Q_X13_⟩ hb_ hon hoff
      refine ⟨_, rfl, fun K hK => ?_⟩
      replace ha := Aside0.mk ha
      have BK101 := Aside0.mk (Q_BK101 (hoff 14 (by kernel_rfl)))
      have BK104 := Aside0.mk Q_BK104
      have HB := Aside0.mk Q_HB
      refine goes_ Try.func55 (by kernel_rfl) rfl #[.int .i64 150, .int .i64 150] (by rfl) rfl rfl (by first | (simp only [List.map_toArray, List.map_cons, List.map_nil, Act.eval, Array.getD_eq_getD_getElem?, Option.getD_some]; done) | (simp only [List.map_toArray, List.map_cons, List.map_nil, Act.eval, Array.getD_eq_getD_getElem?, Option.getD_some]; rfl)) ?_
      with_reducible refine (palantypelaw05_span.calls 150 150 t111 t112 _ A5.out).mono ?_
      rintro e w18 ⟨rfl, hb⟩
      refine ⟨_, rfl, ?_⟩
      have n0_ := Aside0.mk (blk_below (g := gb101) (o := .cells #[.int .i64 0, .int .i64 0, .slice none 0 0, .slice none 0 0] 35 (0, 0)) (by (with_reducible repeat (first | refine blk_drewN ?_ _ | refine blk_drew ?_ | refine blk_alloc ?_ _)); exact BK101.out) hb)
      have n1_ := Aside0.mk (blk_below (g := gb104) (o := .cells #[.int .i64 t102, .int .i64 t103] 49 (0, 0)) (by (with_reducible repeat (first | refine blk_drewN ?_ _ | refine blk_drew ?_ | refine blk_alloc ?_ _)); exact BK104.out) hb)
      have n2_ := Aside0.mk (below_step (by repeat (first | (with_reducible first | exact HB.out | apply below_alloc | apply pw_below_drewN | apply below_drew1 | refine below_set ?_ GE101.out | refine below_set ?_ GE104.out) | exact HB.out)) hb)
      have z_HO120 := fun (h0_ : b 12 = true) => (show Kd.R k109 109 w18 w.heap.size (fun _ => True) v119 y118 from by first | exact (Kd.R_below (by (with_reducible repeat (first | apply Kd.R_alloc | apply Kd.R_drewN | apply Kd.R_drew)); exact (Q_HO120 h0_)) hb) | exact Kd.R_mono (Kd.R_below (by (with_reducible repeat (first | apply Kd.R_alloc | apply Kd.R_drewN | apply Kd.R_drew)); exact (Q_HO120 h0_)) hb) (fun _ h_ => by first | trivial | exact h_ | exact h_.1))
      clear BK101
      clear BK104
      clear HB
      have BK101 := n0_
      have BK104 := n1_
      have HB := n2_
      clear n0_ n1_ n2_
      (try clear hb)
      (try clear hb2)
      (try clear hk)
      (try clear hi)
      refine hK.out _ _ ⟨v116, v119, m13_, (by rw [ha.out]; exact putSel_upk 6 hb_ rfl rfl rfl), fun _ => (by (with_reducible repeat (first | refine blk_drewN ?_ _ | refine blk_drew ?_ | refine blk_alloc ?_ _)); exact BK101.out), (by (with_reducible repeat (first | refine blk_drewN ?_ _ | refine blk_drew ?_ | refine blk_alloc ?_ _)); exact BK104.out), (by repeat (first | (with_reducible first | exact HB.out | apply below_alloc | apply pw_below_drewN | apply below_drew1 | refine below_set ?_ GE101.out | refine below_set ?_ GE104.out) | exact HB.out)), fun h0_ => absurd ((hoff 9 (by kernel_rfl)).symm.trans h0_) (by decide), z_HO120, fun h0_ => absurd ((hoff 14 (by kernel_rfl)).symm.trans h0_) (by decide), fun h0_ => absurd ((hoff 13 (by kernel_rfl)).symm.trans h0_) (by decide)⟩
    refine steps_cons ?_ ?_
    · rintro b a w' ⟨v116, v119, m13_, ha, Q_BK101, Q_BK104, Q_HB, Q_HO117, Q_HO120, Q_BK101_e14, Q_X13_⟩ hb_ hon hoff
      refine ⟨_, rfl, fun K hK => ?_⟩
      replace ha := Aside0.mk ha
      have BK101 := Aside0.mk (Q_BK101 (hoff 14 (by kernel_rfl)))
      have BK104 := Aside0.mk Q_BK104
      have HB := Aside0.mk Q_HB
      refine goes_ Try.func55 (by kernel_rfl) rfl #[.int .i64 400, .int .i64 400] (by rfl) rfl rfl (by first | (simp only [List.map_toArray, List.map_cons, List.map_nil, Act.eval, Array.getD_eq_getD_getElem?, Option.getD_some]; done) | (simp only [List.map_toArray, List.map_cons, List.map_nil, Act.eval, Array.getD_eq_getD_getElem?, Option.getD_some]; rfl)) ?_
      with_reducible refine (palantypelaw05_span.calls 400 400 t113 t114 _ A6.out).mono ?_
      rintro e w19 ⟨rfl, hb⟩
      refine ⟨_, rfl, ?_⟩
      have n0_ := Aside0.mk (blk_below (g := gb101) (o := .cells #[.int .i64 0, .int .i64 0, .slice none 0 0, .slice none 0 0] 35 (0, 0)) (by (with_reducible repeat (first | refine blk_drewN ?_ _ | refine blk_drew ?_ | refine blk_alloc ?_ _)); exact BK101.out) hb)
      have n1_ := Aside0.mk (blk_below (g := gb104) (o := .cells #[.int .i64 t102, .int .i64 t103] 49 (0, 0)) (by (with_reducible repeat (first | refine blk_drewN ?_ _ | refine blk_drew ?_ | refine blk_alloc ?_ _)); exact BK104.out) hb)
      have n2_ := Aside0.mk (below_step (by repeat (first | (with_reducible first | exact HB.out | apply below_alloc | apply pw_below_drewN | apply below_drew1 | refine below_set ?_ GE101.out | refine below_set ?_ GE104.out) | exact HB.out)) hb)
      have z_HO120 := fun (h0_ : b 12 = true) => (show Kd.R k109 109 w19 w.heap.size (fun _ => True) v119 y118 from by first | exact (Kd.R_below (by (with_reducible repeat (first | apply Kd.R_alloc | apply Kd.R_drewN | apply Kd.R_drew)); exact (Q_HO120 h0_)) hb) | exact Kd.R_mono (Kd.R_below (by (with_reducible repeat (first | apply Kd.R_alloc | apply Kd.R_drewN | apply Kd.R_drew)); exact (Q_HO120 h0_)) hb) (fun _ h_ => by first | trivial | exact h_ | exact h_.1))
      clear BK101
      clear BK104
      clear HB
      have BK101 := n0_
      have BK104 := n1_
      have HB := n2_
      clear n0_ n1_ n2_
      (try clear hb)
      (try clear hb2)
      (try clear hk)
      (try clear hi)
      refine hK.out _ _ ⟨v116, v119, m13_, (by rw [ha.out]; exact putSel_upk 7 hb_ rfl rfl rfl), fun _ => (by (with_reducible repeat (first | refine blk_drewN ?_ _ | refine blk_drew ?_ | refine blk_alloc ?_ _)); exact BK101.out), (by (with_reducible repeat (first | refine blk_drewN ?_ _ | refine blk_drew ?_ | refine blk_alloc ?_ _)); exact BK104.out), (by repeat (first | (with_reducible first | exact HB.out | apply below_alloc | apply pw_below_drewN | apply below_drew1 | refine below_set ?_ GE101.out | refine below_set ?_ GE104.out) | exact HB.out)), fun h0_ => absurd ((hoff 9 (by kernel_rfl)).symm.trans h0_) (by decide), z_HO120, fun h0_ => absurd ((hoff 14 (by kernel_rfl)).symm.trans h0_) (by decide), fun h0_ => absurd ((hoff 13 (by kernel_rfl)).symm.trans h0_) (by decide)⟩
    refine steps_cons ?_ ?_
    · rintro b a w' ⟨v116, v119, m13_, ha, Q_BK101, Q_BK104, Q_HB, Q_HO117, Q_HO120, Q_BK101_e14, Q_X13_⟩ hb_ hon hoff
      refine ⟨_, rfl, fun K hK => ?_⟩
      have e9 : a.tmps[9]? = some (.agg #[.int .i64 t111, .int .i64 t112]) := by rw [ha]; exact putSel_on (e := (6, 9, .agg #[.int .i64 t111, .int .i64 t112])) 6 rfl rfl (hon 6 (by kernel_rfl)) rfl
      have e10 : a.tmps[10]? = some (.agg #[.int .i64 t113, .int .i64 t114]) := by rw [ha]; exact putSel_on (e := (7, 10, .agg #[.int .i64 t113, .int .i64 t114])) 7 rfl rfl (hon 7 (by kernel_rfl)) rfl
      replace ha := Aside0.mk ha
      have BK101 := Aside0.mk (Q_BK101 (hoff 14 (by kernel_rfl)))
      have BK104 := Aside0.mk Q_BK104
      have HB := Aside0.mk Q_HB
      refine value_ (w1 := w') (v := .agg #[.int .i64 0, .int .i64 1, .int .i64 t111, .int .i64 t112, .int .i64 t113, .int .i64 t114]) (by rfl) rfl ?_ ?_
      · go_simp
        (try simp only [i64_w])
        try rfl
      refine hK.out _ _ ⟨v116, v119, m13_, (by rw [ha.out]; exact putSel_upk 8 hb_ rfl rfl rfl), Q_BK101, Q_BK104, Q_HB, fun h0_ => absurd ((hoff 9 (by kernel_rfl)).symm.trans h0_) (by decide), Q_HO120, fun h0_ => absurd ((hoff 14 (by kernel_rfl)).symm.trans h0_) (by decide), fun h0_ => absurd ((hoff 13 (by kernel_rfl)).symm.trans h0_) (by decide)⟩
    refine steps_cons ?_ ?_
    · rintro b a w' ⟨v116, v119, m13_, ha, Q_BK101, Q_BK104, Q_HB, Q_HO117, Q_HO120, Q_BK101_e14, Q_X13_⟩ hb_ hon hoff
      refine ⟨_, rfl, fun K hK => ?_⟩
      have e5 : a.tmps[5]? = some (.agg #[.int .i64 0, .int .i64 0, .int .i64 t102, .int .i64 t103, .int .i64 t105, .int .i64 t106]) := by rw [ha]; exact putSel_on (e := (2, 5, .agg #[.int .i64 0, .int .i64 0, .int .i64 t102, .int .i64 t103, .int .i64 t105, .int .i64 t106])) 2 rfl rfl (hon 2 (by kernel_rfl)) rfl
      have e8 : a.tmps[8]? = some (.agg #[.int .i64 1, .int .i64 0, .int .i64 t107, .int .i64 t108, .int .i64 t109, .int .i64 t110]) := by rw [ha]; exact putSel_on (e := (5, 8, .agg #[.int .i64 1, .int .i64 0, .int .i64 t107, .int .i64 t108, .int .i64 t109, .int .i64 t110])) 5 rfl rfl (hon 5 (by kernel_rfl)) rfl
      have e11 : a.tmps[11]? = some (.agg #[.int .i64 0, .int .i64 1, .int .i64 t111, .int .i64 t112, .int .i64 t113, .int .i64 t114]) := by rw [ha]; exact putSel_on (e := (8, 11, .agg #[.int .i64 0, .int .i64 1, .int .i64 t111, .int .i64 t112, .int .i64 t113, .int .i64 t114])) 8 rfl rfl (hon 8 (by kernel_rfl)) rfl
      replace ha := Aside0.mk ha
      have BK101 := Aside0.mk (Q_BK101 (hoff 14 (by kernel_rfl)))
      have BK104 := Aside0.mk Q_BK104
      have HB := Aside0.mk Q_HB
      refine Kd.R_lit_step k59 _ 59 ?hg (N := 12) ?hd (xs := ([(⟨0, 0, (⟨t102, t103⟩ : S49), (⟨t105, t106⟩ : S49)⟩ : S59), (⟨1, 0, (⟨t107, t108⟩ : S49), (⟨t109, t110⟩ : S49)⟩ : S59), (⟨0, 1, (⟨t111, t112⟩ : S49), (⟨t113, t114⟩ : S49)⟩ : S59)] : List (S59))) (inner := [.int .i64 0, .int .i64 0, .int .i64 t102, .int .i64 t103, .int .i64 t105, .int .i64 t106, .int .i64 1, .int .i64 0, .int .i64 t107, .int .i64 t108, .int .i64 t109, .int .i64 t110, .int .i64 0, .int .i64 1, .int .i64 t111, .int .i64 t112, .int .i64 t113, .int .i64 t114]) (ok := fun _ => True) (okp := fun _ => True) ?hr ?hp (fun _ hk => hk) trivial (Below.refl _ _) (Nat.le_refl _) (by simp) ?_; (case hd => rfl); (case hg => rfl); (case hr => first | (go_simp; done) | (go_simp; rfl)); (case hp => exact (Reps.c6 (show Kd.M k59 _ _ _ (⟨0, 0, (⟨t102, t103⟩ : S49), (⟨t105, t106⟩ : S49)⟩ : S59) [.int .i64 0, .int .i64 0, .int .i64 t102, .int .i64 t103, .int .i64 t105, .int .i64 t106] from (k59_mkM _ _ _ (⟨0, 0, (⟨t102, t103⟩ : S49), (⟨t105, t106⟩ : S49)⟩ : S59) )) (Reps.c6 (show Kd.M k59 _ _ _ (⟨1, 0, (⟨t107, t108⟩ : S49), (⟨t109, t110⟩ : S49)⟩ : S59) [.int .i64 1, .int .i64 0, .int .i64 t107, .int .i64 t108, .int .i64 t109, .int .i64 t110] from (k59_mkM _ _ _ (⟨1, 0, (⟨t107, t108⟩ : S49), (⟨t109, t110⟩ : S49)⟩ : S59) )) (Reps.c6 (show Kd.M k59 _ _ _ (⟨0, 1, (⟨t111, t112⟩ : S49), (⟨t113, t114⟩ : S49)⟩ : S59) [.int .i64 0, .int .i64 1, .int .i64 t111, .int .i64 t112, .int .i64 t113, .int .i64 t114] from (k59_mkM _ _ _ (⟨0, 1, (⟨t111, t112⟩ : S49), (⟨t113, t114⟩ : S49)⟩ : S59) )) (Reps.none _ _)))))
      intro v116 w20 ho21 hb hg_ hnew_
      clear hg_ hnew_
      (first | rw [← Ny115.out] at ho21 | (simp only [Int.reduceToNat] at ho21; rw [← Ny115.out] at ho21))
      have n0_ := Aside0.mk (Kd.R_lower ho21 (below_size (by repeat (first | (with_reducible first | exact HB.out | apply below_alloc | apply pw_below_drewN | apply below_drew1 | refine below_set ?_ GE101.out | refine below_set ?_ GE104.out) | exact HB.out))))
      have n1_ := Aside0.mk (blk_below (g := gb101) (o := .cells #[.int .i64 0, .int .i64 0, .slice none 0 0, .slice none 0 0] 35 (0, 0)) (by (with_reducible repeat (first | refine blk_drewN ?_ _ | refine blk_drew ?_ | refine blk_alloc ?_ _)); exact BK101.out) hb)
      have n2_ := Aside0.mk (blk_below (g := gb104) (o := .cells #[.int .i64 t102, .int .i64 t103] 49 (0, 0)) (by (with_reducible repeat (first | refine blk_drewN ?_ _ | refine blk_drew ?_ | refine blk_alloc ?_ _)); exact BK104.out) hb)
      have n3_ := Aside0.mk (below_step (by repeat (first | (with_reducible first | exact HB.out | apply below_alloc | apply pw_below_drewN | apply below_drew1 | refine below_set ?_ GE101.out | refine below_set ?_ GE104.out) | exact HB.out)) hb)
      have z_HO120 := fun (h0_ : b 12 = true) => (show Kd.R k109 109 w20 w.heap.size (fun _ => True) v119 y118 from by first | exact (Kd.R_below (by (with_reducible repeat (first | apply Kd.R_alloc | apply Kd.R_drewN | apply Kd.R_drew)); exact (Q_HO120 h0_)) hb) | exact Kd.R_mono (Kd.R_below (by (with_reducible repeat (first | apply Kd.R_alloc | apply Kd.R_drewN | apply Kd.R_drew)); exact (Q_HO120 h0_)) hb) (fun _ h_ => by first | trivial | exact h_ | exact h_.1))
      clear BK101
      clear BK104
      clear HB
      have HO117 := n0_
      have BK101 := n1_
      have BK104 := n2_
      have HB := n3_
      clear n0_ n1_ n2_ n3_
      clear hb ho21
      refine hK.out _ _ ⟨v116, v119, m13_, (by rw [ha.out]; exact putSel_upk 9 hb_ rfl rfl rfl), fun _ => (by (with_reducible repeat (first | refine blk_drewN ?_ _ | refine blk_drew ?_ | refine blk_alloc ?_ _)); exact BK101.out), (by (with_reducible repeat (first | refine blk_drewN ?_ _ | refine blk_drew ?_ | refine blk_alloc ?_ _)); exact BK104.out), (by repeat (first | (with_reducible first | exact HB.out | apply below_alloc | apply pw_below_drewN | apply below_drew1 | refine below_set ?_ GE101.out | refine below_set ?_ GE104.out) | exact HB.out)), fun _ => (by (with_reducible repeat (first | apply Kd.R_alloc | apply Kd.R_drewN | apply Kd.R_drew)); exact HO117.out), z_HO120, fun h0_ => absurd ((hoff 14 (by kernel_rfl)).symm.trans h0_) (by decide), fun h0_ => absurd ((hoff 13 (by kernel_rfl)).symm.trans h0_) (by decide)⟩
    refine steps_cons ?_ ?_
    · rintro b a w' ⟨v116, v119, m13_, ha, Q_BK101, Q_BK104, Q_HB, Q_HO117, Q_HO120, Q_BK101_e14, Q_X13_⟩ hb_ hon hoff
      refine ⟨_, rfl, fun K hK => ?_⟩
      replace ha := Aside0.mk ha
      have BK101 := Aside0.mk (Q_BK101 (hoff 14 (by kernel_rfl)))
      have BK104 := Aside0.mk Q_BK104
      have HB := Aside0.mk Q_HB
      refine value_ (w1 := w') (v := .agg #[.int .i64 0, .int .i64 0, .string (⟨#[65, 110, 110, 32, 76, 101, 101]⟩ : ByteArray)]) (by rfl) rfl ?_ ?_
      · go_simp
        (try simp only [i64_w])
        try rfl
      refine hK.out _ _ ⟨v116, v119, m13_, (by rw [ha.out]; exact putSel_upk 10 hb_ rfl rfl rfl), Q_BK101, Q_BK104, Q_HB, Q_HO117, fun h0_ => absurd ((hoff 12 (by kernel_rfl)).symm.trans h0_) (by decide), fun h0_ => absurd ((hoff 14 (by kernel_rfl)).symm.trans h0_) (by decide), fun h0_ => absurd ((hoff 13 (by kernel_rfl)).symm.trans h0_) (by decide)⟩
    refine steps_cons ?_ ?_
    · rintro b a w' ⟨v116, v119, m13_, ha, Q_BK101, Q_BK104, Q_HB, Q_HO117, Q_HO120, Q_BK101_e14, Q_X13_⟩ hb_ hon hoff
      refine ⟨_, rfl, fun K hK => ?_⟩
      replace ha := Aside0.mk ha
      have BK101 := Aside0.mk (Q_BK101 (hoff 14 (by kernel_rfl)))
      have BK104 := Aside0.mk Q_BK104
      have HB := Aside0.mk Q_HB
      refine value_ (w1 := w') (v := .agg #[.int .i64 0, .int .i64 250, .string (⟨#[76, 97, 100, 121, 32, 76, 101, 101]⟩ : ByteArray)]) (by rfl) rfl ?_ ?_
      · go_simp
        (try simp only [i64_w])
        try rfl
      refine hK.out _ _ ⟨v116, v119, m13_, (by rw [ha.out]; exact putSel_upk 11 hb_ rfl rfl rfl), Q_BK101, Q_BK104, Q_HB, Q_HO117, fun h0_ => absurd ((hoff 12 (by kernel_rfl)).symm.trans h0_) (by decide), fun h0_ => absurd ((hoff 14 (by kernel_rfl)).symm.trans h0_) (by decide), fun h0_ => absurd ((hoff 13 (by kernel_rfl)).symm.trans h0_) (by decide)⟩
    refine steps_cons ?_ ?_
    · rintro b a w' ⟨v116, v119, m13_, ha, Q_BK101, Q_BK104, Q_HB, Q_HO117, Q_HO120, Q_BK101_e14, Q_X13_⟩ hb_ hon hoff
      refine ⟨_, rfl, fun K hK => ?_⟩
      have e13 : a.tmps[13]? = some (.agg #[.int .i64 0, .int .i64 0, .string (⟨#[65, 110, 110, 32, 76, 101, 101]⟩ : ByteArray)]) := by rw [ha]; exact putSel_on (e := (10, 13, .agg #[.int .i64 0, .int .i64 0, .string (⟨#[65, 110, 110, 32, 76, 101, 101]⟩ : ByteArray)])) 10 rfl rfl (hon 10 (by kernel_rfl)) rfl
      have e14 : a.tmps[14]? = some (.agg #[.int .i64 0, .int .i64 250, .string (⟨#[76, 97, 100, 121, 32, 76, 101, 101]⟩ : ByteArray)]) := by rw [ha]; exact putSel_on (e := (11, 14, .agg #[.int .i64 0, .int .i64 250, .string (⟨#[76, 97, 100, 121, 32, 76, 101, 101]⟩ : ByteArray)])) 11 rfl rfl (hon 11 (by kernel_rfl)) rfl
      replace ha := Aside0.mk ha
      have BK101 := Aside0.mk (Q_BK101 (hoff 14 (by kernel_rfl)))
      have BK104 := Aside0.mk Q_BK104
      have HB := Aside0.mk Q_HB
      refine Kd.R_lit_step k109 _ 109 ?hg (N := 15) ?hd (xs := ([(⟨0, 0, (⟨#[65, 110, 110, 32, 76, 101, 101]⟩ : ByteArray)⟩ : S109), (⟨0, 250, (⟨#[76, 97, 100, 121, 32, 76, 101, 101]⟩ : ByteArray)⟩ : S109)] : List (S109))) (inner := [.int .i64 0, .int .i64 0, .string (⟨#[65, 110, 110, 32, 76, 101, 101]⟩ : ByteArray), .int .i64 0, .int .i64 250, .string (⟨#[76, 97, 100, 121, 32, 76, 101, 101]⟩ : ByteArray)]) (ok := fun _ => True) (okp := fun _ => True) ?hr ?hp (fun _ hk => hk) trivial (Below.refl _ _) (Nat.le_refl _) (by simp) ?_; (case hd => rfl); (case hg => rfl); (case hr => first | (go_simp; done) | (go_simp; rfl)); (case hp => exact (Reps.c3 (show Kd.M k109 _ _ _ (⟨0, 0, (⟨#[65, 110, 110, 32, 76, 101, 101]⟩ : ByteArray)⟩ : S109) [.int .i64 0, .int .i64 0, .string (⟨#[65, 110, 110, 32, 76, 101, 101]⟩ : ByteArray)] from (k109_mkM _ _ _ (⟨0, 0, (⟨#[65, 110, 110, 32, 76, 101, 101]⟩ : ByteArray)⟩ : S109) )) (Reps.c3 (show Kd.M k109 _ _ _ (⟨0, 250, (⟨#[76, 97, 100, 121, 32, 76, 101, 101]⟩ : ByteArray)⟩ : S109) [.int .i64 0, .int .i64 250, .string (⟨#[76, 97, 100, 121, 32, 76, 101, 101]⟩ : ByteArray)] from (k109_mkM _ _ _ (⟨0, 250, (⟨#[76, 97, 100, 121, 32, 76, 101, 101]⟩ : ByteArray)⟩ : S109) )) (Reps.none _ _))))
      intro v119 w14 ho15 hb hg_ hnew_
      clear hg_ hnew_
      (first | rw [← Ny118.out] at ho15 | (simp only [Int.reduceToNat] at ho15; rw [← Ny118.out] at ho15))
      have n0_ := Aside0.mk (Kd.R_lower ho15 (below_size (by repeat (first | (with_reducible first | exact HB.out | apply below_alloc | apply pw_below_drewN | apply below_drew1 | refine below_set ?_ GE101.out | refine below_set ?_ GE104.out) | exact HB.out))))
      have n1_ := Aside0.mk (blk_below (g := gb101) (o := .cells #[.int .i64 0, .int .i64 0, .slice none 0 0, .slice none 0 0] 35 (0, 0)) (by (with_reducible repeat (first | refine blk_drewN ?_ _ | refine blk_drew ?_ | refine blk_alloc ?_ _)); exact BK101.out) hb)
      have n2_ := Aside0.mk (blk_below (g := gb104) (o := .cells #[.int .i64 t102, .int .i64 t103] 49 (0, 0)) (by (with_reducible repeat (first | refine blk_drewN ?_ _ | refine blk_drew ?_ | refine blk_alloc ?_ _)); exact BK104.out) hb)
      have n3_ := Aside0.mk (below_step (by repeat (first | (with_reducible first | exact HB.out | apply below_alloc | apply pw_below_drewN | apply below_drew1 | refine below_set ?_ GE101.out | refine below_set ?_ GE104.out) | exact HB.out)) hb)
      have z_HO117 := fun (h0_ : b 9 = true) => (show Kd.R k59 59 w14 w.heap.size (fun _ => True) v116 y115 from by first | exact (Kd.R_below (by (with_reducible repeat (first | apply Kd.R_alloc | apply Kd.R_drewN | apply Kd.R_drew)); exact (Q_HO117 h0_)) hb) | exact Kd.R_mono (Kd.R_below (by (with_reducible repeat (first | apply Kd.R_alloc | apply Kd.R_drewN | apply Kd.R_drew)); exact (Q_HO117 h0_)) hb) (fun _ h_ => by first | trivial | exact h_ | exact h_.1))
      clear BK101
      clear BK104
      clear HB
      have HO120 := n0_
      have BK101 := n1_
      have BK104 := n2_
      have HB := n3_
      clear n0_ n1_ n2_ n3_
      clear hb ho15
      refine hK.out _ _ ⟨v116, v119, m13_, (by rw [ha.out]; exact putSel_upk 12 hb_ rfl rfl rfl), fun _ => (by (with_reducible repeat (first | refine blk_drewN ?_ _ | refine blk_drew ?_ | refine blk_alloc ?_ _)); exact BK101.out), (by (with_reducible repeat (first | refine blk_drewN ?_ _ | refine blk_drew ?_ | refine blk_alloc ?_ _)); exact BK104.out), (by repeat (first | (with_reducible first | exact HB.out | apply below_alloc | apply pw_below_drewN | apply below_drew1 | refine below_set ?_ GE101.out | refine below_set ?_ GE104.out) | exact HB.out)), z_HO117, fun _ => (by (with_reducible repeat (first | apply Kd.R_alloc | apply Kd.R_drewN | apply Kd.R_drew)); exact HO120.out), fun h0_ => absurd ((hoff 14 (by kernel_rfl)).symm.trans h0_) (by decide), fun h0_ => absurd ((hoff 13 (by kernel_rfl)).symm.trans h0_) (by decide)⟩
    refine steps_cons ?_ ?_
    · rintro b a w' ⟨v116, v119, m13_, ha, Q_BK101, Q_BK104, Q_HB, Q_HO117, Q_HO120, Q_BK101_e14, Q_X13_⟩ hb_ hon hoff
      refine ⟨_, rfl, fun K hK => ?_⟩
      have e12 : a.tmps[12]? = some (v116) := by rw [ha]; exact putSel_on (e := (9, 12, v116)) 9 rfl rfl (hon 9 (by kernel_rfl)) rfl
      have e15 : a.tmps[15]? = some (v119) := by rw [ha]; exact putSel_on (e := (12, 15, v119)) 12 rfl rfl (hon 12 (by kernel_rfl)) rfl
      replace ha := Aside0.mk ha
      have BK101 := Aside0.mk (Q_BK101 (hoff 14 (by kernel_rfl)))
      have BK104 := Aside0.mk Q_BK104
      have HB := Aside0.mk Q_HB
      have HO117 := Aside0.mk (Q_HO117 (hon 9 (by kernel_rfl)))
      have HO120 := Aside0.mk (Q_HO120 (hon 12 (by kernel_rfl)))
      obtain ⟨Ao13_0, co13_0, eo_⟩ := Kd.R_slice HO117.out
      subst eo_
      obtain ⟨Ao13_1, co13_1, eo_⟩ := Kd.R_slice HO120.out
      subst eo_
      refine value_ (w1 := w') (v := .agg #[.int .i64 3, .int .i64 2, .slice Ao13_0 y115.length co13_0, .slice Ao13_1 y118.length co13_1]) (by rfl) rfl ?_ ?_
      · go_simp
        (try simp only [i64_w])
        try rfl
      refine hK.out _ _ ⟨.slice Ao13_0 y115.length co13_0, .slice Ao13_1 y118.length co13_1, (.agg #[.int .i64 3, .int .i64 2, .slice Ao13_0 y115.length co13_0, .slice Ao13_1 y118.length co13_1]), (by rw [ha.out]; exact putSel_upk 13 hb_ rfl rfl rfl), Q_BK101, Q_BK104, Q_HB, Q_HO117, Q_HO120, fun h0_ => absurd ((hoff 14 (by kernel_rfl)).symm.trans h0_) (by decide), fun _ => rfl⟩
    refine steps_cons ?_ ?_
    · rintro b a w' ⟨v116, v119, m13_, ha, Q_BK101, Q_BK104, Q_HB, Q_HO117, Q_HO120, Q_BK101_e14, Q_X13_⟩ hb_ hon hoff
      refine ⟨_, rfl, fun K hK => ?_⟩
      have e0 : a.tmps[0]? = some (.pointer (some ⟨gb101, 0, none⟩)) := by rw [ha]; exact (putSel_off rfl).trans rfl
      have e16 : a.tmps[16]? = some (m13_) := by rw [ha]; exact putSel_on (e := (13, 16, m13_)) 13 rfl rfl (hon 13 (by kernel_rfl)) rfl
      rw [Q_X13_ (hon 13 (by kernel_rfl))] at e16
      replace ha := Aside0.mk ha
      have BK101 := Aside0.mk (Q_BK101 hb_)
      have BK104 := Aside0.mk Q_BK104
      have HB := Aside0.mk Q_HB
      have HO117 := Aside0.mk (Q_HO117 (hon 9 (by kernel_rfl)))
      have HO120 := Aside0.mk (Q_HO120 (hon 12 (by kernel_rfl)))
      obtain ⟨Ao26, co26, eo26⟩ := Kd.R_slice HO120.out
      (first | subst eo26 | (injection eo26 with f1_ f2_ f3_; have f4_ := f1_.symm; have f5_ := f3_.symm; clear f1_ f2_ f3_; subst f4_; subst f5_))
      obtain ⟨Ao27, co27, eo27⟩ := Kd.R_slice HO117.out
      (first | subst eo27 | (injection eo27 with f1_ f2_ f3_; have f4_ := f1_.symm; have f5_ := f3_.symm; clear f1_ f2_ f3_; subst f4_; subst f5_))
      have hs28 : w'.cell? ⟨gb101, 0, none⟩ = some (.int .i64 0) := (blk_cell BK101.out 0).trans rfl
      have hfs28 := blk_frozen BK101.out 0
      have hns28_1 := NB104_101.out
      have hms28_1 := NB101_104.out
      have hs29 : w'.cell? ⟨gb101, 1, none⟩ = some (.int .i64 0) := (blk_cell BK101.out 1).trans rfl
      have hfs29 := blk_frozen BK101.out 1
      have hns29_1 := NB104_101.out
      have hms29_1 := NB101_104.out
      have hs30 : w'.cell? ⟨gb101, 2, none⟩ = some (.slice none 0 0) := (blk_cell BK101.out 2).trans rfl
      have hfs30 := blk_frozen BK101.out 2
      have hns30_1 := NB104_101.out
      have hms30_1 := NB101_104.out
      have hs31 : w'.cell? ⟨gb101, 3, none⟩ = some (.slice none 0 0) := (blk_cell BK101.out 3).trans rfl
      have hfs31 := blk_frozen BK101.out 3
      have hns31_1 := NB104_101.out
      have hms31_1 := NB101_104.out
      refine skip_ (w1 := ?_) (by rfl) rfl ?_ ?_
      rotate_left
      · go_simp
        rfl
      refine hK.out _ _ ⟨.slice Ao27 y115.length co27, .slice Ao26 y118.length co26, m13_, (by rw [ha.out]; exact putSel_none (v := undef) rfl), fun h0_ => absurd ((up_self b 14).symm.trans h0_) (by decide), (by (with_reducible repeat (first | refine blk_drewN ?_ _ | refine blk_drew ?_ | refine blk_alloc ?_ _)); refine blk_far ?_ NB104_101.out _; (with_reducible repeat (first | refine blk_drewN ?_ _ | refine blk_drew ?_ | refine blk_alloc ?_ _)); refine blk_far ?_ NB104_101.out _; (with_reducible repeat (first | refine blk_drewN ?_ _ | refine blk_drew ?_ | refine blk_alloc ?_ _)); refine blk_far ?_ NB104_101.out _; (with_reducible repeat (first | refine blk_drewN ?_ _ | refine blk_drew ?_ | refine blk_alloc ?_ _)); refine blk_far ?_ NB104_101.out _; (with_reducible repeat (first | refine blk_drewN ?_ _ | refine blk_drew ?_ | refine blk_alloc ?_ _)); exact BK104.out), (by repeat (first | (with_reducible first | exact HB.out | apply below_alloc | apply pw_below_drewN | apply below_drew1 | refine below_set ?_ GE101.out | refine below_set ?_ GE104.out) | exact HB.out)), fun _ => (by (with_reducible repeat (first | apply Kd.R_alloc | apply Kd.R_drewN | apply Kd.R_drew)); exact Kd.R_mono (Kd.R_far (p := ⟨gb101, 3, none⟩) (Kd.R_far (p := ⟨gb101, 2, none⟩) (Kd.R_far (p := ⟨gb101, 1, none⟩) (Kd.R_far (p := ⟨gb101, 0, none⟩) (Kd.R_types HO117.out BK101.out (by decide)) (fun _ hk => hk.2) (.int .i64 3)) (fun _ hk => hk.2) (.int .i64 2)) (fun _ hk => hk.2) (.slice Ao27 y115.length co27)) (fun _ hk => hk.2) (.slice Ao26 y118.length co26)) (fun _ hk => trivial)), fun _ => (by (with_reducible repeat (first | apply Kd.R_alloc | apply Kd.R_drewN | apply Kd.R_drew)); exact Kd.R_mono (Kd.R_far (p := ⟨gb101, 3, none⟩) (Kd.R_far (p := ⟨gb101, 2, none⟩) (Kd.R_far (p := ⟨gb101, 1, none⟩) (Kd.R_far (p := ⟨gb101, 0, none⟩) (Kd.R_types HO120.out BK101.out (by decide)) (fun _ hk => hk.2) (.int .i64 3)) (fun _ hk => hk.2) (.int .i64 2)) (fun _ hk => hk.2) (.slice Ao27 y115.length co27)) (fun _ hk => hk.2) (.slice Ao26 y118.length co26)) (fun _ hk => trivial)), fun _ => (by (with_reducible repeat (first | refine blk_drewN ?_ _ | refine blk_drew ?_ | refine blk_alloc ?_ _)); refine blk_put (cs := #[.int .i64 3, .int .i64 2, .slice Ao27 y115.length co27, .slice none 0 0]) ?_ 3 _ rfl; (with_reducible repeat (first | refine blk_drewN ?_ _ | refine blk_drew ?_ | refine blk_alloc ?_ _)); refine blk_put (cs := #[.int .i64 3, .int .i64 2, .slice none 0 0, .slice none 0 0]) ?_ 2 _ rfl; (with_reducible repeat (first | refine blk_drewN ?_ _ | refine blk_drew ?_ | refine blk_alloc ?_ _)); refine blk_put (cs := #[.int .i64 3, .int .i64 0, .slice none 0 0, .slice none 0 0]) ?_ 1 _ rfl; (with_reducible repeat (first | refine blk_drewN ?_ _ | refine blk_drew ?_ | refine blk_alloc ?_ _)); refine blk_put (cs := #[.int .i64 0, .int .i64 0, .slice none 0 0, .slice none 0 0]) ?_ 0 _ rfl; (with_reducible repeat (first | refine blk_drewN ?_ _ | refine blk_drew ?_ | refine blk_alloc ?_ _)); exact BK101.out), Q_X13_⟩
    exact steps_nil
  rintro b a w29 hall ⟨v116, v119, m13_, ha, Q_BK101, Q_BK104, Q_HB, Q_HO117, Q_HO120, Q_BK101_e14, Q_X13_⟩
  clear BK101 BK104 HB
  have hb0_ := hall 0 (by kernel_rfl)
  have hb1_ := hall 1 (by kernel_rfl)
  have hb2_ := hall 2 (by kernel_rfl)
  have hb3_ := hall 3 (by kernel_rfl)
  have hb4_ := hall 4 (by kernel_rfl)
  have hb5_ := hall 5 (by kernel_rfl)
  have hb6_ := hall 6 (by kernel_rfl)
  have hb7_ := hall 7 (by kernel_rfl)
  have hb8_ := hall 8 (by kernel_rfl)
  have hb9_ := hall 9 (by kernel_rfl)
  have hb10_ := hall 10 (by kernel_rfl)
  have hb11_ := hall 11 (by kernel_rfl)
  have hb12_ := hall 12 (by kernel_rfl)
  have hb13_ := hall 13 (by kernel_rfl)
  have hb14_ := hall 14 (by kernel_rfl)
  subst ha
  obtain rfl := Q_X13_ hb13_
  simp only [putSel, hb0_, hb1_, hb2_, hb3_, hb4_, hb5_, hb6_, hb7_, hb8_, hb9_, hb10_, hb11_, hb12_, hb13_, hb14_, if_true, Act.put, List.setIfInBounds_toArray, List.set_cons_zero, List.set_cons_succ]
  clear Q_BK101
  have BK104 := Aside0.mk Q_BK104
  clear Q_BK104
  have HB := Aside0.mk Q_HB
  clear Q_HB
  have HO117 := Aside0.mk (Q_HO117 hb9_)
  clear Q_HO117
  have HO120 := Aside0.mk (Q_HO120 hb12_)
  clear Q_HO120
  have BK101 := Aside0.mk (Q_BK101_e14 hb14_)
  clear Q_BK101_e14
  clear hall hb0_ hb1_ hb2_ hb3_ hb4_ hb5_ hb6_ hb7_ hb8_ hb9_ hb10_ hb11_ hb12_ hb13_ hb14_
  obtain ⟨Ao30, co30, eo30⟩ := Kd.R_slice HO120.out
  (first | subst eo30 | (injection eo30 with f1_ f2_ f3_; have f4_ := f1_.symm; have f5_ := f3_.symm; clear f1_ f2_ f3_; subst f4_; subst f5_))
  obtain ⟨Ao31, co31, eo31⟩ := Kd.R_slice HO117.out
  (first | subst eo31 | (injection eo31 with f1_ f2_ f3_; have f4_ := f1_.symm; have f5_ := f3_.symm; clear f1_ f2_ f3_; subst f4_; subst f5_))
  try go_wp2
  refine bodyPost_ret (results_cell_row rfl _ _ gb101 35 #[.int .i64 3, .int .i64 2, .slice Ao31 y115.length co31, .slice Ao30 y118.length co30] (0, 0) _ rfl (by (with_reducible repeat (first | refine blk_drewN ?_ _ | refine blk_drew ?_ | refine blk_alloc ?_ _)); exact BK101.out) Try.underlying35 rfl (by kernel_rfl)) rfl ?_
  exact ⟨_, _, by first | rfl | (simp [errW_none, errW_some] <;> rfl) | (simp [*, errW_none, errW_some] <;> rfl), by (with_reducible repeat (first | apply Kd.R_alloc | apply Kd.R_drewN | apply Kd.R_drew)); exact HO117.out, by (with_reducible repeat (first | apply Kd.R_alloc | apply Kd.R_drewN | apply Kd.R_drew)); exact HO120.out, by repeat (first | (with_reducible first | exact HB.out | apply below_alloc | apply pw_below_drewN | apply below_drew1 | refine below_set ?_ GE101.out | refine below_set ?_ GE104.out) | exact HB.out)⟩

end Go.Proofs.Ythpheknchikodaa.P
