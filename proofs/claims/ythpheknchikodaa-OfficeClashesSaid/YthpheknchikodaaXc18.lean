/- Contracts of the functions that the law OfficeClashes reaches, part 18. Conditions: each theorem names its own. -/
import Derived.Test.YthpheknchikodaaXc1
import Derived.Test.YthpheknchikodaaXc3
import Derived.Test.YthpheknchikodaaXc13
import Derived.Test.YthpheknchikodaaXc17
-- Written for this claim by a program of this session (over the kit's print). Lean checks it.
namespace Go.Proofs.Ythpheknchikodaa.P
open Go.RowKit Go.Proofs.YthpheknchikodaaW.PrintWords Go.Proofs.YthpheknchikodaaW.PrintLast
set_option linter.unusedVariables false
set_option linter.unusedSimpArgs false

/-! ### office_Clash: function 31 -/
def office_Clash.f (k : Nat) (a0_0 : Int) (a0_1 : Int) (l0_2 : List (S59)) (l0_3 : List (S109)) : Option (Int × Int × Int) := (office_Roll_check.f a0_0 a0_1 l0_2 l0_3).bind fun t102 => (if t102 = 0 then ((office_Roll_clash.f k a0_0 a0_1 l0_2 l0_3).bind fun bt103 => (if bt103.2.2 = true then (some (bt103.1, bt103.2.1, 0)) else (some (0, 0, 7)))) else (some (0, 0, t102)))
theorem office_Clash.mono : ∀ a0 a1 a2 a3 k, LeO (office_Clash.f k a0 a1 a2 a3) (office_Clash.f (k + 1) a0 a1 a2 a3) := by
  intro a0 a1 a2 a3 k
  unfold office_Clash.f
  repeat' first
      | (with_reducible exact office_Roll_clash.mono _ _ _ _ _)
      | (with_reducible exact LeO.refl _)
      | (with_reducible exact LeO.none _)
      | (with_reducible refine LeO.ite ?_ ?_)
      | (with_reducible refine LeO.bind ?_ (fun _ => ?_))
      | exact office_Roll_clash.mono _ _ _ _ _
      | exact LeO.none _
      | refine LeO.ite ?_ ?_
      | refine LeO.bind ?_ (fun _ => ?_)
set_option maxHeartbeats 8000000 in
set_option maxRecDepth 100000 in
theorem office_Clash.calls (k : Nat) (a0_0 : Int) (a0_1 : Int) (A0_2 : Option Addr) (c0_2 : Nat) (l0_2 : List (S59)) (A0_3 : Option Addr) (c0_3 : Nat) (l0_3 : List (S109)) (r1 : Int) (r2 : Int) (r3 : Int) (w : World) (hr0_2 : Kd.C k59 w A0_2 l0_2.length l0_2) (hc0_2 : l0_2.length ≤ c0_2) (hr0_3 : Kd.C k109 w A0_3 l0_3.length l0_3) (hc0_3 : l0_3.length ≤ c0_3) (h : office_Clash.f k a0_0 a0_1 l0_2 l0_3 = some (r1, r2, r3)) :
    Calls Try.prog 31 #[.agg #[.int .i64 a0_0, .int .i64 a0_1, .slice A0_2 l0_2.length c0_2, .slice A0_3 l0_3.length c0_3]] w fun e w' => e = .returned (.tuple #[.int .i64 r1, .int .i64 r2, .int .i64 r3]) ∧ Below w.heap.size w w' := by
  have hu35 := Try.underlying35
  have HR0_2 := Aside0.mk hr0_2
  have HC0_2 := Aside0.mk hc0_2
  clear hr0_2 hc0_2
  have HR0_3 := Aside0.mk hr0_3
  have HC0_3 := Aside0.mk hc0_3
  clear hr0_3 hc0_3
  have HB := Aside0.mk (Below.refl w.heap.size w)
  have H : ((office_Roll_check.f a0_0 a0_1 l0_2 l0_3).bind fun t102 => (if t102 = 0 then ((office_Roll_clash.f k a0_0 a0_1 l0_2 l0_3).bind fun bt103 => (if bt103.2.2 = true then (some (bt103.1, bt103.2.1, 0)) else (some (0, 0, 7)))) else (some (0, 0, t102)))) = some (r1, r2, r3) := h
  clear h
  replace H := Option.bind_eq_some_iff.mp H
  obtain ⟨t102, A20, H⟩ := H
  replace H : (if t102 = 0 then ((office_Roll_clash.f k a0_0 a0_1 l0_2 l0_3).bind fun bt103 => (if bt103.2.2 = true then (some (bt103.1, bt103.2.1, 0)) else (some (0, 0, 7)))) else (some (0, 0, t102))) = some (r1, r2, r3) := H
  have A2 := Aside0.mk A20
  clear A20
  by_cases c3 : t102 = 0
  · rw [if_pos c3] at H
    have c3b0 : (t102 == 0) = true := beq_iff_eq.mpr c3
    have c3b1 : (t102 != 0) = false := bne_eq_false_iff_eq.mpr c3
    clear c3
    replace H := Option.bind_eq_some_iff.mp H
    obtain ⟨⟨t103, t104, t105⟩, A40, H⟩ := H
    replace H : (if t105 = true then (some (t103, t104, 0)) else (some (0, 0, 7))) = some (r1, r2, r3) := H
    have A4 := Aside0.mk A40
    clear A40
    by_cases c5 : t105 = true
    · subst c5
      have H1 : (some (t103, t104, 0)) = some (r1, r2, r3) := by rw [if_pos rfl] at H; exact H
      clear H
      have H := H1
      clear H1
      simp only [Option.some.injEq, Prod.mk.injEq] at H
      obtain ⟨rfl, rfl, rfl⟩ := H
      go_enter Try.func31, Try.ntmps31
      go_wp2_with (first | ((with_reducible refine gate_dst (N := 1) rfl ?_); refine box_event ?hg (N := 1) ?hd (cs := #[.int .i64 a0_0, .int .i64 a0_1, .slice A0_2 l0_2.length c0_2, .slice A0_3 l0_3.length c0_3]) (t := 35) ?hr ?_; (case hd => rfl); (case hg => rfl); (case hr => first | (go_simp; done) | (go_simp; rfl)); intro gb101 hg w6 hbox hb; have n0_ := Aside0.mk (below_step (by repeat (first | (with_reducible first | exact HB.out | apply below_alloc | apply pw_below_drewN | apply below_drew1) | exact HB.out)) hb); have n1_ := Aside0.mk (hbox); have n2_ := Aside0.mk ((by rw [hg]; exact (below_size (by repeat (first | (with_reducible first | exact HB.out | apply below_alloc | apply pw_below_drewN | apply below_drew1) | exact HB.out))) : w.heap.size ≤ gb101)); have n3_ := Aside0.mk ((by rw [hg]; exact (below_size (by repeat (first | (with_reducible first | exact HB.out | apply below_alloc | apply pw_below_drewN | apply below_drew1) | exact HB.out))) : w.heap.size ≤ gb101)); clear HB; have HB := n0_; have BK101 := n1_; have GW101 := n2_; have GE101 := n3_; clear n0_ n1_ n2_ n3_; clear hb hbox hg; have hcz7_0 : w6.cell? ⟨gb101, 0, none⟩ = some (.int .i64 a0_0) := (blk_cell BK101.out 0).trans rfl; have hcz7_1 : w6.cell? ⟨gb101, 1, none⟩ = some (.int .i64 a0_1) := (blk_cell BK101.out 1).trans rfl; have hcz7_2 : w6.cell? ⟨gb101, 2, none⟩ = some (.slice A0_2 l0_2.length c0_2) := (blk_cell BK101.out 2).trans rfl; have hcz7_3 : w6.cell? ⟨gb101, 3, none⟩ = some (.slice A0_3 l0_3.length c0_3) := (blk_cell BK101.out 3).trans rfl; have hfz7_0 := blk_frozen BK101.out 0; have hfz7_1 := blk_frozen BK101.out 1; have hfz7_2 := blk_frozen BK101.out 2; have hfz7_3 := blk_frozen BK101.out 3) | ((with_reducible refine gate_callee (f := 61) rfl ?_); refine goesL_ (some 8) rfl rfl Try.func61 (by kernel_rfl) rfl #[.agg #[.int .i64 a0_0, .int .i64 a0_1, .slice A0_2 l0_2.length c0_2, .slice A0_3 l0_3.length c0_3]] rfl (by (try simp only [List.map_toArray, List.map_cons, List.map_nil]); first | done | rfl | (simp only [List.length_drop, List.length_take]; rfl)) ?_; (with_reducible refine (office_Roll_check.calls a0_0 a0_1 _ _ l0_2 _ _ l0_3 t102 _ ?side1 ?side2 ?side3 ?side4 A2.out).mono ?_); (case side1 => repeat (first | exact (Kd.C_below HR0_2.out HB.out) | (with_reducible refine Kd.C_alloc ?_ _) | (with_reducible refine Kd.C_drewN ?_ _) | (with_reducible refine Kd.C_drew ?_))); (case side2 => exact HC0_2.out); (case side3 => repeat (first | exact (Kd.C_below HR0_3.out HB.out) | (with_reducible refine Kd.C_alloc ?_ _) | (with_reducible refine Kd.C_drewN ?_ _) | (with_reducible refine Kd.C_drew ?_))); (case side4 => exact HC0_3.out); rintro e w8 ⟨rfl, hb⟩; refine ⟨_, rfl, ?_⟩; have n0_ := Aside0.mk (blk_below (g := gb101) (o := .cells #[.int .i64 a0_0, .int .i64 a0_1, .slice A0_2 l0_2.length c0_2, .slice A0_3 l0_3.length c0_3] 35 (0, 0)) (by (with_reducible repeat (first | refine blk_drewN ?_ _ | refine blk_drew ?_ | refine blk_alloc ?_ _)); exact BK101.out) hb); have n1_ := Aside0.mk (below_step (by repeat (first | (with_reducible first | exact HB.out | apply below_alloc | apply pw_below_drewN | apply below_drew1 | refine below_set ?_ GE101.out) | exact HB.out)) hb); clear BK101; clear HB; have BK101 := n0_; have HB := n1_; clear n0_ n1_; (try clear hb); (try clear hb2); (try clear hk); (try clear hi); have hcz9_0 : w8.cell? ⟨gb101, 0, none⟩ = some (.int .i64 a0_0) := (blk_cell BK101.out 0).trans rfl; have hcz9_1 : w8.cell? ⟨gb101, 1, none⟩ = some (.int .i64 a0_1) := (blk_cell BK101.out 1).trans rfl; have hcz9_2 : w8.cell? ⟨gb101, 2, none⟩ = some (.slice A0_2 l0_2.length c0_2) := (blk_cell BK101.out 2).trans rfl; have hcz9_3 : w8.cell? ⟨gb101, 3, none⟩ = some (.slice A0_3 l0_3.length c0_3) := (blk_cell BK101.out 3).trans rfl; have hfz9_0 := blk_frozen BK101.out 0; have hfz9_1 := blk_frozen BK101.out 1; have hfz9_2 := blk_frozen BK101.out 2; have hfz9_3 := blk_frozen BK101.out 3) | ((with_reducible refine gate_callee (f := 62) rfl ?_); refine goesL_ (some 14) rfl rfl Try.func62 (by kernel_rfl) rfl #[.agg #[.int .i64 a0_0, .int .i64 a0_1, .slice A0_2 l0_2.length c0_2, .slice A0_3 l0_3.length c0_3]] rfl (by (try simp only [List.map_toArray, List.map_cons, List.map_nil]); first | done | rfl | (simp only [List.length_drop, List.length_take]; rfl)) ?_; (with_reducible refine (office_Roll_clash.calls k a0_0 a0_1 _ _ l0_2 _ _ l0_3 t103 t104 true _ ?side1 ?side2 ?side3 ?side4 A4.out).mono ?_); (case side1 => repeat (first | exact (Kd.C_below HR0_2.out HB.out) | (with_reducible refine Kd.C_alloc ?_ _) | (with_reducible refine Kd.C_drewN ?_ _) | (with_reducible refine Kd.C_drew ?_))); (case side2 => exact HC0_2.out); (case side3 => repeat (first | exact (Kd.C_below HR0_3.out HB.out) | (with_reducible refine Kd.C_alloc ?_ _) | (with_reducible refine Kd.C_drewN ?_ _) | (with_reducible refine Kd.C_drew ?_))); (case side4 => exact HC0_3.out); rintro e w10 ⟨rfl, hb⟩; refine ⟨_, rfl, ?_⟩; have n0_ := Aside0.mk (blk_below (g := gb101) (o := .cells #[.int .i64 a0_0, .int .i64 a0_1, .slice A0_2 l0_2.length c0_2, .slice A0_3 l0_3.length c0_3] 35 (0, 0)) (by (with_reducible repeat (first | refine blk_drewN ?_ _ | refine blk_drew ?_ | refine blk_alloc ?_ _)); exact BK101.out) hb); have n1_ := Aside0.mk (below_step (by repeat (first | (with_reducible first | exact HB.out | apply below_alloc | apply pw_below_drewN | apply below_drew1 | refine below_set ?_ GE101.out) | exact HB.out)) hb); clear BK101; clear HB; have BK101 := n0_; have HB := n1_; clear n0_ n1_; (try clear hb); (try clear hb2); (try clear hk); (try clear hi)))
      go_ret3
      exact ⟨by first | rfl | (simp [errW_none, errW_some] <;> rfl) | (simp [*, errW_none, errW_some] <;> rfl), by repeat (first | (with_reducible first | exact HB.out | apply below_alloc | apply pw_below_drewN | apply below_drew1 | refine below_set ?_ GE101.out) | exact HB.out)⟩
    · replace c5 := Bool.eq_false_iff.mpr c5
      subst c5
      have H1 : (some (0, 0, 7)) = some (r1, r2, r3) := by rw [if_neg (show ¬ (false = true) by decide)] at H; exact H
      clear H
      have H := H1
      clear H1
      simp only [Option.some.injEq, Prod.mk.injEq] at H
      obtain ⟨rfl, rfl, rfl⟩ := H
      go_enter Try.func31, Try.ntmps31
      go_wp2_with (first | ((with_reducible refine gate_dst (N := 1) rfl ?_); refine box_event ?hg (N := 1) ?hd (cs := #[.int .i64 a0_0, .int .i64 a0_1, .slice A0_2 l0_2.length c0_2, .slice A0_3 l0_3.length c0_3]) (t := 35) ?hr ?_; (case hd => rfl); (case hg => rfl); (case hr => first | (go_simp; done) | (go_simp; rfl)); intro gb101 hg w11 hbox hb; have n0_ := Aside0.mk (below_step (by repeat (first | (with_reducible first | exact HB.out | apply below_alloc | apply pw_below_drewN | apply below_drew1) | exact HB.out)) hb); have n1_ := Aside0.mk (hbox); have n2_ := Aside0.mk ((by rw [hg]; exact (below_size (by repeat (first | (with_reducible first | exact HB.out | apply below_alloc | apply pw_below_drewN | apply below_drew1) | exact HB.out))) : w.heap.size ≤ gb101)); have n3_ := Aside0.mk ((by rw [hg]; exact (below_size (by repeat (first | (with_reducible first | exact HB.out | apply below_alloc | apply pw_below_drewN | apply below_drew1) | exact HB.out))) : w.heap.size ≤ gb101)); clear HB; have HB := n0_; have BK101 := n1_; have GW101 := n2_; have GE101 := n3_; clear n0_ n1_ n2_ n3_; clear hb hbox hg; have hcz12_0 : w11.cell? ⟨gb101, 0, none⟩ = some (.int .i64 a0_0) := (blk_cell BK101.out 0).trans rfl; have hcz12_1 : w11.cell? ⟨gb101, 1, none⟩ = some (.int .i64 a0_1) := (blk_cell BK101.out 1).trans rfl; have hcz12_2 : w11.cell? ⟨gb101, 2, none⟩ = some (.slice A0_2 l0_2.length c0_2) := (blk_cell BK101.out 2).trans rfl; have hcz12_3 : w11.cell? ⟨gb101, 3, none⟩ = some (.slice A0_3 l0_3.length c0_3) := (blk_cell BK101.out 3).trans rfl; have hfz12_0 := blk_frozen BK101.out 0; have hfz12_1 := blk_frozen BK101.out 1; have hfz12_2 := blk_frozen BK101.out 2; have hfz12_3 := blk_frozen BK101.out 3) | ((with_reducible refine gate_callee (f := 61) rfl ?_); refine goesL_ (some 8) rfl rfl Try.func61 (by kernel_rfl) rfl #[.agg #[.int .i64 a0_0, .int .i64 a0_1, .slice A0_2 l0_2.length c0_2, .slice A0_3 l0_3.length c0_3]] rfl (by (try simp only [List.map_toArray, List.map_cons, List.map_nil]); first | done | rfl | (simp only [List.length_drop, List.length_take]; rfl)) ?_; (with_reducible refine (office_Roll_check.calls a0_0 a0_1 _ _ l0_2 _ _ l0_3 t102 _ ?side1 ?side2 ?side3 ?side4 A2.out).mono ?_); (case side1 => repeat (first | exact (Kd.C_below HR0_2.out HB.out) | (with_reducible refine Kd.C_alloc ?_ _) | (with_reducible refine Kd.C_drewN ?_ _) | (with_reducible refine Kd.C_drew ?_))); (case side2 => exact HC0_2.out); (case side3 => repeat (first | exact (Kd.C_below HR0_3.out HB.out) | (with_reducible refine Kd.C_alloc ?_ _) | (with_reducible refine Kd.C_drewN ?_ _) | (with_reducible refine Kd.C_drew ?_))); (case side4 => exact HC0_3.out); rintro e w13 ⟨rfl, hb⟩; refine ⟨_, rfl, ?_⟩; have n0_ := Aside0.mk (blk_below (g := gb101) (o := .cells #[.int .i64 a0_0, .int .i64 a0_1, .slice A0_2 l0_2.length c0_2, .slice A0_3 l0_3.length c0_3] 35 (0, 0)) (by (with_reducible repeat (first | refine blk_drewN ?_ _ | refine blk_drew ?_ | refine blk_alloc ?_ _)); exact BK101.out) hb); have n1_ := Aside0.mk (below_step (by repeat (first | (with_reducible first | exact HB.out | apply below_alloc | apply pw_below_drewN | apply below_drew1 | refine below_set ?_ GE101.out) | exact HB.out)) hb); clear BK101; clear HB; have BK101 := n0_; have HB := n1_; clear n0_ n1_; (try clear hb); (try clear hb2); (try clear hk); (try clear hi); have hcz14_0 : w13.cell? ⟨gb101, 0, none⟩ = some (.int .i64 a0_0) := (blk_cell BK101.out 0).trans rfl; have hcz14_1 : w13.cell? ⟨gb101, 1, none⟩ = some (.int .i64 a0_1) := (blk_cell BK101.out 1).trans rfl; have hcz14_2 : w13.cell? ⟨gb101, 2, none⟩ = some (.slice A0_2 l0_2.length c0_2) := (blk_cell BK101.out 2).trans rfl; have hcz14_3 : w13.cell? ⟨gb101, 3, none⟩ = some (.slice A0_3 l0_3.length c0_3) := (blk_cell BK101.out 3).trans rfl; have hfz14_0 := blk_frozen BK101.out 0; have hfz14_1 := blk_frozen BK101.out 1; have hfz14_2 := blk_frozen BK101.out 2; have hfz14_3 := blk_frozen BK101.out 3) | ((with_reducible refine gate_callee (f := 62) rfl ?_); refine goesL_ (some 14) rfl rfl Try.func62 (by kernel_rfl) rfl #[.agg #[.int .i64 a0_0, .int .i64 a0_1, .slice A0_2 l0_2.length c0_2, .slice A0_3 l0_3.length c0_3]] rfl (by (try simp only [List.map_toArray, List.map_cons, List.map_nil]); first | done | rfl | (simp only [List.length_drop, List.length_take]; rfl)) ?_; (with_reducible refine (office_Roll_clash.calls k a0_0 a0_1 _ _ l0_2 _ _ l0_3 t103 t104 false _ ?side1 ?side2 ?side3 ?side4 A4.out).mono ?_); (case side1 => repeat (first | exact (Kd.C_below HR0_2.out HB.out) | (with_reducible refine Kd.C_alloc ?_ _) | (with_reducible refine Kd.C_drewN ?_ _) | (with_reducible refine Kd.C_drew ?_))); (case side2 => exact HC0_2.out); (case side3 => repeat (first | exact (Kd.C_below HR0_3.out HB.out) | (with_reducible refine Kd.C_alloc ?_ _) | (with_reducible refine Kd.C_drewN ?_ _) | (with_reducible refine Kd.C_drew ?_))); (case side4 => exact HC0_3.out); rintro e w15 ⟨rfl, hb⟩; refine ⟨_, rfl, ?_⟩; have n0_ := Aside0.mk (blk_below (g := gb101) (o := .cells #[.int .i64 a0_0, .int .i64 a0_1, .slice A0_2 l0_2.length c0_2, .slice A0_3 l0_3.length c0_3] 35 (0, 0)) (by (with_reducible repeat (first | refine blk_drewN ?_ _ | refine blk_drew ?_ | refine blk_alloc ?_ _)); exact BK101.out) hb); have n1_ := Aside0.mk (below_step (by repeat (first | (with_reducible first | exact HB.out | apply below_alloc | apply pw_below_drewN | apply below_drew1 | refine below_set ?_ GE101.out) | exact HB.out)) hb); clear BK101; clear HB; have BK101 := n0_; have HB := n1_; clear n0_ n1_; (try clear hb); (try clear hb2); (try clear hk); (try clear hi)))
      go_ret3
      exact ⟨by first | rfl | (simp [errW_none, errW_some] <;> rfl) | (simp [*, errW_none, errW_some] <;> rfl), by repeat (first | (with_reducible first | exact HB.out | apply below_alloc | apply pw_below_drewN | apply below_drew1 | refine below_set ?_ GE101.out) | exact HB.out)⟩
  · rw [if_neg c3] at H
    have c3b0 : (t102 == 0) = false := beq_eq_false_iff_ne.mpr c3
    have c3b1 : (t102 != 0) = true := bne_iff_ne.mpr c3
    simp only [Option.some.injEq, Prod.mk.injEq] at H
    obtain ⟨rfl, rfl, rfl⟩ := H
    go_enter Try.func31, Try.ntmps31
    go_wp2_with (first | ((with_reducible refine gate_dst (N := 1) rfl ?_); refine box_event ?hg (N := 1) ?hd (cs := #[.int .i64 a0_0, .int .i64 a0_1, .slice A0_2 l0_2.length c0_2, .slice A0_3 l0_3.length c0_3]) (t := 35) ?hr ?_; (case hd => rfl); (case hg => rfl); (case hr => first | (go_simp; done) | (go_simp; rfl)); intro gb101 hg w16 hbox hb; have n0_ := Aside0.mk (below_step (by repeat (first | (with_reducible first | exact HB.out | apply below_alloc | apply pw_below_drewN | apply below_drew1) | exact HB.out)) hb); have n1_ := Aside0.mk (hbox); have n2_ := Aside0.mk ((by rw [hg]; exact (below_size (by repeat (first | (with_reducible first | exact HB.out | apply below_alloc | apply pw_below_drewN | apply below_drew1) | exact HB.out))) : w.heap.size ≤ gb101)); have n3_ := Aside0.mk ((by rw [hg]; exact (below_size (by repeat (first | (with_reducible first | exact HB.out | apply below_alloc | apply pw_below_drewN | apply below_drew1) | exact HB.out))) : w.heap.size ≤ gb101)); clear HB; have HB := n0_; have BK101 := n1_; have GW101 := n2_; have GE101 := n3_; clear n0_ n1_ n2_ n3_; clear hb hbox hg; have hcz17_0 : w16.cell? ⟨gb101, 0, none⟩ = some (.int .i64 a0_0) := (blk_cell BK101.out 0).trans rfl; have hcz17_1 : w16.cell? ⟨gb101, 1, none⟩ = some (.int .i64 a0_1) := (blk_cell BK101.out 1).trans rfl; have hcz17_2 : w16.cell? ⟨gb101, 2, none⟩ = some (.slice A0_2 l0_2.length c0_2) := (blk_cell BK101.out 2).trans rfl; have hcz17_3 : w16.cell? ⟨gb101, 3, none⟩ = some (.slice A0_3 l0_3.length c0_3) := (blk_cell BK101.out 3).trans rfl; have hfz17_0 := blk_frozen BK101.out 0; have hfz17_1 := blk_frozen BK101.out 1; have hfz17_2 := blk_frozen BK101.out 2; have hfz17_3 := blk_frozen BK101.out 3) | ((with_reducible refine gate_callee (f := 61) rfl ?_); refine goesL_ (some 8) rfl rfl Try.func61 (by kernel_rfl) rfl #[.agg #[.int .i64 a0_0, .int .i64 a0_1, .slice A0_2 l0_2.length c0_2, .slice A0_3 l0_3.length c0_3]] rfl (by (try simp only [List.map_toArray, List.map_cons, List.map_nil]); first | done | rfl | (simp only [List.length_drop, List.length_take]; rfl)) ?_; (with_reducible refine (office_Roll_check.calls a0_0 a0_1 _ _ l0_2 _ _ l0_3 t102 _ ?side1 ?side2 ?side3 ?side4 A2.out).mono ?_); (case side1 => repeat (first | exact (Kd.C_below HR0_2.out HB.out) | (with_reducible refine Kd.C_alloc ?_ _) | (with_reducible refine Kd.C_drewN ?_ _) | (with_reducible refine Kd.C_drew ?_))); (case side2 => exact HC0_2.out); (case side3 => repeat (first | exact (Kd.C_below HR0_3.out HB.out) | (with_reducible refine Kd.C_alloc ?_ _) | (with_reducible refine Kd.C_drewN ?_ _) | (with_reducible refine Kd.C_drew ?_))); (case side4 => exact HC0_3.out); rintro e w18 ⟨rfl, hb⟩; refine ⟨_, rfl, ?_⟩; have n0_ := Aside0.mk (blk_below (g := gb101) (o := .cells #[.int .i64 a0_0, .int .i64 a0_1, .slice A0_2 l0_2.length c0_2, .slice A0_3 l0_3.length c0_3] 35 (0, 0)) (by (with_reducible repeat (first | refine blk_drewN ?_ _ | refine blk_drew ?_ | refine blk_alloc ?_ _)); exact BK101.out) hb); have n1_ := Aside0.mk (below_step (by repeat (first | (with_reducible first | exact HB.out | apply below_alloc | apply pw_below_drewN | apply below_drew1 | refine below_set ?_ GE101.out) | exact HB.out)) hb); clear BK101; clear HB; have BK101 := n0_; have HB := n1_; clear n0_ n1_; (try clear hb); (try clear hb2); (try clear hk); (try clear hi)))
    go_ret3
    exact ⟨by first | rfl | (simp [errW_none, errW_some] <;> rfl) | (simp [*, errW_none, errW_some] <;> rfl), by repeat (first | (with_reducible first | exact HB.out | apply below_alloc | apply pw_below_drewN | apply below_drew1 | refine below_set ?_ GE101.out) | exact HB.out)⟩

end Go.Proofs.Ythpheknchikodaa.P

/- What the program's clash answers. Conditions: as the statements' guards. -/
namespace Go.Proofs.Ythpheknchikodaa.P
open Go.RowKit Go.Proofs.YthpheknchikodaaW.PrintWords Go.Proofs.YthpheknchikodaaW.PrintLast
set_option linter.unusedVariables false
set_option linter.unusedSimpArgs false

theorem rd59_get (ts : List S59) (i : Nat) (h : i < ts.length) : rd_T59 ts (i : Int) = ts[i] := by simp [rd_T59, h]
theorem pclash_f (a b : S59) : office_Term_clashes.f a.f0 a.f1 a.f2.f0 a.f2.f1 a.f3.f0 a.f3.f1 b.f0 b.f1 b.f2.f0 b.f2.f1 b.f3.f0 b.f3.f1 = some (clashB a b) := by
  unfold office_Term_clashes.f office_Term_before.f clashB befB
  by_cases h : a.f1 = b.f1
  · simp only [if_pos h, Option.bind_some, decide_eq_true h, Bool.true_and]
    cases h2 : decide (a.f3.f0 ≤ b.f2.f1) <;> simp
  · simp only [if_neg h, decide_eq_false h, Bool.false_and]
def tripOf : Option (Int × Int) → Int × Int × Bool
  | some x => (x.1, x.2, true)
  | none => (0, 0, false)
theorem clash_l1 (p o : Int) (ts : List S59) (ns : List S109) (hts : ts.length ≤ 1000000) (i : Nat) (hi : i < ts.length) (t : S59) (L : List S59) (hL : L.length ≤ 1000000) (R : Int × Int × Bool)
    (hR : Ev (fun k => office_Roll_clash.l0 k 0 0 false ts (ts.length : Int) ((i + 1 : Nat) : Int) p o ts ns) R) :
    ∀ (n j : Nat), j + n = L.length → Ev (fun k => office_Roll_clash.l1 k 0 0 false (i : Int) ts (ts.length : Int) (i : Int) L (L.length : Int) (j : Int) p o ts ns t.f0 t.f1 t.f2.f0 t.f2.f1 t.f3.f0 t.f3.f1)
      (match findClash t (((i + 1 : Nat) : Int) + j) (L.drop j) with | some k => ((i : Int), k, true) | none => R) := by
  intro n
  induction n with
  | zero =>
    intro j hj
    refine Ev.step (fun k => office_Roll_clash.l1.eq_2 ..) ?_
    have h1 : ¬ ((j : Int) < (L.length : Int)) := by omega
    rw [List.drop_eq_nil_of_le (by omega)]
    simp only [if_neg h1, w64 i (by omega), findClash]
    exact hR
  | succ n ih =>
    intro j hj
    refine Ev.step (fun k => office_Roll_clash.l1.eq_2 ..) ?_
    have hj' : j < L.length := by omega
    have h1 : (j : Int) < (L.length : Int) := by omega
    have h4 : (0 : Int) ≤ (j : Int) := by omega
    rw [List.drop_eq_getElem_cons hj', findClash]
    have ih' := ih (j + 1) (by omega)
    have hw : wrap64 (wrap64 ((i : Int) + 1) + (j : Int)) = ((i + 1 : Nat) : Int) + j := by rw [w64 i (by omega)]; unfold wrap64; push_cast; omega
    have e : ((i + 1 : Nat) : Int) + ((j + 1 : Nat) : Int) = ((i + 1 : Nat) : Int) + (j : Int) + 1 := by push_cast; omega
    rw [e] at ih'
    simp only [if_pos h1, if_pos h4, rd59_get L j hj', pclash_f, Option.bind_some, w64 j (by omega), hw]
    cases c : clashB t L[j]
    · simp only [Bool.false_eq_true, if_false]; exact ih'
    · simp only [if_true]; exact Ev.now _
theorem clash_l0 (p o : Int) (ts : List S59) (ns : List S109) (hts : ts.length ≤ 1000000) : ∀ (n i : Nat), i + n = ts.length → Ev (fun k => office_Roll_clash.l0 k 0 0 false ts (ts.length : Int) (i : Int) p o ts ns) (tripOf (firstClash (i : Int) (ts.drop i))) := by
  intro n
  induction n with
  | zero =>
    intro i hi
    refine Ev.step (fun k => office_Roll_clash.l0.eq_2 ..) ?_
    have h1 : ¬ ((i : Int) < (ts.length : Int)) := by omega
    rw [show ts.drop i = [] from List.drop_eq_nil_of_le (by omega)]
    simp only [if_neg h1, firstClash, tripOf]
    exact Ev.now _
  | succ n ih =>
    intro i hi
    refine Ev.step (fun k => office_Roll_clash.l0.eq_2 ..) ?_
    have hi' : i < ts.length := by omega
    have h1 : (i : Int) < (ts.length : Int) := by omega
    have h2 : (0 : Int) ≤ (i : Int) := by omega
    have h3 : (0 : Int) ≤ ((i + 1 : Nat) : Int) := by omega
    have h4 : ((i + 1 : Nat) : Int) ≤ (ts.length : Int) := by omega
    rw [List.drop_eq_getElem_cons hi', firstClash]
    have h := clash_l1 p o ts ns hts i hi' ts[i] (ts.drop (i + 1)) (by rw [List.length_drop]; omega) _ (ih (i + 1) (by omega)) (ts.drop (i + 1)).length 0 (by omega)
    simp only [if_pos h1, if_pos h2, w64 i (by omega), if_pos h3, if_pos h4, rd59_get ts i hi', Option.bind_some, Int.toNat_natCast]
    rw [List.drop_zero] at h
    push_cast at h ⊢
    rw [Int.add_zero] at h
    cases c : findClash ts[i] ((i : Int) + 1) (ts.drop (i + 1))
    · rw [c] at h; exact h
    · rw [c] at h; exact h
theorem clash_f (p o : Int) (ts : List S59) (ns : List S109) (hts : ts.length ≤ 1000000) : Ev (fun k => office_Roll_clash.f k p o ts ns) (tripOf (firstClash 0 ts)) :=
  clash_l0 p o ts ns hts ts.length 0 (by omega)
def pClash (p o : Int) (ts : List S59) (ns : List S109) : Int × Int × Int :=
  if rollFault p o ts ns = 0 then (match firstClash 0 ts with | some r => (r.1, r.2, 0) | none => (0, 0, 7)) else (0, 0, rollFault p o ts ns)
theorem Clash_f (p o : Int) (ts : List S59) (ns : List S109) (hts : ts.length ≤ 1000000) : Ev (fun k => office_Clash.f k p o ts ns) (pClash p o ts ns) := by
  unfold office_Clash.f pClash office_Roll_check.f
  simp only [Option.bind_some]
  by_cases h : rollFault p o ts ns = 0
  · simp only [if_pos h]
    refine Ev.bind (clash_f p o ts ns hts) ?_
    cases c : firstClash 0 ts with
    | none => simp [tripOf]; exact Ev.now _
    | some r => simp [tripOf]; exact Ev.now _
  · simp only [if_neg h]; exact Ev.now _
end Go.Proofs.Ythpheknchikodaa.P

-- Written for this claim by a program of this session (over the kit's print). Lean checks it.
namespace Go.Proofs.Ythpheknchikodaa.P
open Go.RowKit Go.Proofs.YthpheknchikodaaW.PrintWords Go.Proofs.YthpheknchikodaaW.PrintLast
set_option linter.unusedVariables false
set_option linter.unusedSimpArgs false

/-! ### office_CheckRoll: function 32 -/
def office_CheckRoll.f (a0_0 : Int) (a0_1 : Int) (l0_2 : List (S59)) (l0_3 : List (S109)) : Option (Int) := (office_Roll_check.f a0_0 a0_1 l0_2 l0_3).bind fun t102 => (some t102)
set_option maxHeartbeats 8000000 in
set_option maxRecDepth 100000 in
theorem office_CheckRoll.calls (a0_0 : Int) (a0_1 : Int) (A0_2 : Option Addr) (c0_2 : Nat) (l0_2 : List (S59)) (A0_3 : Option Addr) (c0_3 : Nat) (l0_3 : List (S109)) (r : Int) (w : World) (hr0_2 : Kd.C k59 w A0_2 l0_2.length l0_2) (hc0_2 : l0_2.length ≤ c0_2) (hr0_3 : Kd.C k109 w A0_3 l0_3.length l0_3) (hc0_3 : l0_3.length ≤ c0_3) (h : office_CheckRoll.f a0_0 a0_1 l0_2 l0_3 = some r) :
    Calls Try.prog 32 #[.agg #[.int .i64 a0_0, .int .i64 a0_1, .slice A0_2 l0_2.length c0_2, .slice A0_3 l0_3.length c0_3]] w fun e w' => e = .returned (.int .i64 r) ∧ Below w.heap.size w w' := by
  have hu35 := Try.underlying35
  have HR0_2 := Aside0.mk hr0_2
  have HC0_2 := Aside0.mk hc0_2
  clear hr0_2 hc0_2
  have HR0_3 := Aside0.mk hr0_3
  have HC0_3 := Aside0.mk hc0_3
  clear hr0_3 hc0_3
  have HB := Aside0.mk (Below.refl w.heap.size w)
  have H : ((office_Roll_check.f a0_0 a0_1 l0_2 l0_3).bind fun t102 => (some t102)) = some r := h
  clear h
  replace H := Option.bind_eq_some_iff.mp H
  obtain ⟨t102, A20, H⟩ := H
  replace H : (some t102) = some r := H
  have A2 := Aside0.mk A20
  clear A20
  obtain rfl := Option.some.inj H
  go_enter Try.func32, Try.ntmps32
  go_wp2_with (first | ((with_reducible refine gate_dst (N := 1) rfl ?_); refine box_event ?hg (N := 1) ?hd (cs := #[.int .i64 a0_0, .int .i64 a0_1, .slice A0_2 l0_2.length c0_2, .slice A0_3 l0_3.length c0_3]) (t := 35) ?hr ?_; (case hd => rfl); (case hg => rfl); (case hr => first | (go_simp; done) | (go_simp; rfl)); intro gb101 hg w3 hbox hb; have n0_ := Aside0.mk (below_step (by repeat (first | (with_reducible first | exact HB.out | apply below_alloc | apply pw_below_drewN | apply below_drew1) | exact HB.out)) hb); have n1_ := Aside0.mk (hbox); have n2_ := Aside0.mk ((by rw [hg]; exact (below_size (by repeat (first | (with_reducible first | exact HB.out | apply below_alloc | apply pw_below_drewN | apply below_drew1) | exact HB.out))) : w.heap.size ≤ gb101)); have n3_ := Aside0.mk ((by rw [hg]; exact (below_size (by repeat (first | (with_reducible first | exact HB.out | apply below_alloc | apply pw_below_drewN | apply below_drew1) | exact HB.out))) : w.heap.size ≤ gb101)); clear HB; have HB := n0_; have BK101 := n1_; have GW101 := n2_; have GE101 := n3_; clear n0_ n1_ n2_ n3_; clear hb hbox hg; have hcz4_0 : w3.cell? ⟨gb101, 0, none⟩ = some (.int .i64 a0_0) := (blk_cell BK101.out 0).trans rfl; have hcz4_1 : w3.cell? ⟨gb101, 1, none⟩ = some (.int .i64 a0_1) := (blk_cell BK101.out 1).trans rfl; have hcz4_2 : w3.cell? ⟨gb101, 2, none⟩ = some (.slice A0_2 l0_2.length c0_2) := (blk_cell BK101.out 2).trans rfl; have hcz4_3 : w3.cell? ⟨gb101, 3, none⟩ = some (.slice A0_3 l0_3.length c0_3) := (blk_cell BK101.out 3).trans rfl; have hfz4_0 := blk_frozen BK101.out 0; have hfz4_1 := blk_frozen BK101.out 1; have hfz4_2 := blk_frozen BK101.out 2; have hfz4_3 := blk_frozen BK101.out 3) | ((with_reducible refine gate_callee (f := 61) rfl ?_); refine goesL_ (some 4) rfl rfl Try.func61 (by kernel_rfl) rfl #[.agg #[.int .i64 a0_0, .int .i64 a0_1, .slice A0_2 l0_2.length c0_2, .slice A0_3 l0_3.length c0_3]] rfl (by (try simp only [List.map_toArray, List.map_cons, List.map_nil]); first | done | rfl | (simp only [List.length_drop, List.length_take]; rfl)) ?_; (with_reducible refine (office_Roll_check.calls a0_0 a0_1 _ _ l0_2 _ _ l0_3 t102 _ ?side1 ?side2 ?side3 ?side4 A2.out).mono ?_); (case side1 => repeat (first | exact (Kd.C_below HR0_2.out HB.out) | (with_reducible refine Kd.C_alloc ?_ _) | (with_reducible refine Kd.C_drewN ?_ _) | (with_reducible refine Kd.C_drew ?_))); (case side2 => exact HC0_2.out); (case side3 => repeat (first | exact (Kd.C_below HR0_3.out HB.out) | (with_reducible refine Kd.C_alloc ?_ _) | (with_reducible refine Kd.C_drewN ?_ _) | (with_reducible refine Kd.C_drew ?_))); (case side4 => exact HC0_3.out); rintro e w5 ⟨rfl, hb⟩; refine ⟨_, rfl, ?_⟩; have n0_ := Aside0.mk (blk_below (g := gb101) (o := .cells #[.int .i64 a0_0, .int .i64 a0_1, .slice A0_2 l0_2.length c0_2, .slice A0_3 l0_3.length c0_3] 35 (0, 0)) (by (with_reducible repeat (first | refine blk_drewN ?_ _ | refine blk_drew ?_ | refine blk_alloc ?_ _)); exact BK101.out) hb); have n1_ := Aside0.mk (below_step (by repeat (first | (with_reducible first | exact HB.out | apply below_alloc | apply pw_below_drewN | apply below_drew1 | refine below_set ?_ GE101.out) | exact HB.out)) hb); clear BK101; clear HB; have BK101 := n0_; have HB := n1_; clear n0_ n1_; (try clear hb); (try clear hb2); (try clear hk); (try clear hi)))
  go_ret
  exact ⟨by first | rfl | (simp [errW_none, errW_some] <;> rfl) | (simp [*, errW_none, errW_some] <;> rfl), by repeat (first | (with_reducible first | exact HB.out | apply below_alloc | apply pw_below_drewN | apply below_drew1 | refine below_set ?_ GE101.out) | exact HB.out)⟩

end Go.Proofs.Ythpheknchikodaa.P

/- What CheckRoll and Clash of the program answer, in plain words. Conditions: the lists are readable, and of bounded length. -/
namespace Go.Proofs.Ythpheknchikodaa.P
open Go.RowKit Go.Proofs.YthpheknchikodaaW.PrintWords Go.Proofs.YthpheknchikodaaW.PrintLast
set_option linter.unusedVariables false
set_option linter.unusedSimpArgs false
theorem CheckRoll_calls (p o : Int) (A2 : Option Addr) (c2 : Nat) (ts : List S59) (A3 : Option Addr) (c3 : Nat) (ns : List S109) (n2 n3 : Nat) (h2 : ts.length = n2) (h3 : ns.length = n3) (w : World) (h : ROut w A2 c2 ts A3 c3 ns) :
    Calls Try.prog 32 #[.agg #[.int .i64 p, .int .i64 o, .slice A2 n2 c2, .slice A3 n3 c3]] w fun e w' => e = .returned (.int .i64 (rollFault p o ts ns)) ∧ Below w.heap.size w w' := by
  subst h2 h3
  exact office_CheckRoll.calls p o A2 c2 ts A3 c3 ns _ w h.1 h.2.1 h.2.2.1 h.2.2.2 rfl
theorem Clash_calls (p o : Int) (A2 : Option Addr) (c2 : Nat) (ts : List S59) (A3 : Option Addr) (c3 : Nat) (ns : List S109) (n2 n3 : Nat) (h2 : ts.length = n2) (h3 : ns.length = n3) (w : World) (h : ROut w A2 c2 ts A3 c3 ns) (hts : ts.length ≤ 1000000) :
    Calls Try.prog 31 #[.agg #[.int .i64 p, .int .i64 o, .slice A2 n2 c2, .slice A3 n3 c3]] w fun e w' => e = .returned (.tuple #[.int .i64 (pClash p o ts ns).1, .int .i64 (pClash p o ts ns).2.1, .int .i64 (pClash p o ts ns).2.2]) ∧ Below w.heap.size w w' := by
  subst h2 h3
  obtain ⟨k, hk⟩ := (Clash_f p o ts ns hts).rounds
  exact office_Clash.calls k p o A2 c2 ts A3 c3 ns _ _ _ w h.1 h.2.1 h.2.2.1 h.2.2.2 hk
end Go.Proofs.Ythpheknchikodaa.P

/- The walk of the law OfficeClashes: it answers true. Conditions: none beyond the roll's being readable. -/
namespace Go.Proofs.Ythpheknchikodaa.P
open Go.RowKit Go.Proofs.YthpheknchikodaaW.PrintWords Go.Proofs.YthpheknchikodaaW.PrintLast
set_option linter.unusedVariables false
set_option linter.unusedSimpArgs false

set_option maxHeartbeats 4000000 in
set_option maxRecDepth 100000 in
theorem OfficeClashes_calls (p o : Int) (A2 : Option Addr) (c2 : Nat) (ts : List S54) (A3 : Option Addr) (c3 : Nat) (ns : List S88) (w : World) (hI : RIn w A2 c2 ts A3 c3 ns) :
    Calls Try.prog 9 #[.agg #[.int .i64 p, .int .i64 o, .slice A2 ts.length c2, .slice A3 ns.length c3]] w fun e w' => e = .returned (.bool true) ∧ Below w.heap.size w w' := by
  have hu25 := Try.underlying25
  have HB0 := Aside0.mk (below_alloc (Below.refl w.heap.size w) (.cells #[.int .i64 p, .int .i64 o, .slice A2 ts.length c2, .slice A3 ns.length c3] 25))
  have HI0 := Aside0.mk (hI.below HB0.out)
  have BK0 := Aside0.mk (blk_new w (.cells #[.int .i64 p, .int .i64 o, .slice A2 ts.length c2, .slice A3 ns.length c3] 25))
  obtain ⟨x0, x1, x2, x3⟩ := roll_cells BK0.out
  clear hI
  go_enter Try.func9, Try.ntmps9
  go_wp2_with fail
  cases ht : thinB ts ns
  · refine (Thin_calls p o A2 c2 ts A3 c3 ns _ HI0.out).mono ?_
    rintro e w1 ⟨rfl, hb⟩
    rw [ht]
    have HB1 := Aside0.mk (below_then HB0.out HB0.out.size hb)
    clear hb
    go_wp2_with fail
    refine (awake_calls _).mono ?_
    rintro e wz ⟨rfl, hb⟩
    have HBz := Aside0.mk (below_then HB1.out HB1.out.size hb)
    clear hb
    go_wp2
    go_ret
    exact ⟨rfl, HBz.out⟩
  obtain ⟨hts, hns, hsz⟩ := thin_facts ht
  have HTS := Aside0.mk hts
  have HNS := Aside0.mk hns
  have HSZ := Aside0.mk hsz
  clear hts hns hsz
  refine (Thin_calls p o A2 c2 ts A3 c3 ns _ HI0.out).mono ?_
  rintro e w1 ⟨rfl, hb⟩
  rw [ht]
  have HB1 := Aside0.mk (below_then HB0.out HB0.out.size hb)
  have HI1 := Aside0.mk (HI0.out.below hb)
  have BK1 := Aside0.mk ((hb.block _ (blk_lt BK0.out)).trans BK0.out)
  clear hb x0 x1 x2 x3 HI0 BK0
  obtain ⟨x0, x1, x2, x3⟩ := roll_cells BK1.out
  go_wp2_with fail
  refine (Roll_calls p o A2 c2 ts A3 c3 ns _ HI1.out HTS.out HNS.out).mono ?_
  rintro e w2 ⟨B12, d12, B13, d13, rfl, ho, hb⟩
  have HO1 := Aside0.mk ho
  clear ho
  have HB2 := Aside0.mk (below_then HB1.out HB1.out.size hb)
  have HI2 := Aside0.mk (HI1.out.below hb)
  have BK2 := Aside0.mk ((hb.block _ (blk_lt BK1.out)).trans BK1.out)
  clear hb x0 x1 x2 x3 HI1 BK1
  obtain ⟨x0, x1, x2, x3⟩ := roll_cells BK2.out
  go_wp2_with fail
  refine (CheckRoll_calls p o B12 d12 (ts.map toT) B13 d13 (ns.map toN) _ _ (List.length_map ..) (List.length_map ..) _ HO1.out).mono ?_
  rintro e w3 ⟨rfl, hb⟩
  have HB3 := Aside0.mk (below_then HB2.out HB2.out.size hb)
  have HI3 := Aside0.mk (HI2.out.below hb)
  have BK3 := Aside0.mk ((hb.block _ (blk_lt BK2.out)).trans BK2.out)
  clear hb x0 x1 x2 x3 HI2 BK2
  obtain ⟨x0, x1, x2, x3⟩ := roll_cells BK3.out
  go_wp2_with fail
  refine (Roll_calls p o A2 c2 ts A3 c3 ns _ HI3.out HTS.out HNS.out).mono ?_
  rintro e w4 ⟨B22, d22, B23, d23, rfl, ho, hb⟩
  have HO2 := Aside0.mk ho
  clear ho
  have HB4 := Aside0.mk (below_then HB3.out HB3.out.size hb)
  have HI4 := Aside0.mk (HI3.out.below hb)
  have BK4 := Aside0.mk ((hb.block _ (blk_lt BK3.out)).trans BK3.out)
  clear hb x0 x1 x2 x3 HI3 BK3
  obtain ⟨x0, x1, x2, x3⟩ := roll_cells BK4.out
  go_wp2_with fail
  refine (Clash_calls p o B22 d22 (ts.map toT) B23 d23 (ns.map toN) _ _ (List.length_map ..) (List.length_map ..) _ HO2.out (by rw [List.length_map]; have := HTS.out; omega)).mono ?_
  rintro e w5 ⟨rfl, hb⟩
  have HB5 := Aside0.mk (below_then HB4.out HB4.out.size hb)
  have HI5 := Aside0.mk (HI4.out.below hb)
  have BK5 := Aside0.mk ((hb.block _ (blk_lt BK4.out)).trans BK4.out)
  clear hb x0 x1 x2 x3 HI4 BK4
  obtain ⟨x0, x1, x2, x3⟩ := roll_cells BK5.out
  go_wp2_with fail
  refine (Fault_calls p o A2 c2 ts A3 c3 ns _ HI5.out.1 HI5.out.2.2.1 HTS.out HNS.out HSZ.out).mono ?_
  rintro e w6 ⟨rfl, hb⟩
  have HB6 := Aside0.mk (below_then HB5.out HB5.out.size hb)
  have HI6 := Aside0.mk (HI5.out.below hb)
  have BK6 := Aside0.mk ((hb.block _ (blk_lt BK5.out)).trans BK5.out)
  clear hb x0 x1 x2 x3 HI5 BK5
  obtain ⟨x0, x1, x2, x3⟩ := roll_cells BK6.out
  rw [show rollFault p o (ts.map toT) (ns.map toN) = faultOf p o ts ns from rfl]
  have hpc : pClash p o (ts.map toT) (ns.map toN) = if faultOf p o ts ns = 0 then (match clashOf ts with | some r => (r.1, r.2, 0) | none => (0, 0, 7)) else (0, 0, faultOf p o ts ns) := rfl
  obtain ⟨f, hf⟩ : ∃ f, faultOf p o ts ns = f := ⟨_, rfl⟩
  rw [hf] at hpc ⊢
  by_cases h0 : f = 0
  case neg =>
    rw [if_neg h0] at hpc
    rw [hpc]
    have e1 : (f == 0) = false := beq_eq_false_iff_ne.mpr h0
    have e2 : (f != 0) = true := bne_iff_ne.mpr h0
    clear h0 hpc hf
    go_wp2_with fail
    refine (awake_calls _).mono ?_
    rintro e wz ⟨rfl, hb⟩
    have HBz := Aside0.mk (below_then HB6.out HB6.out.size hb)
    clear hb
    go_wp2
    go_ret
    exact ⟨rfl, HBz.out⟩
  subst h0
  rw [if_pos rfl] at hpc
  clear hf
  obtain ⟨c, hc⟩ : ∃ c, clashOf ts = c := ⟨_, rfl⟩
  rw [hc] at hpc
  have HC := Aside0.mk hc
  cases c with
  | none =>
    rw [hpc]
    clear hpc hc
    go_wp2_with fail
    refine (Clashes_calls p o A2 c2 ts A3 c3 ns _ HI6.out HTS.out).mono ?_
    rintro e w7 ⟨rfl, hb⟩
    rw [HC.out]
    have HB7 := Aside0.mk (below_then HB6.out HB6.out.size hb)
    have HI7 := Aside0.mk (HI6.out.below hb)
    have BK7 := Aside0.mk ((hb.block _ (blk_lt BK6.out)).trans BK6.out)
    clear hb x0 x1 x2 x3 HI6 BK6
    obtain ⟨x0, x1, x2, x3⟩ := roll_cells BK7.out
    go_wp2_with fail
    refine (awake_calls _).mono ?_
    rintro e wz ⟨rfl, hb⟩
    have HBz := Aside0.mk (below_then HB7.out HB7.out.size hb)
    clear hb
    go_wp2
    go_ret
    exact ⟨rfl, HBz.out⟩
  | some r =>
    obtain ⟨r1, r2⟩ := r
    have hge := (firstClash_ge _ _ _ hc).1
    simp only at hge
    have e1 : decide (r1 < 0) = false := decide_eq_false (by omega)
    simp only at hpc
    rw [hpc]
    clear hpc hc hge
    go_wp2_with fail
    refine (Clashes_calls p o A2 c2 ts A3 c3 ns _ HI6.out HTS.out).mono ?_
    rintro e w7 ⟨rfl, hb⟩
    rw [HC.out]
    simp only [pairOf]
    have HB7 := Aside0.mk (below_then HB6.out HB6.out.size hb)
    have HI7 := Aside0.mk (HI6.out.below hb)
    have BK7 := Aside0.mk ((hb.block _ (blk_lt BK6.out)).trans BK6.out)
    clear hb x0 x1 x2 x3 HI6 BK6
    obtain ⟨x0, x1, x2, x3⟩ := roll_cells BK7.out
    go_wp2_with fail
    refine (awake_calls _).mono ?_
    rintro e wz ⟨rfl, hb⟩
    have HBz := Aside0.mk (below_then HB7.out HB7.out.size hb)
    clear hb
    go_wp2
    go_ret
    exact ⟨rfl, HBz.out⟩
end Go.Proofs.Ythpheknchikodaa.P
