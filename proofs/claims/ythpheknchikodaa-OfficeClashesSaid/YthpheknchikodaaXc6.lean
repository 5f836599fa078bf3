/- Contracts of the functions that the law OfficeClashes reaches, part 6. Conditions: each theorem names its own. -/
import Derived.Test.YthpheknchikodaaXc1
import Derived.Test.YthpheknchikodaaXc5
import Derived.Test.YthpheknchikodaaXc3
import Derived.Test.YthpheknchikodaaXc4
-- Written for this claim by a program of this session (over the kit's print). Lean checks it.
namespace Go.Proofs.Ythpheknchikodaa.P
open Go.RowKit Go.Proofs.YthpheknchikodaaW.PrintWords Go.Proofs.YthpheknchikodaaW.PrintLast
set_option linter.unusedVariables false
set_option linter.unusedSimpArgs false

/-! ### palantyperef05_Clashes: function 33 -/
mutual
def palantyperef05_Clashes.l0 : Nat → Int → Int → Int → List (S54) → List (S88) → Option (Int × Int)
  | 0, _, _, _, _, _ => none
  | k + 1, x4, x102000, x102001, x102002, x102003 => if x4 < (x102002.length : Int) then (palantyperef05_Clashes.l1 k x4 (wrap64 (x4 + 1)) x102000 x102001 x102002 x102003) else (some ((-1), (-1)))
def palantyperef05_Clashes.l1 : Nat → Int → Int → Int → Int → List (S54) → List (S88) → Option (Int × Int)
  | 0, _, _, _, _, _, _ => none
  | k + 1, x4, x5, x102000, x102001, x102002, x102003 => if x5 < (x102002.length : Int) then (if 0 ≤ x4 then (if x4 < (x102002.length : Int) then (if 0 ≤ x5 then ((palantyperef05_Clash.f ((rd_T54 x102002 x4).f0) ((rd_T54 x102002 x4).f1) ((rd_T54 x102002 x4).f2.f0) ((rd_T54 x102002 x4).f2.f1) ((rd_T54 x102002 x4).f3.f0) ((rd_T54 x102002 x4).f3.f1) ((rd_T54 x102002 x5).f0) ((rd_T54 x102002 x5).f1) ((rd_T54 x102002 x5).f2.f0) ((rd_T54 x102002 x5).f2.f1) ((rd_T54 x102002 x5).f3.f0) ((rd_T54 x102002 x5).f3.f1)).bind fun t104 => (if t104 = true then (some (x4, x5)) else (palantyperef05_Clashes.l1 k x4 (wrap64 (x5 + 1)) x102000 x102001 x102002 x102003))) else (none)) else (none)) else (none)) else (palantyperef05_Clashes.l0 k (wrap64 (x4 + 1)) x102000 x102001 x102002 x102003)
end
def palantyperef05_Clashes.f (k : Nat) (a0_0 : Int) (a0_1 : Int) (l0_2 : List (S54)) (l0_3 : List (S88)) : Option (Int × Int) := palantyperef05_Clashes.l0 k 0 a0_0 a0_1 l0_2 l0_3
theorem palantyperef05_Clashes.mono_l : ∀ k, (∀ y0 y1 y2 y3 y4, LeO (palantyperef05_Clashes.l0 k y0 y1 y2 y3 y4) (palantyperef05_Clashes.l0 (k + 1) y0 y1 y2 y3 y4)) ∧ (∀ y0 y1 y2 y3 y4 y5, LeO (palantyperef05_Clashes.l1 k y0 y1 y2 y3 y4 y5) (palantyperef05_Clashes.l1 (k + 1) y0 y1 y2 y3 y4 y5))
  | 0 => ⟨fun _ _ _ _ _ r h => by simp [palantyperef05_Clashes.l0] at h, fun _ _ _ _ _ _ r h => by simp [palantyperef05_Clashes.l1] at h⟩
  | k + 1 => by
    obtain ⟨ih0, ih1⟩ := palantyperef05_Clashes.mono_l k
    refine ⟨?_, ?_⟩
    · intro y0 y1 y2 y3 y4
      unfold palantyperef05_Clashes.l0
      repeat' first
      | (with_reducible exact ih0 _ _ _ _ _)
      | (with_reducible exact ih1 _ _ _ _ _ _)
      | (with_reducible exact LeO.refl _)
      | (with_reducible exact LeO.none _)
      | (with_reducible refine LeO.ite ?_ ?_)
      | (with_reducible refine LeO.bind ?_ (fun _ => ?_))
      | exact ih0 _ _ _ _ _
      | exact ih1 _ _ _ _ _ _
      | exact LeO.none _
      | refine LeO.ite ?_ ?_
      | refine LeO.bind ?_ (fun _ => ?_)
    · intro y0 y1 y2 y3 y4 y5
      unfold palantyperef05_Clashes.l1
      repeat' first
      | (with_reducible exact ih0 _ _ _ _ _)
      | (with_reducible exact ih1 _ _ _ _ _ _)
      | (with_reducible exact LeO.refl _)
      | (with_reducible exact LeO.none _)
      | (with_reducible refine LeO.ite ?_ ?_)
      | (with_reducible refine LeO.bind ?_ (fun _ => ?_))
      | exact ih0 _ _ _ _ _
      | exact ih1 _ _ _ _ _ _
      | exact LeO.none _
      | refine LeO.ite ?_ ?_
      | refine LeO.bind ?_ (fun _ => ?_)
theorem palantyperef05_Clashes.mono : ∀ a0 a1 a2 a3 k, LeO (palantyperef05_Clashes.f k a0 a1 a2 a3) (palantyperef05_Clashes.f (k + 1) a0 a1 a2 a3) := by
  intro a0 a1 a2 a3 k
  obtain ⟨ih0, ih1⟩ := palantyperef05_Clashes.mono_l k
  unfold palantyperef05_Clashes.f
  repeat' first
      | (with_reducible exact ih0 _ _ _ _ _)
      | (with_reducible exact ih1 _ _ _ _ _ _)
      | (with_reducible exact LeO.refl _)
      | (with_reducible exact LeO.none _)
      | (with_reducible refine LeO.ite ?_ ?_)
      | (with_reducible refine LeO.bind ?_ (fun _ => ?_))
      | exact ih0 _ _ _ _ _
      | exact ih1 _ _ _ _ _ _
      | exact LeO.none _
      | refine LeO.ite ?_ ?_
      | refine LeO.bind ?_ (fun _ => ?_)
def palantyperef05_Clashes.T7 : Bool × List (List Nat × List Nat) := (true, [([], []), ([0], [0]), ([], []), ([1, 2], [1, 2]), ([3], [3]), ([], []), ([5], [5]), ([], []), ([6, 7], [6, 7]), ([8], [8]), ([4, 9], [4, 9])])
def palantyperef05_Clashes.B7 : List Nat := [0, 1, 0, 7, 15, 0, 32, 0, 224, 480, 1023]
theorem palantyperef05_Clashes.tab7 : rtab .any (opsOf Try.f33 7) = palantyperef05_Clashes.T7 := by kernel_rfl
theorem palantyperef05_Clashes.bits7 : waitsOk palantyperef05_Clashes.T7.2 palantyperef05_Clashes.B7 = true := by kernel_rfl
set_option maxHeartbeats 8000000 in
set_option maxRecDepth 100000 in
theorem palantyperef05_Clashes.calls (k : Nat) (a0_0 : Int) (a0_1 : Int) (A0_2 : Option Addr) (c0_2 : Nat) (l0_2 : List (S54)) (A0_3 : Option Addr) (c0_3 : Nat) (l0_3 : List (S88)) (r1 : Int) (r2 : Int) (w : World) (hr0_2 : Kd.C k54 w A0_2 l0_2.length l0_2) (hc0_2 : l0_2.length ≤ c0_2) (hr0_3 : Kd.C k88 w A0_3 l0_3.length l0_3) (hc0_3 : l0_3.length ≤ c0_3) (h : palantyperef05_Clashes.f k a0_0 a0_1 l0_2 l0_3 = some (r1, r2)) :
    Calls Try.prog 33 #[.agg #[.int .i64 a0_0, .int .i64 a0_1, .slice A0_2 l0_2.length c0_2, .slice A0_3 l0_3.length c0_3]] w fun e w' => e = .returned (.tuple #[.int .i64 r1, .int .i64 r2]) ∧ Below w.heap.size w w' := by
  have hu25 := Try.underlying25
  have hu54 := Try.underlying54
  have HR0_2 := Aside0.mk hr0_2
  have HC0_2 := Aside0.mk hc0_2
  clear hr0_2 hc0_2
  have HR0_3 := Aside0.mk hr0_3
  have HC0_3 := Aside0.mk hc0_3
  clear hr0_3 hc0_3
  have HB := Aside0.mk (Below.refl w.heap.size w)
  have H : (palantyperef05_Clashes.l0 k 0 a0_0 a0_1 l0_2 l0_3) = some (r1, r2) := h
  clear h
  have H' := Aside0.mk H
  clear H
  go_enter Try.func33, Try.ntmps33
  go_wp2_with (first | ((with_reducible refine gate_dst (N := 1) rfl ?_); refine box_event ?hg (N := 1) ?hd (cs := #[.int .i64 a0_0, .int .i64 a0_1, .slice A0_2 l0_2.length c0_2, .slice A0_3 l0_3.length c0_3]) (t := 25) ?hr ?_; (case hd => rfl); (case hg => rfl); (case hr => first | (go_simp; done) | (go_simp; rfl)); intro gb101 hg w2 hbox hb; have n0_ := Aside0.mk (below_step (by repeat (first | (with_reducible first | exact HB.out | apply below_alloc | apply pw_below_drewN | apply below_drew1) | exact HB.out)) hb); have n1_ := Aside0.mk (hbox); have n2_ := Aside0.mk ((by rw [hg]; exact (below_size (by repeat (first | (with_reducible first | exact HB.out | apply below_alloc | apply pw_below_drewN | apply below_drew1) | exact HB.out))) : w.heap.size ≤ gb101)); have n3_ := Aside0.mk ((by rw [hg]; exact (below_size (by repeat (first | (with_reducible first | exact HB.out | apply below_alloc | apply pw_below_drewN | apply below_drew1) | exact HB.out))) : w.heap.size ≤ gb101)); clear HB; have HB := n0_; have BK101 := n1_; have GW101 := n2_; have GE101 := n3_; clear n0_ n1_ n2_ n3_; clear hb hbox hg))
  go_loopg [4] k (fun kq v4 w' => ∃ (x4_1 : Int), v4 = .int .i64 x4_1 ∧ Aside0 (palantyperef05_Clashes.l0 kq x4_1 a0_0 a0_1 l0_2 l0_3 = some (r1, r2)) ∧ Aside0 (kq ≤ k) ∧ Aside0 (w'.heap[gb101]? = some (.cells #[.int .i64 a0_0, .int .i64 a0_1, (.slice A0_2 l0_2.length c0_2), (.slice A0_3 l0_3.length c0_3)] 25 (0, 0))) ∧ Aside0 (Below w.heap.size w w'))
  case atStart => exact ⟨(0), (by first | rfl | (simp; done) | (simp [*]; done)), H', ⟨Nat.le_refl _⟩, ⟨by (with_reducible repeat (first | refine blk_drewN ?_ _ | refine blk_drew ?_ | refine blk_alloc ?_ _)); exact BK101.out⟩, ⟨by repeat (first | (with_reducible first | exact HB.out | apply below_alloc | apply pw_below_drewN | apply below_drew1 | refine below_set ?_ GE101.out) | exact HB.out)⟩⟩
  case round =>
    clear H'
    try clear p2
    obtain ⟨x4_1, rfl, HA, HK1, BK101, HB⟩ := hrel
    cases gk with
    | zero => exact absurd HA.out (by simp [palantyperef05_Clashes.l0])
    | succ k1 =>
      have H := HA.out
      clear HA
      simp only [palantyperef05_Clashes.l0] at H
      by_cases c3 : x4_1 < (l0_2.length : Int)
      · rw [if_pos c3] at H
        have c3b0 : decide (x4_1 < (l0_2.length : Int)) = true := decide_eq_true c3
        clear c3
        have H' := Aside0.mk H
        clear H
        have hcz4_0 : wr.cell? ⟨gb101, 0, none⟩ = some (.int .i64 a0_0) := (blk_cell BK101.out 0).trans rfl
        have hcz4_1 : wr.cell? ⟨gb101, 1, none⟩ = some (.int .i64 a0_1) := (blk_cell BK101.out 1).trans rfl
        have hcz4_2 : wr.cell? ⟨gb101, 2, none⟩ = some (.slice A0_2 l0_2.length c0_2) := (blk_cell BK101.out 2).trans rfl
        have hcz4_3 : wr.cell? ⟨gb101, 3, none⟩ = some (.slice A0_3 l0_3.length c0_3) := (blk_cell BK101.out 3).trans rfl
        have hfz4_0 := blk_frozen BK101.out 0
        have hfz4_1 := blk_frozen BK101.out 1
        have hfz4_2 := blk_frozen BK101.out 2
        have hfz4_3 := blk_frozen BK101.out 3
        go_wp2
        go_loopg [5] k1 (fun kq v5 w' => ∃ (x5_2 : Int), v5 = .int .i64 x5_2 ∧ Aside0 (palantyperef05_Clashes.l1 kq x4_1 x5_2 a0_0 a0_1 l0_2 l0_3 = some (r1, r2)) ∧ Aside0 (kq ≤ k1) ∧ Aside0 (w'.heap[gb101]? = some (.cells #[.int .i64 a0_0, .int .i64 a0_1, (.slice A0_2 l0_2.length c0_2), (.slice A0_3 l0_3.length c0_3)] 25 (0, 0))) ∧ Aside0 (Below w.heap.size w w'))
        case atStart => exact ⟨(wrap64 (x4_1 + 1)), (by first | rfl | (simp; done) | (simp [*]; done)), H', ⟨Nat.le_refl _⟩, ⟨by (with_reducible repeat (first | refine blk_drewN ?_ _ | refine blk_drew ?_ | refine blk_alloc ?_ _)); exact BK101.out⟩, ⟨by repeat (first | (with_reducible first | exact HB.out | apply below_alloc | apply pw_below_drewN | apply below_drew1 | refine below_set ?_ GE101.out) | exact HB.out)⟩⟩
        case round =>
          clear H'
          try clear p2
          try clear c3
          try clear c3b0
          try clear hcz4_0
          try clear hcz4_1
          try clear hcz4_2
          try clear hcz4_3
          try clear hfz4_0
          try clear hfz4_1
          try clear hfz4_2
          try clear hfz4_3
          try clear p2
          obtain ⟨x5_2, rfl, HA, HK2, BK101, HB⟩ := hrel
          cases gk with
          | zero => exact absurd HA.out (by simp [palantyperef05_Clashes.l1])
          | succ k2 =>
            have H := HA.out
            clear HA
            simp only [palantyperef05_Clashes.l1] at H
            by_cases c5 : x5_2 < (l0_2.length : Int)
            · rw [if_pos c5] at H
              have c5b0 : decide (x5_2 < (l0_2.length : Int)) = true := decide_eq_true c5
              clear c5
              by_cases c6 : 0 ≤ x4_1
              · rw [if_pos c6] at H
                have c6b0 : decide (0 ≤ x4_1) = true := decide_eq_true c6
                clear c6
                by_cases c7 : x4_1 < (l0_2.length : Int)
                · rw [if_pos c7] at H
                  have c7b0 : decide (x4_1 < (l0_2.length : Int)) = true := decide_eq_true c7
                  clear c7
                  by_cases c8 : 0 ≤ x5_2
                  · rw [if_pos c8] at H
                    have c8b0 : decide (0 ≤ x5_2) = true := decide_eq_true c8
                    clear c8
                    replace H := Option.bind_eq_some_iff.mp H
                    obtain ⟨t104, A90, H⟩ := H
                    replace H : (if t104 = true then (some (x4_1, x5_2)) else (palantyperef05_Clashes.l1 k2 x4_1 (wrap64 (x5_2 + 1)) a0_0 a0_1 l0_2 l0_3)) = some (r1, r2) := H
                    have A9 := Aside0.mk A90
                    clear A90
                    by_cases c10 : t104 = true
                    · subst c10
                      have H1 : (some (x4_1, x5_2)) = some (r1, r2) := by rw [if_pos rfl] at H; exact H
                      clear H
                      have H := H1
                      clear H1
                      simp only [Option.some.injEq, Prod.mk.injEq] at H
                      obtain ⟨rfl, rfl⟩ := H
                      have hcz11_0 : wr.cell? ⟨gb101, 0, none⟩ = some (.int .i64 a0_0) := (blk_cell BK101.out 0).trans rfl
                      have hcz11_1 : wr.cell? ⟨gb101, 1, none⟩ = some (.int .i64 a0_1) := (blk_cell BK101.out 1).trans rfl
                      have hcz11_2 : wr.cell? ⟨gb101, 2, none⟩ = some (.slice A0_2 l0_2.length c0_2) := (blk_cell BK101.out 2).trans rfl
                      have hcz11_3 : wr.cell? ⟨gb101, 3, none⟩ = some (.slice A0_3 l0_3.length c0_3) := (blk_cell BK101.out 3).trans rfl
                      have hfz11_0 := blk_frozen BK101.out 0
                      have hfz11_1 := blk_frozen BK101.out 1
                      have hfz11_2 := blk_frozen BK101.out 2
                      have hfz11_3 := blk_frozen BK101.out 3
                      try go_wp2
                      have n0_ := Aside0.mk (blk_drew BK101.out)
                      have n1_ := Aside0.mk (below_drew1 HB.out)
                      clear BK101
                      clear HB
                      have BK101 := n0_
                      have HB := n1_
                      clear n0_ n1_
                      have p102 : 0 ≤ (x4_1 : Int) := of_decide_eq_true (by first | (with_reducible assumption) | assumption)
                      have q102 : x4_1 < (l0_2.length : Int) := of_decide_eq_true (by first | (with_reducible assumption) | assumption)
                      obtain ⟨ad102, e102, hx102_0, hx102_1, hx102_2, hx102_3, hx102_4, hx102_5⟩ := at_T54 HR0_2.out x4_1 p102 q102
                      have hw102_5 := hx102_5
                      have hw102_4 := hx102_4
                      have hw102_3 := hx102_3
                      have hw102_2 := hx102_2
                      have hw102_1 := hx102_1
                      have hw102_0 := hx102_0
                      cases e102
                      replace hx102_0 := (HB.out.cell (World.block_lt_of_cell? w _ hx102_0)).trans hx102_0
                      replace hx102_1 := (HB.out.cell (World.block_lt_of_cell? w _ hx102_1)).trans hx102_1
                      replace hx102_2 := (HB.out.cell (World.block_lt_of_cell? w _ hx102_2)).trans hx102_2
                      replace hx102_3 := (HB.out.cell (World.block_lt_of_cell? w _ hx102_3)).trans hx102_3
                      replace hx102_4 := (HB.out.cell (World.block_lt_of_cell? w _ hx102_4)).trans hx102_4
                      replace hx102_5 := (HB.out.cell (World.block_lt_of_cell? w _ hx102_5)).trans hx102_5
                      replace p102 := eq_true p102
                      replace q102 := eq_true q102
                      have p103 : 0 ≤ (x5_2 : Int) := of_decide_eq_true (by first | (with_reducible assumption) | assumption)
                      have q103 : x5_2 < (l0_2.length : Int) := of_decide_eq_true (by first | (with_reducible assumption) | assumption)
                      obtain ⟨ad103, e103, hx103_0, hx103_1, hx103_2, hx103_3, hx103_4, hx103_5⟩ := at_T54 HR0_2.out x5_2 p103 q103
                      have hw103_5 := hx103_5
                      have hw103_4 := hx103_4
                      have hw103_3 := hx103_3
                      have hw103_2 := hx103_2
                      have hw103_1 := hx103_1
                      have hw103_0 := hx103_0
                      obtain rfl : ad102 = ad103 := (by injection e103)
                      replace hx103_0 := (HB.out.cell (World.block_lt_of_cell? w _ hx103_0)).trans hx103_0
                      replace hx103_1 := (HB.out.cell (World.block_lt_of_cell? w _ hx103_1)).trans hx103_1
                      replace hx103_2 := (HB.out.cell (World.block_lt_of_cell? w _ hx103_2)).trans hx103_2
                      replace hx103_3 := (HB.out.cell (World.block_lt_of_cell? w _ hx103_3)).trans hx103_3
                      replace hx103_4 := (HB.out.cell (World.block_lt_of_cell? w _ hx103_4)).trans hx103_4
                      replace hx103_5 := (HB.out.cell (World.block_lt_of_cell? w _ hx103_5)).trans hx103_5
                      replace p103 := eq_true p103
                      replace q103 := eq_true q103
                      refine start_ (n := 11) (S := fun w' => w'.cell? ⟨gb101, 0, none⟩ = some (.int .i64 a0_0) ∧ w'.cell? ⟨gb101, 1, none⟩ = some (.int .i64 a0_1) ∧ w'.cell? ⟨gb101, 2, none⟩ = some (.slice (some ad102) l0_2.length c0_2) ∧ w'.cell? ⟨gb101, 3, none⟩ = some (.slice A0_3 l0_3.length c0_3) ∧ w'.cell? (ad102.add ((x4_1).toNat * 6)) = some (.int .i64 ((rd_T54 l0_2 x4_1).f0)) ∧ w'.cell? ⟨(ad102.add ((x4_1).toNat * 6)).block, (ad102.add ((x4_1).toNat * 6)).off + 1, none⟩ = some (.int .i64 ((rd_T54 l0_2 x4_1).f1)) ∧ w'.cell? ⟨(ad102.add ((x4_1).toNat * 6)).block, (ad102.add ((x4_1).toNat * 6)).off + 2, none⟩ = some (.int .i64 ((rd_T54 l0_2 x4_1).f2.f0)) ∧ w'.cell? ⟨(ad102.add ((x4_1).toNat * 6)).block, (ad102.add ((x4_1).toNat * 6)).off + 3, none⟩ = some (.int .i64 ((rd_T54 l0_2 x4_1).f2.f1)) ∧ w'.cell? ⟨(ad102.add ((x4_1).toNat * 6)).block, (ad102.add ((x4_1).toNat * 6)).off + 4, none⟩ = some (.int .i64 ((rd_T54 l0_2 x4_1).f3.f0)) ∧ w'.cell? ⟨(ad102.add ((x4_1).toNat * 6)).block, (ad102.add ((x4_1).toNat * 6)).off + 5, none⟩ = some (.int .i64 ((rd_T54 l0_2 x4_1).f3.f1)) ∧ w'.cell? (ad102.add ((x5_2).toNat * 6)) = some (.int .i64 ((rd_T54 l0_2 x5_2).f0)) ∧ w'.cell? ⟨(ad102.add ((x5_2).toNat * 6)).block, (ad102.add ((x5_2).toNat * 6)).off + 1, none⟩ = some (.int .i64 ((rd_T54 l0_2 x5_2).f1)) ∧ w'.cell? ⟨(ad102.add ((x5_2).toNat * 6)).block, (ad102.add ((x5_2).toNat * 6)).off + 2, none⟩ = some (.int .i64 ((rd_T54 l0_2 x5_2).f2.f0)) ∧ w'.cell? ⟨(ad102.add ((x5_2).toNat * 6)).block, (ad102.add ((x5_2).toNat * 6)).off + 3, none⟩ = some (.int .i64 ((rd_T54 l0_2 x5_2).f2.f1)) ∧ w'.cell? ⟨(ad102.add ((x5_2).toNat * 6)).block, (ad102.add ((x5_2).toNat * 6)).off + 4, none⟩ = some (.int .i64 ((rd_T54 l0_2 x5_2).f3.f0)) ∧ w'.cell? ⟨(ad102.add ((x5_2).toNat * 6)).block, (ad102.add ((x5_2).toNat * 6)).off + 5, none⟩ = some (.int .i64 ((rd_T54 l0_2 x5_2).f3.f1))) (ds := []) #[false, false, false, false, false, false, false, false, false, false, false] (by kernel_rfl) rfl rfl ⟨(blk_cell BK101.out 0).trans rfl, (blk_cell BK101.out 1).trans rfl, (blk_cell BK101.out 2).trans rfl, (blk_cell BK101.out 3).trans rfl, ((HB.out.cell (World.block_lt_of_cell? w _ hw102_0)).trans hw102_0), ((HB.out.cell (World.block_lt_of_cell? w _ hw102_1)).trans hw102_1), ((HB.out.cell (World.block_lt_of_cell? w _ hw102_2)).trans hw102_2), ((HB.out.cell (World.block_lt_of_cell? w _ hw102_3)).trans hw102_3), ((HB.out.cell (World.block_lt_of_cell? w _ hw102_4)).trans hw102_4), ((HB.out.cell (World.block_lt_of_cell? w _ hw102_5)).trans hw102_5), ((HB.out.cell (World.block_lt_of_cell? w _ hw103_0)).trans hw103_0), ((HB.out.cell (World.block_lt_of_cell? w _ hw103_1)).trans hw103_1), ((HB.out.cell (World.block_lt_of_cell? w _ hw103_2)).trans hw103_2), ((HB.out.cell (World.block_lt_of_cell? w _ hw103_3)).trans hw103_3), ((HB.out.cell (World.block_lt_of_cell? w _ hw103_4)).trans hw103_4), ((HB.out.cell (World.block_lt_of_cell? w _ hw103_5)).trans hw103_5)⟩ (fun hHeld => ?_); refine with_tabW palantyperef05_Clashes.tab7 palantyperef05_Clashes.bits7 (fun HT_ HW_ => ?_)
                      generalize wr.drew = w12 at BK101 HB hx102_0 hx102_1 hx102_2 hx102_3 hx102_4 hx102_5 hx103_0 hx103_1 hx103_2 hx103_3 hx103_4 hx103_5 hHeld ⊢
                      refine pure_ (i := 0) (N := some 22) (v := ?_) (a' := ?_) #[true, false, false, false, false, false, false, false, false, false, false] rfl rfl (any_of HT_.out (by kernel_rfl)) (fun _ _ _ h => h) (Or.inl ⟨by rfl, ?_⟩) ?_ ?_
                      rotate_left
                      · intro w'
                        go_simp
                        with_reducible rfl
                      rotate_left
                      · simp only [Act.put, List.setIfInBounds_toArray, List.set_cons_zero, List.set_cons_succ, i64_w, i32_w]
                        rfl
                      refine pure_ (i := 2) (N := some 24) (v := ?_) (a' := ?_) #[true, false, true, false, false, false, false, false, false, false, false] rfl rfl (any_of HT_.out (by kernel_rfl)) (fun _ _ _ h => h) (Or.inl ⟨by rfl, ?_⟩) ?_ ?_
                      rotate_left
                      · intro w'
                        go_simp
                        with_reducible rfl
                      rotate_left
                      · simp only [Act.put, List.setIfInBounds_toArray, List.set_cons_zero, List.set_cons_succ, i64_w, i32_w]
                        rfl
                      refine pure_ (i := 5) (N := some 27) (v := ?_) (a' := ?_) #[true, false, true, false, false, true, false, false, false, false, false] rfl rfl (any_of HT_.out (by kernel_rfl)) (fun _ _ _ h => h) (Or.inl ⟨by rfl, ?_⟩) ?_ ?_
                      rotate_left
                      · intro w'
                        go_simp
                        with_reducible rfl
                      rotate_left
                      · simp only [Act.put, List.setIfInBounds_toArray, List.set_cons_zero, List.set_cons_succ, i64_w, i32_w]
                        rfl
                      refine pure_ (i := 7) (N := some 29) (v := ?_) (a' := ?_) #[true, false, true, false, false, true, false, true, false, false, false] rfl rfl (any_of HT_.out (by kernel_rfl)) (fun _ _ _ h => h) (Or.inl ⟨by rfl, ?_⟩) ?_ ?_
                      rotate_left
                      · intro w'
                        go_simp
                        with_reducible rfl
                      rotate_left
                      · simp only [Act.put, List.setIfInBounds_toArray, List.set_cons_zero, List.set_cons_succ, i64_w, i32_w]
                        rfl
                      refine take_ (i := 1) (N := some 23) (v := ?_) (a' := ?_) #[true, true, true, false, false, true, false, true, false, false, false] rfl rfl (take_ofW HT_.out HW_.out (by kernel_rfl)) (fun _ _ _ h => h) (Or.inl ⟨by rfl, ?_⟩) hHeld ?_ ?_
                      rotate_left
                      · rintro w' ⟨s0, s1, s2, s3, s4, s5, s6, s7, s8, s9, s10, s11, s12, s13, s14, s15⟩
                        go_simp
                        with_reducible rfl
                      rotate_left
                      · simp only [Act.put, List.setIfInBounds_toArray, List.set_cons_zero, List.set_cons_succ, i64_w, i32_w]
                        rfl
                      refine pure_ (i := 3) (N := some 25) (v := ?_) (a' := ?_) #[true, true, true, true, false, true, false, true, false, false, false] rfl rfl (any_of HT_.out (by kernel_rfl)) (fun _ _ _ h => h) (Or.inl ⟨by rfl, ?_⟩) ?_ ?_
                      rotate_left
                      · intro w'
                        go_simp
                        with_reducible rfl
                      rotate_left
                      · simp only [Act.put, List.setIfInBounds_toArray, List.set_cons_zero, List.set_cons_succ, i64_w, i32_w]
                        rfl
                      refine take_ (i := 4) (N := some 26) (v := ?_) (a' := ?_) #[true, true, true, true, true, true, false, true, false, false, false] rfl rfl (take_ofW HT_.out HW_.out (by kernel_rfl)) (fun _ _ _ h => h) (Or.inl ⟨by rfl, ?_⟩) hHeld ?_ ?_
                      rotate_left
                      · rintro w' ⟨s0, s1, s2, s3, s4, s5, s6, s7, s8, s9, s10, s11, s12, s13, s14, s15⟩
                        go_simp
                        with_reducible rfl
                      rotate_left
                      · simp only [Act.put, List.setIfInBounds_toArray, List.set_cons_zero, List.set_cons_succ, i64_w, i32_w]
                        rfl
                      refine take_ (i := 6) (N := some 28) (v := ?_) (a' := ?_) #[true, true, true, true, true, true, true, true, false, false, false] rfl rfl (take_ofW HT_.out HW_.out (by kernel_rfl)) (fun _ _ _ h => h) (Or.inl ⟨by rfl, ?_⟩) hHeld ?_ ?_
                      rotate_left
                      · rintro w' ⟨s0, s1, s2, s3, s4, s5, s6, s7, s8, s9, s10, s11, s12, s13, s14, s15⟩
                        go_simp
                        with_reducible rfl
                      rotate_left
                      · simp only [Act.put, List.setIfInBounds_toArray, List.set_cons_zero, List.set_cons_succ, i64_w, i32_w]
                        rfl
                      refine pure_ (i := 8) (N := some 30) (v := ?_) (a' := ?_) #[true, true, true, true, true, true, true, true, true, false, false] rfl rfl (any_of HT_.out (by kernel_rfl)) (fun _ _ _ h => h) (Or.inl ⟨by rfl, ?_⟩) ?_ ?_
                      rotate_left
                      · intro w'
                        go_simp
                        with_reducible rfl
                      rotate_left
                      · simp only [Act.put, List.setIfInBounds_toArray, List.set_cons_zero, List.set_cons_succ, i64_w, i32_w]
                        rfl
                      refine take_ (i := 9) (N := some 31) (v := ?_) (a' := ?_) #[true, true, true, true, true, true, true, true, true, true, false] rfl rfl (take_ofW HT_.out HW_.out (by kernel_rfl)) (fun _ _ _ h => h) (Or.inl ⟨by rfl, ?_⟩) hHeld ?_ ?_
                      rotate_left
                      · rintro w' ⟨s0, s1, s2, s3, s4, s5, s6, s7, s8, s9, s10, s11, s12, s13, s14, s15⟩
                        go_simp
                        with_reducible rfl
                      rotate_left
                      · simp only [Act.put, List.setIfInBounds_toArray, List.set_cons_zero, List.set_cons_succ, i64_w, i32_w]
                        rfl
                      refine one_ (i := 10) (N := some 32) #[true, true, true, true, true, true, true, true, true, true, true] rfl rfl (one_of HT_.out (by kernel_rfl)) (by decide) (fun K hK => ?_)
                      refine goes_ Try.func63 (by kernel_rfl) rfl #[.agg #[.int .i64 ((rd_T54 l0_2 x4_1).f0), .int .i64 ((rd_T54 l0_2 x4_1).f1), .int .i64 ((rd_T54 l0_2 x4_1).f2.f0), .int .i64 ((rd_T54 l0_2 x4_1).f2.f1), .int .i64 ((rd_T54 l0_2 x4_1).f3.f0), .int .i64 ((rd_T54 l0_2 x4_1).f3.f1)], .agg #[.int .i64 ((rd_T54 l0_2 x5_2).f0), .int .i64 ((rd_T54 l0_2 x5_2).f1), .int .i64 ((rd_T54 l0_2 x5_2).f2.f0), .int .i64 ((rd_T54 l0_2 x5_2).f2.f1), .int .i64 ((rd_T54 l0_2 x5_2).f3.f0), .int .i64 ((rd_T54 l0_2 x5_2).f3.f1)]] (by rfl) rfl rfl (by (try simp only [List.map_toArray, List.map_cons, List.map_nil]); first | done | rfl | (simp only [List.length_drop, List.length_take]; rfl)) ?_
                      with_reducible refine (palantyperef05_Clash.calls ((rd_T54 l0_2 x4_1).f0) ((rd_T54 l0_2 x4_1).f1) ((rd_T54 l0_2 x4_1).f2.f0) ((rd_T54 l0_2 x4_1).f2.f1) ((rd_T54 l0_2 x4_1).f3.f0) ((rd_T54 l0_2 x4_1).f3.f1) ((rd_T54 l0_2 x5_2).f0) ((rd_T54 l0_2 x5_2).f1) ((rd_T54 l0_2 x5_2).f2.f0) ((rd_T54 l0_2 x5_2).f2.f1) ((rd_T54 l0_2 x5_2).f3.f0) ((rd_T54 l0_2 x5_2).f3.f1) true _ A9.out).mono ?_
                      rintro e w13 ⟨rfl, hb⟩
                      refine ⟨_, rfl, ?_⟩
                      have n0_ := Aside0.mk (blk_below (g := gb101) (o := .cells #[.int .i64 a0_0, .int .i64 a0_1, .slice (some ad102) l0_2.length c0_2, .slice A0_3 l0_3.length c0_3] 25 (0, 0)) (by (with_reducible repeat (first | refine blk_drewN ?_ _ | refine blk_drew ?_ | refine blk_alloc ?_ _)); exact BK101.out) hb)
                      have n1_ := Aside0.mk (below_step (by repeat (first | (with_reducible first | exact HB.out | apply below_alloc | apply pw_below_drewN | apply below_drew1 | refine below_set ?_ GE101.out) | exact HB.out)) hb)
                      clear BK101
                      clear HB
                      have BK101 := n0_
                      have HB := n1_
                      clear n0_ n1_
                      (try clear hb)
                      (try clear hb2)
                      (try clear hk)
                      (try clear hi)
                      refine hK.out _ _ ⟨(blk_cell BK101.out 0).trans rfl, (blk_cell BK101.out 1).trans rfl, (blk_cell BK101.out 2).trans rfl, (blk_cell BK101.out 3).trans rfl, ((HB.out.cell (World.block_lt_of_cell? w _ hw102_0)).trans hw102_0), ((HB.out.cell (World.block_lt_of_cell? w _ hw102_1)).trans hw102_1), ((HB.out.cell (World.block_lt_of_cell? w _ hw102_2)).trans hw102_2), ((HB.out.cell (World.block_lt_of_cell? w _ hw102_3)).trans hw102_3), ((HB.out.cell (World.block_lt_of_cell? w _ hw102_4)).trans hw102_4), ((HB.out.cell (World.block_lt_of_cell? w _ hw102_5)).trans hw102_5), ((HB.out.cell (World.block_lt_of_cell? w _ hw103_0)).trans hw103_0), ((HB.out.cell (World.block_lt_of_cell? w _ hw103_1)).trans hw103_1), ((HB.out.cell (World.block_lt_of_cell? w _ hw103_2)).trans hw103_2), ((HB.out.cell (World.block_lt_of_cell? w _ hw103_3)).trans hw103_3), ((HB.out.cell (World.block_lt_of_cell? w _ hw103_4)).trans hw103_4), ((HB.out.cell (World.block_lt_of_cell? w _ hw103_5)).trans hw103_5)⟩ (fun hHeld => ?_)
                      clear hK K
                      refine norm_ (a' := ?_) ?_ ?_
                      rotate_left
                      · show Act.put _ (some 32) _ = _
                        simp only [Act.put, List.setIfInBounds_toArray, List.set_cons_zero, List.set_cons_succ, i64_w, i32_w]
                        rfl
                      refine done_ (done_of HT_.out (by kernel_rfl)) ?_
                      try go_wp2
                      go_ret2
                      exact ⟨by first | rfl | (simp [errW_none, errW_some] <;> rfl) | (simp [*, errW_none, errW_some] <;> rfl), by repeat (first | (with_reducible first | exact HB.out | apply below_alloc | apply pw_below_drewN | apply below_drew1 | refine below_set ?_ GE101.out) | exact HB.out)⟩
                    · replace c10 := Bool.eq_false_iff.mpr c10
                      subst c10
                      have H1 : (palantyperef05_Clashes.l1 k2 x4_1 (wrap64 (x5_2 + 1)) a0_0 a0_1 l0_2 l0_3) = some (r1, r2) := by rw [if_neg (show ¬ (false = true) by decide)] at H; exact H
                      clear H
                      have H := H1
                      clear H1
                      have H' := Aside0.mk H
                      clear H
                      have hcz14_0 : wr.cell? ⟨gb101, 0, none⟩ = some (.int .i64 a0_0) := (blk_cell BK101.out 0).trans rfl
                      have hcz14_1 : wr.cell? ⟨gb101, 1, none⟩ = some (.int .i64 a0_1) := (blk_cell BK101.out 1).trans rfl
                      have hcz14_2 : wr.cell? ⟨gb101, 2, none⟩ = some (.slice A0_2 l0_2.length c0_2) := (blk_cell BK101.out 2).trans rfl
                      have hcz14_3 : wr.cell? ⟨gb101, 3, none⟩ = some (.slice A0_3 l0_3.length c0_3) := (blk_cell BK101.out 3).trans rfl
                      have hfz14_0 := blk_frozen BK101.out 0
                      have hfz14_1 := blk_frozen BK101.out 1
                      have hfz14_2 := blk_frozen BK101.out 2
                      have hfz14_3 := blk_frozen BK101.out 3
                      try go_wp2
                      have n0_ := Aside0.mk (blk_drew BK101.out)
                      have n1_ := Aside0.mk (below_drew1 HB.out)
                      clear BK101
                      clear HB
                      have BK101 := n0_
                      have HB := n1_
                      clear n0_ n1_
                      have p102 : 0 ≤ (x4_1 : Int) := of_decide_eq_true (by first | (with_reducible assumption) | assumption)
                      have q102 : x4_1 < (l0_2.length : Int) := of_decide_eq_true (by first | (with_reducible assumption) | assumption)
                      obtain ⟨ad102, e102, hx102_0, hx102_1, hx102_2, hx102_3, hx102_4, hx102_5⟩ := at_T54 HR0_2.out x4_1 p102 q102
                      have hw102_5 := hx102_5
                      have hw102_4 := hx102_4
                      have hw102_3 := hx102_3
                      have hw102_2 := hx102_2
                      have hw102_1 := hx102_1
                      have hw102_0 := hx102_0
                      cases e102
                      replace hx102_0 := (HB.out.cell (World.block_lt_of_cell? w _ hx102_0)).trans hx102_0
                      replace hx102_1 := (HB.out.cell (World.block_lt_of_cell? w _ hx102_1)).trans hx102_1
                      replace hx102_2 := (HB.out.cell (World.block_lt_of_cell? w _ hx102_2)).trans hx102_2
                      replace hx102_3 := (HB.out.cell (World.block_lt_of_cell? w _ hx102_3)).trans hx102_3
                      replace hx102_4 := (HB.out.cell (World.block_lt_of_cell? w _ hx102_4)).trans hx102_4
                      replace hx102_5 := (HB.out.cell (World.block_lt_of_cell? w _ hx102_5)).trans hx102_5
                      replace p102 := eq_true p102
                      replace q102 := eq_true q102
                      have p103 : 0 ≤ (x5_2 : Int) := of_decide_eq_true (by first | (with_reducible assumption) | assumption)
                      have q103 : x5_2 < (l0_2.length : Int) := of_decide_eq_true (by first | (with_reducible assumption) | assumption)
                      obtain ⟨ad103, e103, hx103_0, hx103_1, hx103_2, hx103_3, hx103_4, hx103_5⟩ := at_T54 HR0_2.out x5_2 p103 q103
                      have hw103_5 := hx103_5
                      have hw103_4 := hx103_4
                      have hw103_3 := hx103_3
                      have hw103_2 := hx103_2
                      have hw103_1 := hx103_1
                      have hw103_0 := hx103_0
                      obtain rfl : ad102 = ad103 := (by injection e103)
                      replace hx103_0 := (HB.out.cell (World.block_lt_of_cell? w _ hx103_0)).trans hx103_0
                      replace hx103_1 := (HB.out.cell (World.block_lt_of_cell? w _ hx103_1)).trans hx103_1
                      replace hx103_2 := (HB.out.cell (World.block_lt_of_cell? w _ hx103_2)).trans hx103_2
                      replace hx103_3 := (HB.out.cell (World.block_lt_of_cell? w _ hx103_3)).trans hx103_3
                      replace hx103_4 := (HB.out.cell (World.block_lt_of_cell? w _ hx103_4)).trans hx103_4
                      replace hx103_5 := (HB.out.cell (World.block_lt_of_cell? w _ hx103_5)).trans hx103_5
                      replace p103 := eq_true p103
                      replace q103 := eq_true q103
                      refine start_ (n := 11) (S := fun w' => w'.cell? ⟨gb101, 0, none⟩ = some (.int .i64 a0_0) ∧ w'.cell? ⟨gb101, 1, none⟩ = some (.int .i64 a0_1) ∧ w'.cell? ⟨gb101, 2, none⟩ = some (.slice (some ad102) l0_2.length c0_2) ∧ w'.cell? ⟨gb101, 3, none⟩ = some (.slice A0_3 l0_3.length c0_3) ∧ w'.cell? (ad102.add ((x4_1).toNat * 6)) = some (.int .i64 ((rd_T54 l0_2 x4_1).f0)) ∧ w'.cell? ⟨(ad102.add ((x4_1).toNat * 6)).block, (ad102.add ((x4_1).toNat * 6)).off + 1, none⟩ = some (.int .i64 ((rd_T54 l0_2 x4_1).f1)) ∧ w'.cell? ⟨(ad102.add ((x4_1).toNat * 6)).block, (ad102.add ((x4_1).toNat * 6)).off + 2, none⟩ = some (.int .i64 ((rd_T54 l0_2 x4_1).f2.f0)) ∧ w'.cell? ⟨(ad102.add ((x4_1).toNat * 6)).block, (ad102.add ((x4_1).toNat * 6)).off + 3, none⟩ = some (.int .i64 ((rd_T54 l0_2 x4_1).f2.f1)) ∧ w'.cell? ⟨(ad102.add ((x4_1).toNat * 6)).block, (ad102.add ((x4_1).toNat * 6)).off + 4, none⟩ = some (.int .i64 ((rd_T54 l0_2 x4_1).f3.f0)) ∧ w'.cell? ⟨(ad102.add ((x4_1).toNat * 6)).block, (ad102.add ((x4_1).toNat * 6)).off + 5, none⟩ = some (.int .i64 ((rd_T54 l0_2 x4_1).f3.f1)) ∧ w'.cell? (ad102.add ((x5_2).toNat * 6)) = some (.int .i64 ((rd_T54 l0_2 x5_2).f0)) ∧ w'.cell? ⟨(ad102.add ((x5_2).toNat * 6)).block, (ad102.add ((x5_2).toNat * 6)).off + 1, none⟩ = some (.int .i64 ((rd_T54 l0_2 x5_2).f1)) ∧ w'.cell? ⟨(ad102.add ((x5_2).toNat * 6)).block, (ad102.add ((x5_2).toNat * 6)).off + 2, none⟩ = some (.int .i64 ((rd_T54 l0_2 x5_2).f2.f0)) ∧ w'.cell? ⟨(ad102.add ((x5_2).toNat * 6)).block, (ad102.add ((x5_2).toNat * 6)).off + 3, none⟩ = some (.int .i64 ((rd_T54 l0_2 x5_2).f2.f1)) ∧ w'.cell? ⟨(ad102.add ((x5_2).toNat * 6)).block, (ad102.add ((x5_2).toNat * 6)).off + 4, none⟩ = some (.int .i64 ((rd_T54 l0_2 x5_2).f3.f0)) ∧ w'.cell? ⟨(ad102.add ((x5_2).toNat * 6)).block, (ad102.add ((x5_2).toNat * 6)).off + 5, none⟩ = some (.int .i64 ((rd_T54 l0_2 x5_2).f3.f1))) (ds := []) #[false, false, false, false, false, false, false, false, false, false, false] (by kernel_rfl) rfl rfl ⟨(blk_cell BK101.out 0).trans rfl, (blk_cell BK101.out 1).trans rfl, (blk_cell BK101.out 2).trans rfl, (blk_cell BK101.out 3).trans rfl, ((HB.out.cell (World.block_lt_of_cell? w _ hw102_0)).trans hw102_0), ((HB.out.cell (World.block_lt_of_cell? w _ hw102_1)).trans hw102_1), ((HB.out.cell (World.block_lt_of_cell? w _ hw102_2)).trans hw102_2), ((HB.out.cell (World.block_lt_of_cell? w _ hw102_3)).trans hw102_3), ((HB.out.cell (World.block_lt_of_cell? w _ hw102_4)).trans hw102_4), ((HB.out.cell (World.block_lt_of_cell? w _ hw102_5)).trans hw102_5), ((HB.out.cell (World.block_lt_of_cell? w _ hw103_0)).trans hw103_0), ((HB.out.cell (World.block_lt_of_cell? w _ hw103_1)).trans hw103_1), ((HB.out.cell (World.block_lt_of_cell? w _ hw103_2)).trans hw103_2), ((HB.out.cell (World.block_lt_of_cell? w _ hw103_3)).trans hw103_3), ((HB.out.cell (World.block_lt_of_cell? w _ hw103_4)).trans hw103_4), ((HB.out.cell (World.block_lt_of_cell? w _ hw103_5)).trans hw103_5)⟩ (fun hHeld => ?_); refine with_tabW palantyperef05_Clashes.tab7 palantyperef05_Clashes.bits7 (fun HT_ HW_ => ?_)
                      generalize wr.drew = w15 at BK101 HB hx102_0 hx102_1 hx102_2 hx102_3 hx102_4 hx102_5 hx103_0 hx103_1 hx103_2 hx103_3 hx103_4 hx103_5 hHeld ⊢
                      refine pure_ (i := 0) (N := some 22) (v := ?_) (a' := ?_) #[true, false, false, false, false, false, false, false, false, false, false] rfl rfl (any_of HT_.out (by kernel_rfl)) (fun _ _ _ h => h) (Or.inl ⟨by rfl, ?_⟩) ?_ ?_
                      rotate_left
                      · intro w'
                        go_simp
                        with_reducible rfl
                      rotate_left
                      · simp only [Act.put, List.setIfInBounds_toArray, List.set_cons_zero, List.set_cons_succ, i64_w, i32_w]
                        rfl
                      refine pure_ (i := 2) (N := some 24) (v := ?_) (a' := ?_) #[true, false, true, false, false, false, false, false, false, false, false] rfl rfl (any_of HT_.out (by kernel_rfl)) (fun _ _ _ h => h) (Or.inl ⟨by rfl, ?_⟩) ?_ ?_
                      rotate_left
                      · intro w'
                        go_simp
                        with_reducible rfl
                      rotate_left
                      · simp only [Act.put, List.setIfInBounds_toArray, List.set_cons_zero, List.set_cons_succ, i64_w, i32_w]
                        rfl
                      refine pure_ (i := 5) (N := some 27) (v := ?_) (a' := ?_) #[true, false, true, false, false, true, false, false, false, false, false] rfl rfl (any_of HT_.out (by kernel_rfl)) (fun _ _ _ h => h) (Or.inl ⟨by rfl, ?_⟩) ?_ ?_
                      rotate_left
                      · intro w'
                        go_simp
                        with_reducible rfl
                      rotate_left
                      · simp only [Act.put, List.setIfInBounds_toArray, List.set_cons_zero, List.set_cons_succ, i64_w, i32_w]
                        rfl
                      refine pure_ (i := 7) (N := some 29) (v := ?_) (a' := ?_) #[true, false, true, false, false, true, false, true, false, false, false] rfl rfl (any_of HT_.out (by kernel_rfl)) (fun _ _ _ h => h) (Or.inl ⟨by rfl, ?_⟩) ?_ ?_
                      rotate_left
                      · intro w'
                        go_simp
                        with_reducible rfl
                      rotate_left
                      · simp only [Act.put, List.setIfInBounds_toArray, List.set_cons_zero, List.set_cons_succ, i64_w, i32_w]
                        rfl
                      refine take_ (i := 1) (N := some 23) (v := ?_) (a' := ?_) #[true, true, true, false, false, true, false, true, false, false, false] rfl rfl (take_ofW HT_.out HW_.out (by kernel_rfl)) (fun _ _ _ h => h) (Or.inl ⟨by rfl, ?_⟩) hHeld ?_ ?_
                      rotate_left
                      · rintro w' ⟨s0, s1, s2, s3, s4, s5, s6, s7, s8, s9, s10, s11, s12, s13, s14, s15⟩
                        go_simp
                        with_reducible rfl
                      rotate_left
                      · simp only [Act.put, List.setIfInBounds_toArray, List.set_cons_zero, List.set_cons_succ, i64_w, i32_w]
                        rfl
                      refine pure_ (i := 3) (N := some 25) (v := ?_) (a' := ?_) #[true, true, true, true, false, true, false, true, false, false, false] rfl rfl (any_of HT_.out (by kernel_rfl)) (fun _ _ _ h => h) (Or.inl ⟨by rfl, ?_⟩) ?_ ?_
                      rotate_left
                      · intro w'
                        go_simp
                        with_reducible rfl
                      rotate_left
                      · simp only [Act.put, List.setIfInBounds_toArray, List.set_cons_zero, List.set_cons_succ, i64_w, i32_w]
                        rfl
                      refine take_ (i := 4) (N := some 26) (v := ?_) (a' := ?_) #[true, true, true, true, true, true, false, true, false, false, false] rfl rfl (take_ofW HT_.out HW_.out (by kernel_rfl)) (fun _ _ _ h => h) (Or.inl ⟨by rfl, ?_⟩) hHeld ?_ ?_
                      rotate_left
                      · rintro w' ⟨s0, s1, s2, s3, s4, s5, s6, s7, s8, s9, s10, s11, s12, s13, s14, s15⟩
                        go_simp
                        with_reducible rfl
                      rotate_left
                      · simp only [Act.put, List.setIfInBounds_toArray, List.set_cons_zero, List.set_cons_succ, i64_w, i32_w]
                        rfl
                      refine take_ (i := 6) (N := some 28) (v := ?_) (a' := ?_) #[true, true, true, true, true, true, true, true, false, false, false] rfl rfl (take_ofW HT_.out HW_.out (by kernel_rfl)) (fun _ _ _ h => h) (Or.inl ⟨by rfl, ?_⟩) hHeld ?_ ?_
                      rotate_left
                      · rintro w' ⟨s0, s1, s2, s3, s4, s5, s6, s7, s8, s9, s10, s11, s12, s13, s14, s15⟩
                        go_simp
                        with_reducible rfl
                      rotate_left
                      · simp only [Act.put, List.setIfInBounds_toArray, List.set_cons_zero, List.set_cons_succ, i64_w, i32_w]
                        rfl
                      refine pure_ (i := 8) (N := some 30) (v := ?_) (a' := ?_) #[true, true, true, true, true, true, true, true, true, false, false] rfl rfl (any_of HT_.out (by kernel_rfl)) (fun _ _ _ h => h) (Or.inl ⟨by rfl, ?_⟩) ?_ ?_
                      rotate_left
                      · intro w'
                        go_simp
                        with_reducible rfl
                      rotate_left
                      · simp only [Act.put, List.setIfInBounds_toArray, List.set_cons_zero, List.set_cons_succ, i64_w, i32_w]
                        rfl
                      refine take_ (i := 9) (N := some 31) (v := ?_) (a' := ?_) #[true, true, true, true, true, true, true, true, true, true, false] rfl rfl (take_ofW HT_.out HW_.out (by kernel_rfl)) (fun _ _ _ h => h) (Or.inl ⟨by rfl, ?_⟩) hHeld ?_ ?_
                      rotate_left
                      · rintro w' ⟨s0, s1, s2, s3, s4, s5, s6, s7, s8, s9, s10, s11, s12, s13, s14, s15⟩
                        go_simp
                        with_reducible rfl
                      rotate_left
                      · simp only [Act.put, List.setIfInBounds_toArray, List.set_cons_zero, List.set_cons_succ, i64_w, i32_w]
                        rfl
                      refine one_ (i := 10) (N := some 32) #[true, true, true, true, true, true, true, true, true, true, true] rfl rfl (one_of HT_.out (by kernel_rfl)) (by decide) (fun K hK => ?_)
                      refine goes_ Try.func63 (by kernel_rfl) rfl #[.agg #[.int .i64 ((rd_T54 l0_2 x4_1).f0), .int .i64 ((rd_T54 l0_2 x4_1).f1), .int .i64 ((rd_T54 l0_2 x4_1).f2.f0), .int .i64 ((rd_T54 l0_2 x4_1).f2.f1), .int .i64 ((rd_T54 l0_2 x4_1).f3.f0), .int .i64 ((rd_T54 l0_2 x4_1).f3.f1)], .agg #[.int .i64 ((rd_T54 l0_2 x5_2).f0), .int .i64 ((rd_T54 l0_2 x5_2).f1), .int .i64 ((rd_T54 l0_2 x5_2).f2.f0), .int .i64 ((rd_T54 l0_2 x5_2).f2.f1), .int .i64 ((rd_T54 l0_2 x5_2).f3.f0), .int .i64 ((rd_T54 l0_2 x5_2).f3.f1)]] (by rfl) rfl rfl (by (try simp only [List.map_toArray, List.map_cons, List.map_nil]); first | done | rfl | (simp only [List.length_drop, List.length_take]; rfl)) ?_
                      with_reducible refine (palantyperef05_Clash.calls ((rd_T54 l0_2 x4_1).f0) ((rd_T54 l0_2 x4_1).f1) ((rd_T54 l0_2 x4_1).f2.f0) ((rd_T54 l0_2 x4_1).f2.f1) ((rd_T54 l0_2 x4_1).f3.f0) ((rd_T54 l0_2 x4_1).f3.f1) ((rd_T54 l0_2 x5_2).f0) ((rd_T54 l0_2 x5_2).f1) ((rd_T54 l0_2 x5_2).f2.f0) ((rd_T54 l0_2 x5_2).f2.f1) ((rd_T54 l0_2 x5_2).f3.f0) ((rd_T54 l0_2 x5_2).f3.f1) false _ A9.out).mono ?_
                      rintro e w16 ⟨rfl, hb⟩
                      refine ⟨_, rfl, ?_⟩
                      have n0_ := Aside0.mk (blk_below (g := gb101) (o := .cells #[.int .i64 a0_0, .int .i64 a0_1, .slice (some ad102) l0_2.length c0_2, .slice A0_3 l0_3.length c0_3] 25 (0, 0)) (by (with_reducible repeat (first | refine blk_drewN ?_ _ | refine blk_drew ?_ | refine blk_alloc ?_ _)); exact BK101.out) hb)
                      have n1_ := Aside0.mk (below_step (by repeat (first | (with_reducible first | exact HB.out | apply below_alloc | apply pw_below_drewN | apply below_drew1 | refine below_set ?_ GE101.out) | exact HB.out)) hb)
                      clear BK101
                      clear HB
                      have BK101 := n0_
                      have HB := n1_
                      clear n0_ n1_
                      (try clear hb)
                      (try clear hb2)
                      (try clear hk)
                      (try clear hi)
                      refine hK.out _ _ ⟨(blk_cell BK101.out 0).trans rfl, (blk_cell BK101.out 1).trans rfl, (blk_cell BK101.out 2).trans rfl, (blk_cell BK101.out 3).trans rfl, ((HB.out.cell (World.block_lt_of_cell? w _ hw102_0)).trans hw102_0), ((HB.out.cell (World.block_lt_of_cell? w _ hw102_1)).trans hw102_1), ((HB.out.cell (World.block_lt_of_cell? w _ hw102_2)).trans hw102_2), ((HB.out.cell (World.block_lt_of_cell? w _ hw102_3)).trans hw102_3), ((HB.out.cell (World.block_lt_of_cell? w _ hw102_4)).trans hw102_4), ((HB.out.cell (World.block_lt_of_cell? w _ hw102_5)).trans hw102_5), ((HB.out.cell (World.block_lt_of_cell? w _ hw103_0)).trans hw103_0), ((HB.out.cell (World.block_lt_of_cell? w _ hw103_1)).trans hw103_1), ((HB.out.cell (World.block_lt_of_cell? w _ hw103_2)).trans hw103_2), ((HB.out.cell (World.block_lt_of_cell? w _ hw103_3)).trans hw103_3), ((HB.out.cell (World.block_lt_of_cell? w _ hw103_4)).trans hw103_4), ((HB.out.cell (World.block_lt_of_cell? w _ hw103_5)).trans hw103_5)⟩ (fun hHeld => ?_)
                      clear hK K
                      refine norm_ (a' := ?_) ?_ ?_
                      rotate_left
                      · show Act.put _ (some 32) _ = _
                        simp only [Act.put, List.setIfInBounds_toArray, List.set_cons_zero, List.set_cons_succ, i64_w, i32_w]
                        rfl
                      refine done_ (done_of HT_.out (by kernel_rfl)) ?_
                      try go_wp2
                      go_roundg k2
                      case measure => have := HK1.out; have := HK2.out; omega
                      case rel => exact ⟨(wrap64 (x5_2 + 1)), (by first | rfl | (simp; done) | (simp [*]; done)), H', ⟨by have := HK1.out; have := HK2.out; omega⟩, ⟨by (with_reducible repeat (first | refine blk_drewN ?_ _ | refine blk_drew ?_ | refine blk_alloc ?_ _)); exact BK101.out⟩, ⟨by repeat (first | (with_reducible first | exact HB.out | apply below_alloc | apply pw_below_drewN | apply below_drew1 | refine below_set ?_ GE101.out) | exact HB.out)⟩⟩
                  · rw [if_neg c8] at H
                    exact absurd H (by simp)
                · rw [if_neg c7] at H
                  exact absurd H (by simp)
              · rw [if_neg c6] at H
                exact absurd H (by simp)
            · rw [if_neg c5] at H
              have c5b0 : decide (x5_2 < (l0_2.length : Int)) = false := decide_eq_false c5
              clear c5
              have H' := Aside0.mk H
              clear H
              have hcz17_0 : wr.cell? ⟨gb101, 0, none⟩ = some (.int .i64 a0_0) := (blk_cell BK101.out 0).trans rfl
              have hcz17_1 : wr.cell? ⟨gb101, 1, none⟩ = some (.int .i64 a0_1) := (blk_cell BK101.out 1).trans rfl
              have hcz17_2 : wr.cell? ⟨gb101, 2, none⟩ = some (.slice A0_2 l0_2.length c0_2) := (blk_cell BK101.out 2).trans rfl
              have hcz17_3 : wr.cell? ⟨gb101, 3, none⟩ = some (.slice A0_3 l0_3.length c0_3) := (blk_cell BK101.out 3).trans rfl
              have hfz17_0 := blk_frozen BK101.out 0
              have hfz17_1 := blk_frozen BK101.out 1
              have hfz17_2 := blk_frozen BK101.out 2
              have hfz17_3 := blk_frozen BK101.out 3
              go_wp2
              go_roundg k2
              case measure => have := HK1.out; have := HK2.out; omega
              case rel => exact ⟨(wrap64 (x4_1 + 1)), (by first | rfl | (simp; done) | (simp [*]; done)), H', ⟨by have := HK1.out; have := HK2.out; omega⟩, ⟨by (with_reducible repeat (first | refine blk_drewN ?_ _ | refine blk_drew ?_ | refine blk_alloc ?_ _)); exact BK101.out⟩, ⟨by repeat (first | (with_reducible first | exact HB.out | apply below_alloc | apply pw_below_drewN | apply below_drew1 | refine below_set ?_ GE101.out) | exact HB.out)⟩⟩
      · rw [if_neg c3] at H
        have c3b0 : decide (x4_1 < (l0_2.length : Int)) = false := decide_eq_false c3
        clear c3
        simp only [Option.some.injEq, Prod.mk.injEq] at H
        obtain ⟨rfl, rfl⟩ := H
        have hcz18_0 : wr.cell? ⟨gb101, 0, none⟩ = some (.int .i64 a0_0) := (blk_cell BK101.out 0).trans rfl
        have hcz18_1 : wr.cell? ⟨gb101, 1, none⟩ = some (.int .i64 a0_1) := (blk_cell BK101.out 1).trans rfl
        have hcz18_2 : wr.cell? ⟨gb101, 2, none⟩ = some (.slice A0_2 l0_2.length c0_2) := (blk_cell BK101.out 2).trans rfl
        have hcz18_3 : wr.cell? ⟨gb101, 3, none⟩ = some (.slice A0_3 l0_3.length c0_3) := (blk_cell BK101.out 3).trans rfl
        have hfz18_0 := blk_frozen BK101.out 0
        have hfz18_1 := blk_frozen BK101.out 1
        have hfz18_2 := blk_frozen BK101.out 2
        have hfz18_3 := blk_frozen BK101.out 3
        go_wp2
        go_ret2
        exact ⟨by first | rfl | (simp [errW_none, errW_some] <;> rfl) | (simp [*, errW_none, errW_some] <;> rfl), by repeat (first | (with_reducible first | exact HB.out | apply below_alloc | apply pw_below_drewN | apply below_drew1 | refine below_set ?_ GE101.out) | exact HB.out)⟩

end Go.Proofs.Ythpheknchikodaa.P

/- The laws' own Thin and Roll, and the reference's Clashes, as plain words over lists. Conditions: the lists are no longer than the statements' guards let in. -/
namespace Go.Proofs.Ythpheknchikodaa.P
open Go.RowKit Go.Proofs.YthpheknchikodaaW.PrintWords Go.Proofs.YthpheknchikodaaW.PrintLast
set_option linter.unusedVariables false
set_option linter.unusedSimpArgs false

theorem rclash_f (a b : S54) : palantyperef05_Clash.f a.f0 a.f1 a.f2.f0 a.f2.f1 a.f3.f0 a.f3.f1 b.f0 b.f1 b.f2.f0 b.f2.f1 b.f3.f0 b.f3.f1 = some (clashB (toT a) (toT b)) := by
  unfold palantyperef05_Clash.f palantyperef05_before.f clashB befB toT
  by_cases h : a.f1 = b.f1
  · simp only [if_pos h, Option.bind_some, decide_eq_true h, Bool.true_and]
    cases h2 : decide (a.f3.f0 ≤ b.f2.f1) <;> simp
  · simp only [if_neg h, decide_eq_false h, Bool.false_and]
theorem Clashes_l1 (p o : Int) (ts : List S54) (ns : List S88) (hts : ts.length ≤ 45) (i : Nat) (hi : i < ts.length) (R : Int × Int) (hR : Ev (fun k => palantyperef05_Clashes.l0 k ((i + 1 : Nat) : Int) p o ts ns) R) :
    ∀ (n j : Nat), j + n = ts.length → Ev (fun k => palantyperef05_Clashes.l1 k (i : Int) (j : Int) p o ts ns) (match findClash (toT ts[i]) (j : Int) ((ts.drop j).map toT) with | some k => ((i : Int), k) | none => R) := by
  intro n
  induction n with
  | zero =>
    intro j hj
    refine Ev.step (fun k => palantyperef05_Clashes.l1.eq_2 ..) ?_
    have h1 : ¬ ((j : Int) < (ts.length : Int)) := by omega
    rw [List.drop_eq_nil_of_le (by omega)]
    simp only [if_neg h1, w64 i (by omega), List.map_nil, findClash]
    exact hR
  | succ n ih =>
    intro j hj
    refine Ev.step (fun k => palantyperef05_Clashes.l1.eq_2 ..) ?_
    have hj' : j < ts.length := by omega
    have h1 : (j : Int) < (ts.length : Int) := by omega
    have h2 : (0 : Int) ≤ (i : Int) := by omega
    have h3 : (i : Int) < (ts.length : Int) := by omega
    have h4 : (0 : Int) ≤ (j : Int) := by omega
    rw [List.drop_eq_getElem_cons hj', List.map_cons, findClash]
    have ih' := ih (j + 1) (by omega)
    push_cast at ih'
    simp only [if_pos h1, if_pos h2, if_pos h3, if_pos h4, rd54_get ts i hi, rd54_get ts j hj', rclash_f, Option.bind_some, w64 j (by omega)]
    cases c : clashB (toT ts[i]) (toT ts[j])
    · simp only [Bool.false_eq_true, if_false]; push_cast; exact ih'
    · simp only [if_true]; exact Ev.now _
theorem Clashes_l0 (p o : Int) (ts : List S54) (ns : List S88) (hts : ts.length ≤ 45) : ∀ (n i : Nat), i + n = ts.length → Ev (fun k => palantyperef05_Clashes.l0 k (i : Int) p o ts ns) (pairOf (firstClash (i : Int) ((ts.drop i).map toT))) := by
  intro n
  induction n with
  | zero =>
    intro i hi
    refine Ev.step (fun k => palantyperef05_Clashes.l0.eq_2 ..) ?_
    have h1 : ¬ ((i : Int) < (ts.length : Int)) := by omega
    rw [List.drop_eq_nil_of_le (by omega)]
    simp only [if_neg h1, List.map_nil, firstClash, pairOf]
    exact Ev.now _
  | succ n ih =>
    intro i hi
    refine Ev.step (fun k => palantyperef05_Clashes.l0.eq_2 ..) ?_
    have hi' : i < ts.length := by omega
    have h1 : (i : Int) < (ts.length : Int) := by omega
    rw [List.drop_eq_getElem_cons hi', List.map_cons, firstClash]
    have h := Clashes_l1 p o ts ns hts i hi' _ (ih (i + 1) (by omega)) (ts.length - (i + 1)) (i + 1) (by omega)
    simp only [if_pos h1, w64 i (by omega)]
    push_cast at h ⊢
    cases c : findClash (toT ts[i]) ((i : Int) + 1) ((ts.drop (i + 1)).map toT)
    · rw [c] at h; exact h
    · rw [c] at h; exact h
theorem Clashes_f (p o : Int) (ts : List S54) (ns : List S88) (hts : ts.length ≤ 45) : Ev (fun k => palantyperef05_Clashes.f k p o ts ns) (pairOf (clashOf ts)) :=
  Clashes_l0 p o ts ns hts ts.length 0 (by omega)
theorem Thin_l0 (p o : Int) (ts : List S54) (ns : List S88) : ∀ (n i : Nat), i + n = min ns.length 66 → Ev (fun k => palantypelaw05_Thin.l0 k (i : Int) p o ts ns) (((ns.take 66).drop i).all (fun n => decide (n.f2.size ≤ 40)) && (decide (ts.length ≤ 45) && decide (ns.length ≤ 65))) := by
  intro n
  induction n with
  | zero =>
    intro i hi
    refine Ev.step (f := fun k => palantypelaw05_Thin.j1 k (i : Int) false p o ts ns) (fun k => ?_) ?_
    · rw [palantypelaw05_Thin.l0]
      by_cases h : (i : Int) < (ns.length : Int)
      · rw [if_pos h, decide_eq_false (show ¬ (i : Int) < 66 by omega)]
      · rw [if_neg h]
    · refine Ev.step (fun k => palantypelaw05_Thin.j1.eq_2 ..) ?_
      rw [List.drop_eq_nil_of_le (by rw [List.length_take]; omega)]
      simp only [Bool.false_eq_true, if_false, List.all_nil, Bool.true_and]
      by_cases h : (ts.length : Int) ≤ 45
      · simp only [if_pos h, decide_eq_true (show ts.length ≤ 45 by omega), Bool.true_and]
        have e : decide ((ns.length : Int) ≤ 65) = decide (ns.length ≤ 65) := by rw [Bool.eq_iff_iff]; simp; omega
        rw [e]
        exact Ev.now _
      · simp only [if_neg h, decide_eq_false (show ¬ ts.length ≤ 45 by omega), Bool.false_and]
        exact Ev.now _
  | succ n ih =>
    intro i hi
    have hi' : i < ns.length := by omega
    have h1 : (i : Int) < (ns.length : Int) := by omega
    have h2 : (0 : Int) ≤ (i : Int) := by omega
    refine Ev.step (fun k => palantypelaw05_Thin.l0.eq_2 ..) ?_
    simp only [if_pos h1, decide_eq_true (show (i : Int) < 66 by omega)]
    refine Ev.step (fun k => palantypelaw05_Thin.j1.eq_2 ..) ?_
    have hl : i < (ns.take 66).length := by rw [List.length_take]; omega
    rw [List.drop_eq_getElem_cons hl, List.all_cons, List.getElem_take]
    have ih' := ih (i + 1) (by omega)
    simp only [if_true, if_pos h1, if_pos h2, rd88_get ns i hi', w64 i (by omega)]
    by_cases h3 : ((ns[i]).f2.size : Int) > 40
    · simp only [if_pos h3, decide_eq_false (show ¬ (ns[i]).f2.size ≤ 40 by omega), Bool.false_and]; exact Ev.now _
    · simp only [if_neg h3, decide_eq_true (show (ns[i]).f2.size ≤ 40 by omega), Bool.true_and]; exact ih'
theorem Thin_f (p o : Int) (ts : List S54) (ns : List S88) : Ev (fun k => palantypelaw05_Thin.f k p o ts ns) (thinB ts ns) :=
  Thin_l0 p o ts ns (min ns.length 66) 0 (by omega)
theorem Roll_l1 (p o : Int) (ts : List S54) (ns : List S88) (hns : ns.length ≤ 65) (P O : Int) (T : List S59) : ∀ (n i : Nat) (N : List S109), i + n = ns.length → N.length ≤ i → Ev (fun k => palantypelaw05_Roll.l1 k (i : Int) p o ts ns P O T N) (P, O, T, N ++ (ns.drop i).map toN) := by
  intro n
  induction n with
  | zero =>
    intro i N hi hN
    refine Ev.step (fun k => palantypelaw05_Roll.l1.eq_2 ..) ?_
    have h1 : ¬ ((i : Int) < (ns.length : Int)) := by omega
    rw [List.drop_eq_nil_of_le (by omega)]
    simp only [if_neg h1, List.map_nil, List.append_nil]
    exact Ev.now _
  | succ n ih =>
    intro i N hi hN
    refine Ev.step (fun k => palantypelaw05_Roll.l1.eq_2 ..) ?_
    have hi' : i < ns.length := by omega
    have h1 : (i : Int) < (ns.length : Int) := by omega
    have h2 : (0 : Int) ≤ (i : Int) := by omega
    have h3 : N.length < 4398046511104 := by omega
    rw [List.drop_eq_getElem_cons hi', List.map_cons]
    have ih' := ih (i + 1) (N ++ [toN ns[i]]) (by omega) (by simp; omega)
    rw [List.append_assoc, List.singleton_append] at ih'
    simp only [if_pos h1, if_pos h2, if_pos h3, rd88_get ns i hi', w64 i (by omega)]
    exact ih'
theorem Roll_l0 (p o : Int) (ts : List S54) (ns : List S88) (hts : ts.length ≤ 45) (hns : ns.length ≤ 65) (P O : Int) : ∀ (n i : Nat) (T : List S59), i + n = ts.length → T.length ≤ i → Ev (fun k => palantypelaw05_Roll.l0 k (i : Int) p o ts ns P O T) (P, O, T ++ (ts.drop i).map toT, ns.map toN) := by
  intro n
  induction n with
  | zero =>
    intro i T hi hT
    refine Ev.step (fun k => palantypelaw05_Roll.l0.eq_2 ..) ?_
    have h1 : ¬ ((i : Int) < (ts.length : Int)) := by omega
    rw [List.drop_eq_nil_of_le (by omega)]
    simp only [if_neg h1, List.map_nil, List.append_nil]
    have h := Roll_l1 p o ts ns hns P O T ns.length 0 [] (by omega) (by simp)
    rw [List.drop_zero, List.nil_append] at h
    exact h
  | succ n ih =>
    intro i T hi hT
    refine Ev.step (fun k => palantypelaw05_Roll.l0.eq_2 ..) ?_
    have hi' : i < ts.length := by omega
    have h1 : (i : Int) < (ts.length : Int) := by omega
    have h2 : (0 : Int) ≤ (i : Int) := by omega
    have h3 : T.length < 2932031007402 := by omega
    rw [List.drop_eq_getElem_cons hi', List.map_cons]
    have ih' := ih (i + 1) (T ++ [toT ts[i]]) (by omega) (by simp; omega)
    rw [List.append_assoc, List.singleton_append] at ih'
    simp only [if_pos h1, if_pos h2, if_pos h3, rd54_get ts i hi', w64 i (by omega), palantypelaw05_to.f, Option.bind_some]
    exact ih'
theorem Roll_f (p o : Int) (ts : List S54) (ns : List S88) (hts : ts.length ≤ 45) (hns : ns.length ≤ 65) : Ev (fun k => palantypelaw05_Roll.f k p o ts ns) (p, o, ts.map toT, ns.map toN) :=
  Roll_l0 p o ts ns hts hns p o ts.length 0 [] (by omega) (by simp)
end Go.Proofs.Ythpheknchikodaa.P
