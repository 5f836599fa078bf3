/- Contracts of functions that the laws reach, part Xb8. Conditions: each theorem names its own. -/
import Derived.Test.YthpheknchikodaaXb7
/- The walk of (Roll).terms: the terms of an office, sorted, with what is known of them, behind an iterator. Printed by a program of this session; the call of the sort and the return typed by hand. Conditions: the lists are readable. -/
namespace Go.Proofs.Ythpheknchikodaa.P
open Go.RowKit Go.Proofs.YthpheknchikodaaW.PrintWords Go.Proofs.YthpheknchikodaaW.PrintLast
set_option linter.unusedVariables false
set_option linter.unusedSimpArgs false

theorem info122 : (Try.prog.info? 122).map (fun i => (i.zero, i.size, i.bytes)) = some (some (.agg #[(.int .i64 0), (.int .i64 0), (.int .i64 0), (.int .i64 0), (.int .i64 0), (.int .i64 0), (.int .i64 0), (.int .i64 0), (.int .i64 0), (.int .i64 0), (.int .i64 0)]), 11, 88) := by kernel_rfl
/-- The terms of an office, as they are sorted. -/
def sortPlaced.f (l : List S122) : Option (List S122) := if l.length < 4611686018427387904 then some (sortL byHi l) else none
set_option maxHeartbeats 1000000 in
/-- slices.Values: an iterator that has the list in a cell. -/
theorem values_calls (A : Option Addr) (n c : Nat) (w : World) : Calls Try.prog 81 #[.slice A n c] w fun e w' => e = .returned (.func (.func 100) #[] #[.pointer (some ⟨w.heap.size, 0, none⟩)]) ∧ w' = w.alloc (.cells #[.slice A n c] 145 (0, 0)) := by
  go_enter Try.func81, Try.ntmps81
  go_wp2
  go_ret
  exact ⟨rfl, rfl⟩

/-! ### office_Roll_terms: function 59 -/
mutual
def office_Roll_terms.l0 : Nat → Int → List (S122) → List (S59) → Int → Int → Option ((List (S122)))
  | 0, _, _, _, _, _ => none
  | k + 1, x1, x5, x10, x11, x12 => if x12 < x11 then (if 0 ≤ x12 then (if x12 < (x10.length : Int) then (if ((rd_T59 x10 x12).f1) = x1 then (if x5.length < 1599289640401 then (office_Roll_terms.l0 k x1 (x5 ++ [(⟨(⟨(rd_T59 x10 x12).f0, (rd_T59 x10 x12).f1, (⟨(rd_T59 x10 x12).f2.f0, (rd_T59 x10 x12).f2.f1⟩ : S49), (⟨(rd_T59 x10 x12).f3.f0, (rd_T59 x10 x12).f3.f1⟩ : S49)⟩ : S59), x12, (⟨(⟨(rd_T59 x10 x12).f2.f0, (rd_T59 x10 x12).f2.f1⟩ : S49), (⟨(rd_T59 x10 x12).f3.f0, (rd_T59 x10 x12).f3.f1⟩ : S49)⟩ : S51)⟩ : S122)]) x10 x11 (wrap64 (x12 + 1))) else (none)) else (office_Roll_terms.l0 k x1 x5 x10 x11 (wrap64 (x12 + 1)))) else (none)) else (none)) else ((sortPlaced.f x5).bind fun t107 => (office_Roll_terms.l1 k t107 1))
def office_Roll_terms.l1 : Nat → List (S122) → Int → Option ((List (S122)))
  | 0, _, _ => none
  | k + 1, x5, x8 => if x8 < (x5.length : Int) then (if 0 ≤ x8 then (if 0 ≤ (wrap64 (x8 - 1)) then (if (wrap64 (x8 - 1)) < (x5.length : Int) then ((office_latest.f (([(rd_T122 x5 x8).f0.f2.f0, (rd_T122 x5 (wrap64 (x8 - 1))).f0.f3.f0] : List Int))).bind fun t115 => ((some (x5.set (x8 : Int).toNat (⟨(⟨(rd_T122 x5 x8).f0.f0, (rd_T122 x5 x8).f0.f1, (⟨(rd_T122 x5 x8).f0.f2.f0, (rd_T122 x5 x8).f0.f2.f1⟩ : S49), (⟨(rd_T122 x5 x8).f0.f3.f0, (rd_T122 x5 x8).f0.f3.f1⟩ : S49)⟩ : S59), (rd_T122 x5 x8).f1, (⟨(⟨t115, (rd_T122 x5 x8).f2.f0.f1⟩ : S49), (⟨(rd_T122 x5 x8).f2.f1.f0, (rd_T122 x5 x8).f2.f1.f1⟩ : S49)⟩ : S51)⟩ : S122) : List (S122))).bind fun y116 => ((office_earliest.f (([(rd_T122 y116 (wrap64 (x8 - 1))).f0.f3.f1, (rd_T122 y116 x8).f0.f2.f1] : List Int))).bind fun t122 => (office_Roll_terms.l1 k (y116.set ((wrap64 (x8 - 1)) : Int).toNat (⟨(⟨(rd_T122 y116 (wrap64 (x8 - 1))).f0.f0, (rd_T122 y116 (wrap64 (x8 - 1))).f0.f1, (⟨(rd_T122 y116 (wrap64 (x8 - 1))).f0.f2.f0, (rd_T122 y116 (wrap64 (x8 - 1))).f0.f2.f1⟩ : S49), (⟨(rd_T122 y116 (wrap64 (x8 - 1))).f0.f3.f0, (rd_T122 y116 (wrap64 (x8 - 1))).f0.f3.f1⟩ : S49)⟩ : S59), (rd_T122 y116 (wrap64 (x8 - 1))).f1, (⟨(⟨(rd_T122 y116 (wrap64 (x8 - 1))).f2.f0.f0, (rd_T122 y116 (wrap64 (x8 - 1))).f2.f0.f1⟩ : S49), (⟨(rd_T122 y116 (wrap64 (x8 - 1))).f2.f1.f0, t122⟩ : S49)⟩ : S51)⟩ : S122)) (wrap64 (x8 + 1)))))) else (none)) else (none)) else (none)) else (some x5)
end
def office_Roll_terms.f (k : Nat) (a0_0 : Int) (a0_1 : Int) (l0_2 : List (S59)) (l0_3 : List (S109)) (a1 : Int) : Option ((List (S122))) := office_Roll_terms.l0 k a1 ([] : List (S122)) l0_2 (l0_2.length : Int) 0
theorem office_Roll_terms.mono_l : ∀ k, (∀ y0 y1 y2 y3 y4, LeO (office_Roll_terms.l0 k y0 y1 y2 y3 y4) (office_Roll_terms.l0 (k + 1) y0 y1 y2 y3 y4)) ∧ (∀ y0 y1, LeO (office_Roll_terms.l1 k y0 y1) (office_Roll_terms.l1 (k + 1) y0 y1))
  | 0 => ⟨fun _ _ _ _ _ r h => by simp [office_Roll_terms.l0] at h, fun _ _ r h => by simp [office_Roll_terms.l1] at h⟩
  | k + 1 => by
    obtain ⟨ih0, ih1⟩ := office_Roll_terms.mono_l k
    refine ⟨?_, ?_⟩
    · intro y0 y1 y2 y3 y4
      unfold office_Roll_terms.l0
      repeat' first
      | (with_reducible exact ih0 _ _ _ _ _)
      | (with_reducible exact ih1 _ _)
      | (with_reducible exact LeO.refl _)
      | (with_reducible exact LeO.none _)
      | (with_reducible refine LeO.ite ?_ ?_)
      | (with_reducible refine LeO.bind ?_ (fun _ => ?_))
      | exact ih0 _ _ _ _ _
      | exact ih1 _ _
      | exact LeO.none _
      | refine LeO.ite ?_ ?_
      | refine LeO.bind ?_ (fun _ => ?_)
    · intro y0 y1
      unfold office_Roll_terms.l1
      repeat' first
      | (with_reducible exact ih0 _ _ _ _ _)
      | (with_reducible exact ih1 _ _)
      | (with_reducible exact LeO.refl _)
      | (with_reducible exact LeO.none _)
      | (with_reducible refine LeO.ite ?_ ?_)
      | (with_reducible refine LeO.bind ?_ (fun _ => ?_))
      | exact ih0 _ _ _ _ _
      | exact ih1 _ _
      | exact LeO.none _
      | refine LeO.ite ?_ ?_
      | refine LeO.bind ?_ (fun _ => ?_)
theorem office_Roll_terms.mono : ∀ a0 a1 a2 a3 a4 k, LeO (office_Roll_terms.f k a0 a1 a2 a3 a4) (office_Roll_terms.f (k + 1) a0 a1 a2 a3 a4) := by
  intro a0 a1 a2 a3 a4 k
  obtain ⟨ih0, ih1⟩ := office_Roll_terms.mono_l k
  unfold office_Roll_terms.f
  repeat' first
      | (with_reducible exact ih0 _ _ _ _ _)
      | (with_reducible exact ih1 _ _)
      | (with_reducible exact LeO.refl _)
      | (with_reducible exact LeO.none _)
      | (with_reducible refine LeO.ite ?_ ?_)
      | (with_reducible refine LeO.bind ?_ (fun _ => ?_))
      | exact ih0 _ _ _ _ _
      | exact ih1 _ _
      | exact LeO.none _
      | refine LeO.ite ?_ ?_
      | refine LeO.bind ?_ (fun _ => ?_)
def office_Roll_terms.T12 : Bool × List (List Nat × List Nat) := (true, [([], []), ([], []), ([], []), ([], []), ([2, 3], [2, 3]), ([4], [4]), ([5], [5]), ([6], [6]), ([7], [7]), ([], []), ([], []), ([10], [10]), ([9, 11], [9, 11]), ([12], [12]), ([13], [13]), ([14], [14]), ([15], [15]), ([8, 16], [8, 16]), ([17], [17]), ([0, 1, 0, 1, 2, 3, 4, 5, 6, 7, 8, 9, 10, 11, 12, 13, 14, 15, 16, 17, 18], [0, 1]), ([19, 0, 1, 2, 3, 4, 5, 6, 7, 8, 9, 10, 11, 12, 13, 14, 15, 16, 17, 18], [19]), ([20, 0, 1, 2, 3, 4, 5, 6, 7, 8, 9, 10, 11, 12, 13, 14, 15, 16, 17, 18], [20]), ([21, 0, 1, 2, 3, 4, 5, 6, 7, 8, 9, 10, 11, 12, 13, 14, 15, 16, 17, 18], [21]), ([22, 18, 18, 0, 1, 2, 3, 4, 5, 6, 7, 8, 9, 10, 11, 12, 13, 14, 15, 16, 17, 18], [18, 22])])
def office_Roll_terms.B12 : List Nat := [0, 0, 0, 0, 12, 28, 60, 124, 252, 0, 0, 1024, 3584, 7680, 15872, 32256, 65024, 131068, 262140, 524287, 1048575, 2097151, 4194303, 8388607]
theorem office_Roll_terms.tab12 : rtab .any (opsOf Try.f59 12) = office_Roll_terms.T12 := by kernel_rfl
theorem office_Roll_terms.bits12 : waitsOk office_Roll_terms.T12.2 office_Roll_terms.B12 = true := by kernel_rfl
def office_Roll_terms.T13 : Bool × List (List Nat × List Nat) := (true, [([], []), ([], []), ([1], [1]), ([], []), ([], []), ([4], [4]), ([3, 5], [3, 5]), ([6], [6]), ([7], [7]), ([8], [8]), ([9], [9]), ([], []), ([], []), ([11, 12], [11, 12]), ([13], [13]), ([14], [14]), ([15], [15]), ([16], [16]), ([10, 17], [10, 17]), ([18], [18]), ([0, 2, 0, 1, 2, 3, 4, 5, 6, 7, 8, 9, 10, 11, 12, 13, 14, 15, 16, 17, 18, 19], [0, 2]), ([20, 0, 1, 2, 3, 4, 5, 6, 7, 8, 9, 10, 11, 12, 13, 14, 15, 16, 17, 18, 19], [20]), ([21, 0, 1, 2, 3, 4, 5, 6, 7, 8, 9, 10, 11, 12, 13, 14, 15, 16, 17, 18, 19], [21]), ([22, 0, 1, 2, 3, 4, 5, 6, 7, 8, 9, 10, 11, 12, 13, 14, 15, 16, 17, 18, 19], [22]), ([23, 19, 19, 0, 1, 2, 3, 4, 5, 6, 7, 8, 9, 10, 11, 12, 13, 14, 15, 16, 17, 18, 19], [19, 23])])
def office_Roll_terms.B13 : List Nat := [0, 0, 2, 0, 0, 16, 56, 120, 248, 504, 1016, 0, 0, 6144, 14336, 30720, 63488, 129024, 262136, 524280, 1048575, 2097151, 4194303, 8388607, 16777215]
theorem office_Roll_terms.tab13 : rtab .any (opsOf Try.f59 13) = office_Roll_terms.T13 := by kernel_rfl
theorem office_Roll_terms.bits13 : waitsOk office_Roll_terms.T13.2 office_Roll_terms.B13 = true := by kernel_rfl
set_option maxHeartbeats 8000000 in
set_option maxRecDepth 100000 in
theorem office_Roll_terms.calls (k : Nat) (a0_0 : Int) (a0_1 : Int) (A0_2 : Option Addr) (c0_2 : Nat) (l0_2 : List (S59)) (A0_3 : Option Addr) (c0_3 : Nat) (l0_3 : List (S109)) (a1 : Int) (r : List (S122)) (w : World) (hr0_2 : Kd.C k59 w A0_2 l0_2.length l0_2) (hc0_2 : l0_2.length ≤ c0_2) (hr0_3 : Kd.C k109 w A0_3 l0_3.length l0_3) (hc0_3 : l0_3.length ≤ c0_3) (h : office_Roll_terms.f k a0_0 a0_1 l0_2 l0_3 a1 = some r) :
    Calls Try.prog 59 #[.agg #[.int .i64 a0_0, .int .i64 a0_1, .slice A0_2 l0_2.length c0_2, .slice A0_3 l0_3.length c0_3], .int .i64 a1] w fun e w' => ∃ (v0_ : Value) (b : Nat), e = .returned (.func (.func 100) #[] #[.pointer (some ⟨b, 0, none⟩)]) ∧ w'.heap[b]? = some (.cells #[v0_] 145 (0, 0)) ∧ w.heap.size ≤ b ∧ Kd.R k122 122 w' w.heap.size (fun _ => True) v0_ r ∧ Below w.heap.size w w' := by
  have hu35 := Try.underlying35
  have hu59 := Try.underlying59
  have hu49 := Try.underlying49
  have hu51 := Try.underlying51
  have hu122 := Try.underlying122
  have HR0_2 := Aside0.mk hr0_2
  have HC0_2 := Aside0.mk hc0_2
  clear hr0_2 hc0_2
  have HR0_3 := Aside0.mk hr0_3
  have HC0_3 := Aside0.mk hc0_3
  clear hr0_3 hc0_3
  have HB := Aside0.mk (Below.refl w.heap.size w)
  have H : (office_Roll_terms.l0 k a1 ([] : List (S122)) l0_2 (l0_2.length : Int) 0) = some r := h
  clear h
  have H' := Aside0.mk H
  clear H
  go_enter Try.func59, Try.ntmps59
  go_wp2_with (first | ((with_reducible refine gate_dst (N := 2) rfl ?_); refine box_event ?hg (N := 2) ?hd (cs := #[.int .i64 a0_0, .int .i64 a0_1, .slice A0_2 l0_2.length c0_2, .slice A0_3 l0_3.length c0_3]) (t := 35) ?hr ?_; (case hd => rfl); (case hg => rfl); (case hr => first | (go_simp; done) | (go_simp; rfl)); intro gb101 hg w3 hbox hb; have n0_ := Aside0.mk (below_step (by repeat (first | (with_reducible first | exact HB.out | apply below_alloc | apply pw_below_drewN | apply below_drew1) | exact HB.out)) hb); have n1_ := Aside0.mk (hbox); have n2_ := Aside0.mk ((by rw [hg]; exact (below_size (by repeat (first | (with_reducible first | exact HB.out | apply below_alloc | apply pw_below_drewN | apply below_drew1) | exact HB.out))) : w.heap.size ≤ gb101)); have n3_ := Aside0.mk ((by rw [hg]; exact (below_size (by repeat (first | (with_reducible first | exact HB.out | apply below_alloc | apply pw_below_drewN | apply below_drew1) | exact HB.out))) : w.heap.size ≤ gb101)); clear HB; have HB := n0_; have BK101 := n1_; have GW101 := n2_; have GE101 := n3_; clear n0_ n1_ n2_ n3_; clear hb hbox hg; have hcz4_0 : w3.cell? ⟨gb101, 0, none⟩ = some (.int .i64 a0_0) := (blk_cell BK101.out 0).trans rfl; have hcz4_1 : w3.cell? ⟨gb101, 1, none⟩ = some (.int .i64 a0_1) := (blk_cell BK101.out 1).trans rfl; have hcz4_2 : w3.cell? ⟨gb101, 2, none⟩ = some (.slice A0_2 l0_2.length c0_2) := (blk_cell BK101.out 2).trans rfl; have hcz4_3 : w3.cell? ⟨gb101, 3, none⟩ = some (.slice A0_3 l0_3.length c0_3) := (blk_cell BK101.out 3).trans rfl; have hfz4_0 := blk_frozen BK101.out 0; have hfz4_1 := blk_frozen BK101.out 1; have hfz4_2 := blk_frozen BK101.out 2; have hfz4_3 := blk_frozen BK101.out 3))
  go_loopg [5, 12] k (fun kq v5 v12 w' => ∃ (x5_1 : List (S122)) (x12_1 : Int), v12 = .int .i64 x12_1 ∧ Aside0 (office_Roll_terms.l0 kq a1 x5_1 l0_2 (l0_2.length : Int) x12_1 = some r) ∧ Aside0 (kq ≤ k) ∧ Aside0 (Kd.R k122 122 w' w.heap.size (fun _ => True) v5 x5_1) ∧ Aside0 (w'.heap[gb101]? = some (.cells #[.int .i64 a0_0, .int .i64 a0_1, (.slice A0_2 l0_2.length c0_2), (.slice A0_3 l0_3.length c0_3)] 35 (0, 0))) ∧ Aside0 (Below w.heap.size w w'))
  case atStart => exact ⟨(([] : List (S122))), (0), (by first | rfl | (simp; done) | (simp [*]; done)), H', ⟨Nat.le_refl _⟩, ⟨by first | exact Kd.R_nil _ _ _ _ _ | exact Kd.N_nil _ _ _ _ _ | exact Kd.V_nil _ _ _ _ _ | exact Kd.Q_nil _ _ _ _ _ | exact Kd.S_nil _ _ _ _ _⟩, ⟨by (with_reducible repeat (first | refine blk_drewN ?_ _ | refine blk_drew ?_ | refine blk_alloc ?_ _)); exact BK101.out⟩, ⟨by repeat (first | (with_reducible first | exact HB.out | apply below_alloc | apply pw_below_drewN | apply below_drew1 | refine below_set ?_ GE101.out) | exact HB.out)⟩⟩
  case round =>
    clear H'
    try clear p2
    try clear hcz4_0
    try clear hcz4_1
    try clear hcz4_2
    try clear hcz4_3
    try clear hfz4_0
    try clear hfz4_1
    try clear hfz4_2
    try clear hfz4_3
    obtain ⟨x5_1, x12_1, rfl, HA, HK1, HO_5, BK101, HB⟩ := hrel
    cases gk with
    | zero => exact absurd HA.out (by simp [office_Roll_terms.l0])
    | succ k1 =>
      have H := HA.out
      clear HA
      simp only [office_Roll_terms.l0] at H
      by_cases c5 : x12_1 < (l0_2.length : Int)
      · rw [if_pos c5] at H
        have c5b0 : decide (x12_1 < (l0_2.length : Int)) = true := decide_eq_true c5
        clear c5
        by_cases c6 : 0 ≤ x12_1
        · rw [if_pos c6] at H
          have c6b0 : decide (0 ≤ x12_1) = true := decide_eq_true c6
          clear c6
          by_cases c7 : x12_1 < (l0_2.length : Int)
          · rw [if_pos c7] at H
            have c7b0 : decide (x12_1 < (l0_2.length : Int)) = true := decide_eq_true c7
            clear c7
            by_cases c8 : ((rd_T59 l0_2 x12_1).f1) = a1
            · rw [if_pos c8] at H
              have c8b0 : (((rd_T59 l0_2 x12_1).f1) == a1) = true := beq_iff_eq.mpr c8
              have c8b1 : (((rd_T59 l0_2 x12_1).f1) != a1) = false := bne_eq_false_iff_eq.mpr c8
              clear c8
              by_cases c9 : x5_1.length < 1599289640401
              · rw [if_pos c9] at H
                have LMc9 := Aside0.mk c9
                clear c9
                obtain ⟨y104, hy104⟩ : ∃ y_ : List (S122), y_ = (x5_1 ++ [(⟨(⟨(rd_T59 l0_2 x12_1).f0, (rd_T59 l0_2 x12_1).f1, (⟨(rd_T59 l0_2 x12_1).f2.f0, (rd_T59 l0_2 x12_1).f2.f1⟩ : S49), (⟨(rd_T59 l0_2 x12_1).f3.f0, (rd_T59 l0_2 x12_1).f3.f1⟩ : S49)⟩ : S59), x12_1, (⟨(⟨(rd_T59 l0_2 x12_1).f2.f0, (rd_T59 l0_2 x12_1).f2.f1⟩ : S49), (⟨(rd_T59 l0_2 x12_1).f3.f0, (rd_T59 l0_2 x12_1).f3.f1⟩ : S49)⟩ : S51)⟩ : S122)]) := ⟨_, rfl⟩
                replace H : (office_Roll_terms.l0 k1 a1 y104 l0_2 (l0_2.length : Int) (wrap64 (x12_1 + 1))) = some r := by first | (rw [hy104]; with_reducible exact H) | (have H2_ := (Option.bind_some _ _).symm.trans H; rw [hy104]; with_reducible exact H2_) | (have H2_ := (Option.bind_some _ _).symm.trans H; with_reducible exact H2_) | with_reducible exact H | (rw [hy104]; exact H) | exact H
                have Ny104 := Aside0.mk hy104
                clear hy104
                have H' := Aside0.mk H
                clear H
                have p102 : 0 ≤ (x12_1 : Int) := of_decide_eq_true (by first | (with_reducible assumption) | assumption)
                have q102 : x12_1 < (l0_2.length : Int) := of_decide_eq_true (by first | (with_reducible assumption) | assumption)
                obtain ⟨ad102, e102, hx102_0, hx102_1, hx102_2, hx102_3, hx102_4, hx102_5⟩ := at_T59 HR0_2.out x12_1 p102 q102
                cases e102
                replace hx102_0 := (HB.out.cell (World.block_lt_of_cell? w _ hx102_0)).trans hx102_0
                replace hx102_1 := (HB.out.cell (World.block_lt_of_cell? w _ hx102_1)).trans hx102_1
                replace hx102_2 := (HB.out.cell (World.block_lt_of_cell? w _ hx102_2)).trans hx102_2
                replace hx102_3 := (HB.out.cell (World.block_lt_of_cell? w _ hx102_3)).trans hx102_3
                replace hx102_4 := (HB.out.cell (World.block_lt_of_cell? w _ hx102_4)).trans hx102_4
                replace hx102_5 := (HB.out.cell (World.block_lt_of_cell? w _ hx102_5)).trans hx102_5
                replace p102 := eq_true p102
                replace q102 := eq_true q102
                go_wp2_with (at_builtin; refine Kd.R_append k122 (w0 := w) w.heap.size rfl (.tmp 21) (.tmp 30) 145 122 (.agg #[(.int .i64 0), (.int .i64 0), (.int .i64 0), (.int .i64 0), (.int .i64 0), (.int .i64 0), (.int .i64 0), (.int .i64 0), (.int .i64 0), (.int .i64 0), (.int .i64 0)]) 88 rfl Try.underlying145 info122 rfl (by decide) (by omega) u5 x5_1 (⟨(⟨(rd_T59 l0_2 x12_1).f0, (rd_T59 l0_2 x12_1).f1, (⟨(rd_T59 l0_2 x12_1).f2.f0, (rd_T59 l0_2 x12_1).f2.f1⟩ : S49), (⟨(rd_T59 l0_2 x12_1).f3.f0, (rd_T59 l0_2 x12_1).f3.f1⟩ : S49)⟩ : S59), x12_1, (⟨(⟨(rd_T59 l0_2 x12_1).f2.f0, (rd_T59 l0_2 x12_1).f2.f1⟩ : S49), (⟨(rd_T59 l0_2 x12_1).f3.f0, (rd_T59 l0_2 x12_1).f3.f1⟩ : S49)⟩ : S51)⟩ : S122) [.int .i64 ((rd_T59 l0_2 x12_1).f0), .int .i64 ((rd_T59 l0_2 x12_1).f1), .int .i64 ((rd_T59 l0_2 x12_1).f2.f0), .int .i64 ((rd_T59 l0_2 x12_1).f2.f1), .int .i64 ((rd_T59 l0_2 x12_1).f3.f0), .int .i64 ((rd_T59 l0_2 x12_1).f3.f1), .int .i64 x12_1, .int .i64 ((rd_T59 l0_2 x12_1).f2.f0), .int .i64 ((rd_T59 l0_2 x12_1).f2.f1), .int .i64 ((rd_T59 l0_2 x12_1).f3.f0), .int .i64 ((rd_T59 l0_2 x12_1).f3.f1)] (fun _ => True) (fun _ => False) rfl (by first | (go_simp; done) | (go_simp; rfl)) ?aP (fun _ hk => hk.elim) ?aF ?aO ?aB ?aS ?aL ?_; (case aP => exact k122_mkM _ _ _ (⟨(⟨(rd_T59 l0_2 x12_1).f0, (rd_T59 l0_2 x12_1).f1, (⟨(rd_T59 l0_2 x12_1).f2.f0, (rd_T59 l0_2 x12_1).f2.f1⟩ : S49), (⟨(rd_T59 l0_2 x12_1).f3.f0, (rd_T59 l0_2 x12_1).f3.f1⟩ : S49)⟩ : S59), x12_1, (⟨(⟨(rd_T59 l0_2 x12_1).f2.f0, (rd_T59 l0_2 x12_1).f2.f1⟩ : S49), (⟨(rd_T59 l0_2 x12_1).f3.f0, (rd_T59 l0_2 x12_1).f3.f1⟩ : S49)⟩ : S51)⟩ : S122)); (case aB => exact HB.out.alloc HB.out.size _); (case aF => exact (fun _ _ => trivial)); (case aO => exact Kd.R_below HO_5.out (below_alloc (Below.refl _ _) _)); (case aS => exact (HB.out.alloc HB.out.size _).size); (case aL => have := LMc9.out; omega); intro v105 w13 ho hb hg hat; rw [← Ny104.out] at ho; have n0_ := Aside0.mk ((hg.block gb101 (by have := blk_lt BK101.out; simp; omega) (Kd.R_ne HO_5.out BK101.out (by decide))).trans (((Below.refl wr.heap.size wr).alloc (Nat.le_refl _) _).block gb101 (blk_lt BK101.out) |>.trans BK101.out)); have n1_ := Aside0.mk hb; have n2_ := Aside0.mk ho; clear BK101 HB HO_5 ho hb hg hat; have BK101 := n0_; have HB := n1_; have HO106 := n2_; clear n0_ n1_ n2_)
                go_roundg k1
                case measure => have := HK1.out; omega
                case rel => exact ⟨(y104), (wrap64 (x12_1 + 1)), (by first | rfl | (simp; done) | (simp [*]; done)), H', ⟨by have := HK1.out; omega⟩, ⟨by (with_reducible repeat (first | apply Kd.R_alloc | apply Kd.R_drewN | apply Kd.R_drew)); exact HO106.out⟩, ⟨by (with_reducible repeat (first | refine blk_drewN ?_ _ | refine blk_drew ?_ | refine blk_alloc ?_ _)); exact BK101.out⟩, ⟨by repeat (first | (with_reducible first | exact HB.out | apply below_alloc | apply pw_below_drewN | apply below_drew1 | refine below_set ?_ GE101.out | refine below_set ?_ GE103.out) | exact HB.out)⟩⟩
              · rw [if_neg c9] at H
                exact absurd H (by simp)
            · rw [if_neg c8] at H
              have c8b0 : (((rd_T59 l0_2 x12_1).f1) == a1) = false := beq_eq_false_iff_ne.mpr c8
              have c8b1 : (((rd_T59 l0_2 x12_1).f1) != a1) = true := bne_iff_ne.mpr c8
              have H' := Aside0.mk H
              clear H
              have p102 : 0 ≤ (x12_1 : Int) := of_decide_eq_true (by first | (with_reducible assumption) | assumption)
              have q102 : x12_1 < (l0_2.length : Int) := of_decide_eq_true (by first | (with_reducible assumption) | assumption)
              obtain ⟨ad102, e102, hx102_0, hx102_1, hx102_2, hx102_3, hx102_4, hx102_5⟩ := at_T59 HR0_2.out x12_1 p102 q102
              cases e102
              replace hx102_0 := (HB.out.cell (World.block_lt_of_cell? w _ hx102_0)).trans hx102_0
              replace hx102_1 := (HB.out.cell (World.block_lt_of_cell? w _ hx102_1)).trans hx102_1
              replace hx102_2 := (HB.out.cell (World.block_lt_of_cell? w _ hx102_2)).trans hx102_2
              replace hx102_3 := (HB.out.cell (World.block_lt_of_cell? w _ hx102_3)).trans hx102_3
              replace hx102_4 := (HB.out.cell (World.block_lt_of_cell? w _ hx102_4)).trans hx102_4
              replace hx102_5 := (HB.out.cell (World.block_lt_of_cell? w _ hx102_5)).trans hx102_5
              replace p102 := eq_true p102
              replace q102 := eq_true q102
              go_wp2_with (first | ((with_reducible refine gate_dst (N := 7) rfl ?_); refine box_event ?hg (N := 7) ?hd (cs := #[.int .i64 0, .int .i64 0, .int .i64 0, .int .i64 0, .int .i64 0, .int .i64 0]) (t := 59) ?hr ?_; (case hd => rfl); (case hg => rfl); (case hr => first | (go_simp; done) | (go_simp; rfl)); intro gb103 hg w14 hbox hb; have n0_ := Aside0.mk (Kd.R_below (by (with_reducible repeat (first | apply Kd.R_alloc | apply Kd.R_drewN | apply Kd.R_drew)); exact HO_5.out) hb); have n1_ := Aside0.mk (blk_below (g := gb101) (o := .cells #[.int .i64 a0_0, .int .i64 a0_1, .slice (some ad102) l0_2.length c0_2, .slice A0_3 l0_3.length c0_3] 35 (0, 0)) (by (with_reducible repeat (first | refine blk_drewN ?_ _ | refine blk_drew ?_ | refine blk_alloc ?_ _)); exact BK101.out) hb); have n2_ := Aside0.mk (below_step (by repeat (first | (with_reducible first | exact HB.out | apply below_alloc | apply pw_below_drewN | apply below_drew1 | refine below_set ?_ GE101.out) | exact HB.out)) hb); have n3_ := Aside0.mk (hbox); have n4_ := Aside0.mk ((by rw [hg]; exact (below_size (by repeat (first | (with_reducible first | exact HB.out | apply below_alloc | apply pw_below_drewN | apply below_drew1 | refine below_set ?_ GE101.out) | exact HB.out))) : w.heap.size ≤ gb103)); have n5_ := Aside0.mk ((by rw [hg]; exact (below_size (by repeat (first | (with_reducible first | exact HB.out | apply below_alloc | apply pw_below_drewN | apply below_drew1 | refine below_set ?_ GE101.out) | exact HB.out))) : w.heap.size ≤ gb103)); have n6_ := Aside0.mk ((by rw [hg]; exact Nat.ne_of_lt (blk_lt (g := gb101) (o := .cells #[.int .i64 a0_0, .int .i64 a0_1, .slice (some ad102) l0_2.length c0_2, .slice A0_3 l0_3.length c0_3] 35 (0, 0)) (by (with_reducible repeat (first | refine blk_drewN ?_ _ | refine blk_drew ?_ | refine blk_alloc ?_ _)); exact BK101.out)) : gb101 ≠ gb103)); have n7_ := Aside0.mk ((by rw [hg]; exact Nat.ne_of_gt (blk_lt (g := gb101) (o := .cells #[.int .i64 a0_0, .int .i64 a0_1, .slice (some ad102) l0_2.length c0_2, .slice A0_3 l0_3.length c0_3] 35 (0, 0)) (by (with_reducible repeat (first | refine blk_drewN ?_ _ | refine blk_drew ?_ | refine blk_alloc ?_ _)); exact BK101.out)) : gb103 ≠ gb101)); clear HO_5; clear BK101; clear HB; have HO_5 := n0_; have BK101 := n1_; have HB := n2_; have BK103 := n3_; have GW103 := n4_; have GE103 := n5_; have NB101_103 := n6_; have NB103_101 := n7_; clear n0_ n1_ n2_ n3_ n4_ n5_ n6_ n7_; clear hb hbox hg; have hnb15 := NB103_101.out; have hnc15 := NB101_103.out; have hcz16_0 : w14.cell? ⟨gb103, 0, none⟩ = some (.int .i64 0) := (blk_cell BK103.out 0).trans rfl; have hcz16_1 : w14.cell? ⟨gb103, 1, none⟩ = some (.int .i64 0) := (blk_cell BK103.out 1).trans rfl; have hcz16_2 : w14.cell? ⟨gb103, 2, none⟩ = some (.int .i64 0) := (blk_cell BK103.out 2).trans rfl; have hcz16_3 : w14.cell? ⟨gb103, 3, none⟩ = some (.int .i64 0) := (blk_cell BK103.out 3).trans rfl; have hcz16_4 : w14.cell? ⟨gb103, 4, none⟩ = some (.int .i64 0) := (blk_cell BK103.out 4).trans rfl; have hcz16_5 : w14.cell? ⟨gb103, 5, none⟩ = some (.int .i64 0) := (blk_cell BK103.out 5).trans rfl; have hfz16_0 := blk_frozen BK103.out 0; have hfz16_1 := blk_frozen BK103.out 1; have hfz16_2 := blk_frozen BK103.out 2; have hfz16_3 := blk_frozen BK103.out 3; have hfz16_4 := blk_frozen BK103.out 4; have hfz16_5 := blk_frozen BK103.out 5))
              go_roundg k1
              case measure => have := HK1.out; omega
              case rel => exact ⟨(x5_1), (wrap64 (x12_1 + 1)), (by first | rfl | (simp; done) | (simp [*]; done)), H', ⟨by have := HK1.out; omega⟩, ⟨by (with_reducible repeat (first | apply Kd.R_alloc | apply Kd.R_drewN | apply Kd.R_drew)); exact Kd.R_mono (Kd.R_far (p := ⟨gb103, 5, none⟩) (Kd.R_far (p := ⟨gb103, 4, none⟩) (Kd.R_far (p := ⟨gb103, 3, none⟩) (Kd.R_far (p := ⟨gb103, 2, none⟩) (Kd.R_far (p := ⟨gb103, 1, none⟩) (Kd.R_far (p := ⟨gb103, 0, none⟩) (Kd.R_types HO_5.out BK103.out (by decide)) (fun _ hk => hk.2) (.int .i64 ((rd_T59 l0_2 x12_1).f0))) (fun _ hk => hk.2) (.int .i64 ((rd_T59 l0_2 x12_1).f1))) (fun _ hk => hk.2) (.int .i64 ((rd_T59 l0_2 x12_1).f2.f0))) (fun _ hk => hk.2) (.int .i64 ((rd_T59 l0_2 x12_1).f2.f1))) (fun _ hk => hk.2) (.int .i64 ((rd_T59 l0_2 x12_1).f3.f0))) (fun _ hk => hk.2) (.int .i64 ((rd_T59 l0_2 x12_1).f3.f1))) (fun _ hk => trivial)⟩, ⟨by (with_reducible repeat (first | refine blk_drewN ?_ _ | refine blk_drew ?_ | refine blk_alloc ?_ _)); refine blk_far ?_ NB101_103.out _; (with_reducible repeat (first | refine blk_drewN ?_ _ | refine blk_drew ?_ | refine blk_alloc ?_ _)); refine blk_far ?_ NB101_103.out _; (with_reducible repeat (first | refine blk_drewN ?_ _ | refine blk_drew ?_ | refine blk_alloc ?_ _)); refine blk_far ?_ NB101_103.out _; (with_reducible repeat (first | refine blk_drewN ?_ _ | refine blk_drew ?_ | refine blk_alloc ?_ _)); refine blk_far ?_ NB101_103.out _; (with_reducible repeat (first | refine blk_drewN ?_ _ | refine blk_drew ?_ | refine blk_alloc ?_ _)); refine blk_far ?_ NB101_103.out _; (with_reducible repeat (first | refine blk_drewN ?_ _ | refine blk_drew ?_ | refine blk_alloc ?_ _)); refine blk_far ?_ NB101_103.out _; (with_reducible repeat (first | refine blk_drewN ?_ _ | refine blk_drew ?_ | refine blk_alloc ?_ _)); exact BK101.out⟩, ⟨by repeat (first | (with_reducible first | exact HB.out | apply below_alloc | apply pw_below_drewN | apply below_drew1 | refine below_set ?_ GE101.out | refine below_set ?_ GE103.out) | exact HB.out)⟩⟩
          · rw [if_neg c7] at H
            exact absurd H (by simp)
        · rw [if_neg c6] at H
          exact absurd H (by simp)
      · rw [if_neg c5] at H
        have c5b0 : decide (x12_1 < (l0_2.length : Int)) = false := decide_eq_false c5
        clear c5
        replace H := Option.bind_eq_some_iff.mp H
        obtain ⟨t107, A170, H⟩ := H
        replace H : (office_Roll_terms.l1 k1 t107 1) = some r := H
        have A17 := Aside0.mk A170
        clear A170
        have H' := Aside0.mk H
        clear H
        obtain ⟨hln, hsr⟩ : x5_1.length < 4611686018427387904 ∧ sortL byHi x5_1 = t107 := by
          have h := A17.out
          unfold sortPlaced.f at h
          by_cases hc : x5_1.length < 4611686018427387904
          · rw [if_pos hc] at h
            exact ⟨hc, Option.some.inj h⟩
          · rw [if_neg hc] at h
            simp at h
        have HLN := Aside0.mk hln
        have HSR := Aside0.mk hsr
        clear hln hsr
        go_wp2_with fail
        refine (sortTerms_calls x5_1 _ HO_5.out HLN.out).mono ?_
        rintro e w19 ⟨rfl, hR, hg⟩
        rw [HSR.out] at hR
        have hne := Kd.R_ne HO_5.out BK101.out (by decide)
        have n1_ := Aside0.mk hR
        have n2_ := Aside0.mk ((hg.block gb101 (blk_lt BK101.out) hne).trans BK101.out)
        have n3_ := Aside0.mk (pw_below_grown HB.out _ HB.out.size hg (fun k hk => (own_base (Kd.R_own HO_5.out).choose_spec k hk)))
        clear HO_5 BK101 HB hR hg hne
        have HO109 := n1_
        have BK101 := n2_
        have HB := n3_
        clear n1_ n2_ n3_
        go_wp2
        go_loopg [8] k1 (fun kq v8 w' => ∃ (x5_2 : List (S122)) (x8_2 : Int), v8 = .int .i64 x8_2 ∧ Aside0 (office_Roll_terms.l1 kq x5_2 x8_2 = some r) ∧ Aside0 (kq ≤ k1) ∧ Aside0 (Kd.R k122 122 w' w.heap.size (fun _ => True) u5 x5_2) ∧ Aside0 (w'.heap[gb101]? = some (.cells #[.int .i64 a0_0, .int .i64 a0_1, (.slice A0_2 l0_2.length c0_2), (.slice A0_3 l0_3.length c0_3)] 35 (0, 0))) ∧ Aside0 (Below w.heap.size w w'))
        case atStart => exact ⟨(t107), (1), (by first | rfl | (simp; done) | (simp [*]; done)), H', ⟨Nat.le_refl _⟩, ⟨by (with_reducible repeat (first | apply Kd.R_alloc | apply Kd.R_drewN | apply Kd.R_drew)); exact Kd.R_mono HO109.out (fun _ hk => trivial)⟩, ⟨by (with_reducible repeat (first | refine blk_drewN ?_ _ | refine blk_drew ?_ | refine blk_alloc ?_ _)); exact BK101.out⟩, ⟨by repeat (first | (with_reducible first | exact HB.out | apply below_alloc | apply pw_below_drewN | apply below_drew1 | refine below_set ?_ GE101.out) | exact HB.out)⟩⟩
        case round =>
          clear H'
          try clear c1
          try clear p1
          try clear q1
          try clear hx1
          try clear c2
          try clear p2
          try clear c5
          try clear c5b0
          try clear c6
          try clear c6b0
          try clear p6
          try clear c7
          try clear c7b0
          try clear c8
          try clear c8b0
          try clear c8b1
          try clear c9
          try clear p10
          try clear q10
          try clear hx10
          try clear c11
          try clear c15
          try clear hcz12_0
          try clear hcz12_1
          try clear hcz12_2
          try clear hcz12_3
          try clear hcz12_4
          try clear hcz12_5
          try clear hcz16_0
          try clear hcz16_1
          try clear hcz16_2
          try clear hcz16_3
          try clear hcz16_4
          try clear hcz16_5
          try clear hcz4_0
          try clear hcz4_1
          try clear hcz4_2
          try clear hcz4_3
          try clear hfz12_0
          try clear hfz12_1
          try clear hfz12_2
          try clear hfz12_3
          try clear hfz12_4
          try clear hfz12_5
          try clear hfz16_0
          try clear hfz16_1
          try clear hfz16_2
          try clear hfz16_3
          try clear hfz16_4
          try clear hfz16_5
          try clear hfz4_0
          try clear hfz4_1
          try clear hfz4_2
          try clear hfz4_3
          try clear hx102_0
          try clear hx102_1
          try clear hx102_2
          try clear hx102_3
          try clear hx102_4
          try clear hx102_5
          try clear p102
          try clear p2
          try clear q102
          obtain ⟨x5_2, x8_2, rfl, HA, HK2, HO_5, BK101, HB⟩ := hrel
          cases gk with
          | zero => exact absurd HA.out (by simp [office_Roll_terms.l1])
          | succ k2 =>
            have H := HA.out
            clear HA
            simp only [office_Roll_terms.l1] at H
            by_cases c20 : x8_2 < (x5_2.length : Int)
            · rw [if_pos c20] at H
              have c20b0 : decide (x8_2 < (x5_2.length : Int)) = true := decide_eq_true c20
              clear c20
              by_cases c21 : 0 ≤ x8_2
              · rw [if_pos c21] at H
                have c21b0 : decide (0 ≤ x8_2) = true := decide_eq_true c21
                clear c21
                obtain ⟨ji22, hji22⟩ : ∃ j_ : Int, (wrap64 (x8_2 - 1)) = j_ := ⟨_, rfl⟩
                replace H : (if 0 ≤ (ji22) then (if (ji22) < (x5_2.length : Int) then ((office_latest.f (([(rd_T122 x5_2 x8_2).f0.f2.f0, (rd_T122 x5_2 (ji22)).f0.f3.f0] : List Int))).bind fun t115 => ((some (x5_2.set (x8_2 : Int).toNat (⟨(⟨(rd_T122 x5_2 x8_2).f0.f0, (rd_T122 x5_2 x8_2).f0.f1, (⟨(rd_T122 x5_2 x8_2).f0.f2.f0, (rd_T122 x5_2 x8_2).f0.f2.f1⟩ : S49), (⟨(rd_T122 x5_2 x8_2).f0.f3.f0, (rd_T122 x5_2 x8_2).f0.f3.f1⟩ : S49)⟩ : S59), (rd_T122 x5_2 x8_2).f1, (⟨(⟨t115, (rd_T122 x5_2 x8_2).f2.f0.f1⟩ : S49), (⟨(rd_T122 x5_2 x8_2).f2.f1.f0, (rd_T122 x5_2 x8_2).f2.f1.f1⟩ : S49)⟩ : S51)⟩ : S122) : List (S122))).bind fun y116 => ((office_earliest.f (([(rd_T122 y116 (ji22)).f0.f3.f1, (rd_T122 y116 x8_2).f0.f2.f1] : List Int))).bind fun t122 => (office_Roll_terms.l1 k2 (y116.set ((ji22) : Int).toNat (⟨(⟨(rd_T122 y116 (ji22)).f0.f0, (rd_T122 y116 (ji22)).f0.f1, (⟨(rd_T122 y116 (ji22)).f0.f2.f0, (rd_T122 y116 (ji22)).f0.f2.f1⟩ : S49), (⟨(rd_T122 y116 (ji22)).f0.f3.f0, (rd_T122 y116 (ji22)).f0.f3.f1⟩ : S49)⟩ : S59), (rd_T122 y116 (ji22)).f1, (⟨(⟨(rd_T122 y116 (ji22)).f2.f0.f0, (rd_T122 y116 (ji22)).f2.f0.f1⟩ : S49), (⟨(rd_T122 y116 (ji22)).f2.f1.f0, t122⟩ : S49)⟩ : S51)⟩ : S122)) (wrap64 (x8_2 + 1)))))) else (none)) else (none)) = some r := by first | (rw [hji22] at H; exact H) | (simp only [hji22] at H ⊢; exact H)
                have hji22w : (IntKind.i64.wrap (x8_2 - 1)) = ji22 := (i64_w _).trans hji22
                by_cases c23 : 0 ≤ (ji22)
                · rw [if_pos c23] at H
                  have c23b0 : decide (0 ≤ (ji22)) = true := decide_eq_true c23
                  clear c23
                  by_cases c24 : (ji22) < (x5_2.length : Int)
                  · rw [if_pos c24] at H
                    have c24b0 : decide ((ji22) < (x5_2.length : Int)) = true := decide_eq_true c24
                    clear c24
                    obtain ⟨y112, hy112⟩ : ∃ y_ : List Int, y_ = (([(rd_T122 x5_2 x8_2).f0.f2.f0, (rd_T122 x5_2 (ji22)).f0.f3.f0] : List Int)) := ⟨_, rfl⟩
                    replace H : ((office_latest.f y112).bind fun t115 => ((some (x5_2.set (x8_2 : Int).toNat (⟨(⟨(rd_T122 x5_2 x8_2).f0.f0, (rd_T122 x5_2 x8_2).f0.f1, (⟨(rd_T122 x5_2 x8_2).f0.f2.f0, (rd_T122 x5_2 x8_2).f0.f2.f1⟩ : S49), (⟨(rd_T122 x5_2 x8_2).f0.f3.f0, (rd_T122 x5_2 x8_2).f0.f3.f1⟩ : S49)⟩ : S59), (rd_T122 x5_2 x8_2).f1, (⟨(⟨t115, (rd_T122 x5_2 x8_2).f2.f0.f1⟩ : S49), (⟨(rd_T122 x5_2 x8_2).f2.f1.f0, (rd_T122 x5_2 x8_2).f2.f1.f1⟩ : S49)⟩ : S51)⟩ : S122) : List (S122))).bind fun y116 => ((office_earliest.f (([(rd_T122 y116 (ji22)).f0.f3.f1, (rd_T122 y116 x8_2).f0.f2.f1] : List Int))).bind fun t122 => (office_Roll_terms.l1 k2 (y116.set ((ji22) : Int).toNat (⟨(⟨(rd_T122 y116 (ji22)).f0.f0, (rd_T122 y116 (ji22)).f0.f1, (⟨(rd_T122 y116 (ji22)).f0.f2.f0, (rd_T122 y116 (ji22)).f0.f2.f1⟩ : S49), (⟨(rd_T122 y116 (ji22)).f0.f3.f0, (rd_T122 y116 (ji22)).f0.f3.f1⟩ : S49)⟩ : S59), (rd_T122 y116 (ji22)).f1, (⟨(⟨(rd_T122 y116 (ji22)).f2.f0.f0, (rd_T122 y116 (ji22)).f2.f0.f1⟩ : S49), (⟨(rd_T122 y116 (ji22)).f2.f1.f0, t122⟩ : S49)⟩ : S51)⟩ : S122)) (wrap64 (x8_2 + 1)))))) = some r := by first | (rw [hy112]; with_reducible exact H) | (have H2_ := (Option.bind_some _ _).symm.trans H; rw [hy112]; with_reducible exact H2_) | (have H2_ := (Option.bind_some _ _).symm.trans H; with_reducible exact H2_) | with_reducible exact H | (rw [hy112]; exact H) | exact H
                    have Ny112 := Aside0.mk hy112
                    clear hy112
                    replace H := Option.bind_eq_some_iff.mp H
                    obtain ⟨t115, A250, H⟩ := H
                    replace H : ((some (x5_2.set (x8_2 : Int).toNat (⟨(⟨(rd_T122 x5_2 x8_2).f0.f0, (rd_T122 x5_2 x8_2).f0.f1, (⟨(rd_T122 x5_2 x8_2).f0.f2.f0, (rd_T122 x5_2 x8_2).f0.f2.f1⟩ : S49), (⟨(rd_T122 x5_2 x8_2).f0.f3.f0, (rd_T122 x5_2 x8_2).f0.f3.f1⟩ : S49)⟩ : S59), (rd_T122 x5_2 x8_2).f1, (⟨(⟨t115, (rd_T122 x5_2 x8_2).f2.f0.f1⟩ : S49), (⟨(rd_T122 x5_2 x8_2).f2.f1.f0, (rd_T122 x5_2 x8_2).f2.f1.f1⟩ : S49)⟩ : S51)⟩ : S122) : List (S122))).bind fun y116 => ((office_earliest.f (([(rd_T122 y116 (ji22)).f0.f3.f1, (rd_T122 y116 x8_2).f0.f2.f1] : List Int))).bind fun t122 => (office_Roll_terms.l1 k2 (y116.set ((ji22) : Int).toNat (⟨(⟨(rd_T122 y116 (ji22)).f0.f0, (rd_T122 y116 (ji22)).f0.f1, (⟨(rd_T122 y116 (ji22)).f0.f2.f0, (rd_T122 y116 (ji22)).f0.f2.f1⟩ : S49), (⟨(rd_T122 y116 (ji22)).f0.f3.f0, (rd_T122 y116 (ji22)).f0.f3.f1⟩ : S49)⟩ : S59), (rd_T122 y116 (ji22)).f1, (⟨(⟨(rd_T122 y116 (ji22)).f2.f0.f0, (rd_T122 y116 (ji22)).f2.f0.f1⟩ : S49), (⟨(rd_T122 y116 (ji22)).f2.f1.f0, t122⟩ : S49)⟩ : S51)⟩ : S122)) (wrap64 (x8_2 + 1))))) = some r := H
                    have A25 := Aside0.mk A250
                    clear A250
                    obtain ⟨y116, hy116⟩ : ∃ y_ : List (S122), y_ = (x5_2.set (x8_2 : Int).toNat (⟨(⟨(rd_T122 x5_2 x8_2).f0.f0, (rd_T122 x5_2 x8_2).f0.f1, (⟨(rd_T122 x5_2 x8_2).f0.f2.f0, (rd_T122 x5_2 x8_2).f0.f2.f1⟩ : S49), (⟨(rd_T122 x5_2 x8_2).f0.f3.f0, (rd_T122 x5_2 x8_2).f0.f3.f1⟩ : S49)⟩ : S59), (rd_T122 x5_2 x8_2).f1, (⟨(⟨t115, (rd_T122 x5_2 x8_2).f2.f0.f1⟩ : S49), (⟨(rd_T122 x5_2 x8_2).f2.f1.f0, (rd_T122 x5_2 x8_2).f2.f1.f1⟩ : S49)⟩ : S51)⟩ : S122)) := ⟨_, rfl⟩
                    replace H : ((office_earliest.f (([(rd_T122 y116 (ji22)).f0.f3.f1, (rd_T122 y116 x8_2).f0.f2.f1] : List Int))).bind fun t122 => (office_Roll_terms.l1 k2 (y116.set ((ji22) : Int).toNat (⟨(⟨(rd_T122 y116 (ji22)).f0.f0, (rd_T122 y116 (ji22)).f0.f1, (⟨(rd_T122 y116 (ji22)).f0.f2.f0, (rd_T122 y116 (ji22)).f0.f2.f1⟩ : S49), (⟨(rd_T122 y116 (ji22)).f0.f3.f0, (rd_T122 y116 (ji22)).f0.f3.f1⟩ : S49)⟩ : S59), (rd_T122 y116 (ji22)).f1, (⟨(⟨(rd_T122 y116 (ji22)).f2.f0.f0, (rd_T122 y116 (ji22)).f2.f0.f1⟩ : S49), (⟨(rd_T122 y116 (ji22)).f2.f1.f0, t122⟩ : S49)⟩ : S51)⟩ : S122)) (wrap64 (x8_2 + 1)))) = some r := by first | (rw [hy116]; with_reducible exact H) | (have H2_ := (Option.bind_some _ _).symm.trans H; rw [hy116]; with_reducible exact H2_) | (have H2_ := (Option.bind_some _ _).symm.trans H; with_reducible exact H2_) | with_reducible exact H | (rw [hy116]; exact H) | exact H
                    have Ny116 := Aside0.mk hy116
                    clear hy116
                    obtain ⟨y119, hy119⟩ : ∃ y_ : List Int, y_ = (([(rd_T122 y116 (ji22)).f0.f3.f1, (rd_T122 y116 x8_2).f0.f2.f1] : List Int)) := ⟨_, rfl⟩
                    replace H : ((office_earliest.f y119).bind fun t122 => (office_Roll_terms.l1 k2 (y116.set ((ji22) : Int).toNat (⟨(⟨(rd_T122 y116 (ji22)).f0.f0, (rd_T122 y116 (ji22)).f0.f1, (⟨(rd_T122 y116 (ji22)).f0.f2.f0, (rd_T122 y116 (ji22)).f0.f2.f1⟩ : S49), (⟨(rd_T122 y116 (ji22)).f0.f3.f0, (rd_T122 y116 (ji22)).f0.f3.f1⟩ : S49)⟩ : S59), (rd_T122 y116 (ji22)).f1, (⟨(⟨(rd_T122 y116 (ji22)).f2.f0.f0, (rd_T122 y116 (ji22)).f2.f0.f1⟩ : S49), (⟨(rd_T122 y116 (ji22)).f2.f1.f0, t122⟩ : S49)⟩ : S51)⟩ : S122)) (wrap64 (x8_2 + 1)))) = some r := by first | (rw [hy119]; with_reducible exact H) | (have H2_ := (Option.bind_some _ _).symm.trans H; rw [hy119]; with_reducible exact H2_) | (have H2_ := (Option.bind_some _ _).symm.trans H; with_reducible exact H2_) | with_reducible exact H | (rw [hy119]; exact H) | exact H
                    have Ny119 := Aside0.mk hy119
                    clear hy119
                    replace H := Option.bind_eq_some_iff.mp H
                    obtain ⟨t122, A270, H⟩ := H
                    replace H : (office_Roll_terms.l1 k2 (y116.set ((ji22) : Int).toNat (⟨(⟨(rd_T122 y116 (ji22)).f0.f0, (rd_T122 y116 (ji22)).f0.f1, (⟨(rd_T122 y116 (ji22)).f0.f2.f0, (rd_T122 y116 (ji22)).f0.f2.f1⟩ : S49), (⟨(rd_T122 y116 (ji22)).f0.f3.f0, (rd_T122 y116 (ji22)).f0.f3.f1⟩ : S49)⟩ : S59), (rd_T122 y116 (ji22)).f1, (⟨(⟨(rd_T122 y116 (ji22)).f2.f0.f0, (rd_T122 y116 (ji22)).f2.f0.f1⟩ : S49), (⟨(rd_T122 y116 (ji22)).f2.f1.f0, t122⟩ : S49)⟩ : S51)⟩ : S122)) (wrap64 (x8_2 + 1))) = some r := H
                    have A27 := Aside0.mk A270
                    clear A270
                    obtain ⟨y123, hy123⟩ : ∃ y_ : List (S122), y_ = (y116.set ((ji22) : Int).toNat (⟨(⟨(rd_T122 y116 (ji22)).f0.f0, (rd_T122 y116 (ji22)).f0.f1, (⟨(rd_T122 y116 (ji22)).f0.f2.f0, (rd_T122 y116 (ji22)).f0.f2.f1⟩ : S49), (⟨(rd_T122 y116 (ji22)).f0.f3.f0, (rd_T122 y116 (ji22)).f0.f3.f1⟩ : S49)⟩ : S59), (rd_T122 y116 (ji22)).f1, (⟨(⟨(rd_T122 y116 (ji22)).f2.f0.f0, (rd_T122 y116 (ji22)).f2.f0.f1⟩ : S49), (⟨(rd_T122 y116 (ji22)).f2.f1.f0, t122⟩ : S49)⟩ : S51)⟩ : S122)) := ⟨_, rfl⟩
                    replace H : (office_Roll_terms.l1 k2 y123 (wrap64 (x8_2 + 1))) = some r := by first | (rw [hy123]; with_reducible exact H) | (have H2_ := (Option.bind_some _ _).symm.trans H; rw [hy123]; with_reducible exact H2_) | (have H2_ := (Option.bind_some _ _).symm.trans H; with_reducible exact H2_) | with_reducible exact H | (rw [hy123]; exact H) | exact H
                    have Ny123 := Aside0.mk hy123
                    clear hy123
                    have H' := Aside0.mk H
                    clear H
                    obtain ⟨Ao29, co29, eo29⟩ := Kd.R_slice HO_5.out
                    subst eo29
                    try go_wp2
                    have n0_ := Aside0.mk (Kd.R_drew HO_5.out)
                    have n1_ := Aside0.mk (blk_drew BK101.out)
                    have n2_ := Aside0.mk (below_drew1 HB.out)
                    clear HO_5
                    clear BK101
                    clear HB
                    have HO_5 := n0_
                    have BK101 := n1_
                    have HB := n2_
                    clear n0_ n1_ n2_
                    have p110 : 0 ≤ (x8_2 : Int) := of_decide_eq_true (by first | (with_reducible assumption) | assumption)
                    have q110 : x8_2 < (x5_2.length : Int) := of_decide_eq_true (by first | (with_reducible assumption) | assumption)
                    obtain ⟨ad110, e110, hx110_0, hx110_1, hx110_2, hx110_3, hx110_4, hx110_5, hx110_6, hx110_7, hx110_8, hx110_9, hx110_10⟩ := at_T122 (Kd.R_reads' HO_5.out).2.2 x8_2 p110 q110
                    cases e110
                    replace p110 := eq_true p110
                    replace q110 := eq_true q110
                    have p111 : 0 ≤ ((ji22) : Int) := of_decide_eq_true (by first | (with_reducible assumption) | assumption)
                    have q111 : (ji22) < (x5_2.length : Int) := of_decide_eq_true (by first | (with_reducible assumption) | assumption)
                    obtain ⟨ad111, e111, hx111_0, hx111_1, hx111_2, hx111_3, hx111_4, hx111_5, hx111_6, hx111_7, hx111_8, hx111_9, hx111_10⟩ := at_T122 (Kd.R_reads' HO_5.out).2.2 (ji22) p111 q111
                    obtain rfl : ad110 = ad111 := (by injection e111)
                    replace p111 := eq_true p111
                    replace q111 := eq_true q111
                    refine start_ (n := 24) (S := fun w' => w'.cell? (ad110.add ((x8_2).toNat * 11)) = some (.int .i64 ((rd_T122 x5_2 x8_2).f0.f0)) ∧ w'.cell? ⟨(ad110.add ((x8_2).toNat * 11)).block, (ad110.add ((x8_2).toNat * 11)).off + 1, none⟩ = some (.int .i64 ((rd_T122 x5_2 x8_2).f0.f1)) ∧ w'.cell? ⟨(ad110.add ((x8_2).toNat * 11)).block, (ad110.add ((x8_2).toNat * 11)).off + 2, none⟩ = some (.int .i64 ((rd_T122 x5_2 x8_2).f0.f2.f0)) ∧ w'.cell? ⟨(ad110.add ((x8_2).toNat * 11)).block, (ad110.add ((x8_2).toNat * 11)).off + 3, none⟩ = some (.int .i64 ((rd_T122 x5_2 x8_2).f0.f2.f1)) ∧ w'.cell? ⟨(ad110.add ((x8_2).toNat * 11)).block, (ad110.add ((x8_2).toNat * 11)).off + 4, none⟩ = some (.int .i64 ((rd_T122 x5_2 x8_2).f0.f3.f0)) ∧ w'.cell? ⟨(ad110.add ((x8_2).toNat * 11)).block, (ad110.add ((x8_2).toNat * 11)).off + 5, none⟩ = some (.int .i64 ((rd_T122 x5_2 x8_2).f0.f3.f1)) ∧ w'.cell? ⟨(ad110.add ((x8_2).toNat * 11)).block, (ad110.add ((x8_2).toNat * 11)).off + 6, none⟩ = some (.int .i64 ((rd_T122 x5_2 x8_2).f1)) ∧ w'.cell? ⟨(ad110.add ((x8_2).toNat * 11)).block, (ad110.add ((x8_2).toNat * 11)).off + 7, none⟩ = some (.int .i64 ((rd_T122 x5_2 x8_2).f2.f0.f0)) ∧ w'.cell? ⟨(ad110.add ((x8_2).toNat * 11)).block, (ad110.add ((x8_2).toNat * 11)).off + 8, none⟩ = some (.int .i64 ((rd_T122 x5_2 x8_2).f2.f0.f1)) ∧ w'.cell? ⟨(ad110.add ((x8_2).toNat * 11)).block, (ad110.add ((x8_2).toNat * 11)).off + 9, none⟩ = some (.int .i64 ((rd_T122 x5_2 x8_2).f2.f1.f0)) ∧ w'.cell? ⟨(ad110.add ((x8_2).toNat * 11)).block, (ad110.add ((x8_2).toNat * 11)).off + 10, none⟩ = some (.int .i64 ((rd_T122 x5_2 x8_2).f2.f1.f1)) ∧ w'.cell? (ad110.add (((ji22)).toNat * 11)) = some (.int .i64 ((rd_T122 x5_2 (ji22)).f0.f0)) ∧ w'.cell? ⟨(ad110.add (((ji22)).toNat * 11)).block, (ad110.add (((ji22)).toNat * 11)).off + 1, none⟩ = some (.int .i64 ((rd_T122 x5_2 (ji22)).f0.f1)) ∧ w'.cell? ⟨(ad110.add (((ji22)).toNat * 11)).block, (ad110.add (((ji22)).toNat * 11)).off + 2, none⟩ = some (.int .i64 ((rd_T122 x5_2 (ji22)).f0.f2.f0)) ∧ w'.cell? ⟨(ad110.add (((ji22)).toNat * 11)).block, (ad110.add (((ji22)).toNat * 11)).off + 3, none⟩ = some (.int .i64 ((rd_T122 x5_2 (ji22)).f0.f2.f1)) ∧ w'.cell? ⟨(ad110.add (((ji22)).toNat * 11)).block, (ad110.add (((ji22)).toNat * 11)).off + 4, none⟩ = some (.int .i64 ((rd_T122 x5_2 (ji22)).f0.f3.f0)) ∧ w'.cell? ⟨(ad110.add (((ji22)).toNat * 11)).block, (ad110.add (((ji22)).toNat * 11)).off + 5, none⟩ = some (.int .i64 ((rd_T122 x5_2 (ji22)).f0.f3.f1)) ∧ w'.cell? ⟨(ad110.add (((ji22)).toNat * 11)).block, (ad110.add (((ji22)).toNat * 11)).off + 6, none⟩ = some (.int .i64 ((rd_T122 x5_2 (ji22)).f1)) ∧ w'.cell? ⟨(ad110.add (((ji22)).toNat * 11)).block, (ad110.add (((ji22)).toNat * 11)).off + 7, none⟩ = some (.int .i64 ((rd_T122 x5_2 (ji22)).f2.f0.f0)) ∧ w'.cell? ⟨(ad110.add (((ji22)).toNat * 11)).block, (ad110.add (((ji22)).toNat * 11)).off + 8, none⟩ = some (.int .i64 ((rd_T122 x5_2 (ji22)).f2.f0.f1)) ∧ w'.cell? ⟨(ad110.add (((ji22)).toNat * 11)).block, (ad110.add (((ji22)).toNat * 11)).off + 9, none⟩ = some (.int .i64 ((rd_T122 x5_2 (ji22)).f2.f1.f0)) ∧ w'.cell? ⟨(ad110.add (((ji22)).toNat * 11)).block, (ad110.add (((ji22)).toNat * 11)).off + 10, none⟩ = some (.int .i64 ((rd_T122 x5_2 (ji22)).f2.f1.f1))) (ds := [23]) #[false, false, false, false, false, false, false, false, false, false, false, false, false, false, false, false, false, false, false, false, false, false, false, false] (by kernel_rfl) rfl rfl ⟨hx110_0, hx110_1, hx110_2, hx110_3, hx110_4, hx110_5, hx110_6, hx110_7, hx110_8, hx110_9, hx110_10, hx111_0, hx111_1, hx111_2, hx111_3, hx111_4, hx111_5, hx111_6, hx111_7, hx111_8, hx111_9, hx111_10⟩ (fun hHeld => ?_); refine with_tabW office_Roll_terms.tab12 office_Roll_terms.bits12 (fun HT_ HW_ => ?_)
                    generalize wr.drew = w30 at HO_5 BK101 HB hx110_0 hx110_1 hx110_10 hx110_2 hx110_3 hx110_4 hx110_5 hx110_6 hx110_7 hx110_8 hx110_9 hx111_0 hx111_1 hx111_10 hx111_2 hx111_3 hx111_4 hx111_5 hx111_6 hx111_7 hx111_8 hx111_9 hHeld ⊢
                    refine pure_ (i := 0) (N := some 41) (v := ?_) (a' := ?_) #[true, false, false, false, false, false, false, false, false, false, false, false, false, false, false, false, false, false, false, false, false, false, false, false] rfl rfl (any_of HT_.out (by kernel_rfl)) (fun _ _ _ h => h) (Or.inl ⟨by rfl, ?_⟩) ?_ ?_
                    rotate_left
                    · intro w'
                      go_simp
                      with_reducible rfl
                    rotate_left
                    · simp only [Act.put, List.setIfInBounds_toArray, List.set_cons_zero, List.set_cons_succ, i64_w, i32_w]
                      rfl
                    refine pure_ (i := 1) (N := some 42) (v := ?_) (a' := ?_) #[true, true, false, false, false, false, false, false, false, false, false, false, false, false, false, false, false, false, false, false, false, false, false, false] rfl rfl (any_of HT_.out (by kernel_rfl)) (fun _ _ _ h => h) (Or.inl ⟨by rfl, ?_⟩) ?_ ?_
                    rotate_left
                    · intro w'
                      go_simp
                      with_reducible rfl
                    rotate_left
                    · simp only [Act.put, List.setIfInBounds_toArray, List.set_cons_zero, List.set_cons_succ, i64_w, i32_w]
                      rfl
                    refine pure_ (i := 2) (N := some 43) (v := ?_) (a' := ?_) #[true, true, true, false, false, false, false, false, false, false, false, false, false, false, false, false, false, false, false, false, false, false, false, false] rfl rfl (any_of HT_.out (by kernel_rfl)) (fun _ _ _ h => h) (Or.inl ⟨by rfl, ?_⟩) ?_ ?_
                    rotate_left
                    · intro w'
                      go_simp
                      with_reducible rfl
                    rotate_left
                    · simp only [Act.put, List.setIfInBounds_toArray, List.set_cons_zero, List.set_cons_succ, i64_w, i32_w]
                      rfl
                    refine pure_ (i := 3) (N := some 44) (v := ?_) (a' := ?_) #[true, true, true, true, false, false, false, false, false, false, false, false, false, false, false, false, false, false, false, false, false, false, false, false] rfl rfl (any_of HT_.out (by kernel_rfl)) (fun _ _ _ h => h) (Or.inl ⟨by rfl, ?_⟩) ?_ ?_
                    rotate_left
                    · intro w'
                      go_simp
                      with_reducible rfl
                    rotate_left
                    · simp only [Act.put, List.setIfInBounds_toArray, List.set_cons_zero, List.set_cons_succ, i64_w, i32_w]
                      rfl
                    refine pure_ (i := 4) (N := some 45) (v := ?_) (a' := ?_) #[true, true, true, true, true, false, false, false, false, false, false, false, false, false, false, false, false, false, false, false, false, false, false, false] rfl rfl (any_of HT_.out (by kernel_rfl)) (fun _ _ _ h => h) (Or.inl ⟨by rfl, ?_⟩) ?_ ?_
                    rotate_left
                    · intro w'
                      go_simp
                      with_reducible rfl
                    rotate_left
                    · simp only [Act.put, List.setIfInBounds_toArray, List.set_cons_zero, List.set_cons_succ, i64_w, i32_w]
                      rfl
                    refine pure_ (i := 5) (N := some 46) (v := ?_) (a' := ?_) #[true, true, true, true, true, true, false, false, false, false, false, false, false, false, false, false, false, false, false, false, false, false, false, false] rfl rfl (any_of HT_.out (by kernel_rfl)) (fun _ _ _ h => h) (Or.inl ⟨by rfl, ?_⟩) ?_ ?_
                    rotate_left
                    · intro w'
                      go_simp
                      with_reducible rfl
                    rotate_left
                    · simp only [Act.put, List.setIfInBounds_toArray, List.set_cons_zero, List.set_cons_succ, i64_w, i32_w]
                      rfl
                    refine pure_ (i := 6) (N := some 47) (v := ?_) (a' := ?_) #[true, true, true, true, true, true, true, false, false, false, false, false, false, false, false, false, false, false, false, false, false, false, false, false] rfl rfl (any_of HT_.out (by kernel_rfl)) (fun _ _ _ h => h) (Or.inl ⟨by rfl, ?_⟩) ?_ ?_
                    rotate_left
                    · intro w'
                      go_simp
                      with_reducible rfl
                    rotate_left
                    · simp only [Act.put, List.setIfInBounds_toArray, List.set_cons_zero, List.set_cons_succ, i64_w, i32_w]
                      rfl
                    refine pure_ (i := 7) (N := some 48) (v := ?_) (a' := ?_) #[true, true, true, true, true, true, true, true, false, false, false, false, false, false, false, false, false, false, false, false, false, false, false, false] rfl rfl (any_of HT_.out (by kernel_rfl)) (fun _ _ _ h => h) (Or.inl ⟨by rfl, ?_⟩) ?_ ?_
                    rotate_left
                    · intro w'
                      go_simp
                      with_reducible rfl
                    rotate_left
                    · simp only [Act.put, List.setIfInBounds_toArray, List.set_cons_zero, List.set_cons_succ, i64_w, i32_w]
                      rfl
                    refine pure_ (i := 9) (N := some 50) (v := ?_) (a' := ?_) #[true, true, true, true, true, true, true, true, false, true, false, false, false, false, false, false, false, false, false, false, false, false, false, false] rfl rfl (any_of HT_.out (by kernel_rfl)) (fun _ _ _ h => h) (Or.inl ⟨by rfl, ?_⟩) ?_ ?_
                    rotate_left
                    · intro w'
                      go_simp
                      with_reducible rfl
                    rotate_left
                    · simp only [Act.put, List.setIfInBounds_toArray, List.set_cons_zero, List.set_cons_succ, i64_w, i32_w]
                      rfl
                    refine pure_ (i := 10) (N := some 51) (v := ?_) (a' := ?_) #[true, true, true, true, true, true, true, true, false, true, true, false, false, false, false, false, false, false, false, false, false, false, false, false] rfl rfl (any_of HT_.out (by kernel_rfl)) (fun _ _ _ h => h) (Or.inl ⟨by rfl, ?_⟩) ?_ ?_
                    rotate_left
                    · intro w'
                      go_simp
                      with_reducible rfl
                    rotate_left
                    · simp only [Act.put, List.setIfInBounds_toArray, List.set_cons_zero, List.set_cons_succ, i64_w, i32_w]
                      rfl
                    refine pure_ (i := 11) (N := some 52) (v := ?_) (a' := ?_) #[true, true, true, true, true, true, true, true, false, true, true, true, false, false, false, false, false, false, false, false, false, false, false, false] rfl rfl (any_of HT_.out (by kernel_rfl)) (fun _ _ _ h => h) (Or.inl ⟨by rfl, ?_⟩) ?_ ?_
                    rotate_left
                    · intro w'
                      go_simp
                      with_reducible rfl
                    rotate_left
                    · simp only [Act.put, List.setIfInBounds_toArray, List.set_cons_zero, List.set_cons_succ, i64_w, i32_w]
                      rfl
                    refine pure_ (i := 12) (N := some 53) (v := ?_) (a' := ?_) #[true, true, true, true, true, true, true, true, false, true, true, true, true, false, false, false, false, false, false, false, false, false, false, false] rfl rfl (any_of HT_.out (by kernel_rfl)) (fun _ _ _ h => h) (Or.inl ⟨by rfl, ?_⟩) ?_ ?_
                    rotate_left
                    · intro w'
                      go_simp
                      with_reducible rfl
                    rotate_left
                    · simp only [Act.put, List.setIfInBounds_toArray, List.set_cons_zero, List.set_cons_succ, i64_w, i32_w]
                      rfl
                    refine pure_ (i := 13) (N := some 54) (v := ?_) (a' := ?_) #[true, true, true, true, true, true, true, true, false, true, true, true, true, true, false, false, false, false, false, false, false, false, false, false] rfl rfl (any_of HT_.out (by kernel_rfl)) (fun _ _ _ h => h) (Or.inl ⟨by rfl, ?_⟩) ?_ ?_
                    rotate_left
                    · intro w'
                      go_simp
                      with_reducible rfl
                    rotate_left
                    · simp only [Act.put, List.setIfInBounds_toArray, List.set_cons_zero, List.set_cons_succ, i64_w, i32_w]
                      rfl
                    refine pure_ (i := 14) (N := some 55) (v := ?_) (a' := ?_) #[true, true, true, true, true, true, true, true, false, true, true, true, true, true, true, false, false, false, false, false, false, false, false, false] rfl rfl (any_of HT_.out (by kernel_rfl)) (fun _ _ _ h => h) (Or.inl ⟨by rfl, ?_⟩) ?_ ?_
                    rotate_left
                    · intro w'
                      go_simp
                      with_reducible rfl
                    rotate_left
                    · simp only [Act.put, List.setIfInBounds_toArray, List.set_cons_zero, List.set_cons_succ, i64_w, i32_w]
                      rfl
                    refine pure_ (i := 15) (N := some 56) (v := ?_) (a' := ?_) #[true, true, true, true, true, true, true, true, false, true, true, true, true, true, true, true, false, false, false, false, false, false, false, false] rfl rfl (any_of HT_.out (by kernel_rfl)) (fun _ _ _ h => h) (Or.inl ⟨by rfl, ?_⟩) ?_ ?_
                    rotate_left
                    · intro w'
                      go_simp
                      with_reducible rfl
                    rotate_left
                    · simp only [Act.put, List.setIfInBounds_toArray, List.set_cons_zero, List.set_cons_succ, i64_w, i32_w]
                      rfl
                    refine take_ (i := 8) (N := some 49) (v := ?_) (a' := ?_) #[true, true, true, true, true, true, true, true, true, true, true, true, true, true, true, true, false, false, false, false, false, false, false, false] rfl rfl (take_ofW HT_.out HW_.out (by kernel_rfl)) (fun _ _ _ h => h) (Or.inl ⟨by rfl, ?_⟩) hHeld ?_ ?_
                    rotate_left
                    · rintro w' ⟨s0, s1, s2, s3, s4, s5, s6, s7, s8, s9, s10, s11, s12, s13, s14, s15, s16, s17, s18, s19, s20, s21⟩
                      go_simp
                      with_reducible rfl
                    rotate_left
                    · simp only [Act.put, List.setIfInBounds_toArray, List.set_cons_zero, List.set_cons_succ, i64_w, i32_w]
                      rfl
                    refine take_ (i := 16) (N := some 57) (v := ?_) (a' := ?_) #[true, true, true, true, true, true, true, true, true, true, true, true, true, true, true, true, true, false, false, false, false, false, false, false] rfl rfl (take_ofW HT_.out HW_.out (by kernel_rfl)) (fun _ _ _ h => h) (Or.inl ⟨by rfl, ?_⟩) hHeld ?_ ?_
                    rotate_left
                    · rintro w' ⟨s0, s1, s2, s3, s4, s5, s6, s7, s8, s9, s10, s11, s12, s13, s14, s15, s16, s17, s18, s19, s20, s21⟩
                      go_simp
                      with_reducible rfl
                    rotate_left
                    · simp only [Act.put, List.setIfInBounds_toArray, List.set_cons_zero, List.set_cons_succ, i64_w, i32_w]
                      rfl
                    refine one_ (i := 17) (N := some 58) #[true, true, true, true, true, true, true, true, true, true, true, true, true, true, true, true, true, true, false, false, false, false, false, false] rfl rfl (one_of HT_.out (by kernel_rfl)) (by decide) (fun K hK => ?_)
                    refine Kd.R_lit_step (Kd.int .i64) _ 3 ?hg (N := 58) ?hd (xs := ([(rd_T122 x5_2 x8_2).f0.f2.f0, (rd_T122 x5_2 (ji22)).f0.f3.f0] : List Int)) (inner := [.int .i64 ((rd_T122 x5_2 x8_2).f0.f2.f0), .int .i64 ((rd_T122 x5_2 (ji22)).f0.f3.f0)]) (ok := fun _ => True) (okp := fun _ => True) ?hr ?hp (fun _ hk => hk) trivial (Below.refl _ _) (Nat.le_refl _) (by simp) ?_; (case hd => rfl); (case hg => rfl); (case hr => first | (go_simp; done) | (go_simp; rfl)); (case hp => exact (Reps.one (show Kd.M (Kd.int .i64) _ _ _ ((rd_T122 x5_2 x8_2).f0.f2.f0) [.int .i64 ((rd_T122 x5_2 x8_2).f0.f2.f0)] from rfl) (Reps.one (show Kd.M (Kd.int .i64) _ _ _ ((rd_T122 x5_2 (ji22)).f0.f3.f0) [.int .i64 ((rd_T122 x5_2 (ji22)).f0.f3.f0)] from rfl) (Reps.none _ _))))
                    intro v113 w31 ho32 hb hg_ hnew_
                    have HS0_ := (hb.cell (World.block_lt_of_cell? _ _ (hHeld.1))).trans (hHeld.1)
                    have HS1_ := (hb.cell (World.block_lt_of_cell? _ _ (hHeld.2.1))).trans (hHeld.2.1)
                    have HS2_ := (hb.cell (World.block_lt_of_cell? _ _ (hHeld.2.2.1))).trans (hHeld.2.2.1)
                    have HS3_ := (hb.cell (World.block_lt_of_cell? _ _ (hHeld.2.2.2.1))).trans (hHeld.2.2.2.1)
                    have HS4_ := (hb.cell (World.block_lt_of_cell? _ _ (hHeld.2.2.2.2.1))).trans (hHeld.2.2.2.2.1)
                    have HS5_ := (hb.cell (World.block_lt_of_cell? _ _ (hHeld.2.2.2.2.2.1))).trans (hHeld.2.2.2.2.2.1)
                    have HS6_ := (hb.cell (World.block_lt_of_cell? _ _ (hHeld.2.2.2.2.2.2.1))).trans (hHeld.2.2.2.2.2.2.1)
                    have HS7_ := (hb.cell (World.block_lt_of_cell? _ _ (hHeld.2.2.2.2.2.2.2.1))).trans (hHeld.2.2.2.2.2.2.2.1)
                    have HS8_ := (hb.cell (World.block_lt_of_cell? _ _ (hHeld.2.2.2.2.2.2.2.2.1))).trans (hHeld.2.2.2.2.2.2.2.2.1)
                    have HS9_ := (hb.cell (World.block_lt_of_cell? _ _ (hHeld.2.2.2.2.2.2.2.2.2.1))).trans (hHeld.2.2.2.2.2.2.2.2.2.1)
                    have HS10_ := (hb.cell (World.block_lt_of_cell? _ _ (hHeld.2.2.2.2.2.2.2.2.2.2.1))).trans (hHeld.2.2.2.2.2.2.2.2.2.2.1)
                    have HS11_ := (hb.cell (World.block_lt_of_cell? _ _ (hHeld.2.2.2.2.2.2.2.2.2.2.2.1))).trans (hHeld.2.2.2.2.2.2.2.2.2.2.2.1)
                    have HS12_ := (hb.cell (World.block_lt_of_cell? _ _ (hHeld.2.2.2.2.2.2.2.2.2.2.2.2.1))).trans (hHeld.2.2.2.2.2.2.2.2.2.2.2.2.1)
                    have HS13_ := (hb.cell (World.block_lt_of_cell? _ _ (hHeld.2.2.2.2.2.2.2.2.2.2.2.2.2.1))).trans (hHeld.2.2.2.2.2.2.2.2.2.2.2.2.2.1)
                    have HS14_ := (hb.cell (World.block_lt_of_cell? _ _ (hHeld.2.2.2.2.2.2.2.2.2.2.2.2.2.2.1))).trans (hHeld.2.2.2.2.2.2.2.2.2.2.2.2.2.2.1)
                    have HS15_ := (hb.cell (World.block_lt_of_cell? _ _ (hHeld.2.2.2.2.2.2.2.2.2.2.2.2.2.2.2.1))).trans (hHeld.2.2.2.2.2.2.2.2.2.2.2.2.2.2.2.1)
                    have HS16_ := (hb.cell (World.block_lt_of_cell? _ _ (hHeld.2.2.2.2.2.2.2.2.2.2.2.2.2.2.2.2.1))).trans (hHeld.2.2.2.2.2.2.2.2.2.2.2.2.2.2.2.2.1)
                    have HS17_ := (hb.cell (World.block_lt_of_cell? _ _ (hHeld.2.2.2.2.2.2.2.2.2.2.2.2.2.2.2.2.2.1))).trans (hHeld.2.2.2.2.2.2.2.2.2.2.2.2.2.2.2.2.2.1)
                    have HS18_ := (hb.cell (World.block_lt_of_cell? _ _ (hHeld.2.2.2.2.2.2.2.2.2.2.2.2.2.2.2.2.2.2.1))).trans (hHeld.2.2.2.2.2.2.2.2.2.2.2.2.2.2.2.2.2.2.1)
                    have HS19_ := (hb.cell (World.block_lt_of_cell? _ _ (hHeld.2.2.2.2.2.2.2.2.2.2.2.2.2.2.2.2.2.2.2.1))).trans (hHeld.2.2.2.2.2.2.2.2.2.2.2.2.2.2.2.2.2.2.2.1)
                    have HS20_ := (hb.cell (World.block_lt_of_cell? _ _ (hHeld.2.2.2.2.2.2.2.2.2.2.2.2.2.2.2.2.2.2.2.2.1))).trans (hHeld.2.2.2.2.2.2.2.2.2.2.2.2.2.2.2.2.2.2.2.2.1)
                    have HS21_ := (hb.cell (World.block_lt_of_cell? _ _ (hHeld.2.2.2.2.2.2.2.2.2.2.2.2.2.2.2.2.2.2.2.2.2))).trans (hHeld.2.2.2.2.2.2.2.2.2.2.2.2.2.2.2.2.2.2.2.2.2)
                    clear hg_ hnew_
                    (first | rw [← Ny112.out] at ho32 | (simp only [Int.reduceToNat] at ho32; rw [← Ny112.out] at ho32))
                    have n0_ := Aside0.mk (Kd.R_below (by (with_reducible repeat (first | apply Kd.R_alloc | apply Kd.R_drewN | apply Kd.R_drew)); exact HO_5.out) hb)
                    have n1_ := Aside0.mk (Kd.R_lower ho32 (below_size (by repeat (first | (with_reducible first | exact HB.out | apply below_alloc | apply pw_below_drewN | apply below_drew1 | refine below_set ?_ GE101.out) | exact HB.out))))
                    have n2_ := Aside0.mk (blk_below (g := gb101) (o := .cells #[.int .i64 a0_0, .int .i64 a0_1, .slice A0_2 l0_2.length c0_2, .slice A0_3 l0_3.length c0_3] 35 (0, 0)) (by (with_reducible repeat (first | refine blk_drewN ?_ _ | refine blk_drew ?_ | refine blk_alloc ?_ _)); exact BK101.out) hb)
                    have n3_ := Aside0.mk (below_step (by repeat (first | (with_reducible first | exact HB.out | apply below_alloc | apply pw_below_drewN | apply below_drew1 | refine below_set ?_ GE101.out) | exact HB.out)) hb)
                    clear HO_5
                    clear BK101
                    clear HB
                    have HO_5 := n0_
                    have HO114 := n1_
                    have BK101 := n2_
                    have HB := n3_
                    clear n0_ n1_ n2_ n3_
                    clear hb ho32
                    obtain ⟨Ao33, co33, eo33⟩ := Kd.R_slice HO114.out
                    (first | subst eo33 | (injection eo33 with f1_ f2_ f3_; have f4_ := f1_.symm; have f5_ := f3_.symm; clear f1_ f2_ f3_; subst f4_; subst f5_))
                    refine hK.out _ _ ⟨HS0_, HS1_, HS2_, HS3_, HS4_, HS5_, HS6_, HS7_, HS8_, HS9_, HS10_, HS11_, HS12_, HS13_, HS14_, HS15_, HS16_, HS17_, HS18_, HS19_, HS20_, HS21_⟩ (fun hHeld => ?_)
                    clear hK K
                    refine norm_ (a' := ?_) ?_ ?_
                    rotate_left
                    · show Act.put _ (some 58) _ = _
                      simp only [Act.put, List.setIfInBounds_toArray, List.set_cons_zero, List.set_cons_succ, i64_w, i32_w]
                      rfl
                    refine one_ (i := 18) (N := some 59) #[true, true, true, true, true, true, true, true, true, true, true, true, true, true, true, true, true, true, true, false, false, false, false, false] rfl rfl (one_of HT_.out (by kernel_rfl)) (by decide) (fun K hK => ?_)
                    refine goes_ Try.func79 (by kernel_rfl) rfl #[.slice Ao33 y112.length co33] (by rfl) rfl rfl (by (try simp only [List.map_toArray, List.map_cons, List.map_nil]); first | done | rfl | (simp only [List.length_drop, List.length_take]; rfl)) ?_
                    with_reducible refine (office_latest.calls _ _ y112 t115 _ ?side1 ?side2 A25.out).mono ?_
                    (case side1 => repeat (first | exact (Kd.R_reads' HO114.out).2.2 | (with_reducible refine Kd.C_alloc ?_ _) | (with_reducible refine Kd.C_drewN ?_ _) | (with_reducible refine Kd.C_drew ?_)))
                    (case side2 => exact (Kd.R_reads' HO114.out).2.1)
                    rintro e w34 ⟨rfl, hb⟩
                    have HS0_ := (hb.cell (World.block_lt_of_cell? _ _ (hHeld.1))).trans (hHeld.1)
                    have HS1_ := (hb.cell (World.block_lt_of_cell? _ _ (hHeld.2.1))).trans (hHeld.2.1)
                    have HS2_ := (hb.cell (World.block_lt_of_cell? _ _ (hHeld.2.2.1))).trans (hHeld.2.2.1)
                    have HS3_ := (hb.cell (World.block_lt_of_cell? _ _ (hHeld.2.2.2.1))).trans (hHeld.2.2.2.1)
                    have HS4_ := (hb.cell (World.block_lt_of_cell? _ _ (hHeld.2.2.2.2.1))).trans (hHeld.2.2.2.2.1)
                    have HS5_ := (hb.cell (World.block_lt_of_cell? _ _ (hHeld.2.2.2.2.2.1))).trans (hHeld.2.2.2.2.2.1)
                    have HS6_ := (hb.cell (World.block_lt_of_cell? _ _ (hHeld.2.2.2.2.2.2.1))).trans (hHeld.2.2.2.2.2.2.1)
                    have HS7_ := (hb.cell (World.block_lt_of_cell? _ _ (hHeld.2.2.2.2.2.2.2.1))).trans (hHeld.2.2.2.2.2.2.2.1)
                    have HS8_ := (hb.cell (World.block_lt_of_cell? _ _ (hHeld.2.2.2.2.2.2.2.2.1))).trans (hHeld.2.2.2.2.2.2.2.2.1)
                    have HS9_ := (hb.cell (World.block_lt_of_cell? _ _ (hHeld.2.2.2.2.2.2.2.2.2.1))).trans (hHeld.2.2.2.2.2.2.2.2.2.1)
                    have HS10_ := (hb.cell (World.block_lt_of_cell? _ _ (hHeld.2.2.2.2.2.2.2.2.2.2.1))).trans (hHeld.2.2.2.2.2.2.2.2.2.2.1)
                    have HS11_ := (hb.cell (World.block_lt_of_cell? _ _ (hHeld.2.2.2.2.2.2.2.2.2.2.2.1))).trans (hHeld.2.2.2.2.2.2.2.2.2.2.2.1)
                    have HS12_ := (hb.cell (World.block_lt_of_cell? _ _ (hHeld.2.2.2.2.2.2.2.2.2.2.2.2.1))).trans (hHeld.2.2.2.2.2.2.2.2.2.2.2.2.1)
                    have HS13_ := (hb.cell (World.block_lt_of_cell? _ _ (hHeld.2.2.2.2.2.2.2.2.2.2.2.2.2.1))).trans (hHeld.2.2.2.2.2.2.2.2.2.2.2.2.2.1)
                    have HS14_ := (hb.cell (World.block_lt_of_cell? _ _ (hHeld.2.2.2.2.2.2.2.2.2.2.2.2.2.2.1))).trans (hHeld.2.2.2.2.2.2.2.2.2.2.2.2.2.2.1)
                    have HS15_ := (hb.cell (World.block_lt_of_cell? _ _ (hHeld.2.2.2.2.2.2.2.2.2.2.2.2.2.2.2.1))).trans (hHeld.2.2.2.2.2.2.2.2.2.2.2.2.2.2.2.1)
                    have HS16_ := (hb.cell (World.block_lt_of_cell? _ _ (hHeld.2.2.2.2.2.2.2.2.2.2.2.2.2.2.2.2.1))).trans (hHeld.2.2.2.2.2.2.2.2.2.2.2.2.2.2.2.2.1)
                    have HS17_ := (hb.cell (World.block_lt_of_cell? _ _ (hHeld.2.2.2.2.2.2.2.2.2.2.2.2.2.2.2.2.2.1))).trans (hHeld.2.2.2.2.2.2.2.2.2.2.2.2.2.2.2.2.2.1)
                    have HS18_ := (hb.cell (World.block_lt_of_cell? _ _ (hHeld.2.2.2.2.2.2.2.2.2.2.2.2.2.2.2.2.2.2.1))).trans (hHeld.2.2.2.2.2.2.2.2.2.2.2.2.2.2.2.2.2.2.1)
                    have HS19_ := (hb.cell (World.block_lt_of_cell? _ _ (hHeld.2.2.2.2.2.2.2.2.2.2.2.2.2.2.2.2.2.2.2.1))).trans (hHeld.2.2.2.2.2.2.2.2.2.2.2.2.2.2.2.2.2.2.2.1)
                    have HS20_ := (hb.cell (World.block_lt_of_cell? _ _ (hHeld.2.2.2.2.2.2.2.2.2.2.2.2.2.2.2.2.2.2.2.2.1))).trans (hHeld.2.2.2.2.2.2.2.2.2.2.2.2.2.2.2.2.2.2.2.2.1)
                    have HS21_ := (hb.cell (World.block_lt_of_cell? _ _ (hHeld.2.2.2.2.2.2.2.2.2.2.2.2.2.2.2.2.2.2.2.2.2))).trans (hHeld.2.2.2.2.2.2.2.2.2.2.2.2.2.2.2.2.2.2.2.2.2)
                    refine ⟨_, rfl, ?_⟩
                    have n0_ := Aside0.mk (Kd.R_below (by (with_reducible repeat (first | apply Kd.R_alloc | apply Kd.R_drewN | apply Kd.R_drew)); exact HO_5.out) hb)
                    have n1_ := Aside0.mk (Kd.R_below (by (with_reducible repeat (first | apply Kd.R_alloc | apply Kd.R_drewN | apply Kd.R_drew)); exact HO114.out) hb)
                    have n2_ := Aside0.mk (blk_below (g := gb101) (o := .cells #[.int .i64 a0_0, .int .i64 a0_1, .slice A0_2 l0_2.length c0_2, .slice A0_3 l0_3.length c0_3] 35 (0, 0)) (by (with_reducible repeat (first | refine blk_drewN ?_ _ | refine blk_drew ?_ | refine blk_alloc ?_ _)); exact BK101.out) hb)
                    have n3_ := Aside0.mk (below_step (by repeat (first | (with_reducible first | exact HB.out | apply below_alloc | apply pw_below_drewN | apply below_drew1 | refine below_set ?_ GE101.out) | exact HB.out)) hb)
                    clear HO_5
                    clear HO114
                    clear BK101
                    clear HB
                    have HO_5 := n0_
                    have HO114 := n1_
                    have BK101 := n2_
                    have HB := n3_
                    clear n0_ n1_ n2_ n3_
                    (try clear hb)
                    (try clear hb2)
                    (try clear hk)
                    (try clear hi)
                    have p26 : 0 ≤ (x8_2 : Int) := of_decide_eq_true (by first | (with_reducible assumption) | assumption)
                    have q26 : (x8_2 : Int) < ((x5_2.length : Int) : Int) := of_decide_eq_true (by first | (with_reducible assumption) | assumption)
                    obtain ⟨go26, co26, eo26, gb26, gl26, cl26, HG26⟩ := Kd.R_form HO_5.out (by omega)
                    (first | cases eo26 | (injection eo26 with ea_ en_ ec_; (first | subst ea_ | (injection ea_ with ea_; subst ea_)); subst ec_; clear en_))
                    have GB26 := Aside0.mk gb26
                    have GG26 := Aside0.mk HG26
                    clear gb26 gl26 HG26
                    (first | simp only [add_plain] at hx110_0 | skip)
                    (first | simp only [add_plain] at hx110_1 | skip)
                    (first | simp only [add_plain] at hx110_2 | skip)
                    (first | simp only [add_plain] at hx110_3 | skip)
                    (first | simp only [add_plain] at hx110_4 | skip)
                    (first | simp only [add_plain] at hx110_5 | skip)
                    (first | simp only [add_plain] at hx110_6 | skip)
                    (first | simp only [add_plain] at hx110_7 | skip)
                    (first | simp only [add_plain] at hx110_8 | skip)
                    (first | simp only [add_plain] at hx110_9 | skip)
                    (first | simp only [add_plain] at hx110_10 | skip)
                    (first | simp only [add_plain] at hx111_0 | skip)
                    (first | simp only [add_plain] at hx111_1 | skip)
                    (first | simp only [add_plain] at hx111_2 | skip)
                    (first | simp only [add_plain] at hx111_3 | skip)
                    (first | simp only [add_plain] at hx111_4 | skip)
                    (first | simp only [add_plain] at hx111_5 | skip)
                    (first | simp only [add_plain] at hx111_6 | skip)
                    (first | simp only [add_plain] at hx111_7 | skip)
                    (first | simp only [add_plain] at hx111_8 | skip)
                    (first | simp only [add_plain] at hx111_9 | skip)
                    (first | simp only [add_plain] at hx111_10 | skip)
                    obtain ⟨ce26, hcl26, hM26, hcc26, hfr26⟩ := Kd.R_elem HO_5.out z122 (x8_2 : Int) p26 q26
                    obtain rfl := k122_openM hM26
                    have hx26_0 : World.cell? _ ⟨go26, (x8_2 : Int).toNat * 11, none⟩ = some (.int .i64 ((rd_T122 x5_2 x8_2).f0.f0)) := hcc26 0 _ rfl
                    have hx26_1 : World.cell? _ ⟨go26, (x8_2 : Int).toNat * 11 + 1, none⟩ = some (.int .i64 ((rd_T122 x5_2 x8_2).f0.f1)) := hcc26 1 _ rfl
                    have hx26_2 : World.cell? _ ⟨go26, (x8_2 : Int).toNat * 11 + 2, none⟩ = some (.int .i64 ((rd_T122 x5_2 x8_2).f0.f2.f0)) := hcc26 2 _ rfl
                    have hx26_3 : World.cell? _ ⟨go26, (x8_2 : Int).toNat * 11 + 3, none⟩ = some (.int .i64 ((rd_T122 x5_2 x8_2).f0.f2.f1)) := hcc26 3 _ rfl
                    have hx26_4 : World.cell? _ ⟨go26, (x8_2 : Int).toNat * 11 + 4, none⟩ = some (.int .i64 ((rd_T122 x5_2 x8_2).f0.f3.f0)) := hcc26 4 _ rfl
                    have hx26_5 : World.cell? _ ⟨go26, (x8_2 : Int).toNat * 11 + 5, none⟩ = some (.int .i64 ((rd_T122 x5_2 x8_2).f0.f3.f1)) := hcc26 5 _ rfl
                    have hx26_6 : World.cell? _ ⟨go26, (x8_2 : Int).toNat * 11 + 6, none⟩ = some (.int .i64 ((rd_T122 x5_2 x8_2).f1)) := hcc26 6 _ rfl
                    have hx26_7 : World.cell? _ ⟨go26, (x8_2 : Int).toNat * 11 + 7, none⟩ = some (.int .i64 ((rd_T122 x5_2 x8_2).f2.f0.f0)) := hcc26 7 _ rfl
                    have hx26_8 : World.cell? _ ⟨go26, (x8_2 : Int).toNat * 11 + 8, none⟩ = some (.int .i64 ((rd_T122 x5_2 x8_2).f2.f0.f1)) := hcc26 8 _ rfl
                    have hx26_9 : World.cell? _ ⟨go26, (x8_2 : Int).toNat * 11 + 9, none⟩ = some (.int .i64 ((rd_T122 x5_2 x8_2).f2.f1.f0)) := hcc26 9 _ rfl
                    have hx26_10 : World.cell? _ ⟨go26, (x8_2 : Int).toNat * 11 + 10, none⟩ = some (.int .i64 ((rd_T122 x5_2 x8_2).f2.f1.f1)) := hcc26 10 _ rfl
                    have hf26_0 : World.frozen? _ ⟨go26, (x8_2 : Int).toNat * 11, none⟩ = false := hfr26 0
                    have hf26_1 : World.frozen? _ ⟨go26, (x8_2 : Int).toNat * 11 + 1, none⟩ = false := hfr26 1
                    have hf26_2 : World.frozen? _ ⟨go26, (x8_2 : Int).toNat * 11 + 2, none⟩ = false := hfr26 2
                    have hf26_3 : World.frozen? _ ⟨go26, (x8_2 : Int).toNat * 11 + 3, none⟩ = false := hfr26 3
                    have hf26_4 : World.frozen? _ ⟨go26, (x8_2 : Int).toNat * 11 + 4, none⟩ = false := hfr26 4
                    have hf26_5 : World.frozen? _ ⟨go26, (x8_2 : Int).toNat * 11 + 5, none⟩ = false := hfr26 5
                    have hf26_6 : World.frozen? _ ⟨go26, (x8_2 : Int).toNat * 11 + 6, none⟩ = false := hfr26 6
                    have hf26_7 : World.frozen? _ ⟨go26, (x8_2 : Int).toNat * 11 + 7, none⟩ = false := hfr26 7
                    have hf26_8 : World.frozen? _ ⟨go26, (x8_2 : Int).toNat * 11 + 8, none⟩ = false := hfr26 8
                    have hf26_9 : World.frozen? _ ⟨go26, (x8_2 : Int).toNat * 11 + 9, none⟩ = false := hfr26 9
                    have hf26_10 : World.frozen? _ ⟨go26, (x8_2 : Int).toNat * 11 + 10, none⟩ = false := hfr26 10
                    clear hcl26 hcc26 hfr26 hM26
                    replace p26 := eq_true p26
                    replace q26 := eq_true q26
                    obtain ⟨ce35, hcl35, hM35, hcc35, hfr35⟩ := Kd.R_elem HO_5.out z122 (x8_2 : Int) (of_decide_eq_true (by first | (with_reducible assumption) | assumption)) (by have h_ : (x8_2 : Int) < ((x5_2.length : Int) : Int) := of_decide_eq_true (by first | (with_reducible assumption) | assumption); first | exact h_ | (have e_ := (Kd.R_reads' HO_5.out).1; omega) | simpa using h_)
                    obtain rfl := k122_openM hM35
                    have HP35 := (Kd.R_seg HO_5.out (x8_2 : Int) (of_decide_eq_true (by first | (with_reducible assumption) | assumption)) (by have h_ : (x8_2 : Int) < ((x5_2.length : Int) : Int) := of_decide_eq_true (by first | (with_reducible assumption) | assumption); first | exact h_ | (have e_ := (Kd.R_reads' HO_5.out).1; omega) | simpa using h_) (seg := [.int .i64 t115]) (j := 7) hcl35 hcc35 (show 8 ≤ 11 from by decide) (x' := (⟨(⟨(rd_T122 x5_2 x8_2).f0.f0, (rd_T122 x5_2 x8_2).f0.f1, (⟨(rd_T122 x5_2 x8_2).f0.f2.f0, (rd_T122 x5_2 x8_2).f0.f2.f1⟩ : S49), (⟨(rd_T122 x5_2 x8_2).f0.f3.f0, (rd_T122 x5_2 x8_2).f0.f3.f1⟩ : S49)⟩ : S59), (rd_T122 x5_2 x8_2).f1, (⟨(⟨t115, (rd_T122 x5_2 x8_2).f2.f0.f1⟩ : S49), (⟨(rd_T122 x5_2 x8_2).f2.f1.f0, (rd_T122 x5_2 x8_2).f2.f1.f1⟩ : S49)⟩ : S51)⟩ : S122)) (k122_mkM _ _ _ (⟨(⟨(rd_T122 x5_2 x8_2).f0.f0, (rd_T122 x5_2 x8_2).f0.f1, (⟨(rd_T122 x5_2 x8_2).f0.f2.f0, (rd_T122 x5_2 x8_2).f0.f2.f1⟩ : S49), (⟨(rd_T122 x5_2 x8_2).f0.f3.f0, (rd_T122 x5_2 x8_2).f0.f3.f1⟩ : S49)⟩ : S59), (rd_T122 x5_2 x8_2).f1, (⟨(⟨t115, (rd_T122 x5_2 x8_2).f2.f0.f1⟩ : S49), (⟨(rd_T122 x5_2 x8_2).f2.f1.f0, (rd_T122 x5_2 x8_2).f2.f1.f1⟩ : S49)⟩ : S51)⟩ : S122) ) (fun _ hk => hk)).1
                    rw [← Ny116.out] at HP35
                    have HQ35 := Aside0.mk HP35
                    clear hcl35 hcc35 hfr35 hM35 HP35
                    refine hK.out _ _ ⟨HS0_, HS1_, HS2_, HS3_, HS4_, HS5_, HS6_, HS7_, HS8_, HS9_, HS10_, HS11_, HS12_, HS13_, HS14_, HS15_, HS16_, HS17_, HS18_, HS19_, HS20_, HS21_⟩ (fun hHeld => ?_)
                    clear hK K
                    refine norm_ (a' := ?_) ?_ ?_
                    rotate_left
                    · show Act.put _ (some 59) _ = _
                      simp only [Act.put, List.setIfInBounds_toArray, List.set_cons_zero, List.set_cons_succ, i64_w, i32_w]
                      rfl
                    refine pure_ (i := 19) (N := some 60) (v := ?_) (a' := ?_) #[true, true, true, true, true, true, true, true, true, true, true, true, true, true, true, true, true, true, true, true, false, false, false, false] rfl rfl (any_of HT_.out (by kernel_rfl)) (fun _ _ _ h => h) (Or.inl ⟨by rfl, ?_⟩) ?_ ?_
                    rotate_left
                    · intro w'
                      go_simp
                      with_reducible rfl
                    rotate_left
                    · simp only [Act.put, List.setIfInBounds_toArray, List.set_cons_zero, List.set_cons_succ, i64_w, i32_w]
                      rfl
                    refine pure_ (i := 20) (N := some 61) (v := ?_) (a' := ?_) #[true, true, true, true, true, true, true, true, true, true, true, true, true, true, true, true, true, true, true, true, true, false, false, false] rfl rfl (any_of HT_.out (by kernel_rfl)) (fun _ _ _ h => h) (Or.inl ⟨by rfl, ?_⟩) ?_ ?_
                    rotate_left
                    · intro w'
                      go_simp
                      with_reducible rfl
                    rotate_left
                    · simp only [Act.put, List.setIfInBounds_toArray, List.set_cons_zero, List.set_cons_succ, i64_w, i32_w]
                      rfl
                    refine pure_ (i := 21) (N := some 62) (v := ?_) (a' := ?_) #[true, true, true, true, true, true, true, true, true, true, true, true, true, true, true, true, true, true, true, true, true, true, false, false] rfl rfl (any_of HT_.out (by kernel_rfl)) (fun _ _ _ h => h) (Or.inl ⟨by rfl, ?_⟩) ?_ ?_
                    rotate_left
                    · intro w'
                      go_simp
                      with_reducible rfl
                    rotate_left
                    · simp only [Act.put, List.setIfInBounds_toArray, List.set_cons_zero, List.set_cons_succ, i64_w, i32_w]
                      rfl
                    refine pure_ (i := 22) (N := some 63) (v := ?_) (a' := ?_) #[true, true, true, true, true, true, true, true, true, true, true, true, true, true, true, true, true, true, true, true, true, true, true, false] rfl rfl (any_of HT_.out (by kernel_rfl)) (fun _ _ _ h => h) (Or.inl ⟨by rfl, ?_⟩) ?_ ?_
                    rotate_left
                    · intro w'
                      go_simp
                      with_reducible rfl
                    rotate_left
                    · simp only [Act.put, List.setIfInBounds_toArray, List.set_cons_zero, List.set_cons_succ, i64_w, i32_w]
                      rfl
                    refine last_ (i := 23) (N := none) #[true, true, true, true, true, true, true, true, true, true, true, true, true, true, true, true, true, true, true, true, true, true, true, true] rfl rfl (one_of HT_.out (by kernel_rfl)) (by decide) (fun K hK => ?_)
                    refine skip_ (w1 := ?_) (by rfl) rfl ?_ ?_
                    rotate_left
                    · go_simp
                      rfl
                    refine hK.out _ _ ?_
                    clear hK K
                    refine done_ (done_of HT_.out (by kernel_rfl)) ?_
                    try go_wp2
                    have n0_ : Aside0 (Kd.R k122 122 (w34.setCell ⟨go26, (x8_2 : Int).toNat * 11 + 7, none⟩ (.int .i64 t115)) w.heap.size (fun _ => True) (.slice (some ⟨go26, 0, none⟩) x5_2.length co29) y116) := ⟨by (with_reducible repeat (first | apply Kd.R_alloc | apply Kd.R_drewN | apply Kd.R_drew)); exact HQ35.out⟩
                    have n1_ : Aside0 (Kd.R (Kd.int .i64) 3 (w34.setCell ⟨go26, (x8_2 : Int).toNat * 11 + 7, none⟩ (.int .i64 t115)) w.heap.size (fun _ => True) (.slice Ao33 y112.length co33) y112) := ⟨by (with_reducible repeat (first | apply Kd.R_alloc | apply Kd.R_drewN | apply Kd.R_drew)); exact Kd.R_mono (Kd.R_far (p := ⟨go26, (x8_2 : Int).toNat * 11 + 7, none⟩) (Kd.R_types HO114.out GG26.out (by decide)) (fun _ hk => hk.2) (.int .i64 t115)) (fun _ hk => trivial)⟩
                    have n2_ : Aside0 ((w34.setCell ⟨go26, (x8_2 : Int).toNat * 11 + 7, none⟩ (.int .i64 t115)).heap[gb101]? = some (.cells #[.int .i64 a0_0, .int .i64 a0_1, .slice A0_2 l0_2.length c0_2, .slice A0_3 l0_3.length c0_3] 35 (0, 0))) := ⟨by (with_reducible repeat (first | refine blk_drewN ?_ _ | refine blk_drew ?_ | refine blk_alloc ?_ _)); refine blk_far ?_ (by have h_ := Kd.R_ne HO_5.out BK101.out (by decide); intro e_; exact h_ (by rw [e_]; rfl)) _; (with_reducible repeat (first | refine blk_drewN ?_ _ | refine blk_drew ?_ | refine blk_alloc ?_ _)); exact BK101.out⟩
                    have n3_ : Aside0 (Below w.heap.size w (w34.setCell ⟨go26, (x8_2 : Int).toNat * 11 + 7, none⟩ (.int .i64 t115))) := ⟨by repeat (first | (with_reducible first | exact HB.out | apply below_alloc | apply pw_below_drewN | apply below_drew1 | refine below_set ?_ GB26.out | refine below_set ?_ GE101.out) | exact HB.out)⟩
                    (try clear HO_5)
                    (try clear HO114)
                    (try clear BK101)
                    (try clear HB)
                    generalize (w34.setCell ⟨go26, (x8_2 : Int).toNat * 11 + 7, none⟩ (.int .i64 t115)) = w36 at n0_ n1_ n2_ n3_ ⊢
                    have HO_5 := n0_
                    have HO114 := n1_
                    have BK101 := n2_
                    have HB := n3_
                    clear n0_ n1_ n2_ n3_
                    have n0_ := Aside0.mk (Kd.R_drew HO_5.out)
                    have n1_ := Aside0.mk (Kd.R_drew HO114.out)
                    have n2_ := Aside0.mk (blk_drew BK101.out)
                    have n3_ := Aside0.mk (below_drew1 HB.out)
                    clear HO_5
                    clear HO114
                    clear BK101
                    clear HB
                    have HO_5 := n0_
                    have HO114 := n1_
                    have BK101 := n2_
                    have HB := n3_
                    clear n0_ n1_ n2_ n3_
                    have p117 : 0 ≤ ((ji22) : Int) := of_decide_eq_true (by first | (with_reducible assumption) | assumption)
                    have q117 : (ji22) < (y116.length : Int) := (by have h_ : ((ji22) : Int) < ((x5_2.length : Int) : Int) := of_decide_eq_true (by first | (with_reducible assumption) | assumption); first | (have e_ := (Kd.R_reads' HO_5.out).1; omega) | simpa only [Ny116.out, List.length_set] using h_)
                    have ql117 : (((ji22) : Int) < ((x5_2.length : Int) : Int)) = True := eq_true (of_decide_eq_true (by first | (with_reducible assumption) | assumption))
                    obtain ⟨ad117, e117, hx117_0, hx117_1, hx117_2, hx117_3, hx117_4, hx117_5, hx117_6, hx117_7, hx117_8, hx117_9, hx117_10⟩ := at_T122 (Kd.R_reads' HO_5.out).2.2 (ji22) p117 q117
                    obtain rfl : (⟨go26, 0, none⟩ : Addr) = ad117 := (by injection e117)
                    (first | simp only [add_plain] at hx117_0 | simp only [add_at] at hx117_0 | simp only [Addr.add, Nat.zero_add] at hx117_0 | skip)
                    (first | simp only [add_plain] at hx117_1 | simp only [add_at] at hx117_1 | simp only [Addr.add, Nat.zero_add] at hx117_1 | skip)
                    (first | simp only [add_plain] at hx117_2 | simp only [add_at] at hx117_2 | simp only [Addr.add, Nat.zero_add] at hx117_2 | skip)
                    (first | simp only [add_plain] at hx117_3 | simp only [add_at] at hx117_3 | simp only [Addr.add, Nat.zero_add] at hx117_3 | skip)
                    (first | simp only [add_plain] at hx117_4 | simp only [add_at] at hx117_4 | simp only [Addr.add, Nat.zero_add] at hx117_4 | skip)
                    (first | simp only [add_plain] at hx117_5 | simp only [add_at] at hx117_5 | simp only [Addr.add, Nat.zero_add] at hx117_5 | skip)
                    (first | simp only [add_plain] at hx117_6 | simp only [add_at] at hx117_6 | simp only [Addr.add, Nat.zero_add] at hx117_6 | skip)
                    (first | simp only [add_plain] at hx117_7 | simp only [add_at] at hx117_7 | simp only [Addr.add, Nat.zero_add] at hx117_7 | skip)
                    (first | simp only [add_plain] at hx117_8 | simp only [add_at] at hx117_8 | simp only [Addr.add, Nat.zero_add] at hx117_8 | skip)
                    (first | simp only [add_plain] at hx117_9 | simp only [add_at] at hx117_9 | simp only [Addr.add, Nat.zero_add] at hx117_9 | skip)
                    (first | simp only [add_plain] at hx117_10 | simp only [add_at] at hx117_10 | simp only [Addr.add, Nat.zero_add] at hx117_10 | skip)
                    replace p117 := eq_true p117
                    replace q117 := eq_true q117
                    have p118 : 0 ≤ (x8_2 : Int) := of_decide_eq_true (by first | (with_reducible assumption) | assumption)
                    have q118 : x8_2 < (y116.length : Int) := (by have h_ : (x8_2 : Int) < ((x5_2.length : Int) : Int) := of_decide_eq_true (by first | (with_reducible assumption) | assumption); first | (have e_ := (Kd.R_reads' HO_5.out).1; omega) | simpa only [Ny116.out, List.length_set] using h_)
                    have ql118 : ((x8_2 : Int) < ((x5_2.length : Int) : Int)) = True := eq_true (of_decide_eq_true (by first | (with_reducible assumption) | assumption))
                    obtain ⟨ad118, e118, hx118_0, hx118_1, hx118_2, hx118_3, hx118_4, hx118_5, hx118_6, hx118_7, hx118_8, hx118_9, hx118_10⟩ := at_T122 (Kd.R_reads' HO_5.out).2.2 x8_2 p118 q118
                    obtain rfl : (⟨go26, 0, none⟩ : Addr) = ad118 := (by injection e118)
                    (first | simp only [add_plain] at hx118_0 | simp only [add_at] at hx118_0 | simp only [Addr.add, Nat.zero_add] at hx118_0 | skip)
                    (first | simp only [add_plain] at hx118_1 | simp only [add_at] at hx118_1 | simp only [Addr.add, Nat.zero_add] at hx118_1 | skip)
                    (first | simp only [add_plain] at hx118_2 | simp only [add_at] at hx118_2 | simp only [Addr.add, Nat.zero_add] at hx118_2 | skip)
                    (first | simp only [add_plain] at hx118_3 | simp only [add_at] at hx118_3 | simp only [Addr.add, Nat.zero_add] at hx118_3 | skip)
                    (first | simp only [add_plain] at hx118_4 | simp only [add_at] at hx118_4 | simp only [Addr.add, Nat.zero_add] at hx118_4 | skip)
                    (first | simp only [add_plain] at hx118_5 | simp only [add_at] at hx118_5 | simp only [Addr.add, Nat.zero_add] at hx118_5 | skip)
                    (first | simp only [add_plain] at hx118_6 | simp only [add_at] at hx118_6 | simp only [Addr.add, Nat.zero_add] at hx118_6 | skip)
                    (first | simp only [add_plain] at hx118_7 | simp only [add_at] at hx118_7 | simp only [Addr.add, Nat.zero_add] at hx118_7 | skip)
                    (first | simp only [add_plain] at hx118_8 | simp only [add_at] at hx118_8 | simp only [Addr.add, Nat.zero_add] at hx118_8 | skip)
                    (first | simp only [add_plain] at hx118_9 | simp only [add_at] at hx118_9 | simp only [Addr.add, Nat.zero_add] at hx118_9 | skip)
                    (first | simp only [add_plain] at hx118_10 | simp only [add_at] at hx118_10 | simp only [Addr.add, Nat.zero_add] at hx118_10 | skip)
                    replace p118 := eq_true p118
                    replace q118 := eq_true q118
                    refine start_ (n := 25) (S := fun w' => w'.cell? ⟨go26, ((ji22)).toNat * 11, none⟩ = some (.int .i64 ((rd_T122 y116 (ji22)).f0.f0)) ∧ w'.cell? ⟨go26, ((ji22)).toNat * 11 + 1, none⟩ = some (.int .i64 ((rd_T122 y116 (ji22)).f0.f1)) ∧ w'.cell? ⟨go26, ((ji22)).toNat * 11 + 2, none⟩ = some (.int .i64 ((rd_T122 y116 (ji22)).f0.f2.f0)) ∧ w'.cell? ⟨go26, ((ji22)).toNat * 11 + 3, none⟩ = some (.int .i64 ((rd_T122 y116 (ji22)).f0.f2.f1)) ∧ w'.cell? ⟨go26, ((ji22)).toNat * 11 + 4, none⟩ = some (.int .i64 ((rd_T122 y116 (ji22)).f0.f3.f0)) ∧ w'.cell? ⟨go26, ((ji22)).toNat * 11 + 5, none⟩ = some (.int .i64 ((rd_T122 y116 (ji22)).f0.f3.f1)) ∧ w'.cell? ⟨go26, ((ji22)).toNat * 11 + 6, none⟩ = some (.int .i64 ((rd_T122 y116 (ji22)).f1)) ∧ w'.cell? ⟨go26, ((ji22)).toNat * 11 + 7, none⟩ = some (.int .i64 ((rd_T122 y116 (ji22)).f2.f0.f0)) ∧ w'.cell? ⟨go26, ((ji22)).toNat * 11 + 8, none⟩ = some (.int .i64 ((rd_T122 y116 (ji22)).f2.f0.f1)) ∧ w'.cell? ⟨go26, ((ji22)).toNat * 11 + 9, none⟩ = some (.int .i64 ((rd_T122 y116 (ji22)).f2.f1.f0)) ∧ w'.cell? ⟨go26, ((ji22)).toNat * 11 + 10, none⟩ = some (.int .i64 ((rd_T122 y116 (ji22)).f2.f1.f1)) ∧ w'.cell? ⟨go26, (x8_2).toNat * 11, none⟩ = some (.int .i64 ((rd_T122 y116 x8_2).f0.f0)) ∧ w'.cell? ⟨go26, (x8_2).toNat * 11 + 1, none⟩ = some (.int .i64 ((rd_T122 y116 x8_2).f0.f1)) ∧ w'.cell? ⟨go26, (x8_2).toNat * 11 + 2, none⟩ = some (.int .i64 ((rd_T122 y116 x8_2).f0.f2.f0)) ∧ w'.cell? ⟨go26, (x8_2).toNat * 11 + 3, none⟩ = some (.int .i64 ((rd_T122 y116 x8_2).f0.f2.f1)) ∧ w'.cell? ⟨go26, (x8_2).toNat * 11 + 4, none⟩ = some (.int .i64 ((rd_T122 y116 x8_2).f0.f3.f0)) ∧ w'.cell? ⟨go26, (x8_2).toNat * 11 + 5, none⟩ = some (.int .i64 ((rd_T122 y116 x8_2).f0.f3.f1)) ∧ w'.cell? ⟨go26, (x8_2).toNat * 11 + 6, none⟩ = some (.int .i64 ((rd_T122 y116 x8_2).f1)) ∧ w'.cell? ⟨go26, (x8_2).toNat * 11 + 7, none⟩ = some (.int .i64 ((rd_T122 y116 x8_2).f2.f0.f0)) ∧ w'.cell? ⟨go26, (x8_2).toNat * 11 + 8, none⟩ = some (.int .i64 ((rd_T122 y116 x8_2).f2.f0.f1)) ∧ w'.cell? ⟨go26, (x8_2).toNat * 11 + 9, none⟩ = some (.int .i64 ((rd_T122 y116 x8_2).f2.f1.f0)) ∧ w'.cell? ⟨go26, (x8_2).toNat * 11 + 10, none⟩ = some (.int .i64 ((rd_T122 y116 x8_2).f2.f1.f1))) (ds := [24]) #[false, false, false, false, false, false, false, false, false, false, false, false, false, false, false, false, false, false, false, false, false, false, false, false, false] (by kernel_rfl) rfl rfl ⟨hx117_0, hx117_1, hx117_2, hx117_3, hx117_4, hx117_5, hx117_6, hx117_7, hx117_8, hx117_9, hx117_10, hx118_0, hx118_1, hx118_2, hx118_3, hx118_4, hx118_5, hx118_6, hx118_7, hx118_8, hx118_9, hx118_10⟩ (fun hHeld => ?_); refine with_tabW office_Roll_terms.tab13 office_Roll_terms.bits13 (fun HT_ HW_ => ?_)
                    generalize w36.drew = w37 at HO_5 HO114 BK101 HB HQ35 hx117_0 hx117_1 hx117_10 hx117_2 hx117_3 hx117_4 hx117_5 hx117_6 hx117_7 hx117_8 hx117_9 hx118_0 hx118_1 hx118_10 hx118_2 hx118_3 hx118_4 hx118_5 hx118_6 hx118_7 hx118_8 hx118_9 hHeld ⊢
                    refine pure_ (i := 0) (N := some 64) (v := ?_) (a' := ?_) #[true, false, false, false, false, false, false, false, false, false, false, false, false, false, false, false, false, false, false, false, false, false, false, false, false] rfl rfl (any_of HT_.out (by kernel_rfl)) (fun _ _ _ h => h) (Or.inl ⟨by rfl, ?_⟩) ?_ ?_
                    rotate_left
                    · intro w'
                      go_simp
                      with_reducible rfl
                    rotate_left
                    · simp only [Act.put, List.setIfInBounds_toArray, List.set_cons_zero, List.set_cons_succ, i64_w, i32_w]
                      rfl
                    refine pure_ (i := 1) (N := some 65) (v := ?_) (a' := ?_) #[true, true, false, false, false, false, false, false, false, false, false, false, false, false, false, false, false, false, false, false, false, false, false, false, false] rfl rfl (any_of HT_.out (by kernel_rfl)) (fun _ _ _ h => h) (Or.inl ⟨by rfl, ?_⟩) ?_ ?_
                    rotate_left
                    · intro w'
                      go_simp
                      with_reducible rfl
                    rotate_left
                    · simp only [Act.put, List.setIfInBounds_toArray, List.set_cons_zero, List.set_cons_succ, i64_w, i32_w]
                      rfl
                    refine pure_ (i := 2) (N := some 66) (v := ?_) (a' := ?_) #[true, true, true, false, false, false, false, false, false, false, false, false, false, false, false, false, false, false, false, false, false, false, false, false, false] rfl rfl (any_of HT_.out (by kernel_rfl)) (fun _ _ _ h => h) (Or.inl ⟨by rfl, ?_⟩) ?_ ?_
                    rotate_left
                    · intro w'
                      go_simp
                      with_reducible rfl
                    rotate_left
                    · simp only [Act.put, List.setIfInBounds_toArray, List.set_cons_zero, List.set_cons_succ, i64_w, i32_w]
                      rfl
                    refine pure_ (i := 3) (N := some 67) (v := ?_) (a' := ?_) #[true, true, true, true, false, false, false, false, false, false, false, false, false, false, false, false, false, false, false, false, false, false, false, false, false] rfl rfl (any_of HT_.out (by kernel_rfl)) (fun _ _ _ h => h) (Or.inl ⟨by rfl, ?_⟩) ?_ ?_
                    rotate_left
                    · intro w'
                      go_simp
                      with_reducible rfl
                    rotate_left
                    · simp only [Act.put, List.setIfInBounds_toArray, List.set_cons_zero, List.set_cons_succ, i64_w, i32_w]
                      rfl
                    refine pure_ (i := 4) (N := some 68) (v := ?_) (a' := ?_) #[true, true, true, true, true, false, false, false, false, false, false, false, false, false, false, false, false, false, false, false, false, false, false, false, false] rfl rfl (any_of HT_.out (by kernel_rfl)) (fun _ _ _ h => h) (Or.inl ⟨by rfl, ?_⟩) ?_ ?_
                    rotate_left
                    · intro w'
                      go_simp
                      with_reducible rfl
                    rotate_left
                    · simp only [Act.put, List.setIfInBounds_toArray, List.set_cons_zero, List.set_cons_succ, i64_w, i32_w]
                      rfl
                    refine pure_ (i := 5) (N := some 69) (v := ?_) (a' := ?_) #[true, true, true, true, true, true, false, false, false, false, false, false, false, false, false, false, false, false, false, false, false, false, false, false, false] rfl rfl (any_of HT_.out (by kernel_rfl)) (fun _ _ _ h => h) (Or.inl ⟨by rfl, ?_⟩) ?_ ?_
                    rotate_left
                    · intro w'
                      go_simp
                      with_reducible rfl
                    rotate_left
                    · simp only [Act.put, List.setIfInBounds_toArray, List.set_cons_zero, List.set_cons_succ, i64_w, i32_w]
                      rfl
                    refine pure_ (i := 6) (N := some 70) (v := ?_) (a' := ?_) #[true, true, true, true, true, true, true, false, false, false, false, false, false, false, false, false, false, false, false, false, false, false, false, false, false] rfl rfl (any_of HT_.out (by kernel_rfl)) (fun _ _ _ h => h) (Or.inl ⟨by rfl, ?_⟩) ?_ ?_
                    rotate_left
                    · intro w'
                      go_simp
                      with_reducible rfl
                    rotate_left
                    · simp only [Act.put, List.setIfInBounds_toArray, List.set_cons_zero, List.set_cons_succ, i64_w, i32_w]
                      rfl
                    refine pure_ (i := 7) (N := some 71) (v := ?_) (a' := ?_) #[true, true, true, true, true, true, true, true, false, false, false, false, false, false, false, false, false, false, false, false, false, false, false, false, false] rfl rfl (any_of HT_.out (by kernel_rfl)) (fun _ _ _ h => h) (Or.inl ⟨by rfl, ?_⟩) ?_ ?_
                    rotate_left
                    · intro w'
                      go_simp
                      with_reducible rfl
                    rotate_left
                    · simp only [Act.put, List.setIfInBounds_toArray, List.set_cons_zero, List.set_cons_succ, i64_w, i32_w]
                      rfl
                    refine pure_ (i := 8) (N := some 72) (v := ?_) (a' := ?_) #[true, true, true, true, true, true, true, true, true, false, false, false, false, false, false, false, false, false, false, false, false, false, false, false, false] rfl rfl (any_of HT_.out (by kernel_rfl)) (fun _ _ _ h => h) (Or.inl ⟨by rfl, ?_⟩) ?_ ?_
                    rotate_left
                    · intro w'
                      go_simp
                      with_reducible rfl
                    rotate_left
                    · simp only [Act.put, List.setIfInBounds_toArray, List.set_cons_zero, List.set_cons_succ, i64_w, i32_w]
                      rfl
                    refine pure_ (i := 9) (N := some 73) (v := ?_) (a' := ?_) #[true, true, true, true, true, true, true, true, true, true, false, false, false, false, false, false, false, false, false, false, false, false, false, false, false] rfl rfl (any_of HT_.out (by kernel_rfl)) (fun _ _ _ h => h) (Or.inl ⟨by rfl, ?_⟩) ?_ ?_
                    rotate_left
                    · intro w'
                      go_simp
                      with_reducible rfl
                    rotate_left
                    · simp only [Act.put, List.setIfInBounds_toArray, List.set_cons_zero, List.set_cons_succ, i64_w, i32_w]
                      rfl
                    refine pure_ (i := 11) (N := some 75) (v := ?_) (a' := ?_) #[true, true, true, true, true, true, true, true, true, true, false, true, false, false, false, false, false, false, false, false, false, false, false, false, false] rfl rfl (any_of HT_.out (by kernel_rfl)) (fun _ _ _ h => h) (Or.inl ⟨by rfl, ?_⟩) ?_ ?_
                    rotate_left
                    · intro w'
                      go_simp
                      with_reducible rfl
                    rotate_left
                    · simp only [Act.put, List.setIfInBounds_toArray, List.set_cons_zero, List.set_cons_succ, i64_w, i32_w]
                      rfl
                    refine pure_ (i := 12) (N := some 76) (v := ?_) (a' := ?_) #[true, true, true, true, true, true, true, true, true, true, false, true, true, false, false, false, false, false, false, false, false, false, false, false, false] rfl rfl (any_of HT_.out (by kernel_rfl)) (fun _ _ _ h => h) (Or.inl ⟨by rfl, ?_⟩) ?_ ?_
                    rotate_left
                    · intro w'
                      go_simp
                      with_reducible rfl
                    rotate_left
                    · simp only [Act.put, List.setIfInBounds_toArray, List.set_cons_zero, List.set_cons_succ, i64_w, i32_w]
                      rfl
                    refine pure_ (i := 13) (N := some 77) (v := ?_) (a' := ?_) #[true, true, true, true, true, true, true, true, true, true, false, true, true, true, false, false, false, false, false, false, false, false, false, false, false] rfl rfl (any_of HT_.out (by kernel_rfl)) (fun _ _ _ h => h) (Or.inl ⟨by rfl, ?_⟩) ?_ ?_
                    rotate_left
                    · intro w'
                      go_simp
                      with_reducible rfl
                    rotate_left
                    · simp only [Act.put, List.setIfInBounds_toArray, List.set_cons_zero, List.set_cons_succ, i64_w, i32_w]
                      rfl
                    refine pure_ (i := 14) (N := some 78) (v := ?_) (a' := ?_) #[true, true, true, true, true, true, true, true, true, true, false, true, true, true, true, false, false, false, false, false, false, false, false, false, false] rfl rfl (any_of HT_.out (by kernel_rfl)) (fun _ _ _ h => h) (Or.inl ⟨by rfl, ?_⟩) ?_ ?_
                    rotate_left
                    · intro w'
                      go_simp
                      with_reducible rfl
                    rotate_left
                    · simp only [Act.put, List.setIfInBounds_toArray, List.set_cons_zero, List.set_cons_succ, i64_w, i32_w]
                      rfl
                    refine pure_ (i := 15) (N := some 79) (v := ?_) (a' := ?_) #[true, true, true, true, true, true, true, true, true, true, false, true, true, true, true, true, false, false, false, false, false, false, false, false, false] rfl rfl (any_of HT_.out (by kernel_rfl)) (fun _ _ _ h => h) (Or.inl ⟨by rfl, ?_⟩) ?_ ?_
                    rotate_left
                    · intro w'
                      go_simp
                      with_reducible rfl
                    rotate_left
                    · simp only [Act.put, List.setIfInBounds_toArray, List.set_cons_zero, List.set_cons_succ, i64_w, i32_w]
                      rfl
                    refine pure_ (i := 16) (N := some 80) (v := ?_) (a' := ?_) #[true, true, true, true, true, true, true, true, true, true, false, true, true, true, true, true, true, false, false, false, false, false, false, false, false] rfl rfl (any_of HT_.out (by kernel_rfl)) (fun _ _ _ h => h) (Or.inl ⟨by rfl, ?_⟩) ?_ ?_
                    rotate_left
                    · intro w'
                      go_simp
                      with_reducible rfl
                    rotate_left
                    · simp only [Act.put, List.setIfInBounds_toArray, List.set_cons_zero, List.set_cons_succ, i64_w, i32_w]
                      rfl
                    refine take_ (i := 10) (N := some 74) (v := ?_) (a' := ?_) #[true, true, true, true, true, true, true, true, true, true, true, true, true, true, true, true, true, false, false, false, false, false, false, false, false] rfl rfl (take_ofW HT_.out HW_.out (by kernel_rfl)) (fun _ _ _ h => h) (Or.inl ⟨by rfl, ?_⟩) hHeld ?_ ?_
                    rotate_left
                    · rintro w' ⟨s0, s1, s2, s3, s4, s5, s6, s7, s8, s9, s10, s11, s12, s13, s14, s15, s16, s17, s18, s19, s20, s21⟩
                      go_simp
                      with_reducible rfl
                    rotate_left
                    · simp only [Act.put, List.setIfInBounds_toArray, List.set_cons_zero, List.set_cons_succ, i64_w, i32_w]
                      rfl
                    refine take_ (i := 17) (N := some 81) (v := ?_) (a' := ?_) #[true, true, true, true, true, true, true, true, true, true, true, true, true, true, true, true, true, true, false, false, false, false, false, false, false] rfl rfl (take_ofW HT_.out HW_.out (by kernel_rfl)) (fun _ _ _ h => h) (Or.inl ⟨by rfl, ?_⟩) hHeld ?_ ?_
                    rotate_left
                    · rintro w' ⟨s0, s1, s2, s3, s4, s5, s6, s7, s8, s9, s10, s11, s12, s13, s14, s15, s16, s17, s18, s19, s20, s21⟩
                      go_simp
                      with_reducible rfl
                    rotate_left
                    · simp only [Act.put, List.setIfInBounds_toArray, List.set_cons_zero, List.set_cons_succ, i64_w, i32_w]
                      rfl
                    refine one_ (i := 18) (N := some 82) #[true, true, true, true, true, true, true, true, true, true, true, true, true, true, true, true, true, true, true, false, false, false, false, false, false] rfl rfl (one_of HT_.out (by kernel_rfl)) (by decide) (fun K hK => ?_)
                    refine Kd.R_lit_step (Kd.int .i64) _ 3 ?hg (N := 82) ?hd (xs := ([(rd_T122 y116 (ji22)).f0.f3.f1, (rd_T122 y116 x8_2).f0.f2.f1] : List Int)) (inner := [.int .i64 ((rd_T122 y116 (ji22)).f0.f3.f1), .int .i64 ((rd_T122 y116 x8_2).f0.f2.f1)]) (ok := fun _ => True) (okp := fun _ => True) ?hr ?hp (fun _ hk => hk) trivial (Below.refl _ _) (Nat.le_refl _) (by simp) ?_; (case hd => rfl); (case hg => rfl); (case hr => first | (go_simp; done) | (go_simp; rfl)); (case hp => exact (Reps.one (show Kd.M (Kd.int .i64) _ _ _ ((rd_T122 y116 (ji22)).f0.f3.f1) [.int .i64 ((rd_T122 y116 (ji22)).f0.f3.f1)] from rfl) (Reps.one (show Kd.M (Kd.int .i64) _ _ _ ((rd_T122 y116 x8_2).f0.f2.f1) [.int .i64 ((rd_T122 y116 x8_2).f0.f2.f1)] from rfl) (Reps.none _ _))))
                    intro v120 w38 ho39 hb hg_ hnew_
                    have HS0_ := (hb.cell (World.block_lt_of_cell? _ _ (hHeld.1))).trans (hHeld.1)
                    have HS1_ := (hb.cell (World.block_lt_of_cell? _ _ (hHeld.2.1))).trans (hHeld.2.1)
                    have HS2_ := (hb.cell (World.block_lt_of_cell? _ _ (hHeld.2.2.1))).trans (hHeld.2.2.1)
                    have HS3_ := (hb.cell (World.block_lt_of_cell? _ _ (hHeld.2.2.2.1))).trans (hHeld.2.2.2.1)
                    have HS4_ := (hb.cell (World.block_lt_of_cell? _ _ (hHeld.2.2.2.2.1))).trans (hHeld.2.2.2.2.1)
                    have HS5_ := (hb.cell (World.block_lt_of_cell? _ _ (hHeld.2.2.2.2.2.1))).trans (hHeld.2.2.2.2.2.1)
                    have HS6_ := (hb.cell (World.block_lt_of_cell? _ _ (hHeld.2.2.2.2.2.2.1))).trans (hHeld.2.2.2.2.2.2.1)
                    have HS7_ := (hb.cell (World.block_lt_of_cell? _ _ (hHeld.2.2.2.2.2.2.2.1))).trans (hHeld.2.2.2.2.2.2.2.1)
                    have HS8_ := (hb.cell (World.block_lt_of_cell? _ _ (hHeld.2.2.2.2.2.2.2.2.1))).trans (hHeld.2.2.2.2.2.2.2.2.1)
                    have HS9_ := (hb.cell (World.block_lt_of_cell? _ _ (hHeld.2.2.2.2.2.2.2.2.2.1))).trans (hHeld.2.2.2.2.2.2.2.2.2.1)
                    have HS10_ := (hb.cell (World.block_lt_of_cell? _ _ (hHeld.2.2.2.2.2.2.2.2.2.2.1))).trans (hHeld.2.2.2.2.2.2.2.2.2.2.1)
                    have HS11_ := (hb.cell (World.block_lt_of_cell? _ _ (hHeld.2.2.2.2.2.2.2.2.2.2.2.1))).trans (hHeld.2.2.2.2.2.2.2.2.2.2.2.1)
                    have HS12_ := (hb.cell (World.block_lt_of_cell? _ _ (hHeld.2.2.2.2.2.2.2.2.2.2.2.2.1))).trans (hHeld.2.2.2.2.2.2.2.2.2.2.2.2.1)
                    have HS13_ := (hb.cell (World.block_lt_of_cell? _ _ (hHeld.2.2.2.2.2.2.2.2.2.2.2.2.2.1))).trans (hHeld.2.2.2.2.2.2.2.2.2.2.2.2.2.1)
                    have HS14_ := (hb.cell (World.block_lt_of_cell? _ _ (hHeld.2.2.2.2.2.2.2.2.2.2.2.2.2.2.1))).trans (hHeld.2.2.2.2.2.2.2.2.2.2.2.2.2.2.1)
                    have HS15_ := (hb.cell (World.block_lt_of_cell? _ _ (hHeld.2.2.2.2.2.2.2.2.2.2.2.2.2.2.2.1))).trans (hHeld.2.2.2.2.2.2.2.2.2.2.2.2.2.2.2.1)
                    have HS16_ := (hb.cell (World.block_lt_of_cell? _ _ (hHeld.2.2.2.2.2.2.2.2.2.2.2.2.2.2.2.2.1))).trans (hHeld.2.2.2.2.2.2.2.2.2.2.2.2.2.2.2.2.1)
                    have HS17_ := (hb.cell (World.block_lt_of_cell? _ _ (hHeld.2.2.2.2.2.2.2.2.2.2.2.2.2.2.2.2.2.1))).trans (hHeld.2.2.2.2.2.2.2.2.2.2.2.2.2.2.2.2.2.1)
                    have HS18_ := (hb.cell (World.block_lt_of_cell? _ _ (hHeld.2.2.2.2.2.2.2.2.2.2.2.2.2.2.2.2.2.2.1))).trans (hHeld.2.2.2.2.2.2.2.2.2.2.2.2.2.2.2.2.2.2.1)
                    have HS19_ := (hb.cell (World.block_lt_of_cell? _ _ (hHeld.2.2.2.2.2.2.2.2.2.2.2.2.2.2.2.2.2.2.2.1))).trans (hHeld.2.2.2.2.2.2.2.2.2.2.2.2.2.2.2.2.2.2.2.1)
                    have HS20_ := (hb.cell (World.block_lt_of_cell? _ _ (hHeld.2.2.2.2.2.2.2.2.2.2.2.2.2.2.2.2.2.2.2.2.1))).trans (hHeld.2.2.2.2.2.2.2.2.2.2.2.2.2.2.2.2.2.2.2.2.1)
                    have HS21_ := (hb.cell (World.block_lt_of_cell? _ _ (hHeld.2.2.2.2.2.2.2.2.2.2.2.2.2.2.2.2.2.2.2.2.2))).trans (hHeld.2.2.2.2.2.2.2.2.2.2.2.2.2.2.2.2.2.2.2.2.2)
                    clear hg_ hnew_
                    (first | rw [← Ny119.out] at ho39 | (simp only [Int.reduceToNat] at ho39; rw [← Ny119.out] at ho39))
                    have n0_ := Aside0.mk (Kd.R_below (by (with_reducible repeat (first | apply Kd.R_alloc | apply Kd.R_drewN | apply Kd.R_drew)); exact HO_5.out) hb)
                    have n1_ := Aside0.mk (Kd.R_elder' (by (with_reducible repeat (first | apply Kd.R_alloc | apply Kd.R_drewN | apply Kd.R_drew)); exact HO114.out) (Kd.R_base ho39) hb)
                    have n2_ := Aside0.mk (Kd.R_lower (Kd.R_new' ho39 (Kd.R_lt (by (with_reducible repeat (first | apply Kd.R_alloc | apply Kd.R_drewN | apply Kd.R_drew)); exact HO114.out))) (below_size (by repeat (first | (with_reducible first | exact HB.out | apply below_alloc | apply pw_below_drewN | apply below_drew1 | refine below_set ?_ GE101.out) | exact HB.out))))
                    have n3_ := Aside0.mk (blk_below (g := gb101) (o := .cells #[.int .i64 a0_0, .int .i64 a0_1, .slice A0_2 l0_2.length c0_2, .slice A0_3 l0_3.length c0_3] 35 (0, 0)) (by (with_reducible repeat (first | refine blk_drewN ?_ _ | refine blk_drew ?_ | refine blk_alloc ?_ _)); exact BK101.out) hb)
                    have n4_ := Aside0.mk (below_step (by repeat (first | (with_reducible first | exact HB.out | apply below_alloc | apply pw_below_drewN | apply below_drew1 | refine below_set ?_ GE101.out) | exact HB.out)) hb)
                    clear HO_5
                    clear HO114
                    clear BK101
                    clear HB
                    have HO_5 := n0_
                    have HO114 := n1_
                    have HO121 := n2_
                    have BK101 := n3_
                    have HB := n4_
                    clear n0_ n1_ n2_ n3_ n4_
                    clear hb ho39
                    obtain ⟨Ao40, co40, eo40⟩ := Kd.R_slice HO121.out
                    (first | subst eo40 | (injection eo40 with f1_ f2_ f3_; have f4_ := f1_.symm; have f5_ := f3_.symm; clear f1_ f2_ f3_; subst f4_; subst f5_))
                    refine hK.out _ _ ⟨HS0_, HS1_, HS2_, HS3_, HS4_, HS5_, HS6_, HS7_, HS8_, HS9_, HS10_, HS11_, HS12_, HS13_, HS14_, HS15_, HS16_, HS17_, HS18_, HS19_, HS20_, HS21_⟩ (fun hHeld => ?_)
                    clear hK K
                    refine norm_ (a' := ?_) ?_ ?_
                    rotate_left
                    · show Act.put _ (some 82) _ = _
                      simp only [Act.put, List.setIfInBounds_toArray, List.set_cons_zero, List.set_cons_succ, i64_w, i32_w]
                      rfl
                    refine one_ (i := 19) (N := some 83) #[true, true, true, true, true, true, true, true, true, true, true, true, true, true, true, true, true, true, true, true, false, false, false, false, false] rfl rfl (one_of HT_.out (by kernel_rfl)) (by decide) (fun K hK => ?_)
                    refine goes_ Try.func80 (by kernel_rfl) rfl #[.slice Ao40 y119.length co40] (by rfl) rfl rfl (by (try simp only [List.map_toArray, List.map_cons, List.map_nil]); first | done | rfl | (simp only [List.length_drop, List.length_take]; rfl)) ?_
                    with_reducible refine (office_earliest.calls _ _ y119 t122 _ ?side1 ?side2 A27.out).mono ?_
                    (case side1 => repeat (first | exact (Kd.R_reads' HO121.out).2.2 | (with_reducible refine Kd.C_alloc ?_ _) | (with_reducible refine Kd.C_drewN ?_ _) | (with_reducible refine Kd.C_drew ?_)))
                    (case side2 => exact (Kd.R_reads' HO121.out).2.1)
                    rintro e w41 ⟨rfl, hb⟩
                    have HS0_ := (hb.cell (World.block_lt_of_cell? _ _ (hHeld.1))).trans (hHeld.1)
                    have HS1_ := (hb.cell (World.block_lt_of_cell? _ _ (hHeld.2.1))).trans (hHeld.2.1)
                    have HS2_ := (hb.cell (World.block_lt_of_cell? _ _ (hHeld.2.2.1))).trans (hHeld.2.2.1)
                    have HS3_ := (hb.cell (World.block_lt_of_cell? _ _ (hHeld.2.2.2.1))).trans (hHeld.2.2.2.1)
                    have HS4_ := (hb.cell (World.block_lt_of_cell? _ _ (hHeld.2.2.2.2.1))).trans (hHeld.2.2.2.2.1)
                    have HS5_ := (hb.cell (World.block_lt_of_cell? _ _ (hHeld.2.2.2.2.2.1))).trans (hHeld.2.2.2.2.2.1)
                    have HS6_ := (hb.cell (World.block_lt_of_cell? _ _ (hHeld.2.2.2.2.2.2.1))).trans (hHeld.2.2.2.2.2.2.1)
                    have HS7_ := (hb.cell (World.block_lt_of_cell? _ _ (hHeld.2.2.2.2.2.2.2.1))).trans (hHeld.2.2.2.2.2.2.2.1)
                    have HS8_ := (hb.cell (World.block_lt_of_cell? _ _ (hHeld.2.2.2.2.2.2.2.2.1))).trans (hHeld.2.2.2.2.2.2.2.2.1)
                    have HS9_ := (hb.cell (World.block_lt_of_cell? _ _ (hHeld.2.2.2.2.2.2.2.2.2.1))).trans (hHeld.2.2.2.2.2.2.2.2.2.1)
                    have HS10_ := (hb.cell (World.block_lt_of_cell? _ _ (hHeld.2.2.2.2.2.2.2.2.2.2.1))).trans (hHeld.2.2.2.2.2.2.2.2.2.2.1)
                    have HS11_ := (hb.cell (World.block_lt_of_cell? _ _ (hHeld.2.2.2.2.2.2.2.2.2.2.2.1))).trans (hHeld.2.2.2.2.2.2.2.2.2.2.2.1)
                    have HS12_ := (hb.cell (World.block_lt_of_cell? _ _ (hHeld.2.2.2.2.2.2.2.2.2.2.2.2.1))).trans (hHeld.2.2.2.2.2.2.2.2.2.2.2.2.1)
                    have HS13_ := (hb.cell (World.block_lt_of_cell? _ _ (hHeld.2.2.2.2.2.2.2.2.2.2.2.2.2.1))).trans (hHeld.2.2.2.2.2.2.2.2.2.2.2.2.2.1)
                    have HS14_ := (hb.cell (World.block_lt_of_cell? _ _ (hHeld.2.2.2.2.2.2.2.2.2.2.2.2.2.2.1))).trans (hHeld.2.2.2.2.2.2.2.2.2.2.2.2.2.2.1)
                    have HS15_ := (hb.cell (World.block_lt_of_cell? _ _ (hHeld.2.2.2.2.2.2.2.2.2.2.2.2.2.2.2.1))).trans (hHeld.2.2.2.2.2.2.2.2.2.2.2.2.2.2.2.1)
                    have HS16_ := (hb.cell (World.block_lt_of_cell? _ _ (hHeld.2.2.2.2.2.2.2.2.2.2.2.2.2.2.2.2.1))).trans (hHeld.2.2.2.2.2.2.2.2.2.2.2.2.2.2.2.2.1)
                    have HS17_ := (hb.cell (World.block_lt_of_cell? _ _ (hHeld.2.2.2.2.2.2.2.2.2.2.2.2.2.2.2.2.2.1))).trans (hHeld.2.2.2.2.2.2.2.2.2.2.2.2.2.2.2.2.2.1)
                    have HS18_ := (hb.cell (World.block_lt_of_cell? _ _ (hHeld.2.2.2.2.2.2.2.2.2.2.2.2.2.2.2.2.2.2.1))).trans (hHeld.2.2.2.2.2.2.2.2.2.2.2.2.2.2.2.2.2.2.1)
                    have HS19_ := (hb.cell (World.block_lt_of_cell? _ _ (hHeld.2.2.2.2.2.2.2.2.2.2.2.2.2.2.2.2.2.2.2.1))).trans (hHeld.2.2.2.2.2.2.2.2.2.2.2.2.2.2.2.2.2.2.2.1)
                    have HS20_ := (hb.cell (World.block_lt_of_cell? _ _ (hHeld.2.2.2.2.2.2.2.2.2.2.2.2.2.2.2.2.2.2.2.2.1))).trans (hHeld.2.2.2.2.2.2.2.2.2.2.2.2.2.2.2.2.2.2.2.2.1)
                    have HS21_ := (hb.cell (World.block_lt_of_cell? _ _ (hHeld.2.2.2.2.2.2.2.2.2.2.2.2.2.2.2.2.2.2.2.2.2))).trans (hHeld.2.2.2.2.2.2.2.2.2.2.2.2.2.2.2.2.2.2.2.2.2)
                    refine ⟨_, rfl, ?_⟩
                    have n0_ := Aside0.mk (Kd.R_below (by (with_reducible repeat (first | apply Kd.R_alloc | apply Kd.R_drewN | apply Kd.R_drew)); exact HO_5.out) hb)
                    have n1_ := Aside0.mk (Kd.R_below (by (with_reducible repeat (first | apply Kd.R_alloc | apply Kd.R_drewN | apply Kd.R_drew)); exact HO114.out) hb)
                    have n2_ := Aside0.mk (Kd.R_below (by (with_reducible repeat (first | apply Kd.R_alloc | apply Kd.R_drewN | apply Kd.R_drew)); exact HO121.out) hb)
                    have n3_ := Aside0.mk (blk_below (g := gb101) (o := .cells #[.int .i64 a0_0, .int .i64 a0_1, .slice A0_2 l0_2.length c0_2, .slice A0_3 l0_3.length c0_3] 35 (0, 0)) (by (with_reducible repeat (first | refine blk_drewN ?_ _ | refine blk_drew ?_ | refine blk_alloc ?_ _)); exact BK101.out) hb)
                    have n4_ := Aside0.mk (below_step (by repeat (first | (with_reducible first | exact HB.out | apply below_alloc | apply pw_below_drewN | apply below_drew1 | refine below_set ?_ GE101.out) | exact HB.out)) hb)
                    clear HO_5
                    clear HO114
                    clear HO121
                    clear BK101
                    clear HB
                    have HO_5 := n0_
                    have HO114 := n1_
                    have HO121 := n2_
                    have BK101 := n3_
                    have HB := n4_
                    clear n0_ n1_ n2_ n3_ n4_
                    (try clear hb)
                    (try clear hb2)
                    (try clear hk)
                    (try clear hi)
                    have p28 : 0 ≤ ((ji22) : Int) := of_decide_eq_true (by first | (with_reducible assumption) | assumption)
                    have q28 : ((ji22) : Int) < ((x5_2.length : Int) : Int) := of_decide_eq_true (by first | (with_reducible assumption) | assumption)
                    obtain ⟨ce28, hcl28, hM28, hcc28, hfr28⟩ := Kd.R_elem HO_5.out z122 ((ji22) : Int) p28 q28
                    obtain rfl := k122_openM hM28
                    have hx28_0 : World.cell? _ ⟨go26, ((ji22) : Int).toNat * 11, none⟩ = some (.int .i64 ((rd_T122 y116 (ji22)).f0.f0)) := hcc28 0 _ rfl
                    have hx28_1 : World.cell? _ ⟨go26, ((ji22) : Int).toNat * 11 + 1, none⟩ = some (.int .i64 ((rd_T122 y116 (ji22)).f0.f1)) := hcc28 1 _ rfl
                    have hx28_2 : World.cell? _ ⟨go26, ((ji22) : Int).toNat * 11 + 2, none⟩ = some (.int .i64 ((rd_T122 y116 (ji22)).f0.f2.f0)) := hcc28 2 _ rfl
                    have hx28_3 : World.cell? _ ⟨go26, ((ji22) : Int).toNat * 11 + 3, none⟩ = some (.int .i64 ((rd_T122 y116 (ji22)).f0.f2.f1)) := hcc28 3 _ rfl
                    have hx28_4 : World.cell? _ ⟨go26, ((ji22) : Int).toNat * 11 + 4, none⟩ = some (.int .i64 ((rd_T122 y116 (ji22)).f0.f3.f0)) := hcc28 4 _ rfl
                    have hx28_5 : World.cell? _ ⟨go26, ((ji22) : Int).toNat * 11 + 5, none⟩ = some (.int .i64 ((rd_T122 y116 (ji22)).f0.f3.f1)) := hcc28 5 _ rfl
                    have hx28_6 : World.cell? _ ⟨go26, ((ji22) : Int).toNat * 11 + 6, none⟩ = some (.int .i64 ((rd_T122 y116 (ji22)).f1)) := hcc28 6 _ rfl
                    have hx28_7 : World.cell? _ ⟨go26, ((ji22) : Int).toNat * 11 + 7, none⟩ = some (.int .i64 ((rd_T122 y116 (ji22)).f2.f0.f0)) := hcc28 7 _ rfl
                    have hx28_8 : World.cell? _ ⟨go26, ((ji22) : Int).toNat * 11 + 8, none⟩ = some (.int .i64 ((rd_T122 y116 (ji22)).f2.f0.f1)) := hcc28 8 _ rfl
                    have hx28_9 : World.cell? _ ⟨go26, ((ji22) : Int).toNat * 11 + 9, none⟩ = some (.int .i64 ((rd_T122 y116 (ji22)).f2.f1.f0)) := hcc28 9 _ rfl
                    have hx28_10 : World.cell? _ ⟨go26, ((ji22) : Int).toNat * 11 + 10, none⟩ = some (.int .i64 ((rd_T122 y116 (ji22)).f2.f1.f1)) := hcc28 10 _ rfl
                    have hf28_0 : World.frozen? _ ⟨go26, ((ji22) : Int).toNat * 11, none⟩ = false := hfr28 0
                    have hf28_1 : World.frozen? _ ⟨go26, ((ji22) : Int).toNat * 11 + 1, none⟩ = false := hfr28 1
                    have hf28_2 : World.frozen? _ ⟨go26, ((ji22) : Int).toNat * 11 + 2, none⟩ = false := hfr28 2
                    have hf28_3 : World.frozen? _ ⟨go26, ((ji22) : Int).toNat * 11 + 3, none⟩ = false := hfr28 3
                    have hf28_4 : World.frozen? _ ⟨go26, ((ji22) : Int).toNat * 11 + 4, none⟩ = false := hfr28 4
                    have hf28_5 : World.frozen? _ ⟨go26, ((ji22) : Int).toNat * 11 + 5, none⟩ = false := hfr28 5
                    have hf28_6 : World.frozen? _ ⟨go26, ((ji22) : Int).toNat * 11 + 6, none⟩ = false := hfr28 6
                    have hf28_7 : World.frozen? _ ⟨go26, ((ji22) : Int).toNat * 11 + 7, none⟩ = false := hfr28 7
                    have hf28_8 : World.frozen? _ ⟨go26, ((ji22) : Int).toNat * 11 + 8, none⟩ = false := hfr28 8
                    have hf28_9 : World.frozen? _ ⟨go26, ((ji22) : Int).toNat * 11 + 9, none⟩ = false := hfr28 9
                    have hf28_10 : World.frozen? _ ⟨go26, ((ji22) : Int).toNat * 11 + 10, none⟩ = false := hfr28 10
                    clear hcl28 hcc28 hfr28 hM28
                    replace p28 := eq_true p28
                    replace q28 := eq_true q28
                    obtain ⟨ce42, hcl42, hM42, hcc42, hfr42⟩ := Kd.R_elem HO_5.out z122 ((ji22) : Int) (of_decide_eq_true (by first | (with_reducible assumption) | assumption)) (by have h_ : ((ji22) : Int) < ((x5_2.length : Int) : Int) := of_decide_eq_true (by first | (with_reducible assumption) | assumption); first | exact h_ | (have e_ := (Kd.R_reads' HO_5.out).1; omega) | simpa using h_)
                    obtain rfl := k122_openM hM42
                    have HP42 := (Kd.R_seg HO_5.out ((ji22) : Int) (of_decide_eq_true (by first | (with_reducible assumption) | assumption)) (by have h_ : ((ji22) : Int) < ((x5_2.length : Int) : Int) := of_decide_eq_true (by first | (with_reducible assumption) | assumption); first | exact h_ | (have e_ := (Kd.R_reads' HO_5.out).1; omega) | simpa using h_) (seg := [.int .i64 t122]) (j := 10) hcl42 hcc42 (show 11 ≤ 11 from by decide) (x' := (⟨(⟨(rd_T122 y116 (ji22)).f0.f0, (rd_T122 y116 (ji22)).f0.f1, (⟨(rd_T122 y116 (ji22)).f0.f2.f0, (rd_T122 y116 (ji22)).f0.f2.f1⟩ : S49), (⟨(rd_T122 y116 (ji22)).f0.f3.f0, (rd_T122 y116 (ji22)).f0.f3.f1⟩ : S49)⟩ : S59), (rd_T122 y116 (ji22)).f1, (⟨(⟨(rd_T122 y116 (ji22)).f2.f0.f0, (rd_T122 y116 (ji22)).f2.f0.f1⟩ : S49), (⟨(rd_T122 y116 (ji22)).f2.f1.f0, t122⟩ : S49)⟩ : S51)⟩ : S122)) (k122_mkM _ _ _ (⟨(⟨(rd_T122 y116 (ji22)).f0.f0, (rd_T122 y116 (ji22)).f0.f1, (⟨(rd_T122 y116 (ji22)).f0.f2.f0, (rd_T122 y116 (ji22)).f0.f2.f1⟩ : S49), (⟨(rd_T122 y116 (ji22)).f0.f3.f0, (rd_T122 y116 (ji22)).f0.f3.f1⟩ : S49)⟩ : S59), (rd_T122 y116 (ji22)).f1, (⟨(⟨(rd_T122 y116 (ji22)).f2.f0.f0, (rd_T122 y116 (ji22)).f2.f0.f1⟩ : S49), (⟨(rd_T122 y116 (ji22)).f2.f1.f0, t122⟩ : S49)⟩ : S51)⟩ : S122) ) (fun _ hk => hk)).1
                    rw [← Ny123.out] at HP42
                    have HQ42 := Aside0.mk HP42
                    clear hcl42 hcc42 hfr42 hM42 HP42
                    refine hK.out _ _ ⟨HS0_, HS1_, HS2_, HS3_, HS4_, HS5_, HS6_, HS7_, HS8_, HS9_, HS10_, HS11_, HS12_, HS13_, HS14_, HS15_, HS16_, HS17_, HS18_, HS19_, HS20_, HS21_⟩ (fun hHeld => ?_)
                    clear hK K
                    refine norm_ (a' := ?_) ?_ ?_
                    rotate_left
                    · show Act.put _ (some 83) _ = _
                      simp only [Act.put, List.setIfInBounds_toArray, List.set_cons_zero, List.set_cons_succ, i64_w, i32_w]
                      rfl
                    refine pure_ (i := 20) (N := some 84) (v := ?_) (a' := ?_) #[true, true, true, true, true, true, true, true, true, true, true, true, true, true, true, true, true, true, true, true, true, false, false, false, false] rfl rfl (any_of HT_.out (by kernel_rfl)) (fun _ _ _ h => h) (Or.inl ⟨by rfl, ?_⟩) ?_ ?_
                    rotate_left
                    · intro w'
                      go_simp
                      with_reducible rfl
                    rotate_left
                    · simp only [Act.put, List.setIfInBounds_toArray, List.set_cons_zero, List.set_cons_succ, i64_w, i32_w]
                      rfl
                    refine pure_ (i := 21) (N := some 85) (v := ?_) (a' := ?_) #[true, true, true, true, true, true, true, true, true, true, true, true, true, true, true, true, true, true, true, true, true, true, false, false, false] rfl rfl (any_of HT_.out (by kernel_rfl)) (fun _ _ _ h => h) (Or.inl ⟨by rfl, ?_⟩) ?_ ?_
                    rotate_left
                    · intro w'
                      go_simp
                      with_reducible rfl
                    rotate_left
                    · simp only [Act.put, List.setIfInBounds_toArray, List.set_cons_zero, List.set_cons_succ, i64_w, i32_w]
                      rfl
                    refine pure_ (i := 22) (N := some 86) (v := ?_) (a' := ?_) #[true, true, true, true, true, true, true, true, true, true, true, true, true, true, true, true, true, true, true, true, true, true, true, false, false] rfl rfl (any_of HT_.out (by kernel_rfl)) (fun _ _ _ h => h) (Or.inl ⟨by rfl, ?_⟩) ?_ ?_
                    rotate_left
                    · intro w'
                      go_simp
                      with_reducible rfl
                    rotate_left
                    · simp only [Act.put, List.setIfInBounds_toArray, List.set_cons_zero, List.set_cons_succ, i64_w, i32_w]
                      rfl
                    refine pure_ (i := 23) (N := some 87) (v := ?_) (a' := ?_) #[true, true, true, true, true, true, true, true, true, true, true, true, true, true, true, true, true, true, true, true, true, true, true, true, false] rfl rfl (any_of HT_.out (by kernel_rfl)) (fun _ _ _ h => h) (Or.inl ⟨by rfl, ?_⟩) ?_ ?_
                    rotate_left
                    · intro w'
                      go_simp
                      with_reducible rfl
                    rotate_left
                    · simp only [Act.put, List.setIfInBounds_toArray, List.set_cons_zero, List.set_cons_succ, i64_w, i32_w]
                      rfl
                    refine last_ (i := 24) (N := none) #[true, true, true, true, true, true, true, true, true, true, true, true, true, true, true, true, true, true, true, true, true, true, true, true, true] rfl rfl (one_of HT_.out (by kernel_rfl)) (by decide) (fun K hK => ?_)
                    refine skip_ (w1 := ?_) (by rfl) rfl ?_ ?_
                    rotate_left
                    · go_simp
                      rfl
                    refine hK.out _ _ ?_
                    clear hK K
                    refine done_ (done_of HT_.out (by kernel_rfl)) ?_
                    try go_wp2
                    go_roundg k2
                    case measure => have := HK1.out; have := HK2.out; omega
                    case rel => exact ⟨(y123), (wrap64 (x8_2 + 1)), (by first | rfl | (simp; done) | (simp [*]; done)), H', ⟨by have := HK1.out; have := HK2.out; omega⟩, ⟨by (with_reducible repeat (first | apply Kd.R_alloc | apply Kd.R_drewN | apply Kd.R_drew)); exact HQ42.out⟩, ⟨by (with_reducible repeat (first | refine blk_drewN ?_ _ | refine blk_drew ?_ | refine blk_alloc ?_ _)); refine blk_far ?_ (by have h_ := Kd.R_ne HO_5.out BK101.out (by decide); intro e_; exact h_ (by rw [e_]; rfl)) _; (with_reducible repeat (first | refine blk_drewN ?_ _ | refine blk_drew ?_ | refine blk_alloc ?_ _)); exact BK101.out⟩, ⟨by repeat (first | (with_reducible first | exact HB.out | apply below_alloc | apply pw_below_drewN | apply below_drew1 | refine below_set ?_ GB26.out | refine below_set ?_ GE101.out) | exact HB.out)⟩⟩
                  · rw [if_neg c24] at H
                    exact absurd H (by simp)
                · rw [if_neg c23] at H
                  exact absurd H (by simp)
              · rw [if_neg c21] at H
                exact absurd H (by simp)
            · rw [if_neg c20] at H
              have c20b0 : decide (x8_2 < (x5_2.length : Int)) = false := decide_eq_false c20
              clear c20
              obtain rfl := Option.some.inj H
              obtain ⟨Ao41, co41, eo41⟩ := Kd.R_slice HO_5.out
              subst eo41
              go_wp2_with fail
              refine (values_calls _ _ _ _).mono ?_
              rintro e w20 ⟨rfl, rfl⟩
              have HBX := Aside0.mk (below_alloc (Below.refl wr.heap.size wr) (.cells #[.slice Ao41 x5_2.length co41] 145 (0, 0)))
              go_wp2
              go_ret
              exact ⟨_, wr.heap.size, rfl, by simp [World.alloc, -World.alloc_eq], HB.out.size, Kd.R_below HO_5.out HBX.out, below_then HB.out HB.out.size HBX.out⟩

end Go.Proofs.Ythpheknchikodaa.P
