/- Contracts of functions that the laws reach, part Xb13. Conditions: each theorem names its own. -/
import Derived.Test.YthpheknchikodaaXb1
import Derived.Test.YthpheknchikodaaXb7
import Derived.Test.YthpheknchikodaaXb10
import Derived.Test.YthpheknchikodaaXb11
import Derived.Test.YthpheknchikodaaXb12
import Derived.Test.YthpheknchikodaaXb5
-- Written for this claim by a program of this session (over the kit's print). Lean checks it.
namespace Go.Proofs.Ythpheknchikodaa.P
open Go.RowKit Go.Proofs.YthpheknchikodaaW.PrintWords Go.Proofs.YthpheknchikodaaW.PrintLast
set_option linter.unusedVariables false
set_option linter.unusedSimpArgs false

/-! ### palantypelaw05_ints: function 23 -/
def palantypelaw05_ints.l0 : Nat → List Int → List Int → Int → Option (Bool)
  | 0, _, _, _ => none
  | k + 1, x0, x1, x5 => if x5 < (x0.length : Int) then (if 0 ≤ x5 then (if x5 < (x1.length : Int) then (if (rd x0 x5) = (rd x1 x5) then (palantypelaw05_ints.l0 k x0 x1 (wrap64 (x5 + 1))) else (some false)) else (none)) else (none)) else (some true)
def palantypelaw05_ints.f (k : Nat) (l0 : List Int) (l1 : List Int) : Option (Bool) := if (l0.length : Int) = (l1.length : Int) then (palantypelaw05_ints.l0 k l0 l1 0) else (some false)
theorem palantypelaw05_ints.mono_l : ∀ k, (∀ y0 y1 y2, LeO (palantypelaw05_ints.l0 k y0 y1 y2) (palantypelaw05_ints.l0 (k + 1) y0 y1 y2))
  | 0 => fun _ _ _ r h => by simp [palantypelaw05_ints.l0] at h
  | k + 1 => by
    have ih0 := palantypelaw05_ints.mono_l k
    · intro y0 y1 y2
      unfold palantypelaw05_ints.l0
      repeat' first
      | (with_reducible exact ih0 _ _ _)
      | (with_reducible exact LeO.refl _)
      | (with_reducible exact LeO.none _)
      | (with_reducible refine LeO.ite ?_ ?_)
      | (with_reducible refine LeO.bind ?_ (fun _ => ?_))
      | exact ih0 _ _ _
      | exact LeO.none _
      | refine LeO.ite ?_ ?_
      | refine LeO.bind ?_ (fun _ => ?_)
theorem palantypelaw05_ints.mono : ∀ a0 a1 k, LeO (palantypelaw05_ints.f k a0 a1) (palantypelaw05_ints.f (k + 1) a0 a1) := by
  intro a0 a1 k
  have ih0 := palantypelaw05_ints.mono_l k
  unfold palantypelaw05_ints.f
  repeat' first
      | (with_reducible exact ih0 _ _ _)
      | (with_reducible exact LeO.refl _)
      | (with_reducible exact LeO.none _)
      | (with_reducible refine LeO.ite ?_ ?_)
      | (with_reducible refine LeO.bind ?_ (fun _ => ?_))
      | exact ih0 _ _ _
      | exact LeO.none _
      | refine LeO.ite ?_ ?_
      | refine LeO.bind ?_ (fun _ => ?_)
set_option maxHeartbeats 8000000 in
set_option maxRecDepth 100000 in
theorem palantypelaw05_ints.calls (k : Nat) (A0 : Option Addr) (c0 : Nat) (l0 : List Int) (A1 : Option Addr) (c1 : Nat) (l1 : List Int) (r : Bool) (w : World) (hr0 : Kd.C (Kd.int .i64) w A0 l0.length l0) (hc0 : l0.length ≤ c0) (hr1 : Kd.C (Kd.int .i64) w A1 l1.length l1) (hc1 : l1.length ≤ c1) (h : palantypelaw05_ints.f k l0 l1 = some r) :
    Calls Try.prog 23 #[.slice A0 l0.length c0, .slice A1 l1.length c1] w fun e w' => e = .returned (.bool r) ∧ Drawn0 w w' := by
  have HR0 := Aside0.mk hr0
  have HC0 := Aside0.mk hc0
  clear hr0 hc0
  have HR1 := Aside0.mk hr1
  have HC1 := Aside0.mk hc1
  clear hr1 hc1
  have H : (if (l0.length : Int) = (l1.length : Int) then (palantypelaw05_ints.l0 k l0 l1 0) else (some false)) = some r := h
  clear h
  by_cases c3 : (l0.length : Int) = (l1.length : Int)
  · rw [if_pos c3] at H
    have c3b0 : ((l0.length : Int) == (l1.length : Int)) = true := beq_iff_eq.mpr c3
    have c3b1 : ((l0.length : Int) != (l1.length : Int)) = false := bne_eq_false_iff_eq.mpr c3
    have c3b2 : (l0.length == l1.length) = true := by first | simpa using c3 | (simp at c3 ⊢; omega)
    clear c3
    have H' := Aside0.mk H
    clear H
    go_enter Try.func23, Try.ntmps23
    go_wp2
    repeat (go_quiet (fail); try go_wp2)
    go_loopg [5] k (fun kq v5 w' => ∃ (x5_1 : Int), v5 = .int .i64 x5_1 ∧ Aside0 (palantypelaw05_ints.l0 kq l0 l1 x5_1 = some r) ∧ Aside0 (kq ≤ k) ∧ Drawn0 w w')
    case atStart => exact ⟨(0), (by first | rfl | (simp; done) | (simp [*]; done)), H', ⟨Nat.le_refl _⟩, by repeat (first | exact Drawn0.refl _ | apply Drawn0.step)⟩
    case round =>
      clear H'
      try clear c1
      try clear c2
      try clear p2
      try clear c3
      try clear c3b0
      try clear c3b1
      try clear c3b2
      obtain ⟨x5_1, rfl, HA, HK1, ⟨m1, rfl⟩⟩ := hrel
      cases gk with
      | zero => exact absurd HA.out (by simp [palantypelaw05_ints.l0])
      | succ k1 =>
        have H := HA.out
        clear HA
        simp only [palantypelaw05_ints.l0] at H
        by_cases c4 : x5_1 < (l0.length : Int)
        · rw [if_pos c4] at H
          have c4b0 : decide (x5_1 < (l0.length : Int)) = true := decide_eq_true c4
          clear c4
          by_cases c5 : 0 ≤ x5_1
          · rw [if_pos c5] at H
            have c5b0 : decide (0 ≤ x5_1) = true := decide_eq_true c5
            clear c5
            by_cases c6 : x5_1 < (l1.length : Int)
            · rw [if_pos c6] at H
              have c6b0 : decide (x5_1 < (l1.length : Int)) = true := decide_eq_true c6
              clear c6
              by_cases c7 : (rd l0 x5_1) = (rd l1 x5_1)
              · rw [if_pos c7] at H
                have c7b0 : ((rd l0 x5_1) == (rd l1 x5_1)) = true := beq_iff_eq.mpr c7
                have c7b1 : ((rd l0 x5_1) != (rd l1 x5_1)) = false := bne_eq_false_iff_eq.mpr c7
                clear c7
                have H' := Aside0.mk H
                clear H
                have p101 : 0 ≤ (x5_1 : Int) := of_decide_eq_true (by first | (with_reducible assumption) | assumption)
                have q101 : x5_1 < (l0.length : Int) := of_decide_eq_true (by first | (with_reducible assumption) | assumption)
                obtain ⟨ad101, e101, hx101_0⟩ := Kd.at_int HR0.out x5_1 p101 q101
                cases e101
                replace p101 := eq_true p101
                replace q101 := eq_true q101
                have p102 : 0 ≤ (x5_1 : Int) := of_decide_eq_true (by first | (with_reducible assumption) | assumption)
                have q102 : x5_1 < (l1.length : Int) := of_decide_eq_true (by first | (with_reducible assumption) | assumption)
                obtain ⟨ad102, e102, hx102_0⟩ := Kd.at_int HR1.out x5_1 p102 q102
                cases e102
                replace p102 := eq_true p102
                replace q102 := eq_true q102
                go_wp2
                repeat (go_quiet (fail); try go_wp2)
                go_roundg k1
                case measure => have := HK1.out; omega
                case rel => exact ⟨(wrap64 (x5_1 + 1)), (by first | rfl | (simp; done) | (simp [*]; done)), H', ⟨by have := HK1.out; omega⟩, by repeat (first | exact Drawn0.refl _ | apply Drawn0.step)⟩
              · rw [if_neg c7] at H
                have c7b0 : ((rd l0 x5_1) == (rd l1 x5_1)) = false := beq_eq_false_iff_ne.mpr c7
                have c7b1 : ((rd l0 x5_1) != (rd l1 x5_1)) = true := bne_iff_ne.mpr c7
                obtain rfl := Option.some.inj H
                have p101 : 0 ≤ (x5_1 : Int) := of_decide_eq_true (by first | (with_reducible assumption) | assumption)
                have q101 : x5_1 < (l0.length : Int) := of_decide_eq_true (by first | (with_reducible assumption) | assumption)
                obtain ⟨ad101, e101, hx101_0⟩ := Kd.at_int HR0.out x5_1 p101 q101
                cases e101
                replace p101 := eq_true p101
                replace q101 := eq_true q101
                have p102 : 0 ≤ (x5_1 : Int) := of_decide_eq_true (by first | (with_reducible assumption) | assumption)
                have q102 : x5_1 < (l1.length : Int) := of_decide_eq_true (by first | (with_reducible assumption) | assumption)
                obtain ⟨ad102, e102, hx102_0⟩ := Kd.at_int HR1.out x5_1 p102 q102
                cases e102
                replace p102 := eq_true p102
                replace q102 := eq_true q102
                go_wp2
                repeat (go_quiet (fail); try go_wp2)
                go_ret
                exact ⟨by first | rfl | (simp; done) | (simp [*]; done), by repeat (first | exact Drawn0.refl _ | apply Drawn0.step)⟩
            · rw [if_neg c6] at H
              exact absurd H (by simp)
          · rw [if_neg c5] at H
            exact absurd H (by simp)
        · rw [if_neg c4] at H
          have c4b0 : decide (x5_1 < (l0.length : Int)) = false := decide_eq_false c4
          clear c4
          obtain rfl := Option.some.inj H
          go_wp2
          repeat (go_quiet (fail); try go_wp2)
          go_ret
          exact ⟨by first | rfl | (simp; done) | (simp [*]; done), by repeat (first | exact Drawn0.refl _ | apply Drawn0.step)⟩
  · rw [if_neg c3] at H
    have c3b0 : ((l0.length : Int) == (l1.length : Int)) = false := beq_eq_false_iff_ne.mpr c3
    have c3b1 : ((l0.length : Int) != (l1.length : Int)) = true := bne_iff_ne.mpr c3
    have c3b2 : (l0.length == l1.length) = false := by first | simpa using c3 | (simp at c3 ⊢; omega)
    obtain rfl := Option.some.inj H
    go_enter Try.func23, Try.ntmps23
    go_wp2
    repeat (go_quiet (fail); try go_wp2)
    go_ret
    exact ⟨by first | rfl | (simp; done) | (simp [*]; done), by repeat (first | exact Drawn0.refl _ | apply Drawn0.step)⟩

end Go.Proofs.Ythpheknchikodaa.P

-- Written for this claim by a program of this session (over the kit's print). Lean checks it.
namespace Go.Proofs.Ythpheknchikodaa.P
open Go.RowKit Go.Proofs.YthpheknchikodaaW.PrintWords Go.Proofs.YthpheknchikodaaW.PrintLast
set_option linter.unusedVariables false
set_option linter.unusedSimpArgs false

theorem eqA49 (d : Nat) (w : World) (x0 y0 : Int) (x1 y1 : Int) :
    (Op.equalIn (d + 2) 49 (.agg #[.int .i64 x0, .int .i64 x1]) (.agg #[.int .i64 y0, .int .i64 y1])).run Try.prog w = .ok (x0 == y0 && (x1 == y1)) w := by
  refine eqA_of Try.underlying49 (by kernel_rfl) ?_
  refine eqf_cons (by rfl) (by go_simp; rfl) (by go_simp; rfl) (by go_simp) ?_
  exact eqf_last (by rfl) (by go_simp; rfl) (by go_simp; rfl) (by go_simp)
end Go.Proofs.Ythpheknchikodaa.P

/- The walk of awake: what the chapter shows, of which each statement asks. A closed fact. Conditions: none. -/
namespace Go.Proofs.Ythpheknchikodaa.P
open Go.RowKit Go.Proofs.YthpheknchikodaaW.PrintWords Go.Proofs.YthpheknchikodaaW.PrintLast
set_option linter.unusedVariables false
set_option linter.unusedSimpArgs false

theorem eqB51 (d : Nat) (w : World) (x0 y0 : Int) (x1 y1 : Int) (x2 y2 : Int) (x3 y3 : Int) :
    (Op.equalIn (d + 3) 51 (.agg #[.int .i64 x0, .int .i64 x1, .int .i64 x2, .int .i64 x3]) (.agg #[.int .i64 y0, .int .i64 y1, .int .i64 y2, .int .i64 y3])).run Try.prog w = .ok ((x0 == y0 && (x1 == y1)) && ((x2 == y2 && (x3 == y3)))) w := by
  refine eqA_of Try.underlying51 (by kernel_rfl) ?_
  refine eqf_cons (by rfl) (by go_simp) (by go_simp) (eqA49 (d + 0) w _ _ _ _) ?_
  exact eqf_last (by rfl) (by go_simp) (by go_simp) (eqA49 (d + 0) w _ _ _ _)
attribute [local go_sem high] eqB51
def awT : List S59 := [⟨0, 0, ⟨100, 110⟩, ⟨200, 220⟩⟩, ⟨1, 0, ⟨190, 230⟩, ⟨300, 300⟩⟩, ⟨0, 1, ⟨150, 150⟩, ⟨400, 400⟩⟩]
def awN : List S109 := [⟨0, 0, ⟨#[65, 110, 110, 32, 76, 101, 101]⟩⟩, ⟨0, 250, ⟨#[76, 97, 100, 121, 32, 76, 101, 101]⟩⟩]
def awK : List S51 := [⟨⟨100, 110⟩, ⟨200, 220⟩⟩, ⟨⟨200, 230⟩, ⟨300, 300⟩⟩, ⟨⟨150, 150⟩, ⟨400, 400⟩⟩]
def awP : List ByteArray := [⟨#[119, 101]⟩, ⟨#[115, 104, 97, 108, 108]⟩, ⟨#[110, 111, 116]⟩, ⟨#[112, 97, 121]⟩, ⟨#[121, 111, 117]⟩, ⟨#[116, 111, 100, 97, 121]⟩]
def awQ : List ByteArray := [⟨#[119, 101]⟩, ⟨#[46, 46, 46]⟩, ⟨#[112, 97, 121]⟩, ⟨#[91, 116, 104, 101, 109, 93]⟩, ⟨#[116, 111, 100, 97, 121]⟩]
theorem awHouse : palantypelaw05_house.f = some (3, 2, awT, awN) := by kernel_rfl
theorem awLearn : office_Learn.f 40 3 2 awT awN = some (awK, 0) := by kernel_rfl
theorem awHolds : office_Holds.f 40 3 2 awT awN 0 210 = some (-1, [0, 1], true, 0) := by kernel_rfl
theorem awStyles : office_Styles.f 40 3 2 awT awN 0 105 = some ([-1, 0], 0) := by kernel_rfl
theorem awQuote : office_Quote.f awP awQ [] = some ([0, 3, 4, 5], 0) := by kernel_rfl
theorem awInts1 : palantypelaw05_ints.f 9 [0, 1] [0, 1] = some true := by kernel_rfl
theorem awInts2 : palantypelaw05_ints.f 9 [-1, 0] [-1, 0] = some true := by kernel_rfl
theorem awInts3 : palantypelaw05_ints.f 9 [0, 3, 4, 5] [0, 3, 4, 5] = some true := by kernel_rfl
/-- A new row of scalars reads as its list. -/
theorem C_lit {α : Type} {enc : α → Value} {h1 : ∀ x, (enc x).oneCell' = true} (e : Nat) (W : World) (xs : List α) (hl : xs.length ≤ 9223372036854775807) (hn : 0 < xs.length) : Kd.C (Kd.scalar enc h1) (W.alloc (.cells (encs enc xs).toArray e)) (some ⟨W.heap.size, 0, none⟩) xs.length xs := by
  have hr : Kd.R (Kd.scalar enc h1) e (W.alloc (.cells (encs enc xs).toArray e)) W.heap.size (fun _ => True) (.slice (some ⟨W.heap.size, 0, none⟩) xs.length xs.length) xs :=
    Kd.R_of_own ⟨by simp [encs], .inr ⟨W.heap.size, xs.length, (encs enc xs).toArray, rfl, Nat.le_refl _, blk_new W _, Nat.le_refl _, hl, by simp [encs], by simp [encs, List.take_of_length_le]⟩⟩ (fun _ _ => trivial)
  exact (Kd.R_reads' hr).2.2
def palantypelaw05_awake.f : Option Bool := some true
set_option maxHeartbeats 4000000 in
set_option maxRecDepth 100000 in
theorem awake_calls (w : World) : Calls Try.prog 18 #[] w fun e w' => e = .returned (.bool true) ∧ Below w.heap.size w w' := by
  have hu35 := Try.underlying35
  have hu49 := Try.underlying49
  have hu51 := Try.underlying51
  have hu45 := Try.underlying45
  go_enter Try.func18, Try.ntmps18
  go_wp2_with fail
  refine (palantypelaw05_house.calls 3 2 awT awN _ awHouse).mono ?_
  rintro e h1 ⟨v2, v3, rfl, ho2, ho3, hb⟩
  obtain ⟨A12, c12, e2⟩ := Kd.R_slice ho2
  obtain ⟨A13, c13, e3⟩ := Kd.R_slice ho3
  subst e2 e3
  have HT1 := Aside0.mk (Kd.R_reads' ho2)
  have HN1 := Aside0.mk (Kd.R_reads' ho3)
  have HB1 := Aside0.mk (hb)
  clear ho2 ho3 hb
  go_wp2_with fail
  refine (office_Learn.calls 40 3 2 A12 c12 awT A13 c13 awN awK 0 _ HT1.out.2.2 HT1.out.2.1 HN1.out.2.2 HN1.out.2.1 awLearn).mono ?_
  rintro e k1 ⟨v0, rfl, hr, hb⟩
  obtain ⟨g, cg, hv0, hg, _⟩ := Kd.R_form hr (by decide)
  rw [show awK.length = 3 from rfl] at hv0
  subst hv0
  have HK1 := Aside0.mk (Kd.R_reads' hr)
  have HB2 := Aside0.mk (below_then HB1.out HB1.out.size hb)
  clear hr hb hg
  go_wp2_with fail
  refine (palantypelaw05_house.calls 3 2 awT awN _ awHouse).mono ?_
  rintro e h2 ⟨v2, v3, rfl, ho2, ho3, hb⟩
  obtain ⟨A22, c22, e2⟩ := Kd.R_slice ho2
  obtain ⟨A23, c23, e3⟩ := Kd.R_slice ho3
  subst e2 e3
  have HT2 := Aside0.mk (Kd.R_reads' ho2)
  have HN2 := Aside0.mk (Kd.R_reads' ho3)
  have HB3 := Aside0.mk (below_then HB2.out HB2.out.size hb)
  have HK2 := Aside0.mk (Kd.C_below HK1.out.2.2 hb)
  clear ho2 ho3 hb
  go_wp2_with fail
  refine (office_Holds.calls 40 3 2 A22 c22 awT A23 c23 awN 0 210 (-1) [0, 1] true 0 _ HT2.out.2.2 HT2.out.2.1 HN2.out.2.2 HN2.out.2.1 awHolds).mono ?_
  rintro e k2 ⟨v1, rfl, hr, hb⟩
  obtain ⟨AP, cP, e1⟩ := Kd.R_slice hr
  subst e1
  have HP1 := Aside0.mk (Kd.R_reads' hr)
  have HK3 := Aside0.mk (Kd.C_below HK2.out hb)
  have HB4 := Aside0.mk (below_then HB3.out HB3.out.size hb)
  clear hr hb
  go_wp2_with fail
  refine (palantypelaw05_house.calls 3 2 awT awN _ awHouse).mono ?_
  rintro e h3 ⟨v2, v3, rfl, ho2, ho3, hb⟩
  obtain ⟨A32, c32, e2⟩ := Kd.R_slice ho2
  obtain ⟨A33, c33, e3⟩ := Kd.R_slice ho3
  subst e2 e3
  have HT3 := Aside0.mk (Kd.R_reads' ho2)
  have HN3 := Aside0.mk (Kd.R_reads' ho3)
  have HK4 := Aside0.mk (Kd.C_below HK3.out hb)
  have HP2 := Aside0.mk (Kd.C_below HP1.out.2.2 hb)
  have HB5 := Aside0.mk (below_then HB4.out HB4.out.size hb)
  clear ho2 ho3 hb
  go_wp2_with fail
  refine (office_Styles.calls 40 3 2 A32 c32 awT A33 c33 awN 0 105 [-1, 0] 0 _ HT3.out.2.2 HT3.out.2.1 HN3.out.2.2 HN3.out.2.1 awStyles).mono ?_
  rintro e k3 ⟨AS, cS, rfl, hs1, hs2, hb⟩
  have HS1 := Aside0.mk (And.intro hs1 hs2)
  have HK5 := Aside0.mk (Kd.C_below HK4.out hb)
  have HP3 := Aside0.mk (Kd.C_below HP2.out hb)
  have HB6 := Aside0.mk (below_then HB5.out HB5.out.size hb)
  clear hs1 hs2 hb
  go_wp2_with fail
  have hC1 := Kd.C_alloc (C_lit (enc := Value.string) (h1 := fun _ => rfl) 9 k3 awP (by decide) (by decide)) (.cells (encs Value.string awQ).toArray 9)
  have hC2 := C_lit (enc := Value.string) (h1 := fun _ => rfl) 9 (k3.alloc (.cells (encs Value.string awP).toArray 9)) awQ (by decide) (by decide)
  rw [World.size_alloc] at hC2
  refine (office_Quote.calls (some ⟨k3.heap.size, 0, none⟩) 6 awP (some ⟨k3.heap.size + 1, 0, none⟩) 5 awQ none 0 [] [0, 3, 4, 5] 0 _ hC1 (by decide) hC2 (by decide) (Kd.C_nil _ _) (by decide) awQuote).mono ?_
  rintro e k4 ⟨vq, rfl, hr, hb⟩
  obtain ⟨AQ, cQ, eq⟩ := Kd.R_slice hr
  subst eq
  have HQ1 := Aside0.mk (Kd.R_reads' hr)
  have HK6 := Aside0.mk (Kd.C_below HK5.out (below_then (below_alloc (below_alloc (Below.refl _ _) _) _) (by simp; try omega) hb))
  have HP4 := Aside0.mk (Kd.C_below HP3.out (below_then (below_alloc (below_alloc (Below.refl _ _) _) _) (by simp; try omega) hb))
  have HS2 := Aside0.mk (Kd.C_below HS1.out.2 (below_then (below_alloc (below_alloc (Below.refl _ _) _) _) (by simp; try omega) hb))
  have HB7 := Aside0.mk (below_then HB6.out HB6.out.size (below_then (below_alloc (below_alloc (Below.refl _ _) _) _) (by simp; try omega) hb))
  clear hr hb hC1 hC2
  go_wp2_with fail
  obtain ⟨ad, hA, hx0, hx1, hx2, hx3⟩ := at_T51 HK6.out 1 (by decide) (by decide)
  obtain rfl : (⟨g, 0, none⟩ : Addr) = ad := by injection hA
  have hy0 : k4.cell? ⟨g, 4, none⟩ = some (.int .i64 200) := hx0
  have hy1 : k4.cell? ⟨g, 5, none⟩ = some (.int .i64 230) := hx1
  have hy2 : k4.cell? ⟨g, 6, none⟩ = some (.int .i64 300) := hx2
  have hy3 : k4.cell? ⟨g, 7, none⟩ = some (.int .i64 300) := hx3
  clear hA hx0 hx1 hx2 hx3
  have HB8 := Aside0.mk (below_drew1 HB7.out)
  have HP5 := Aside0.mk (show Kd.C (Kd.int .i64) k4.drew AP 2 [0, 1] from Kd.C_below HP4.out (below_drew (Below.refl _ _)))
  have HS3 := Aside0.mk (show Kd.C (Kd.int .i64) k4.drew AS 2 [-1, 0] from Kd.C_below HS2.out (below_drew (Below.refl _ _)))
  have HQ2 := Aside0.mk (show Kd.C (Kd.int .i64) k4.drew AQ 4 [0, 3, 4, 5] from Kd.C_below HQ1.out.2.2 (below_drew (Below.refl _ _)))
  have HPc := Aside0.mk HP1.out.2.1
  have HSc := Aside0.mk HS1.out.1
  have HQc := Aside0.mk HQ1.out.2.1
  refine start_ (n := 51) (S := fun w' => w'.cell? ⟨g, 4, none⟩ = some (.int .i64 200) ∧ w'.cell? ⟨g, 5, none⟩ = some (.int .i64 230) ∧ w'.cell? ⟨g, 6, none⟩ = some (.int .i64 300) ∧ w'.cell? ⟨g, 7, none⟩ = some (.int .i64 300)) (ds := []) #[false, false, false, false, false, false, false, false, false, false, false, false, false, false, false, false, false, false, false, false, false, false, false, false, false, false, false, false, false, false, false, false, false, false, false, false, false, false, false, false, false, false, false, false, false, false, false, false, false, false, false] (by kernel_rfl) rfl rfl ⟨hy0, hy1, hy2, hy3⟩ (fun hHeld => ?_)
  generalize k4.drew = k5 at HB8 HP5 HS3 HQ2 hHeld ⊢
  refine pure_ (i := 0) (N := some 34) (v := ?_) (a' := ?_) #[true, false, false, false, false, false, false, false, false, false, false, false, false, false, false, false, false, false, false, false, false, false, false, false, false, false, false, false, false, false, false, false, false, false, false, false, false, false, false, false, false, false, false, false, false, false, false, false, false, false, false] rfl rfl (by kernel_rfl) (fun _ _ _ h => h) (Or.inl ⟨by rfl, ?_⟩) ?_ ?_
  rotate_left
  · intro w'
    go_simp
    with_reducible rfl
  rotate_left
  · simp only [Act.put, List.setIfInBounds_toArray, List.set_cons_zero, List.set_cons_succ, i64_w, i32_w]
    rfl
  refine pure_ (i := 1) (N := some 35) (v := ?_) (a' := ?_) #[true, true, false, false, false, false, false, false, false, false, false, false, false, false, false, false, false, false, false, false, false, false, false, false, false, false, false, false, false, false, false, false, false, false, false, false, false, false, false, false, false, false, false, false, false, false, false, false, false, false, false] rfl rfl (by kernel_rfl) (fun _ _ _ h => h) (Or.inl ⟨by rfl, ?_⟩) ?_ ?_
  rotate_left
  · intro w'
    go_simp
    with_reducible rfl
  rotate_left
  · simp only [Act.put, List.setIfInBounds_toArray, List.set_cons_zero, List.set_cons_succ, i64_w, i32_w]
    rfl
  refine pure_ (i := 2) (N := some 36) (v := ?_) (a' := ?_) #[true, true, true, false, false, false, false, false, false, false, false, false, false, false, false, false, false, false, false, false, false, false, false, false, false, false, false, false, false, false, false, false, false, false, false, false, false, false, false, false, false, false, false, false, false, false, false, false, false, false, false] rfl rfl (by kernel_rfl) (fun _ _ _ h => h) (Or.inl ⟨by rfl, ?_⟩) ?_ ?_
  rotate_left
  · intro w'
    go_simp
    with_reducible rfl
  rotate_left
  · simp only [Act.put, List.setIfInBounds_toArray, List.set_cons_zero, List.set_cons_succ, i64_w, i32_w]
    rfl
  refine pure_ (i := 3) (N := some 37) (v := ?_) (a' := ?_) #[true, true, true, true, false, false, false, false, false, false, false, false, false, false, false, false, false, false, false, false, false, false, false, false, false, false, false, false, false, false, false, false, false, false, false, false, false, false, false, false, false, false, false, false, false, false, false, false, false, false, false] rfl rfl (by kernel_rfl) (fun _ _ _ h => h) (Or.inl ⟨by rfl, ?_⟩) ?_ ?_
  rotate_left
  · intro w'
    go_simp
    with_reducible rfl
  rotate_left
  · simp only [Act.put, List.setIfInBounds_toArray, List.set_cons_zero, List.set_cons_succ, i64_w, i32_w]
    rfl
  refine pure_ (i := 4) (N := some 38) (v := ?_) (a' := ?_) #[true, true, true, true, true, false, false, false, false, false, false, false, false, false, false, false, false, false, false, false, false, false, false, false, false, false, false, false, false, false, false, false, false, false, false, false, false, false, false, false, false, false, false, false, false, false, false, false, false, false, false] rfl rfl (by kernel_rfl) (fun _ _ _ h => h) (Or.inl ⟨by rfl, ?_⟩) ?_ ?_
  rotate_left
  · intro w'
    go_simp
    with_reducible rfl
  rotate_left
  · simp only [Act.put, List.setIfInBounds_toArray, List.set_cons_zero, List.set_cons_succ, i64_w, i32_w]
    rfl
  refine pure_ (i := 5) (N := some 39) (v := ?_) (a' := ?_) #[true, true, true, true, true, true, false, false, false, false, false, false, false, false, false, false, false, false, false, false, false, false, false, false, false, false, false, false, false, false, false, false, false, false, false, false, false, false, false, false, false, false, false, false, false, false, false, false, false, false, false] rfl rfl (by kernel_rfl) (fun _ _ _ h => h) (Or.inl ⟨by rfl, ?_⟩) ?_ ?_
  rotate_left
  · intro w'
    go_simp
    with_reducible rfl
  rotate_left
  · simp only [Act.put, List.setIfInBounds_toArray, List.set_cons_zero, List.set_cons_succ, i64_w, i32_w]
    rfl
  refine pure_ (i := 6) (N := some 40) (v := ?_) (a' := ?_) #[true, true, true, true, true, true, true, false, false, false, false, false, false, false, false, false, false, false, false, false, false, false, false, false, false, false, false, false, false, false, false, false, false, false, false, false, false, false, false, false, false, false, false, false, false, false, false, false, false, false, false] rfl rfl (by kernel_rfl) (fun _ _ _ h => h) (Or.inl ⟨by rfl, ?_⟩) ?_ ?_
  rotate_left
  · intro w'
    go_simp
    with_reducible rfl
  rotate_left
  · simp only [Act.put, List.setIfInBounds_toArray, List.set_cons_zero, List.set_cons_succ, i64_w, i32_w]
    rfl
  refine pure_ (i := 7) (N := some 41) (v := ?_) (a' := ?_) #[true, true, true, true, true, true, true, true, false, false, false, false, false, false, false, false, false, false, false, false, false, false, false, false, false, false, false, false, false, false, false, false, false, false, false, false, false, false, false, false, false, false, false, false, false, false, false, false, false, false, false] rfl rfl (by kernel_rfl) (fun _ _ _ h => h) (Or.inl ⟨by rfl, ?_⟩) ?_ ?_
  rotate_left
  · intro w'
    go_simp
    with_reducible rfl
  rotate_left
  · simp only [Act.put, List.setIfInBounds_toArray, List.set_cons_zero, List.set_cons_succ, i64_w, i32_w]
    rfl
  refine pure_ (i := 8) (N := some 42) (v := ?_) (a' := ?_) #[true, true, true, true, true, true, true, true, true, false, false, false, false, false, false, false, false, false, false, false, false, false, false, false, false, false, false, false, false, false, false, false, false, false, false, false, false, false, false, false, false, false, false, false, false, false, false, false, false, false, false] rfl rfl (by kernel_rfl) (fun _ _ _ h => h) (Or.inl ⟨by rfl, ?_⟩) ?_ ?_
  rotate_left
  · intro w'
    go_simp
    with_reducible rfl
  rotate_left
  · simp only [Act.put, List.setIfInBounds_toArray, List.set_cons_zero, List.set_cons_succ, i64_w, i32_w]
    rfl
  refine pure_ (i := 9) (N := some 43) (v := ?_) (a' := ?_) #[true, true, true, true, true, true, true, true, true, true, false, false, false, false, false, false, false, false, false, false, false, false, false, false, false, false, false, false, false, false, false, false, false, false, false, false, false, false, false, false, false, false, false, false, false, false, false, false, false, false, false] rfl rfl (by kernel_rfl) (fun _ _ _ h => h) (Or.inl ⟨by rfl, ?_⟩) ?_ ?_
  rotate_left
  · intro w'
    go_simp
    with_reducible rfl
  rotate_left
  · simp only [Act.put, List.setIfInBounds_toArray, List.set_cons_zero, List.set_cons_succ, i64_w, i32_w]
    rfl
  refine take_ (i := 10) (N := some 44) (v := ?_) (a' := ?_) #[true, true, true, true, true, true, true, true, true, true, true, false, false, false, false, false, false, false, false, false, false, false, false, false, false, false, false, false, false, false, false, false, false, false, false, false, false, false, false, false, false, false, false, false, false, false, false, false, false, false, false] rfl rfl (by kernel_rfl) (fun _ _ _ h => h) (Or.inl ⟨by rfl, ?_⟩) hHeld ?_ ?_
  rotate_left
  · rintro w' ⟨s0, s1, s2, s3⟩
    go_simp
    with_reducible rfl
  rotate_left
  · simp only [Act.put, List.setIfInBounds_toArray, List.set_cons_zero, List.set_cons_succ, i64_w, i32_w]
    rfl
  refine one_ (i := 11) (N := some 45) #[true, true, true, true, true, true, true, true, true, true, true, true, false, false, false, false, false, false, false, false, false, false, false, false, false, false, false, false, false, false, false, false, false, false, false, false, false, false, false, false, false, false, false, false, false, false, false, false, false, false, false] rfl rfl (by kernel_rfl) (by decide) (fun K hK => ?_)
  refine goes_ Try.func55 (by kernel_rfl) rfl #[.int .i64 200, .int .i64 230] (by rfl) rfl rfl (by simp only [List.map_toArray, List.map_cons, List.map_nil]; rfl) ?_
  with_reducible refine (palantypelaw05_span.calls 200 230 200 230 _ rfl).mono ?_
  rintro e j0 ⟨rfl, hb⟩
  refine ⟨_, rfl, ?_⟩
  have n0_ := Aside0.mk (below_then HB8.out HB8.out.size (hb))
  have n1_ := Aside0.mk (Kd.C_below HP5.out (hb))
  have n2_ := Aside0.mk (Kd.C_below HS3.out (hb))
  have n3_ := Aside0.mk (Kd.C_below HQ2.out (hb))
  clear HB8 HP5 HS3 HQ2
  have HB8 := n0_
  have HP5 := n1_
  have HS3 := n2_
  have HQ2 := n3_
  clear n0_ n1_ n2_ n3_
  refine hK.out _ _ ⟨pw_cell_below (hb) hHeld.1, pw_cell_below (hb) hHeld.2.1, pw_cell_below (hb) hHeld.2.2.1, pw_cell_below (hb) hHeld.2.2.2⟩ (fun hHeld => ?_)
  clear hK K
  refine norm_ (a' := ?_) ?_ ?_
  rotate_left
  · show Act.put _ (some 45) _ = _
    simp only [Act.put, List.setIfInBounds_toArray, List.set_cons_zero, List.set_cons_succ, i64_w, i32_w]
    rfl
  refine one_ (i := 12) (N := some 46) #[true, true, true, true, true, true, true, true, true, true, true, true, true, false, false, false, false, false, false, false, false, false, false, false, false, false, false, false, false, false, false, false, false, false, false, false, false, false, false, false, false, false, false, false, false, false, false, false, false, false, false] rfl rfl (by kernel_rfl) (by decide) (fun K hK => ?_)
  refine goes_ Try.func55 (by kernel_rfl) rfl #[.int .i64 300, .int .i64 300] (by rfl) rfl rfl (by simp only [List.map_toArray, List.map_cons, List.map_nil]; rfl) ?_
  with_reducible refine (palantypelaw05_span.calls 300 300 300 300 _ rfl).mono ?_
  rintro e j1 ⟨rfl, hb⟩
  refine ⟨_, rfl, ?_⟩
  have n0_ := Aside0.mk (below_then HB8.out HB8.out.size (hb))
  have n1_ := Aside0.mk (Kd.C_below HP5.out (hb))
  have n2_ := Aside0.mk (Kd.C_below HS3.out (hb))
  have n3_ := Aside0.mk (Kd.C_below HQ2.out (hb))
  clear HB8 HP5 HS3 HQ2
  have HB8 := n0_
  have HP5 := n1_
  have HS3 := n2_
  have HQ2 := n3_
  clear n0_ n1_ n2_ n3_
  refine hK.out _ _ ⟨pw_cell_below (hb) hHeld.1, pw_cell_below (hb) hHeld.2.1, pw_cell_below (hb) hHeld.2.2.1, pw_cell_below (hb) hHeld.2.2.2⟩ (fun hHeld => ?_)
  clear hK K
  refine norm_ (a' := ?_) ?_ ?_
  rotate_left
  · show Act.put _ (some 46) _ = _
    simp only [Act.put, List.setIfInBounds_toArray, List.set_cons_zero, List.set_cons_succ, i64_w, i32_w]
    rfl
  refine pure_ (i := 13) (N := some 47) (v := ?_) (a' := ?_) #[true, true, true, true, true, true, true, true, true, true, true, true, true, true, false, false, false, false, false, false, false, false, false, false, false, false, false, false, false, false, false, false, false, false, false, false, false, false, false, false, false, false, false, false, false, false, false, false, false, false, false] rfl rfl (by kernel_rfl) (fun _ _ _ h => h) (Or.inl ⟨by rfl, ?_⟩) ?_ ?_
  rotate_left
  · intro w'
    go_simp
    with_reducible rfl
  rotate_left
  · simp only [Act.put, List.setIfInBounds_toArray, List.set_cons_zero, List.set_cons_succ, i64_w, i32_w]
    rfl
  refine pure_ (i := 14) (N := some 48) (v := ?_) (a' := ?_) #[true, true, true, true, true, true, true, true, true, true, true, true, true, true, true, false, false, false, false, false, false, false, false, false, false, false, false, false, false, false, false, false, false, false, false, false, false, false, false, false, false, false, false, false, false, false, false, false, false, false, false] rfl rfl (by kernel_rfl) (fun _ _ _ h => h) (Or.inl ⟨by rfl, ?_⟩) ?_ ?_
  rotate_left
  · intro w'
    go_simp
    with_reducible rfl
  rotate_left
  · simp only [Act.put, List.setIfInBounds_toArray, List.set_cons_zero, List.set_cons_succ, i64_w, i32_w]
    rfl
  refine pure_ (i := 15) (N := some 49) (v := ?_) (a' := ?_) #[true, true, true, true, true, true, true, true, true, true, true, true, true, true, true, true, false, false, false, false, false, false, false, false, false, false, false, false, false, false, false, false, false, false, false, false, false, false, false, false, false, false, false, false, false, false, false, false, false, false, false] rfl rfl (by kernel_rfl) (fun _ _ _ h => h) (Or.inl ⟨by rfl, ?_⟩) ?_ ?_
  rotate_left
  · intro w'
    go_simp
    with_reducible rfl
  rotate_left
  · simp only [Act.put, List.setIfInBounds_toArray, List.set_cons_zero, List.set_cons_succ, i64_w, i32_w]
    rfl
  refine pure_ (i := 16) (N := some 50) (v := ?_) (a' := ?_) #[true, true, true, true, true, true, true, true, true, true, true, true, true, true, true, true, true, false, false, false, false, false, false, false, false, false, false, false, false, false, false, false, false, false, false, false, false, false, false, false, false, false, false, false, false, false, false, false, false, false, false] rfl rfl (by kernel_rfl) (fun _ _ _ h => h) (Or.inl ⟨by rfl, ?_⟩) ?_ ?_
  rotate_left
  · intro w'
    go_simp
    with_reducible rfl
  rotate_left
  · simp only [Act.put, List.setIfInBounds_toArray, List.set_cons_zero, List.set_cons_succ, i64_w, i32_w]
    rfl
  refine pure_ (i := 17) (N := some 51) (v := ?_) (a' := ?_) #[true, true, true, true, true, true, true, true, true, true, true, true, true, true, true, true, true, true, false, false, false, false, false, false, false, false, false, false, false, false, false, false, false, false, false, false, false, false, false, false, false, false, false, false, false, false, false, false, false, false, false] rfl rfl (by kernel_rfl) (fun _ _ _ h => h) (Or.inl ⟨by rfl, ?_⟩) ?_ ?_
  rotate_left
  · intro w'
    go_simp
    with_reducible rfl
  rotate_left
  · simp only [Act.put, List.setIfInBounds_toArray, List.set_cons_zero, List.set_cons_succ, i64_w, i32_w]
    rfl
  refine pure_ (i := 18) (N := some 52) (v := ?_) (a' := ?_) #[true, true, true, true, true, true, true, true, true, true, true, true, true, true, true, true, true, true, true, false, false, false, false, false, false, false, false, false, false, false, false, false, false, false, false, false, false, false, false, false, false, false, false, false, false, false, false, false, false, false, false] rfl rfl (by kernel_rfl) (fun _ _ _ h => h) (Or.inl ⟨by rfl, ?_⟩) ?_ ?_
  rotate_left
  · intro w'
    go_simp
    with_reducible rfl
  rotate_left
  · simp only [Act.put, List.setIfInBounds_toArray, List.set_cons_zero, List.set_cons_succ, i64_w, i32_w]
    rfl
  refine pure_ (i := 19) (N := some 53) (v := ?_) (a' := ?_) #[true, true, true, true, true, true, true, true, true, true, true, true, true, true, true, true, true, true, true, true, false, false, false, false, false, false, false, false, false, false, false, false, false, false, false, false, false, false, false, false, false, false, false, false, false, false, false, false, false, false, false] rfl rfl (by kernel_rfl) (fun _ _ _ h => h) (Or.inl ⟨by rfl, ?_⟩) ?_ ?_
  rotate_left
  · intro w'
    go_simp
    with_reducible rfl
  rotate_left
  · simp only [Act.put, List.setIfInBounds_toArray, List.set_cons_zero, List.set_cons_succ, i64_w, i32_w]
    rfl
  refine pure_ (i := 20) (N := some 54) (v := ?_) (a' := ?_) #[true, true, true, true, true, true, true, true, true, true, true, true, true, true, true, true, true, true, true, true, true, false, false, false, false, false, false, false, false, false, false, false, false, false, false, false, false, false, false, false, false, false, false, false, false, false, false, false, false, false, false] rfl rfl (by kernel_rfl) (fun _ _ _ h => h) (Or.inl ⟨by rfl, ?_⟩) ?_ ?_
  rotate_left
  · intro w'
    go_simp
    with_reducible rfl
  rotate_left
  · simp only [Act.put, List.setIfInBounds_toArray, List.set_cons_zero, List.set_cons_succ, i64_w, i32_w]
    rfl
  refine pure_ (i := 21) (N := some 55) (v := ?_) (a' := ?_) #[true, true, true, true, true, true, true, true, true, true, true, true, true, true, true, true, true, true, true, true, true, true, false, false, false, false, false, false, false, false, false, false, false, false, false, false, false, false, false, false, false, false, false, false, false, false, false, false, false, false, false] rfl rfl (by kernel_rfl) (fun _ _ _ h => h) (Or.inl ⟨by rfl, ?_⟩) ?_ ?_
  rotate_left
  · intro w'
    go_simp
    with_reducible rfl
  rotate_left
  · simp only [Act.put, List.setIfInBounds_toArray, List.set_cons_zero, List.set_cons_succ, i64_w, i32_w]
    rfl
  refine pure_ (i := 22) (N := some 56) (v := ?_) (a' := ?_) #[true, true, true, true, true, true, true, true, true, true, true, true, true, true, true, true, true, true, true, true, true, true, true, false, false, false, false, false, false, false, false, false, false, false, false, false, false, false, false, false, false, false, false, false, false, false, false, false, false, false, false] rfl rfl (by kernel_rfl) (fun _ _ _ h => h) (Or.inl ⟨by rfl, ?_⟩) ?_ ?_
  rotate_left
  · intro w'
    go_simp
    with_reducible rfl
  rotate_left
  · simp only [Act.put, List.setIfInBounds_toArray, List.set_cons_zero, List.set_cons_succ, i64_w, i32_w]
    rfl
  refine pure_ (i := 23) (N := some 57) (v := ?_) (a' := ?_) #[true, true, true, true, true, true, true, true, true, true, true, true, true, true, true, true, true, true, true, true, true, true, true, true, false, false, false, false, false, false, false, false, false, false, false, false, false, false, false, false, false, false, false, false, false, false, false, false, false, false, false] rfl rfl (by kernel_rfl) (fun _ _ _ h => h) (Or.inl ⟨by rfl, ?_⟩) ?_ ?_
  rotate_left
  · intro w'
    go_simp
    with_reducible rfl
  rotate_left
  · simp only [Act.put, List.setIfInBounds_toArray, List.set_cons_zero, List.set_cons_succ, i64_w, i32_w]
    rfl
  refine pure_ (i := 24) (N := some 58) (v := ?_) (a' := ?_) #[true, true, true, true, true, true, true, true, true, true, true, true, true, true, true, true, true, true, true, true, true, true, true, true, true, false, false, false, false, false, false, false, false, false, false, false, false, false, false, false, false, false, false, false, false, false, false, false, false, false, false] rfl rfl (by kernel_rfl) (fun _ _ _ h => h) (Or.inl ⟨by rfl, ?_⟩) ?_ ?_
  rotate_left
  · intro w'
    go_simp
    with_reducible rfl
  rotate_left
  · simp only [Act.put, List.setIfInBounds_toArray, List.set_cons_zero, List.set_cons_succ, i64_w, i32_w]
    rfl
  refine pure_ (i := 25) (N := some 59) (v := ?_) (a' := ?_) #[true, true, true, true, true, true, true, true, true, true, true, true, true, true, true, true, true, true, true, true, true, true, true, true, true, true, false, false, false, false, false, false, false, false, false, false, false, false, false, false, false, false, false, false, false, false, false, false, false, false, false] rfl rfl (by kernel_rfl) (fun _ _ _ h => h) (Or.inl ⟨by rfl, ?_⟩) ?_ ?_
  rotate_left
  · intro w'
    go_simp
    with_reducible rfl
  rotate_left
  · simp only [Act.put, List.setIfInBounds_toArray, List.set_cons_zero, List.set_cons_succ, i64_w, i32_w]
    rfl
  refine one_ (i := 26) (N := some 60) #[true, true, true, true, true, true, true, true, true, true, true, true, true, true, true, true, true, true, true, true, true, true, true, true, true, true, true, false, false, false, false, false, false, false, false, false, false, false, false, false, false, false, false, false, false, false, false, false, false, false, false] rfl rfl (by kernel_rfl) (by decide) (fun K hK => ?_)
  refine value_ (w1 := ?_) (v := ?_) (by rfl) rfl ?_ ?_
  rotate_left 2
  · go_simp
    constructor
    · rfl
    · rfl
  have HL_ := Aside0.mk (show Kd.C (Kd.int .i64) (World.alloc j1 (Obj.cells #[.int .i64 0, .int .i64 1] 3)) (some ⟨j1.heap.size, 0, none⟩) 2 [0, 1] from C_lit (enc := Value.int .i64) (h1 := fun _ => rfl) 3 j1 [0, 1] (by decide) (by decide))
  have n0_ := Aside0.mk (below_then HB8.out HB8.out.size (below_alloc (Below.refl _ _) (Obj.cells #[.int .i64 0, .int .i64 1] 3)))
  have n1_ := Aside0.mk (Kd.C_below HP5.out (below_alloc (Below.refl _ _) (Obj.cells #[.int .i64 0, .int .i64 1] 3)))
  have n2_ := Aside0.mk (Kd.C_below HS3.out (below_alloc (Below.refl _ _) (Obj.cells #[.int .i64 0, .int .i64 1] 3)))
  have n3_ := Aside0.mk (Kd.C_below HQ2.out (below_alloc (Below.refl _ _) (Obj.cells #[.int .i64 0, .int .i64 1] 3)))
  clear HB8 HP5 HS3 HQ2
  have HB8 := n0_
  have HP5 := n1_
  have HS3 := n2_
  have HQ2 := n3_
  clear n0_ n1_ n2_ n3_
  refine hK.out _ _ ⟨pw_cell_below (below_alloc (Below.refl _ _) (Obj.cells #[.int .i64 0, .int .i64 1] 3)) hHeld.1, pw_cell_below (below_alloc (Below.refl _ _) (Obj.cells #[.int .i64 0, .int .i64 1] 3)) hHeld.2.1, pw_cell_below (below_alloc (Below.refl _ _) (Obj.cells #[.int .i64 0, .int .i64 1] 3)) hHeld.2.2.1, pw_cell_below (below_alloc (Below.refl _ _) (Obj.cells #[.int .i64 0, .int .i64 1] 3)) hHeld.2.2.2⟩ (fun hHeld => ?_)
  clear hK K
  refine norm_ (a' := ?_) ?_ ?_
  rotate_left
  · show Act.put _ (some 60) _ = _
    simp only [Act.put, List.setIfInBounds_toArray, List.set_cons_zero, List.set_cons_succ, i64_w, i32_w]
    rfl
  refine one_ (i := 27) (N := some 61) #[true, true, true, true, true, true, true, true, true, true, true, true, true, true, true, true, true, true, true, true, true, true, true, true, true, true, true, true, false, false, false, false, false, false, false, false, false, false, false, false, false, false, false, false, false, false, false, false, false, false, false] rfl rfl (by kernel_rfl) (by decide) (fun K hK => ?_)
  refine goes_ Try.func23 (by kernel_rfl) rfl #[.slice AP 2 cP, .slice (some ⟨j1.heap.size, 0, none⟩) 2 2] (by rfl) rfl rfl (by simp only [List.map_toArray, List.map_cons, List.map_nil]; rfl) ?_
  refine (palantypelaw05_ints.calls 9 AP cP [0, 1] _ 2 [0, 1] true _ HP5.out HPc.out HL_.out (by decide) awInts1).mono ?_
  rintro e j2 ⟨rfl, hd⟩
  refine ⟨_, rfl, ?_⟩
  have hb := hd.below
  have n0_ := Aside0.mk (below_then HB8.out HB8.out.size (hb))
  have n1_ := Aside0.mk (Kd.C_below HP5.out (hb))
  have n2_ := Aside0.mk (Kd.C_below HS3.out (hb))
  have n3_ := Aside0.mk (Kd.C_below HQ2.out (hb))
  clear HB8 HP5 HS3 HQ2
  have HB8 := n0_
  have HP5 := n1_
  have HS3 := n2_
  have HQ2 := n3_
  clear n0_ n1_ n2_ n3_
  clear HL_
  refine hK.out _ _ ⟨pw_cell_below (hb) hHeld.1, pw_cell_below (hb) hHeld.2.1, pw_cell_below (hb) hHeld.2.2.1, pw_cell_below (hb) hHeld.2.2.2⟩ (fun hHeld => ?_)
  clear hK K
  refine norm_ (a' := ?_) ?_ ?_
  rotate_left
  · show Act.put _ (some 61) _ = _
    simp only [Act.put, List.setIfInBounds_toArray, List.set_cons_zero, List.set_cons_succ, i64_w, i32_w]
    rfl
  refine pure_ (i := 28) (N := some 62) (v := ?_) (a' := ?_) #[true, true, true, true, true, true, true, true, true, true, true, true, true, true, true, true, true, true, true, true, true, true, true, true, true, true, true, true, true, false, false, false, false, false, false, false, false, false, false, false, false, false, false, false, false, false, false, false, false, false, false] rfl rfl (by kernel_rfl) (fun _ _ _ h => h) (Or.inl ⟨by rfl, ?_⟩) ?_ ?_
  rotate_left
  · intro w'
    go_simp
    with_reducible rfl
  rotate_left
  · simp only [Act.put, List.setIfInBounds_toArray, List.set_cons_zero, List.set_cons_succ, i64_w, i32_w]
    rfl
  refine pure_ (i := 29) (N := some 63) (v := ?_) (a' := ?_) #[true, true, true, true, true, true, true, true, true, true, true, true, true, true, true, true, true, true, true, true, true, true, true, true, true, true, true, true, true, true, false, false, false, false, false, false, false, false, false, false, false, false, false, false, false, false, false, false, false, false, false] rfl rfl (by kernel_rfl) (fun _ _ _ h => h) (Or.inl ⟨by rfl, ?_⟩) ?_ ?_
  rotate_left
  · intro w'
    go_simp
    with_reducible rfl
  rotate_left
  · simp only [Act.put, List.setIfInBounds_toArray, List.set_cons_zero, List.set_cons_succ, i64_w, i32_w]
    rfl
  refine pure_ (i := 30) (N := some 64) (v := ?_) (a' := ?_) #[true, true, true, true, true, true, true, true, true, true, true, true, true, true, true, true, true, true, true, true, true, true, true, true, true, true, true, true, true, true, true, false, false, false, false, false, false, false, false, false, false, false, false, false, false, false, false, false, false, false, false] rfl rfl (by kernel_rfl) (fun _ _ _ h => h) (Or.inl ⟨by rfl, ?_⟩) ?_ ?_
  rotate_left
  · intro w'
    go_simp
    with_reducible rfl
  rotate_left
  · simp only [Act.put, List.setIfInBounds_toArray, List.set_cons_zero, List.set_cons_succ, i64_w, i32_w]
    rfl
  refine pure_ (i := 31) (N := some 65) (v := ?_) (a' := ?_) #[true, true, true, true, true, true, true, true, true, true, true, true, true, true, true, true, true, true, true, true, true, true, true, true, true, true, true, true, true, true, true, true, false, false, false, false, false, false, false, false, false, false, false, false, false, false, false, false, false, false, false] rfl rfl (by kernel_rfl) (fun _ _ _ h => h) (Or.inl ⟨by rfl, ?_⟩) ?_ ?_
  rotate_left
  · intro w'
    go_simp
    with_reducible rfl
  rotate_left
  · simp only [Act.put, List.setIfInBounds_toArray, List.set_cons_zero, List.set_cons_succ, i64_w, i32_w]
    rfl
  refine pure_ (i := 32) (N := some 66) (v := ?_) (a' := ?_) #[true, true, true, true, true, true, true, true, true, true, true, true, true, true, true, true, true, true, true, true, true, true, true, true, true, true, true, true, true, true, true, true, true, false, false, false, false, false, false, false, false, false, false, false, false, false, false, false, false, false, false] rfl rfl (by kernel_rfl) (fun _ _ _ h => h) (Or.inl ⟨by rfl, ?_⟩) ?_ ?_
  rotate_left
  · intro w'
    go_simp
    with_reducible rfl
  rotate_left
  · simp only [Act.put, List.setIfInBounds_toArray, List.set_cons_zero, List.set_cons_succ, i64_w, i32_w]
    rfl
  refine pure_ (i := 33) (N := some 67) (v := ?_) (a' := ?_) #[true, true, true, true, true, true, true, true, true, true, true, true, true, true, true, true, true, true, true, true, true, true, true, true, true, true, true, true, true, true, true, true, true, true, false, false, false, false, false, false, false, false, false, false, false, false, false, false, false, false, false] rfl rfl (by kernel_rfl) (fun _ _ _ h => h) (Or.inl ⟨by rfl, ?_⟩) ?_ ?_
  rotate_left
  · intro w'
    go_simp
    with_reducible rfl
  rotate_left
  · simp only [Act.put, List.setIfInBounds_toArray, List.set_cons_zero, List.set_cons_succ, i64_w, i32_w]
    rfl
  refine pure_ (i := 34) (N := some 68) (v := ?_) (a' := ?_) #[true, true, true, true, true, true, true, true, true, true, true, true, true, true, true, true, true, true, true, true, true, true, true, true, true, true, true, true, true, true, true, true, true, true, true, false, false, false, false, false, false, false, false, false, false, false, false, false, false, false, false] rfl rfl (by kernel_rfl) (fun _ _ _ h => h) (Or.inl ⟨by rfl, ?_⟩) ?_ ?_
  rotate_left
  · intro w'
    go_simp
    with_reducible rfl
  rotate_left
  · simp only [Act.put, List.setIfInBounds_toArray, List.set_cons_zero, List.set_cons_succ, i64_w, i32_w]
    rfl
  refine pure_ (i := 35) (N := some 69) (v := ?_) (a' := ?_) #[true, true, true, true, true, true, true, true, true, true, true, true, true, true, true, true, true, true, true, true, true, true, true, true, true, true, true, true, true, true, true, true, true, true, true, true, false, false, false, false, false, false, false, false, false, false, false, false, false, false, false] rfl rfl (by kernel_rfl) (fun _ _ _ h => h) (Or.inl ⟨by rfl, ?_⟩) ?_ ?_
  rotate_left
  · intro w'
    go_simp
    with_reducible rfl
  rotate_left
  · simp only [Act.put, List.setIfInBounds_toArray, List.set_cons_zero, List.set_cons_succ, i64_w, i32_w]
    rfl
  refine pure_ (i := 36) (N := some 70) (v := ?_) (a' := ?_) #[true, true, true, true, true, true, true, true, true, true, true, true, true, true, true, true, true, true, true, true, true, true, true, true, true, true, true, true, true, true, true, true, true, true, true, true, true, false, false, false, false, false, false, false, false, false, false, false, false, false, false] rfl rfl (by kernel_rfl) (fun _ _ _ h => h) (Or.inl ⟨by rfl, ?_⟩) ?_ ?_
  rotate_left
  · intro w'
    go_simp
    with_reducible rfl
  rotate_left
  · simp only [Act.put, List.setIfInBounds_toArray, List.set_cons_zero, List.set_cons_succ, i64_w, i32_w]
    rfl
  refine pure_ (i := 37) (N := some 71) (v := ?_) (a' := ?_) #[true, true, true, true, true, true, true, true, true, true, true, true, true, true, true, true, true, true, true, true, true, true, true, true, true, true, true, true, true, true, true, true, true, true, true, true, true, true, false, false, false, false, false, false, false, false, false, false, false, false, false] rfl rfl (by kernel_rfl) (fun _ _ _ h => h) (Or.inl ⟨by rfl, ?_⟩) ?_ ?_
  rotate_left
  · intro w'
    go_simp
    with_reducible rfl
  rotate_left
  · simp only [Act.put, List.setIfInBounds_toArray, List.set_cons_zero, List.set_cons_succ, i64_w, i32_w]
    rfl
  refine one_ (i := 38) (N := some 72) #[true, true, true, true, true, true, true, true, true, true, true, true, true, true, true, true, true, true, true, true, true, true, true, true, true, true, true, true, true, true, true, true, true, true, true, true, true, true, true, false, false, false, false, false, false, false, false, false, false, false, false] rfl rfl (by kernel_rfl) (by decide) (fun K hK => ?_)
  refine value_ (w1 := ?_) (v := ?_) (by rfl) rfl ?_ ?_
  rotate_left 2
  · go_simp
    constructor
    · rfl
    · rfl
  have HL_ := Aside0.mk (show Kd.C (Kd.int .i64) (World.alloc j2 (Obj.cells #[.int .i64 (-1), .int .i64 0] 3)) (some ⟨j2.heap.size, 0, none⟩) 2 [-1, 0] from C_lit (enc := Value.int .i64) (h1 := fun _ => rfl) 3 j2 [-1, 0] (by decide) (by decide))
  have n0_ := Aside0.mk (below_then HB8.out HB8.out.size (below_alloc (Below.refl _ _) (Obj.cells #[.int .i64 (-1), .int .i64 0] 3)))
  have n1_ := Aside0.mk (Kd.C_below HP5.out (below_alloc (Below.refl _ _) (Obj.cells #[.int .i64 (-1), .int .i64 0] 3)))
  have n2_ := Aside0.mk (Kd.C_below HS3.out (below_alloc (Below.refl _ _) (Obj.cells #[.int .i64 (-1), .int .i64 0] 3)))
  have n3_ := Aside0.mk (Kd.C_below HQ2.out (below_alloc (Below.refl _ _) (Obj.cells #[.int .i64 (-1), .int .i64 0] 3)))
  clear HB8 HP5 HS3 HQ2
  have HB8 := n0_
  have HP5 := n1_
  have HS3 := n2_
  have HQ2 := n3_
  clear n0_ n1_ n2_ n3_
  refine hK.out _ _ ⟨pw_cell_below (below_alloc (Below.refl _ _) (Obj.cells #[.int .i64 (-1), .int .i64 0] 3)) hHeld.1, pw_cell_below (below_alloc (Below.refl _ _) (Obj.cells #[.int .i64 (-1), .int .i64 0] 3)) hHeld.2.1, pw_cell_below (below_alloc (Below.refl _ _) (Obj.cells #[.int .i64 (-1), .int .i64 0] 3)) hHeld.2.2.1, pw_cell_below (below_alloc (Below.refl _ _) (Obj.cells #[.int .i64 (-1), .int .i64 0] 3)) hHeld.2.2.2⟩ (fun hHeld => ?_)
  clear hK K
  refine norm_ (a' := ?_) ?_ ?_
  rotate_left
  · show Act.put _ (some 72) _ = _
    simp only [Act.put, List.setIfInBounds_toArray, List.set_cons_zero, List.set_cons_succ, i64_w, i32_w]
    rfl
  refine one_ (i := 39) (N := some 73) #[true, true, true, true, true, true, true, true, true, true, true, true, true, true, true, true, true, true, true, true, true, true, true, true, true, true, true, true, true, true, true, true, true, true, true, true, true, true, true, true, false, false, false, false, false, false, false, false, false, false, false] rfl rfl (by kernel_rfl) (by decide) (fun K hK => ?_)
  refine goes_ Try.func23 (by kernel_rfl) rfl #[.slice AS 2 cS, .slice (some ⟨j2.heap.size, 0, none⟩) 2 2] (by rfl) rfl rfl (by simp only [List.map_toArray, List.map_cons, List.map_nil]; rfl) ?_
  refine (palantypelaw05_ints.calls 9 AS cS [-1, 0] _ 2 [-1, 0] true _ HS3.out HSc.out HL_.out (by decide) awInts2).mono ?_
  rintro e j3 ⟨rfl, hd⟩
  refine ⟨_, rfl, ?_⟩
  have hb := hd.below
  have n0_ := Aside0.mk (below_then HB8.out HB8.out.size (hb))
  have n1_ := Aside0.mk (Kd.C_below HP5.out (hb))
  have n2_ := Aside0.mk (Kd.C_below HS3.out (hb))
  have n3_ := Aside0.mk (Kd.C_below HQ2.out (hb))
  clear HB8 HP5 HS3 HQ2
  have HB8 := n0_
  have HP5 := n1_
  have HS3 := n2_
  have HQ2 := n3_
  clear n0_ n1_ n2_ n3_
  clear HL_
  refine hK.out _ _ ⟨pw_cell_below (hb) hHeld.1, pw_cell_below (hb) hHeld.2.1, pw_cell_below (hb) hHeld.2.2.1, pw_cell_below (hb) hHeld.2.2.2⟩ (fun hHeld => ?_)
  clear hK K
  refine norm_ (a' := ?_) ?_ ?_
  rotate_left
  · show Act.put _ (some 73) _ = _
    simp only [Act.put, List.setIfInBounds_toArray, List.set_cons_zero, List.set_cons_succ, i64_w, i32_w]
    rfl
  refine pure_ (i := 40) (N := some 74) (v := ?_) (a' := ?_) #[true, true, true, true, true, true, true, true, true, true, true, true, true, true, true, true, true, true, true, true, true, true, true, true, true, true, true, true, true, true, true, true, true, true, true, true, true, true, true, true, true, false, false, false, false, false, false, false, false, false, false] rfl rfl (by kernel_rfl) (fun _ _ _ h => h) (Or.inl ⟨by rfl, ?_⟩) ?_ ?_
  rotate_left
  · intro w'
    go_simp
    with_reducible rfl
  rotate_left
  · simp only [Act.put, List.setIfInBounds_toArray, List.set_cons_zero, List.set_cons_succ, i64_w, i32_w]
    rfl
  refine pure_ (i := 41) (N := some 75) (v := ?_) (a' := ?_) #[true, true, true, true, true, true, true, true, true, true, true, true, true, true, true, true, true, true, true, true, true, true, true, true, true, true, true, true, true, true, true, true, true, true, true, true, true, true, true, true, true, true, false, false, false, false, false, false, false, false, false] rfl rfl (by kernel_rfl) (fun _ _ _ h => h) (Or.inl ⟨by rfl, ?_⟩) ?_ ?_
  rotate_left
  · intro w'
    go_simp
    with_reducible rfl
  rotate_left
  · simp only [Act.put, List.setIfInBounds_toArray, List.set_cons_zero, List.set_cons_succ, i64_w, i32_w]
    rfl
  refine pure_ (i := 42) (N := some 76) (v := ?_) (a' := ?_) #[true, true, true, true, true, true, true, true, true, true, true, true, true, true, true, true, true, true, true, true, true, true, true, true, true, true, true, true, true, true, true, true, true, true, true, true, true, true, true, true, true, true, true, false, false, false, false, false, false, false, false] rfl rfl (by kernel_rfl) (fun _ _ _ h => h) (Or.inl ⟨by rfl, ?_⟩) ?_ ?_
  rotate_left
  · intro w'
    go_simp
    with_reducible rfl
  rotate_left
  · simp only [Act.put, List.setIfInBounds_toArray, List.set_cons_zero, List.set_cons_succ, i64_w, i32_w]
    rfl
  refine pure_ (i := 43) (N := some 77) (v := ?_) (a' := ?_) #[true, true, true, true, true, true, true, true, true, true, true, true, true, true, true, true, true, true, true, true, true, true, true, true, true, true, true, true, true, true, true, true, true, true, true, true, true, true, true, true, true, true, true, true, false, false, false, false, false, false, false] rfl rfl (by kernel_rfl) (fun _ _ _ h => h) (Or.inl ⟨by rfl, ?_⟩) ?_ ?_
  rotate_left
  · intro w'
    go_simp
    with_reducible rfl
  rotate_left
  · simp only [Act.put, List.setIfInBounds_toArray, List.set_cons_zero, List.set_cons_succ, i64_w, i32_w]
    rfl
  refine pure_ (i := 44) (N := some 78) (v := ?_) (a' := ?_) #[true, true, true, true, true, true, true, true, true, true, true, true, true, true, true, true, true, true, true, true, true, true, true, true, true, true, true, true, true, true, true, true, true, true, true, true, true, true, true, true, true, true, true, true, true, false, false, false, false, false, false] rfl rfl (by kernel_rfl) (fun _ _ _ h => h) (Or.inl ⟨by rfl, ?_⟩) ?_ ?_
  rotate_left
  · intro w'
    go_simp
    with_reducible rfl
  rotate_left
  · simp only [Act.put, List.setIfInBounds_toArray, List.set_cons_zero, List.set_cons_succ, i64_w, i32_w]
    rfl
  refine pure_ (i := 45) (N := some 79) (v := ?_) (a' := ?_) #[true, true, true, true, true, true, true, true, true, true, true, true, true, true, true, true, true, true, true, true, true, true, true, true, true, true, true, true, true, true, true, true, true, true, true, true, true, true, true, true, true, true, true, true, true, true, false, false, false, false, false] rfl rfl (by kernel_rfl) (fun _ _ _ h => h) (Or.inl ⟨by rfl, ?_⟩) ?_ ?_
  rotate_left
  · intro w'
    go_simp
    with_reducible rfl
  rotate_left
  · simp only [Act.put, List.setIfInBounds_toArray, List.set_cons_zero, List.set_cons_succ, i64_w, i32_w]
    rfl
  refine pure_ (i := 46) (N := some 80) (v := ?_) (a' := ?_) #[true, true, true, true, true, true, true, true, true, true, true, true, true, true, true, true, true, true, true, true, true, true, true, true, true, true, true, true, true, true, true, true, true, true, true, true, true, true, true, true, true, true, true, true, true, true, true, false, false, false, false] rfl rfl (by kernel_rfl) (fun _ _ _ h => h) (Or.inl ⟨by rfl, ?_⟩) ?_ ?_
  rotate_left
  · intro w'
    go_simp
    with_reducible rfl
  rotate_left
  · simp only [Act.put, List.setIfInBounds_toArray, List.set_cons_zero, List.set_cons_succ, i64_w, i32_w]
    rfl
  refine one_ (i := 47) (N := some 81) #[true, true, true, true, true, true, true, true, true, true, true, true, true, true, true, true, true, true, true, true, true, true, true, true, true, true, true, true, true, true, true, true, true, true, true, true, true, true, true, true, true, true, true, true, true, true, true, true, false, false, false] rfl rfl (by kernel_rfl) (by decide) (fun K hK => ?_)
  refine value_ (w1 := ?_) (v := ?_) (by rfl) rfl ?_ ?_
  rotate_left 2
  · go_simp
    constructor
    · rfl
    · rfl
  have HL_ := Aside0.mk (show Kd.C (Kd.int .i64) (World.alloc j3 (Obj.cells #[.int .i64 0, .int .i64 3, .int .i64 4, .int .i64 5] 3)) (some ⟨j3.heap.size, 0, none⟩) 4 [0, 3, 4, 5] from C_lit (enc := Value.int .i64) (h1 := fun _ => rfl) 3 j3 [0, 3, 4, 5] (by decide) (by decide))
  have n0_ := Aside0.mk (below_then HB8.out HB8.out.size (below_alloc (Below.refl _ _) (Obj.cells #[.int .i64 0, .int .i64 3, .int .i64 4, .int .i64 5] 3)))
  have n1_ := Aside0.mk (Kd.C_below HP5.out (below_alloc (Below.refl _ _) (Obj.cells #[.int .i64 0, .int .i64 3, .int .i64 4, .int .i64 5] 3)))
  have n2_ := Aside0.mk (Kd.C_below HS3.out (below_alloc (Below.refl _ _) (Obj.cells #[.int .i64 0, .int .i64 3, .int .i64 4, .int .i64 5] 3)))
  have n3_ := Aside0.mk (Kd.C_below HQ2.out (below_alloc (Below.refl _ _) (Obj.cells #[.int .i64 0, .int .i64 3, .int .i64 4, .int .i64 5] 3)))
  clear HB8 HP5 HS3 HQ2
  have HB8 := n0_
  have HP5 := n1_
  have HS3 := n2_
  have HQ2 := n3_
  clear n0_ n1_ n2_ n3_
  refine hK.out _ _ ⟨pw_cell_below (below_alloc (Below.refl _ _) (Obj.cells #[.int .i64 0, .int .i64 3, .int .i64 4, .int .i64 5] 3)) hHeld.1, pw_cell_below (below_alloc (Below.refl _ _) (Obj.cells #[.int .i64 0, .int .i64 3, .int .i64 4, .int .i64 5] 3)) hHeld.2.1, pw_cell_below (below_alloc (Below.refl _ _) (Obj.cells #[.int .i64 0, .int .i64 3, .int .i64 4, .int .i64 5] 3)) hHeld.2.2.1, pw_cell_below (below_alloc (Below.refl _ _) (Obj.cells #[.int .i64 0, .int .i64 3, .int .i64 4, .int .i64 5] 3)) hHeld.2.2.2⟩ (fun hHeld => ?_)
  clear hK K
  refine norm_ (a' := ?_) ?_ ?_
  rotate_left
  · show Act.put _ (some 81) _ = _
    simp only [Act.put, List.setIfInBounds_toArray, List.set_cons_zero, List.set_cons_succ, i64_w, i32_w]
    rfl
  refine one_ (i := 48) (N := some 82) #[true, true, true, true, true, true, true, true, true, true, true, true, true, true, true, true, true, true, true, true, true, true, true, true, true, true, true, true, true, true, true, true, true, true, true, true, true, true, true, true, true, true, true, true, true, true, true, true, true, false, false] rfl rfl (by kernel_rfl) (by decide) (fun K hK => ?_)
  refine goes_ Try.func23 (by kernel_rfl) rfl #[.slice AQ 4 cQ, .slice (some ⟨j3.heap.size, 0, none⟩) 4 4] (by rfl) rfl rfl (by simp only [List.map_toArray, List.map_cons, List.map_nil]; rfl) ?_
  refine (palantypelaw05_ints.calls 9 AQ cQ [0, 3, 4, 5] _ 4 [0, 3, 4, 5] true _ HQ2.out HQc.out HL_.out (by decide) awInts3).mono ?_
  rintro e j4 ⟨rfl, hd⟩
  refine ⟨_, rfl, ?_⟩
  have hb := hd.below
  have n0_ := Aside0.mk (below_then HB8.out HB8.out.size (hb))
  have n1_ := Aside0.mk (Kd.C_below HP5.out (hb))
  have n2_ := Aside0.mk (Kd.C_below HS3.out (hb))
  have n3_ := Aside0.mk (Kd.C_below HQ2.out (hb))
  clear HB8 HP5 HS3 HQ2
  have HB8 := n0_
  have HP5 := n1_
  have HS3 := n2_
  have HQ2 := n3_
  clear n0_ n1_ n2_ n3_
  clear HL_
  refine hK.out _ _ ⟨pw_cell_below (hb) hHeld.1, pw_cell_below (hb) hHeld.2.1, pw_cell_below (hb) hHeld.2.2.1, pw_cell_below (hb) hHeld.2.2.2⟩ (fun hHeld => ?_)
  clear hK K
  refine norm_ (a' := ?_) ?_ ?_
  rotate_left
  · show Act.put _ (some 82) _ = _
    simp only [Act.put, List.setIfInBounds_toArray, List.set_cons_zero, List.set_cons_succ, i64_w, i32_w]
    rfl
  refine pure_ (i := 49) (N := some 83) (v := ?_) (a' := ?_) #[true, true, true, true, true, true, true, true, true, true, true, true, true, true, true, true, true, true, true, true, true, true, true, true, true, true, true, true, true, true, true, true, true, true, true, true, true, true, true, true, true, true, true, true, true, true, true, true, true, true, false] rfl rfl (by kernel_rfl) (fun _ _ _ h => h) (Or.inl ⟨by rfl, ?_⟩) ?_ ?_
  rotate_left
  · intro w'
    go_simp
    with_reducible rfl
  rotate_left
  · simp only [Act.put, List.setIfInBounds_toArray, List.set_cons_zero, List.set_cons_succ, i64_w, i32_w]
    rfl
  refine pure_ (i := 50) (N := some 0) (v := ?_) (a' := ?_) #[true, true, true, true, true, true, true, true, true, true, true, true, true, true, true, true, true, true, true, true, true, true, true, true, true, true, true, true, true, true, true, true, true, true, true, true, true, true, true, true, true, true, true, true, true, true, true, true, true, true, true] rfl rfl (by kernel_rfl) (fun _ _ _ h => h) (Or.inl ⟨by rfl, ?_⟩) ?_ ?_
  rotate_left
  · intro w'
    go_simp
    with_reducible rfl
  rotate_left
  · simp only [Act.put, List.setIfInBounds_toArray, List.set_cons_zero, List.set_cons_succ, i64_w, i32_w]
    rfl
  refine done_ (by kernel_rfl) ?_
  go_wp2
  go_ret
  exact ⟨rfl, HB8.out⟩
theorem palantypelaw05_awake.calls (r : Bool) (w : World) (h : palantypelaw05_awake.f = some r) : Calls Try.prog 18 #[] w fun e w' => e = .returned (.bool r) ∧ Below w.heap.size w w' := by
  cases h
  exact awake_calls w
end Go.Proofs.Ythpheknchikodaa.P

/- What the laws' own words answer, in plain words. Conditions: the lists are no longer than the statements' guards let in. -/
namespace Go.Proofs.Ythpheknchikodaa.P
open Go.RowKit Go.Proofs.YthpheknchikodaaW.PrintWords Go.Proofs.YthpheknchikodaaW.PrintLast
set_option linter.unusedVariables false
set_option linter.unusedSimpArgs false

/-- A roll that comes in: its lists read. -/
def RIn (w : World) (A2 : Option Addr) (c2 : Nat) (ts : List S54) (A3 : Option Addr) (c3 : Nat) (ns : List S88) : Prop := Kd.C k54 w A2 ts.length ts ∧ ts.length ≤ c2 ∧ Kd.C k88 w A3 ns.length ns ∧ ns.length ≤ c3
theorem RIn.below {w w1 : World} {A2 A3 : Option Addr} {c2 c3 : Nat} {ts : List S54} {ns : List S88} (h : RIn w A2 c2 ts A3 c3 ns) (hb : Below w.heap.size w w1) : RIn w1 A2 c2 ts A3 c3 ns := ⟨Kd.C_below h.1 hb, h.2.1, Kd.C_below h.2.2.1 hb, h.2.2.2⟩
/-- A roll that was made. -/
def ROut (w : World) (A2 : Option Addr) (c2 : Nat) (ts : List S59) (A3 : Option Addr) (c3 : Nat) (ns : List S109) : Prop := Kd.C k59 w A2 ts.length ts ∧ ts.length ≤ c2 ∧ Kd.C k109 w A3 ns.length ns ∧ ns.length ≤ c3
theorem ROut.below {w w1 : World} {A2 A3 : Option Addr} {c2 c3 : Nat} {ts : List S59} {ns : List S109} (h : ROut w A2 c2 ts A3 c3 ns) (hb : Below w.heap.size w w1) : ROut w1 A2 c2 ts A3 c3 ns := ⟨Kd.C_below h.1 hb, h.2.1, Kd.C_below h.2.2.1 hb, h.2.2.2⟩
section
variable (p o : Int) (A2 : Option Addr) (c2 : Nat) (ts : List S54) (A3 : Option Addr) (c3 : Nat) (ns : List S88) (w : World)
theorem Thin_calls (h : RIn w A2 c2 ts A3 c3 ns) : Calls Try.prog 17 #[.agg #[.int .i64 p, .int .i64 o, .slice A2 ts.length c2, .slice A3 ns.length c3]] w fun e w' => e = .returned (.bool (thinB ts ns)) ∧ Below w.heap.size w w' := by
  obtain ⟨k, hk⟩ := (Thin_f p o ts ns).rounds
  exact palantypelaw05_Thin.calls k p o A2 c2 ts A3 c3 ns _ w h.1 h.2.1 h.2.2.1 h.2.2.2 hk
theorem Roll_calls (h : RIn w A2 c2 ts A3 c3 ns) (hts : ts.length ≤ 45) (hns : ns.length ≤ 65) : Calls Try.prog 20 #[.agg #[.int .i64 p, .int .i64 o, .slice A2 ts.length c2, .slice A3 ns.length c3]] w fun e w' =>
    ∃ (B2 : Option Addr) (d2 : Nat) (B3 : Option Addr) (d3 : Nat), e = .returned (.agg #[.int .i64 p, .int .i64 o, .slice B2 ts.length d2, .slice B3 ns.length d3]) ∧ ROut w' B2 d2 (ts.map toT) B3 d3 (ns.map toN) ∧ Below w.heap.size w w' := by
  obtain ⟨k, hk⟩ := (Roll_f p o ts ns hts hns).rounds
  refine (palantypelaw05_Roll.calls k p o A2 c2 ts A3 c3 ns _ _ _ _ w h.1 h.2.1 h.2.2.1 h.2.2.2 hk).mono ?_
  rintro e w' ⟨v2, v3, rfl, h2, h3, hb⟩
  obtain ⟨B2, d2, e2⟩ := Kd.R_slice h2
  obtain ⟨B3, d3, e3⟩ := Kd.R_slice h3
  subst e2 e3
  have g2 := Kd.R_reads' h2
  have g3 := Kd.R_reads' h3
  exact ⟨B2, d2, B3, d3, by rw [List.length_map, List.length_map], ⟨g2.2.2, g2.2.1, g3.2.2, g3.2.1⟩, hb⟩
end
end Go.Proofs.Ythpheknchikodaa.P
