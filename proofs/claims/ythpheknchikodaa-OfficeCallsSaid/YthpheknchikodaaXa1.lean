/- Contracts of functions that the laws reach, part Xa1. Conditions: each theorem names its own. -/
import Derived.Test.YthpheknchikodaaXb13
import Derived.Test.YthpheknchikodaaXb14
/- The walk of the law OfficeCalls: it answers true. Conditions: none beyond the roll's being readable. -/
namespace Go.Proofs.Ythpheknchikodaa.P
open Go.RowKit Go.Proofs.YthpheknchikodaaW.PrintWords Go.Proofs.YthpheknchikodaaW.PrintLast
set_option linter.unusedVariables false
set_option linter.unusedSimpArgs false

set_option maxHeartbeats 4000000 in
set_option maxRecDepth 100000 in
theorem OfficeCalls_calls (p o : Int) (A2 : Option Addr) (c2 : Nat) (ts : List S54) (A3 : Option Addr) (c3 : Nat) (ns : List S88) (person day : Int) (w : World) (hI : RIn w A2 c2 ts A3 c3 ns) :
    Calls Try.prog 13 #[.agg #[.int .i64 p, .int .i64 o, .slice A2 ts.length c2, .slice A3 ns.length c3], .int .i64 person, .int .i64 day] w fun e w' => e = .returned (.bool true) ∧ Below w.heap.size w w' := by
  have hu25 := Try.underlying25
  have HB0 := Aside0.mk (below_alloc (Below.refl w.heap.size w) (.cells #[.int .i64 p, .int .i64 o, .slice A2 ts.length c2, .slice A3 ns.length c3] 25))
  have HI0 := Aside0.mk (hI.below HB0.out)
  have BK0 := Aside0.mk (blk_new w (.cells #[.int .i64 p, .int .i64 o, .slice A2 ts.length c2, .slice A3 ns.length c3] 25))
  obtain ⟨x0, x1, x2, x3⟩ := roll_cells BK0.out
  clear hI
  go_enter Try.func13, Try.ntmps13
  go_wp2_with fail
  cases ht : thinB ts ns
  · refine (Thin_calls p o A2 c2 ts A3 c3 ns _ HI0.out).mono ?_
    rintro e w1 ⟨rfl, hb⟩
    rw [ht]
    have HB1 := Aside0.mk (below_then HB0.out HB0.out.size hb)
    clear hb
    go_wp2_with fail
    refine (awake_calls _).mono ?_
    rintro e wz ⟨rfl, hb⟩
    have HBz := Aside0.mk (below_then HB1.out HB1.out.size hb)
    clear hb
    go_wp2
    go_ret
    exact ⟨rfl, HBz.out⟩
  obtain ⟨hts, hns, hsz⟩ := thin_facts ht
  have HTS := Aside0.mk hts
  have HNS := Aside0.mk hns
  have HSZ := Aside0.mk hsz
  clear hts hns hsz
  refine (Thin_calls p o A2 c2 ts A3 c3 ns _ HI0.out).mono ?_
  rintro e w1 ⟨rfl, hb⟩
  rw [ht]
  have HB1 := Aside0.mk (below_then HB0.out HB0.out.size hb)
  have HI1 := Aside0.mk (HI0.out.below hb)
  have BK1 := Aside0.mk ((hb.block _ (blk_lt BK0.out)).trans BK0.out)
  clear hb x0 x1 x2 x3 HI0 BK0
  obtain ⟨x0, x1, x2, x3⟩ := roll_cells BK1.out
  go_wp2_with fail
  refine (Roll_calls p o A2 c2 ts A3 c3 ns _ HI1.out HTS.out HNS.out).mono ?_
  rintro e w2 ⟨B12, d12, B13, d13, rfl, ho, hb⟩
  have HO1 := Aside0.mk ho
  clear ho
  have HB2 := Aside0.mk (below_then HB1.out HB1.out.size hb)
  have HI2 := Aside0.mk (HI1.out.below hb)
  have BK2 := Aside0.mk ((hb.block _ (blk_lt BK1.out)).trans BK1.out)
  clear hb x0 x1 x2 x3 HI1 BK1
  obtain ⟨x0, x1, x2, x3⟩ := roll_cells BK2.out
  go_wp2_with fail
  refine (pCall_calls p o B12 d12 (ts.map toT) B13 d13 (ns.map toN) _ _ (List.length_map ..) (List.length_map ..) person day _ HO1.out.1 HO1.out.2.1 HO1.out.2.2.1 HO1.out.2.2.2).mono ?_
  rintro e w3 ⟨rfl, hb⟩
  have HB3 := Aside0.mk (below_then HB2.out HB2.out.size hb)
  have HI3 := Aside0.mk (HI2.out.below hb)
  have BK3 := Aside0.mk ((hb.block _ (blk_lt BK2.out)).trans BK2.out)
  clear hb x0 x1 x2 x3 HI2 BK2
  obtain ⟨x0, x1, x2, x3⟩ := roll_cells BK3.out
  go_wp2_with fail
  refine (Fault_calls p o A2 c2 ts A3 c3 ns _ HI3.out.1 HI3.out.2.2.1 HTS.out HNS.out HSZ.out).mono ?_
  rintro e w4 ⟨rfl, hb⟩
  have HB4 := Aside0.mk (below_then HB3.out HB3.out.size hb)
  have HI4 := Aside0.mk (HI3.out.below hb)
  have BK4 := Aside0.mk ((hb.block _ (blk_lt BK3.out)).trans BK3.out)
  clear hb x0 x1 x2 x3 HI3 BK3
  obtain ⟨x0, x1, x2, x3⟩ := roll_cells BK4.out
  obtain ⟨f, hf⟩ : ∃ f, faultOf p o ts ns = f := ⟨_, rfl⟩
  have hpa : paskedOf p o (ts.map toT) (ns.map toN) person p day = if f = 0 then (if (withinB person 0 (wrap64 (p - 1)) && withinB day 0 100000) = true then 0 else 2) else f := by rw [← hf]; rfl
  have hpc : pCall p o (ts.map toT) (ns.map toN) person day = if paskedOf p o (ts.map toT) (ns.map toN) person p day = 0 then (if callOf (ns.map toN) person day = -1 then (⟨#[]⟩, 7) else ((rd_T109 (ns.map toN) (callOf (ns.map toN) person day)).f2, 0)) else (⟨#[]⟩, paskedOf p o (ts.map toT) (ns.map toN) person p day) := rfl
  rw [hf]
  by_cases h0 : f = 0
  case neg =>
    rw [if_neg h0] at hpa
    rw [hpa, if_neg h0] at hpc
    rw [hpc]
    have e1 : (f == 0) = false := beq_eq_false_iff_ne.mpr h0
    have e2 : (f != 0) = true := bne_iff_ne.mpr h0
    clear h0 hpc hpa hf
    go_wp2_with fail
    refine (awake_calls _).mono ?_
    rintro e wz ⟨rfl, hb⟩
    have HBz := Aside0.mk (below_then HB4.out HB4.out.size hb)
    clear hb
    go_wp2
    go_ret
    exact ⟨rfl, HBz.out⟩
  subst h0
  rw [if_pos rfl] at hpa
  cases j1 : withinB person 0 (wrap64 (p - 1))
  · rw [j1, Bool.false_and, if_neg (by simp)] at hpa
    rw [hpa, if_neg (by decide)] at hpc
    rw [hpc]
    clear hpc hpa hf
    go_wp2_with (go_at_call 29; (with_reducible refine (In_calls _ _ _ _).mono ?_); rintro e w' ⟨rfl, rfl⟩; (first | rw [j1]))
    refine (awake_calls _).mono ?_
    rintro e wz ⟨rfl, hb⟩
    have HBz := Aside0.mk (below_then HB4.out HB4.out.size hb)
    clear hb
    go_wp2
    go_ret
    exact ⟨rfl, HBz.out⟩
  cases j2 : withinB day 0 100000
  · rw [j1, j2, Bool.and_false, if_neg (by simp)] at hpa
    rw [hpa, if_neg (by decide)] at hpc
    rw [hpc]
    clear hpc hpa hf
    go_wp2_with (go_at_call 29; (with_reducible refine (In_calls _ _ _ _).mono ?_); rintro e w' ⟨rfl, rfl⟩; (first | rw [j1] | rw [j2]))
    refine (awake_calls _).mono ?_
    rintro e wz ⟨rfl, hb⟩
    have HBz := Aside0.mk (below_then HB4.out HB4.out.size hb)
    clear hb
    go_wp2
    go_ret
    exact ⟨rfl, HBz.out⟩
  rw [j1, j2, Bool.and_self, if_pos rfl] at hpa
  rw [hpa, if_pos rfl] at hpc
  have HRG := Aside0.mk (callOf_range (ns.map toN) person day)
  obtain ⟨k, hk⟩ : ∃ k, callOf (ns.map toN) person day = k := ⟨_, rfl⟩
  rw [hk] at hpc HRG
  have HK := Aside0.mk hk
  clear hpa hf hk
  by_cases hm : k = -1
  case pos =>
    subst hm
    rw [if_pos rfl] at hpc
    rw [hpc]
    clear hpc
    go_wp2_with (first | (go_at_call 29; (with_reducible refine (In_calls _ _ _ _).mono ?_); rintro e w' ⟨rfl, rfl⟩; (first | rw [j1] | rw [j2])))
    refine (rCall_calls p o A2 c2 ts A3 c3 ns person day _ HI4.out.2.2.1 HNS.out).mono ?_
    rintro e w5 ⟨rfl, hb⟩
    rw [HK.out]
    have HB5 := Aside0.mk (below_then HB4.out HB4.out.size hb)
    have HI5 := Aside0.mk (HI4.out.below hb)
    have BK5 := Aside0.mk ((hb.block _ (blk_lt BK4.out)).trans BK4.out)
    clear hb x0 x1 x2 x3 HI4 BK4
    obtain ⟨x0, x1, x2, x3⟩ := roll_cells BK5.out
    go_wp2_with fail
    refine (awake_calls _).mono ?_
    rintro e wz ⟨rfl, hb⟩
    have HBz := Aside0.mk (below_then HB5.out HB5.out.size hb)
    clear hb
    go_wp2
    go_ret
    exact ⟨rfl, HBz.out⟩
  rw [if_neg hm, rd_toN] at hpc
  rw [hpc]
  have hk0 : 0 ≤ k := by have := HRG.out; omega
  have hk1 : k < (ns.length : Int) := by have := HRG.out; rw [List.length_map] at this; omega
  have e5 : decide (k < 0) = false := decide_eq_false (by omega)
  have HK0 := Aside0.mk hk0
  have HK1 := Aside0.mk hk1
  clear hpc hm hk0 hk1
  go_wp2_with (first | (go_at_call 29; (with_reducible refine (In_calls _ _ _ _).mono ?_); rintro e w' ⟨rfl, rfl⟩; (first | rw [j1] | rw [j2])))
  refine (rCall_calls p o A2 c2 ts A3 c3 ns person day _ HI4.out.2.2.1 HNS.out).mono ?_
  rintro e w5 ⟨rfl, hb⟩
  rw [HK.out]
  have HB5 := Aside0.mk (below_then HB4.out HB4.out.size hb)
  have HI5 := Aside0.mk (HI4.out.below hb)
  have BK5 := Aside0.mk ((hb.block _ (blk_lt BK4.out)).trans BK4.out)
  clear hb x0 x1 x2 x3 HI4 BK4
  obtain ⟨x0, x1, x2, x3⟩ := roll_cells BK5.out
  obtain ⟨ad, hA, q0, q1, q2⟩ := at_T88 HI5.out.2.2.1 k HK0.out HK1.out
  cases hA
  have k0 := eq_true HK0.out
  have k1 := eq_true HK1.out
  go_wp2_with fail
  refine (awake_calls _).mono ?_
  rintro e wz ⟨rfl, hb⟩
  have HBz := Aside0.mk (below_then HB5.out HB5.out.size hb)
  clear hb
  go_wp2
  go_ret
  exact ⟨rfl, HBz.out⟩
end Go.Proofs.Ythpheknchikodaa.P
