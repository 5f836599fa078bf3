/- Contracts of functions that the laws reach, part Xe2. Conditions: each theorem names its own. -/
import Derived.Test.YthpheknchikodaaXe1
import Derived.Test.YthpheknchikodaaXb14
/- The walk of the law OfficePairs: it answers true. Conditions: none beyond the roll's being readable. -/
namespace Go.Proofs.Ythpheknchikodaa.P
open Go.RowKit Go.Proofs.YthpheknchikodaaW.PrintWords Go.Proofs.YthpheknchikodaaW.PrintLast
set_option linter.unusedVariables false
set_option linter.unusedSimpArgs false

set_option maxHeartbeats 4000000 in
set_option maxRecDepth 100000 in
theorem OfficePairs_calls (p o : Int) (A2 : Option Addr) (c2 : Nat) (ts : List S54) (A3 : Option Addr) (c3 : Nat) (ns : List S88) (w : World) (hI : RIn w A2 c2 ts A3 c3 ns) :
    Calls Try.prog 8 #[.agg #[.int .i64 p, .int .i64 o, .slice A2 ts.length c2, .slice A3 ns.length c3]] w fun e w' => e = .returned (.bool true) ∧ Below w.heap.size w w' := by
  have hu25 := Try.underlying25
  have HB0 := Aside0.mk (below_alloc (Below.refl w.heap.size w) (.cells #[.int .i64 p, .int .i64 o, .slice A2 ts.length c2, .slice A3 ns.length c3] 25))
  have HI0 := Aside0.mk (hI.below HB0.out)
  have BK0 := Aside0.mk (blk_new w (.cells #[.int .i64 p, .int .i64 o, .slice A2 ts.length c2, .slice A3 ns.length c3] 25))
  obtain ⟨x0, x1, x2, x3⟩ := roll_cells BK0.out
  clear hI
  go_enter Try.func8, Try.ntmps8
  go_wp2_with fail
  cases hrd : readyB p o ts ns
  · refine (ready_calls p o A2 c2 ts A3 c3 ns _ HI0.out).mono ?_
    rintro e w1 ⟨rfl, hb⟩
    rw [hrd]
    have HB1 := Aside0.mk (below_then HB0.out HB0.out.size hb)
    clear hb
    go_wp2_with fail
    refine (awake_calls _).mono ?_
    rintro e wz ⟨rfl, hb⟩
    have HBz := Aside0.mk (below_then HB1.out HB1.out.size hb)
    clear hb
    go_wp2
    go_ret
    exact ⟨rfl, HBz.out⟩
  have hrd' := hrd
  unfold readyB at hrd'
  rw [Bool.and_eq_true] at hrd'
  obtain ⟨hts, hns, hsz⟩ := thin_facts hrd'.1
  have HTS := Aside0.mk hts
  have HNS := Aside0.mk hns
  have HSZ := Aside0.mk hsz
  have HFA := Aside0.mk (show rollFault p o (ts.map toT) (ns.map toN) = 0 from of_decide_eq_true hrd'.2)
  have HRO := Aside0.mk (rollOk_of HFA.out)
  clear hts hns hsz hrd'
  refine (ready_calls p o A2 c2 ts A3 c3 ns _ HI0.out).mono ?_
  rintro e w1 ⟨rfl, hb⟩
  rw [hrd]
  have HB1 := Aside0.mk (below_then HB0.out HB0.out.size hb)
  have HI1 := Aside0.mk (HI0.out.below hb)
  have BK1 := Aside0.mk ((hb.block _ (blk_lt BK0.out)).trans BK0.out)
  clear hb x0 x1 x2 x3 HI0 BK0
  obtain ⟨x0, x1, x2, x3⟩ := roll_cells BK1.out
  clear hrd
  go_wp2_with fail
  refine (Roll_calls p o A2 c2 ts A3 c3 ns _ HI1.out HTS.out HNS.out).mono ?_
  rintro e w2 ⟨B12, d12, B13, d13, rfl, ho, hb⟩
  have HO1 := Aside0.mk ho
  clear ho
  have HB2 := Aside0.mk (below_then HB1.out HB1.out.size hb)
  have HI2 := Aside0.mk (HI1.out.below hb)
  have BK2 := Aside0.mk ((hb.block _ (blk_lt BK1.out)).trans BK1.out)
  clear hb x0 x1 x2 x3 HI1 BK1
  obtain ⟨x0, x1, x2, x3⟩ := roll_cells BK2.out
  go_wp2_with fail
  refine (Clash_calls p o B12 d12 (ts.map toT) B13 d13 (ns.map toN) _ _ (List.length_map ..) (List.length_map ..) _ HO1.out).mono ?_
  rintro e w3 ⟨rfl, hb⟩
  have HB3 := Aside0.mk (below_then HB2.out HB2.out.size hb)
  have HI3 := Aside0.mk (HI2.out.below hb)
  have BK3 := Aside0.mk ((hb.block _ (blk_lt BK2.out)).trans BK2.out)
  clear hb x0 x1 x2 x3 HI2 BK2
  obtain ⟨x0, x1, x2, x3⟩ := roll_cells BK3.out
  have hpc : pClash p o (ts.map toT) (ns.map toN) = if rollFault p o (ts.map toT) (ns.map toN) = 0 then (match firstClash 0 (ts.map toT) with | some r => (r.1, r.2, 0) | none => (0, 0, 7)) else (0, 0, rollFault p o (ts.map toT) (ns.map toN)) := rfl
  have hls : (learnSpec p o (ts.map toT) (ns.map toN)).2 = if (firstClash 0 (ts.map toT)).isSome then 9 else 0 := by
    unfold learnSpec soundOf
    rw [if_pos HFA.out]
    cases (firstClash 0 (ts.map toT)).isSome <;> rfl
  rw [if_pos HFA.out] at hpc
  obtain ⟨c, hc⟩ : ∃ c, firstClash 0 (ts.map toT) = c := ⟨_, rfl⟩
  rw [hc] at hpc hls
  obtain ⟨L, hL⟩ : ∃ L, learnSpec p o (ts.map toT) (ns.map toN) = L := ⟨_, rfl⟩
  rw [hL] at hls
  have HL := Aside0.mk hL
  clear hL
  cases c with
  | none =>
    rw [hpc]
    simp only [Option.isSome_none, Bool.false_eq_true, if_false] at hls
    clear hpc hc
    go_wp2_with fail
    refine (Roll_calls p o A2 c2 ts A3 c3 ns _ HI3.out HTS.out HNS.out).mono ?_
    rintro e w4 ⟨B22, d22, B23, d23, rfl, ho, hb⟩
    have HO2 := Aside0.mk ho
    clear ho
    have HB4 := Aside0.mk (below_then HB3.out HB3.out.size hb)
    have HI4 := Aside0.mk (HI3.out.below hb)
    have BK4 := Aside0.mk ((hb.block _ (blk_lt BK3.out)).trans BK3.out)
    clear hb x0 x1 x2 x3 HI3 BK3
    obtain ⟨x0, x1, x2, x3⟩ := roll_cells BK4.out
    go_wp2_with fail
    refine (pLearn_calls p o B22 d22 (ts.map toT) B23 d23 (ns.map toN) _ _ (List.length_map ..) (List.length_map ..) _ HO2.out.1 HO2.out.2.1 HO2.out.2.2.1 HO2.out.2.2.2).mono ?_
    rintro e w5 ⟨AL, cL, rfl, -, -, hb⟩
    rw [HL.out, hls]
    have HB5 := Aside0.mk (below_then HB4.out HB4.out.size hb)
    have HI5 := Aside0.mk (HI4.out.below hb)
    have BK5 := Aside0.mk ((hb.block _ (blk_lt BK4.out)).trans BK4.out)
    clear hb x0 x1 x2 x3 HI4 BK4
    obtain ⟨x0, x1, x2, x3⟩ := roll_cells BK5.out
    clear hls
    go_wp2_with fail
    refine (awake_calls _).mono ?_
    rintro e wz ⟨rfl, hb⟩
    have HBz := Aside0.mk (below_then HB5.out HB5.out.size hb)
    clear hb
    go_wp2
    go_ret
    exact ⟨rfl, HBz.out⟩
  | some r =>
    obtain ⟨i, k⟩ := r
    simp only at hpc
    rw [hpc]
    simp only [Option.isSome_some, if_true] at hls
    obtain ⟨hi0, hik, hkl, hoff, htwo, hfst⟩ := pairs_facts HFA.out hc
    have HTW := Aside0.mk htwo
    have HFS := Aside0.mk hfst
    have HOFF := Aside0.mk hoff
    rw [List.length_map] at hkl
    have HK := Aside0.mk hkl
    have HIK := Aside0.mk hik
    clear hpc hc htwo hfst hoff
    go_wp2_with fail
    refine (Roll_calls p o A2 c2 ts A3 c3 ns _ HI3.out HTS.out HNS.out).mono ?_
    rintro e w4 ⟨B22, d22, B23, d23, rfl, ho, hb⟩
    have HO2 := Aside0.mk ho
    clear ho
    have HB4 := Aside0.mk (below_then HB3.out HB3.out.size hb)
    have HI4 := Aside0.mk (HI3.out.below hb)
    have BK4 := Aside0.mk ((hb.block _ (blk_lt BK3.out)).trans BK3.out)
    clear hb x0 x1 x2 x3 HI3 BK3
    obtain ⟨x0, x1, x2, x3⟩ := roll_cells BK4.out
    go_wp2_with fail
    refine (pLearn_calls p o B22 d22 (ts.map toT) B23 d23 (ns.map toN) _ _ (List.length_map ..) (List.length_map ..) _ HO2.out.1 HO2.out.2.1 HO2.out.2.2.1 HO2.out.2.2.2).mono ?_
    rintro e w5 ⟨AL, cL, rfl, -, -, hb⟩
    rw [HL.out, hls]
    have HB5 := Aside0.mk (below_then HB4.out HB4.out.size hb)
    have HI5 := Aside0.mk (HI4.out.below hb)
    have BK5 := Aside0.mk ((hb.block _ (blk_lt BK4.out)).trans BK4.out)
    clear hb x0 x1 x2 x3 HI4 BK4
    obtain ⟨x0, x1, x2, x3⟩ := roll_cells BK5.out
    have hLL := HL
    clear hls
    have e1 : decide (i < 0) = false := decide_eq_false (by omega)
    have e2 : decide (k ≤ i) = false := decide_eq_false (by omega)
    have e3 : decide ((ts.length : Int) ≤ k) = false := decide_eq_false (by omega)
    obtain ⟨ad, hA, y0, y1, y2, y3, y4, y5⟩ := at_T54 HI5.out.1 i hi0 (by omega)
    obtain ⟨ad', hA', q0, q1, q2, q3, q4, q5⟩ := at_T54 HI5.out.1 k (by omega) hkl
    obtain rfl : ad = ad' := by rw [hA] at hA'; injection hA'
    have hoff := HOFF.out
    have htw := HTW.out
    rw [tAt_map ts i (by omega), tAt_map ts k (by omega)] at hoff htw
    obtain ⟨t, ht⟩ : ∃ t, rd_T54 ts i = t := ⟨_, rfl⟩
    obtain ⟨u, hu⟩ : ∃ u, rd_T54 ts k = u := ⟨_, rfl⟩
    rw [ht] at y0 y1 y2 y3 y4 y5 hoff htw
    rw [hu] at q0 q1 q2 q3 q4 q5 hoff htw
    have e4 : (t.f1 != u.f1) = false := by simpa [toT] using hoff
    have HTW := Aside0.mk htw
    have HI0' := Aside0.mk hi0
    have hi1 := eq_true (show i < (ts.length : Int) by omega)
    have hi2 := eq_true hi0
    have hk1 := eq_true hkl
    have hk2 := eq_true (show 0 ≤ k by omega)
    cases hA
    clear hoff htw hA' hi0 hik hkl
    go_wp2
    have HBd := Aside0.mk (below_drew1 HB5.out)
    have HId := Aside0.mk (HI5.out.below (below_drew (Below.refl _ _)))
    have BKd := Aside0.mk (show w5.drew.heap[w.heap.size]? = some (.cells #[.int .i64 p, .int .i64 o, .slice (some ad) ts.length c2, .slice A3 ns.length c3] 25 (0, 0)) from BK5.out)
    refine start_ (n := 33) (S := fun w' => w'.cell? ⟨w.heap.size, 2, none⟩ = some (.slice (some ad) ts.length c2) ∧ w'.cell? ⟨(ad.add (i.toNat * 6)).block, (ad.add (i.toNat * 6)).off + 1, none⟩ = some (.int .i64 t.f1) ∧ w'.cell? ⟨(ad.add (k.toNat * 6)).block, (ad.add (k.toNat * 6)).off + 1, none⟩ = some (.int .i64 u.f1)) (ds := []) #[false, false, false, false, false, false, false, false, false, false, false, false, false, false, false, false, false, false, false, false, false, false, false, false, false, false, false, false, false, false, false, false, false] (by kernel_rfl) rfl rfl ⟨x2, y1, q1⟩ (fun hHeld => ?_)
    generalize w5.drew = wd at HBd HId BKd hHeld ⊢
    refine pure_ (i := 0) (N := some 44) (v := ?_) (a' := ?_) #[true, false, false, false, false, false, false, false, false, false, false, false, false, false, false, false, false, false, false, false, false, false, false, false, false, false, false, false, false, false, false, false, false] rfl rfl (by kernel_rfl) (fun _ _ _ h => h) (Or.inl ⟨by rfl, ?_⟩) ?_ ?_
    rotate_left
    · intro w'
      go_simp
      with_reducible rfl
    rotate_left
    · simp only [Act.put, List.setIfInBounds_toArray, List.set_cons_zero, List.set_cons_succ, i64_w, i32_w]
      rfl
    refine pure_ (i := 1) (N := some 45) (v := ?_) (a' := ?_) #[true, true, false, false, false, false, false, false, false, false, false, false, false, false, false, false, false, false, false, false, false, false, false, false, false, false, false, false, false, false, false, false, false] rfl rfl (by kernel_rfl) (fun _ _ _ h => h) (Or.inl ⟨by rfl, ?_⟩) ?_ ?_
    rotate_left
    · intro w'
      go_simp
      with_reducible rfl
    rotate_left
    · simp only [Act.put, List.setIfInBounds_toArray, List.set_cons_zero, List.set_cons_succ, i64_w, i32_w]
      rfl
    refine pure_ (i := 2) (N := some 46) (v := ?_) (a' := ?_) #[true, true, true, false, false, false, false, false, false, false, false, false, false, false, false, false, false, false, false, false, false, false, false, false, false, false, false, false, false, false, false, false, false] rfl rfl (by kernel_rfl) (fun _ _ _ h => h) (Or.inl ⟨by rfl, ?_⟩) ?_ ?_
    rotate_left
    · intro w'
      go_simp
      with_reducible rfl
    rotate_left
    · simp only [Act.put, List.setIfInBounds_toArray, List.set_cons_zero, List.set_cons_succ, i64_w, i32_w]
      rfl
    refine pure_ (i := 3) (N := some 47) (v := ?_) (a' := ?_) #[true, true, true, true, false, false, false, false, false, false, false, false, false, false, false, false, false, false, false, false, false, false, false, false, false, false, false, false, false, false, false, false, false] rfl rfl (by kernel_rfl) (fun _ _ _ h => h) (Or.inl ⟨by rfl, ?_⟩) ?_ ?_
    rotate_left
    · intro w'
      go_simp
      with_reducible rfl
    rotate_left
    · simp only [Act.put, List.setIfInBounds_toArray, List.set_cons_zero, List.set_cons_succ, i64_w, i32_w]
      rfl
    refine pure_ (i := 4) (N := some 48) (v := ?_) (a' := ?_) #[true, true, true, true, true, false, false, false, false, false, false, false, false, false, false, false, false, false, false, false, false, false, false, false, false, false, false, false, false, false, false, false, false] rfl rfl (by kernel_rfl) (fun _ _ _ h => h) (Or.inl ⟨by rfl, ?_⟩) ?_ ?_
    rotate_left
    · intro w'
      go_simp
      with_reducible rfl
    rotate_left
    · simp only [Act.put, List.setIfInBounds_toArray, List.set_cons_zero, List.set_cons_succ, i64_w, i32_w]
      rfl
    refine pure_ (i := 5) (N := some 49) (v := ?_) (a' := ?_) #[true, true, true, true, true, true, false, false, false, false, false, false, false, false, false, false, false, false, false, false, false, false, false, false, false, false, false, false, false, false, false, false, false] rfl rfl (by kernel_rfl) (fun _ _ _ h => h) (Or.inl ⟨by rfl, ?_⟩) ?_ ?_
    rotate_left
    · intro w'
      go_simp
      with_reducible rfl
    rotate_left
    · simp only [Act.put, List.setIfInBounds_toArray, List.set_cons_zero, List.set_cons_succ, i64_w, i32_w]
      rfl
    refine pure_ (i := 6) (N := some 50) (v := ?_) (a' := ?_) #[true, true, true, true, true, true, true, false, false, false, false, false, false, false, false, false, false, false, false, false, false, false, false, false, false, false, false, false, false, false, false, false, false] rfl rfl (by kernel_rfl) (fun _ _ _ h => h) (Or.inl ⟨by rfl, ?_⟩) ?_ ?_
    rotate_left
    · intro w'
      go_simp
      with_reducible rfl
    rotate_left
    · simp only [Act.put, List.setIfInBounds_toArray, List.set_cons_zero, List.set_cons_succ, i64_w, i32_w]
      rfl
    refine pure_ (i := 7) (N := some 51) (v := ?_) (a' := ?_) #[true, true, true, true, true, true, true, true, false, false, false, false, false, false, false, false, false, false, false, false, false, false, false, false, false, false, false, false, false, false, false, false, false] rfl rfl (by kernel_rfl) (fun _ _ _ h => h) (Or.inl ⟨by rfl, ?_⟩) ?_ ?_
    rotate_left
    · intro w'
      go_simp
      with_reducible rfl
    rotate_left
    · simp only [Act.put, List.setIfInBounds_toArray, List.set_cons_zero, List.set_cons_succ, i64_w, i32_w]
      rfl
    refine pure_ (i := 8) (N := some 52) (v := ?_) (a' := ?_) #[true, true, true, true, true, true, true, true, true, false, false, false, false, false, false, false, false, false, false, false, false, false, false, false, false, false, false, false, false, false, false, false, false] rfl rfl (by kernel_rfl) (fun _ _ _ h => h) (Or.inl ⟨by rfl, ?_⟩) ?_ ?_
    rotate_left
    · intro w'
      go_simp
      with_reducible rfl
    rotate_left
    · simp only [Act.put, List.setIfInBounds_toArray, List.set_cons_zero, List.set_cons_succ, i64_w, i32_w]
      rfl
    refine pure_ (i := 9) (N := some 53) (v := ?_) (a' := ?_) #[true, true, true, true, true, true, true, true, true, true, false, false, false, false, false, false, false, false, false, false, false, false, false, false, false, false, false, false, false, false, false, false, false] rfl rfl (by kernel_rfl) (fun _ _ _ h => h) (Or.inl ⟨by rfl, ?_⟩) ?_ ?_
    rotate_left
    · intro w'
      go_simp
      with_reducible rfl
    rotate_left
    · simp only [Act.put, List.setIfInBounds_toArray, List.set_cons_zero, List.set_cons_succ, i64_w, i32_w]
      rfl
    refine pure_ (i := 10) (N := some 54) (v := ?_) (a' := ?_) #[true, true, true, true, true, true, true, true, true, true, true, false, false, false, false, false, false, false, false, false, false, false, false, false, false, false, false, false, false, false, false, false, false] rfl rfl (by kernel_rfl) (fun _ _ _ h => h) (Or.inl ⟨by rfl, ?_⟩) ?_ ?_
    rotate_left
    · intro w'
      go_simp
      with_reducible rfl
    rotate_left
    · simp only [Act.put, List.setIfInBounds_toArray, List.set_cons_zero, List.set_cons_succ, i64_w, i32_w]
      rfl
    refine pure_ (i := 11) (N := some 55) (v := ?_) (a' := ?_) #[true, true, true, true, true, true, true, true, true, true, true, true, false, false, false, false, false, false, false, false, false, false, false, false, false, false, false, false, false, false, false, false, false] rfl rfl (by kernel_rfl) (fun _ _ _ h => h) (Or.inl ⟨by rfl, ?_⟩) ?_ ?_
    rotate_left
    · intro w'
      go_simp
      with_reducible rfl
    rotate_left
    · simp only [Act.put, List.setIfInBounds_toArray, List.set_cons_zero, List.set_cons_succ, i64_w, i32_w]
      rfl
    refine pure_ (i := 12) (N := some 56) (v := ?_) (a' := ?_) #[true, true, true, true, true, true, true, true, true, true, true, true, true, false, false, false, false, false, false, false, false, false, false, false, false, false, false, false, false, false, false, false, false] rfl rfl (by kernel_rfl) (fun _ _ _ h => h) (Or.inl ⟨by rfl, ?_⟩) ?_ ?_
    rotate_left
    · intro w'
      go_simp
      with_reducible rfl
    rotate_left
    · simp only [Act.put, List.setIfInBounds_toArray, List.set_cons_zero, List.set_cons_succ, i64_w, i32_w]
      rfl
    refine pure_ (i := 13) (N := some 57) (v := ?_) (a' := ?_) #[true, true, true, true, true, true, true, true, true, true, true, true, true, true, false, false, false, false, false, false, false, false, false, false, false, false, false, false, false, false, false, false, false] rfl rfl (by kernel_rfl) (fun _ _ _ h => h) (Or.inl ⟨by rfl, ?_⟩) ?_ ?_
    rotate_left
    · intro w'
      go_simp
      with_reducible rfl
    rotate_left
    · simp only [Act.put, List.setIfInBounds_toArray, List.set_cons_zero, List.set_cons_succ, i64_w, i32_w]
      rfl
    refine take_ (i := 14) (N := some 58) (v := ?_) (a' := ?_) #[true, true, true, true, true, true, true, true, true, true, true, true, true, true, true, false, false, false, false, false, false, false, false, false, false, false, false, false, false, false, false, false, false] rfl rfl (by kernel_rfl) (fun _ _ _ h => h) (Or.inl ⟨by rfl, ?_⟩) hHeld ?_ ?_
    rotate_left
    · rintro w' ⟨s0, s1, s2⟩
      go_simp
      with_reducible rfl
    rotate_left
    · simp only [Act.put, List.setIfInBounds_toArray, List.set_cons_zero, List.set_cons_succ, i64_w, i32_w]
      rfl
    refine pure_ (i := 15) (N := some 59) (v := ?_) (a' := ?_) #[true, true, true, true, true, true, true, true, true, true, true, true, true, true, true, true, false, false, false, false, false, false, false, false, false, false, false, false, false, false, false, false, false] rfl rfl (by kernel_rfl) (fun _ _ _ h => h) (Or.inl ⟨by rfl, ?_⟩) ?_ ?_
    rotate_left
    · intro w'
      go_simp
      with_reducible rfl
    rotate_left
    · simp only [Act.put, List.setIfInBounds_toArray, List.set_cons_zero, List.set_cons_succ, i64_w, i32_w]
      rfl
    refine pure_ (i := 16) (N := some 60) (v := ?_) (a' := ?_) #[true, true, true, true, true, true, true, true, true, true, true, true, true, true, true, true, true, false, false, false, false, false, false, false, false, false, false, false, false, false, false, false, false] rfl rfl (by kernel_rfl) (fun _ _ _ h => h) (Or.inl ⟨by rfl, ?_⟩) ?_ ?_
    rotate_left
    · intro w'
      go_simp
      with_reducible rfl
    rotate_left
    · simp only [Act.put, List.setIfInBounds_toArray, List.set_cons_zero, List.set_cons_succ, i64_w, i32_w]
      rfl
    refine pure_ (i := 17) (N := some 61) (v := ?_) (a' := ?_) #[true, true, true, true, true, true, true, true, true, true, true, true, true, true, true, true, true, true, false, false, false, false, false, false, false, false, false, false, false, false, false, false, false] rfl rfl (by kernel_rfl) (fun _ _ _ h => h) (Or.inl ⟨by rfl, ?_⟩) ?_ ?_
    rotate_left
    · intro w'
      go_simp
      with_reducible rfl
    rotate_left
    · simp only [Act.put, List.setIfInBounds_toArray, List.set_cons_zero, List.set_cons_succ, i64_w, i32_w]
      rfl
    refine pure_ (i := 18) (N := some 62) (v := ?_) (a' := ?_) #[true, true, true, true, true, true, true, true, true, true, true, true, true, true, true, true, true, true, true, false, false, false, false, false, false, false, false, false, false, false, false, false, false] rfl rfl (by kernel_rfl) (fun _ _ _ h => h) (Or.inl ⟨by rfl, ?_⟩) ?_ ?_
    rotate_left
    · intro w'
      go_simp
      with_reducible rfl
    rotate_left
    · simp only [Act.put, List.setIfInBounds_toArray, List.set_cons_zero, List.set_cons_succ, i64_w, i32_w]
      rfl
    refine pure_ (i := 19) (N := some 63) (v := ?_) (a' := ?_) #[true, true, true, true, true, true, true, true, true, true, true, true, true, true, true, true, true, true, true, true, false, false, false, false, false, false, false, false, false, false, false, false, false] rfl rfl (by kernel_rfl) (fun _ _ _ h => h) (Or.inl ⟨by rfl, ?_⟩) ?_ ?_
    rotate_left
    · intro w'
      go_simp
      with_reducible rfl
    rotate_left
    · simp only [Act.put, List.setIfInBounds_toArray, List.set_cons_zero, List.set_cons_succ, i64_w, i32_w]
      rfl
    refine pure_ (i := 21) (N := some 65) (v := ?_) (a' := ?_) #[true, true, true, true, true, true, true, true, true, true, true, true, true, true, true, true, true, true, true, true, false, true, false, false, false, false, false, false, false, false, false, false, false] rfl rfl (by kernel_rfl) (fun _ _ _ h => h) (Or.inl ⟨by rfl, ?_⟩) ?_ ?_
    rotate_left
    · intro w'
      go_simp
      with_reducible rfl
    rotate_left
    · simp only [Act.put, List.setIfInBounds_toArray, List.set_cons_zero, List.set_cons_succ, i64_w, i32_w]
      rfl
    refine pure_ (i := 25) (N := some 69) (v := ?_) (a' := ?_) #[true, true, true, true, true, true, true, true, true, true, true, true, true, true, true, true, true, true, true, true, false, true, false, false, false, true, false, false, false, false, false, false, false] rfl rfl (by kernel_rfl) (fun _ _ _ h => h) (Or.inl ⟨by rfl, ?_⟩) ?_ ?_
    rotate_left
    · intro w'
      go_simp
      with_reducible rfl
    rotate_left
    · simp only [Act.put, List.setIfInBounds_toArray, List.set_cons_zero, List.set_cons_succ, i64_w, i32_w]
      rfl
    refine pure_ (i := 27) (N := some 71) (v := ?_) (a' := ?_) #[true, true, true, true, true, true, true, true, true, true, true, true, true, true, true, true, true, true, true, true, false, true, false, false, false, true, false, true, false, false, false, false, false] rfl rfl (by kernel_rfl) (fun _ _ _ h => h) (Or.inl ⟨by rfl, ?_⟩) ?_ ?_
    rotate_left
    · intro w'
      go_simp
      with_reducible rfl
    rotate_left
    · simp only [Act.put, List.setIfInBounds_toArray, List.set_cons_zero, List.set_cons_succ, i64_w, i32_w]
      rfl
    refine take_ (i := 20) (N := some 64) (v := ?_) (a' := ?_) #[true, true, true, true, true, true, true, true, true, true, true, true, true, true, true, true, true, true, true, true, true, true, false, false, false, true, false, true, false, false, false, false, false] rfl rfl (by kernel_rfl) (fun _ _ _ h => h) (Or.inl ⟨by rfl, ?_⟩) hHeld ?_ ?_
    rotate_left
    · rintro w' ⟨s0, s1, s2⟩
      go_simp
      with_reducible rfl
    rotate_left
    · simp only [Act.put, List.setIfInBounds_toArray, List.set_cons_zero, List.set_cons_succ, i64_w, i32_w]
      rfl
    refine pure_ (i := 22) (N := some 66) (v := ?_) (a' := ?_) #[true, true, true, true, true, true, true, true, true, true, true, true, true, true, true, true, true, true, true, true, true, true, true, false, false, true, false, true, false, false, false, false, false] rfl rfl (by kernel_rfl) (fun _ _ _ h => h) (Or.inl ⟨by rfl, ?_⟩) ?_ ?_
    rotate_left
    · intro w'
      go_simp
      with_reducible rfl
    rotate_left
    · simp only [Act.put, List.setIfInBounds_toArray, List.set_cons_zero, List.set_cons_succ, i64_w, i32_w]
      rfl
    refine pure_ (i := 23) (N := some 67) (v := ?_) (a' := ?_) #[true, true, true, true, true, true, true, true, true, true, true, true, true, true, true, true, true, true, true, true, true, true, true, true, false, true, false, true, false, false, false, false, false] rfl rfl (by kernel_rfl) (fun _ _ _ h => h) (Or.inl ⟨by rfl, ?_⟩) ?_ ?_
    rotate_left
    · intro w'
      go_simp
      with_reducible rfl
    rotate_left
    · simp only [Act.put, List.setIfInBounds_toArray, List.set_cons_zero, List.set_cons_succ, i64_w, i32_w]
      rfl
    refine take_ (i := 24) (N := some 68) (v := ?_) (a' := ?_) #[true, true, true, true, true, true, true, true, true, true, true, true, true, true, true, true, true, true, true, true, true, true, true, true, true, true, false, true, false, false, false, false, false] rfl rfl (by kernel_rfl) (fun _ _ _ h => h) (Or.inl ⟨by rfl, ?_⟩) hHeld ?_ ?_
    rotate_left
    · rintro w' ⟨s0, s1, s2⟩
      go_simp
      with_reducible rfl
    rotate_left
    · simp only [Act.put, List.setIfInBounds_toArray, List.set_cons_zero, List.set_cons_succ, i64_w, i32_w]
      rfl
    refine take_ (i := 26) (N := some 70) (v := ?_) (a' := ?_) #[true, true, true, true, true, true, true, true, true, true, true, true, true, true, true, true, true, true, true, true, true, true, true, true, true, true, true, true, false, false, false, false, false] rfl rfl (by kernel_rfl) (fun _ _ _ h => h) (Or.inl ⟨by rfl, ?_⟩) hHeld ?_ ?_
    rotate_left
    · rintro w' ⟨s0, s1, s2⟩
      go_simp
      with_reducible rfl
    rotate_left
    · simp only [Act.put, List.setIfInBounds_toArray, List.set_cons_zero, List.set_cons_succ, i64_w, i32_w]
      rfl
    refine pure_ (i := 28) (N := some 72) (v := ?_) (a' := ?_) #[true, true, true, true, true, true, true, true, true, true, true, true, true, true, true, true, true, true, true, true, true, true, true, true, true, true, true, true, true, false, false, false, false] rfl rfl (by kernel_rfl) (fun _ _ _ h => h) (Or.inl ⟨by rfl, ?_⟩) ?_ ?_
    rotate_left
    · intro w'
      go_simp
      with_reducible rfl
    rotate_left
    · simp only [Act.put, List.setIfInBounds_toArray, List.set_cons_zero, List.set_cons_succ, i64_w, i32_w]
      rfl
    refine pure_ (i := 29) (N := some 73) (v := ?_) (a' := ?_) #[true, true, true, true, true, true, true, true, true, true, true, true, true, true, true, true, true, true, true, true, true, true, true, true, true, true, true, true, true, true, false, false, false] rfl rfl (by kernel_rfl) (fun _ _ _ h => h) (Or.inl ⟨by rfl, ?_⟩) ?_ ?_
    rotate_left
    · intro w'
      go_simp
      with_reducible rfl
    rotate_left
    · simp only [Act.put, List.setIfInBounds_toArray, List.set_cons_zero, List.set_cons_succ, i64_w, i32_w]
      rfl
    refine take_ (i := 30) (N := some 74) (v := ?_) (a' := ?_) #[true, true, true, true, true, true, true, true, true, true, true, true, true, true, true, true, true, true, true, true, true, true, true, true, true, true, true, true, true, true, true, false, false] rfl rfl (by kernel_rfl) (fun _ _ _ h => h) (Or.inl ⟨by rfl, ?_⟩) hHeld ?_ ?_
    rotate_left
    · rintro w' ⟨s0, s1, s2⟩
      go_simp
      with_reducible rfl
    rotate_left
    · simp only [Act.put, List.setIfInBounds_toArray, List.set_cons_zero, List.set_cons_succ, i64_w, i32_w]
      rfl
    refine pure_ (i := 31) (N := some 75) (v := ?_) (a' := ?_) #[true, true, true, true, true, true, true, true, true, true, true, true, true, true, true, true, true, true, true, true, true, true, true, true, true, true, true, true, true, true, true, true, false] rfl rfl (by kernel_rfl) (fun _ _ _ h => h) (Or.inl ⟨by rfl, ?_⟩) ?_ ?_
    rotate_left
    · intro w'
      go_simp
      with_reducible rfl
    rotate_left
    · simp only [Act.put, List.setIfInBounds_toArray, List.set_cons_zero, List.set_cons_succ, i64_w, i32_w]
      rfl
    refine pure_ (i := 32) (N := some 76) (v := ?_) (a' := ?_) #[true, true, true, true, true, true, true, true, true, true, true, true, true, true, true, true, true, true, true, true, true, true, true, true, true, true, true, true, true, true, true, true, true] rfl rfl (by kernel_rfl) (fun _ _ _ h => h) (Or.inl ⟨by rfl, ?_⟩) ?_ ?_
    rotate_left
    · intro w'
      go_simp
      with_reducible rfl
    rotate_left
    · simp only [Act.put, List.setIfInBounds_toArray, List.set_cons_zero, List.set_cons_succ, i64_w, i32_w]
      rfl
    refine done_ (by kernel_rfl) ?_
    clear x0 x1 x2 x3 y0 y1 y2 y3 y4 y5 q0 q1 q2 q3 q4 q5 HI5 BK5 HB5
    obtain ⟨x0, x1, x2, x3⟩ := roll_cells BKd.out
    go_wp2_with fail
    refine (Roll_calls p o (some ad) c2 ts A3 c3 ns _ HId.out HTS.out HNS.out).mono ?_
    rintro e w6 ⟨B32, d32, B33, d33, rfl, ho, hb⟩
    have HO3 := Aside0.mk ho
    clear ho
    have n0_ := Aside0.mk (below_then HBd.out HBd.out.size hb)
    have n1_ := Aside0.mk (HId.out.below hb)
    have n2_ := Aside0.mk ((hb.block _ (blk_lt BKd.out)).trans BKd.out)
    clear HBd HId BKd
    have HBd := n0_
    have HId := n1_
    have BKd := n2_
    clear n0_ n1_ n2_
    clear hb x0 x1 x2 x3
    obtain ⟨x0, x1, x2, x3⟩ := roll_cells BKd.out
    go_wp2_with fail
    obtain ⟨bd, hB, y0, y1, y2, y3, y4, y5⟩ := at_T59 HO3.out.1 i HI0'.out (by rw [List.length_map]; have := HK.out; have := HIK.out; omega)
    obtain ⟨bd', hB', q0, q1, q2, q3, q4, q5⟩ := at_T59 HO3.out.1 k (by have := HI0'.out; have := HIK.out; omega) (by rw [List.length_map]; exact HK.out)
    obtain rfl : bd = bd' := by rw [hB] at hB'; injection hB'
    clear hB'
    cases hB
    rw [rd59_map ts i (by have := HI0'.out; have := HK.out; have := HIK.out; omega), ht] at y0 y1 y2 y3 y4 y5
    rw [rd59_map ts k (by have := HK.out; have := HI0'.out; have := HIK.out; omega), hu] at q0 q1 q2 q3 q4 q5
    obtain ⟨tt, htt⟩ : ∃ x, toT t = x := ⟨_, rfl⟩
    obtain ⟨uu, huu⟩ : ∃ x, toT u = x := ⟨_, rfl⟩
    have htw := HTW.out
    rw [htt, huu] at htw
    rw [htt] at y0 y1 y2 y3 y4 y5
    rw [huu] at q0 q1 q2 q3 q4 q5
    have HTV := Aside0.mk htw
    clear ht hu htt huu htw
    have H6 := Aside0.mk (below_alloc (Below.refl w6.heap.size w6) (.cells #[.int .i64 p, .int .i64 o, .slice (some bd) ts.length d32, .slice B33 ns.length d33] 35))
    have BT := Aside0.mk (blk_new w6 (.cells #[.int .i64 p, .int .i64 o, .slice (some bd) ts.length d32, .slice B33 ns.length d33] 35))
    replace y0 := pw_cell_below H6.out y0
    replace y1 := pw_cell_below H6.out y1
    replace y2 := pw_cell_below H6.out y2
    replace y3 := pw_cell_below H6.out y3
    replace y4 := pw_cell_below H6.out y4
    replace y5 := pw_cell_below H6.out y5
    replace q0 := pw_cell_below H6.out q0
    replace q1 := pw_cell_below H6.out q1
    replace q2 := pw_cell_below H6.out q2
    replace q3 := pw_cell_below H6.out q3
    replace q4 := pw_cell_below H6.out q4
    replace q5 := pw_cell_below H6.out q5
    obtain ⟨z0, z1, z2, z3⟩ := roll_cells BT.out
    have H6d := Aside0.mk (below_drew1 H6.out)
    have BTd := Aside0.mk (show (w6.alloc (.cells #[.int .i64 p, .int .i64 o, .slice (some bd) ts.length d32, .slice B33 ns.length d33] 35)).drew.heap[w6.heap.size]? = some (.cells #[.int .i64 p, .int .i64 o, .slice (some bd) ts.length d32, .slice B33 ns.length d33] 35 (0, 0)) from BT.out)
    clear x0 x1 x2 x3
    refine start_ (n := 13) (S := fun w' => w'.cell? ⟨w6.heap.size, 2, none⟩ = some (.slice (some bd) ts.length d32) ∧ w'.cell? (bd.add (i.toNat * 6)) = some (.int .i64 tt.f0) ∧ w'.cell? ⟨(bd.add (i.toNat * 6)).block, (bd.add (i.toNat * 6)).off + 1, none⟩ = some (.int .i64 tt.f1) ∧ w'.cell? ⟨(bd.add (i.toNat * 6)).block, (bd.add (i.toNat * 6)).off + 2, none⟩ = some (.int .i64 tt.f2.f0) ∧ w'.cell? ⟨(bd.add (i.toNat * 6)).block, (bd.add (i.toNat * 6)).off + 3, none⟩ = some (.int .i64 tt.f2.f1) ∧ w'.cell? ⟨(bd.add (i.toNat * 6)).block, (bd.add (i.toNat * 6)).off + 4, none⟩ = some (.int .i64 tt.f3.f0) ∧ w'.cell? ⟨(bd.add (i.toNat * 6)).block, (bd.add (i.toNat * 6)).off + 5, none⟩ = some (.int .i64 tt.f3.f1) ∧ w'.cell? (bd.add (k.toNat * 6)) = some (.int .i64 uu.f0) ∧ w'.cell? ⟨(bd.add (k.toNat * 6)).block, (bd.add (k.toNat * 6)).off + 1, none⟩ = some (.int .i64 uu.f1) ∧ w'.cell? ⟨(bd.add (k.toNat * 6)).block, (bd.add (k.toNat * 6)).off + 2, none⟩ = some (.int .i64 uu.f2.f0) ∧ w'.cell? ⟨(bd.add (k.toNat * 6)).block, (bd.add (k.toNat * 6)).off + 3, none⟩ = some (.int .i64 uu.f2.f1) ∧ w'.cell? ⟨(bd.add (k.toNat * 6)).block, (bd.add (k.toNat * 6)).off + 4, none⟩ = some (.int .i64 uu.f3.f0) ∧ w'.cell? ⟨(bd.add (k.toNat * 6)).block, (bd.add (k.toNat * 6)).off + 5, none⟩ = some (.int .i64 uu.f3.f1)) (ds := [12]) #[false, false, false, false, false, false, false, false, false, false, false, false, false] (by kernel_rfl) rfl rfl ⟨z2, y0, y1, y2, y3, y4, y5, q0, q1, q2, q3, q4, q5⟩ (fun hHeld => ?_)
    generalize (w6.alloc (.cells #[.int .i64 p, .int .i64 o, .slice (some bd) ts.length d32, .slice B33 ns.length d33] 35)).drew = wd2 at H6d BTd hHeld ⊢
    refine pure_ (i := 0) (N := some 79) (v := ?_) (a' := ?_) #[true, false, false, false, false, false, false, false, false, false, false, false, false] rfl rfl (by kernel_rfl) (fun _ _ _ h => h) (Or.inl ⟨by rfl, ?_⟩) ?_ ?_
    rotate_left
    · intro w'
      go_simp
      with_reducible rfl
    rotate_left
    · simp only [Act.put, List.setIfInBounds_toArray, List.set_cons_zero, List.set_cons_succ, i64_w, i32_w]
      rfl
    refine pure_ (i := 2) (N := some 81) (v := ?_) (a' := ?_) #[true, false, true, false, false, false, false, false, false, false, false, false, false] rfl rfl (by kernel_rfl) (fun _ _ _ h => h) (Or.inl ⟨by rfl, ?_⟩) ?_ ?_
    rotate_left
    · intro w'
      go_simp
      with_reducible rfl
    rotate_left
    · simp only [Act.put, List.setIfInBounds_toArray, List.set_cons_zero, List.set_cons_succ, i64_w, i32_w]
      rfl
    refine pure_ (i := 5) (N := some 84) (v := ?_) (a' := ?_) #[true, false, true, false, false, true, false, false, false, false, false, false, false] rfl rfl (by kernel_rfl) (fun _ _ _ h => h) (Or.inl ⟨by rfl, ?_⟩) ?_ ?_
    rotate_left
    · intro w'
      go_simp
      with_reducible rfl
    rotate_left
    · simp only [Act.put, List.setIfInBounds_toArray, List.set_cons_zero, List.set_cons_succ, i64_w, i32_w]
      rfl
    refine pure_ (i := 7) (N := some 86) (v := ?_) (a' := ?_) #[true, false, true, false, false, true, false, true, false, false, false, false, false] rfl rfl (by kernel_rfl) (fun _ _ _ h => h) (Or.inl ⟨by rfl, ?_⟩) ?_ ?_
    rotate_left
    · intro w'
      go_simp
      with_reducible rfl
    rotate_left
    · simp only [Act.put, List.setIfInBounds_toArray, List.set_cons_zero, List.set_cons_succ, i64_w, i32_w]
      rfl
    refine take_ (i := 1) (N := some 80) (v := ?_) (a' := ?_) #[true, true, true, false, false, true, false, true, false, false, false, false, false] rfl rfl (by kernel_rfl) (fun _ _ _ h => h) (Or.inl ⟨by rfl, ?_⟩) hHeld ?_ ?_
    rotate_left
    · rintro w' ⟨s0, s1, s2, s3, s4, s5, s6, s7, s8, s9, s10, s11, s12⟩
      go_simp
      with_reducible rfl
    rotate_left
    · simp only [Act.put, List.setIfInBounds_toArray, List.set_cons_zero, List.set_cons_succ, i64_w, i32_w]
      rfl
    refine pure_ (i := 3) (N := some 82) (v := ?_) (a' := ?_) #[true, true, true, true, false, true, false, true, false, false, false, false, false] rfl rfl (by kernel_rfl) (fun _ _ _ h => h) (Or.inl ⟨by rfl, ?_⟩) ?_ ?_
    rotate_left
    · intro w'
      go_simp
      with_reducible rfl
    rotate_left
    · simp only [Act.put, List.setIfInBounds_toArray, List.set_cons_zero, List.set_cons_succ, i64_w, i32_w]
      rfl
    refine take_ (i := 4) (N := some 83) (v := ?_) (a' := ?_) #[true, true, true, true, true, true, false, true, false, false, false, false, false] rfl rfl (by kernel_rfl) (fun _ _ _ h => h) (Or.inl ⟨by rfl, ?_⟩) hHeld ?_ ?_
    rotate_left
    · rintro w' ⟨s0, s1, s2, s3, s4, s5, s6, s7, s8, s9, s10, s11, s12⟩
      go_simp
      with_reducible rfl
    rotate_left
    · simp only [Act.put, List.setIfInBounds_toArray, List.set_cons_zero, List.set_cons_succ, i64_w, i32_w]
      rfl
    refine take_ (i := 6) (N := some 85) (v := ?_) (a' := ?_) #[true, true, true, true, true, true, true, true, false, false, false, false, false] rfl rfl (by kernel_rfl) (fun _ _ _ h => h) (Or.inl ⟨by rfl, ?_⟩) hHeld ?_ ?_
    rotate_left
    · rintro w' ⟨s0, s1, s2, s3, s4, s5, s6, s7, s8, s9, s10, s11, s12⟩
      go_simp
      with_reducible rfl
    rotate_left
    · simp only [Act.put, List.setIfInBounds_toArray, List.set_cons_zero, List.set_cons_succ, i64_w, i32_w]
      rfl
    refine pure_ (i := 8) (N := some 87) (v := ?_) (a' := ?_) #[true, true, true, true, true, true, true, true, true, false, false, false, false] rfl rfl (by kernel_rfl) (fun _ _ _ h => h) (Or.inl ⟨by rfl, ?_⟩) ?_ ?_
    rotate_left
    · intro w'
      go_simp
      with_reducible rfl
    rotate_left
    · simp only [Act.put, List.setIfInBounds_toArray, List.set_cons_zero, List.set_cons_succ, i64_w, i32_w]
      rfl
    refine take_ (i := 9) (N := some 88) (v := ?_) (a' := ?_) #[true, true, true, true, true, true, true, true, true, true, false, false, false] rfl rfl (by kernel_rfl) (fun _ _ _ h => h) (Or.inl ⟨by rfl, ?_⟩) hHeld ?_ ?_
    rotate_left
    · rintro w' ⟨s0, s1, s2, s3, s4, s5, s6, s7, s8, s9, s10, s11, s12⟩
      go_simp
      with_reducible rfl
    rotate_left
    · simp only [Act.put, List.setIfInBounds_toArray, List.set_cons_zero, List.set_cons_succ, i64_w, i32_w]
      rfl
    refine one_ (i := 10) (N := some 89) #[true, true, true, true, true, true, true, true, true, true, true, false, false] rfl rfl (by kernel_rfl) (by decide) (fun K hK => ?_)
    refine value_ (w1 := ?_) (v := ?_) (by rfl) rfl ?_ ?_
    rotate_left 2
    · go_simp
      constructor
      · rfl
      · rfl
    refine hK.out _ _ ⟨pw_cell_below ((Below.refl _ _).alloc (Nat.le_refl _) _) hHeld.1, pw_cell_below ((Below.refl _ _).alloc (Nat.le_refl _) _) hHeld.2.1, pw_cell_below ((Below.refl _ _).alloc (Nat.le_refl _) _) hHeld.2.2.1, pw_cell_below ((Below.refl _ _).alloc (Nat.le_refl _) _) hHeld.2.2.2.1, pw_cell_below ((Below.refl _ _).alloc (Nat.le_refl _) _) hHeld.2.2.2.2.1, pw_cell_below ((Below.refl _ _).alloc (Nat.le_refl _) _) hHeld.2.2.2.2.2.1, pw_cell_below ((Below.refl _ _).alloc (Nat.le_refl _) _) hHeld.2.2.2.2.2.2.1, pw_cell_below ((Below.refl _ _).alloc (Nat.le_refl _) _) hHeld.2.2.2.2.2.2.2.1, pw_cell_below ((Below.refl _ _).alloc (Nat.le_refl _) _) hHeld.2.2.2.2.2.2.2.2.1, pw_cell_below ((Below.refl _ _).alloc (Nat.le_refl _) _) hHeld.2.2.2.2.2.2.2.2.2.1, pw_cell_below ((Below.refl _ _).alloc (Nat.le_refl _) _) hHeld.2.2.2.2.2.2.2.2.2.2.1, pw_cell_below ((Below.refl _ _).alloc (Nat.le_refl _) _) hHeld.2.2.2.2.2.2.2.2.2.2.2.1, pw_cell_below ((Below.refl _ _).alloc (Nat.le_refl _) _) hHeld.2.2.2.2.2.2.2.2.2.2.2.2⟩ (fun hHeld => ?_)
    clear hK K
    refine norm_ (a' := ?_) ?_ ?_
    rotate_left
    · show Act.put _ (some 89) _ = _
      simp only [Act.put, List.setIfInBounds_toArray, List.set_cons_zero, List.set_cons_succ, i64_w, i32_w]
      rfl
    refine pure_ (i := 11) (N := some 90) (v := ?_) (a' := ?_) #[true, true, true, true, true, true, true, true, true, true, true, true, false] rfl rfl (by kernel_rfl) (fun _ _ _ h => h) (Or.inl ⟨by rfl, ?_⟩) ?_ ?_
    rotate_left
    · intro w'
      go_simp
      with_reducible rfl
    rotate_left
    · simp only [Act.put, List.setIfInBounds_toArray, List.set_cons_zero, List.set_cons_succ, i64_w, i32_w]
      rfl
    refine last_ (i := 12) (N := none) #[true, true, true, true, true, true, true, true, true, true, true, true, true] rfl rfl (by kernel_rfl) (by decide) (fun K hK => ?_)
    have gT := blk_cell (blk_alloc BTd.out (.cells #[.int .i64 tt.f0, .int .i64 tt.f1, .int .i64 tt.f2.f0, .int .i64 tt.f2.f1, .int .i64 tt.f3.f0, .int .i64 tt.f3.f1, .int .i64 uu.f0, .int .i64 uu.f1, .int .i64 uu.f2.f0, .int .i64 uu.f2.f1, .int .i64 uu.f3.f0, .int .i64 uu.f3.f1] 59)) 2
    have gF := blk_frozen (blk_alloc BTd.out (.cells #[.int .i64 tt.f0, .int .i64 tt.f1, .int .i64 tt.f2.f0, .int .i64 tt.f2.f1, .int .i64 tt.f3.f0, .int .i64 tt.f3.f1, .int .i64 uu.f0, .int .i64 uu.f1, .int .i64 uu.f2.f0, .int .i64 uu.f2.f1, .int .i64 uu.f3.f0, .int .i64 uu.f3.f1] 59)) 2
    refine skip_ (w1 := ?_) (by rfl) rfl ?_ ?_
    rotate_left
    · go_simp
      rfl
    refine hK.out _ _ ?_
    clear hK K
    refine done_ (by kernel_rfl) ?_
    obtain ⟨M, hM⟩ : ∃ M, wd2.heap.size = M := ⟨_, rfl⟩
    have hMG : M ≠ w6.heap.size := by have := blk_lt BTd.out; omega
    have H7 := Aside0.mk (show Below w6.heap.size w6 ((wd2.alloc (.cells #[.int .i64 tt.f0, .int .i64 tt.f1, .int .i64 tt.f2.f0, .int .i64 tt.f2.f1, .int .i64 tt.f3.f0, .int .i64 tt.f3.f1, .int .i64 uu.f0, .int .i64 uu.f1, .int .i64 uu.f2.f0, .int .i64 uu.f2.f1, .int .i64 uu.f3.f0, .int .i64 uu.f3.f1] 59)).setCell ⟨w6.heap.size, 2, none⟩ (.slice (some ⟨M, 0, none⟩) 2 2)) from below_set (below_alloc H6d.out _) (Nat.le_refl _))
    have BT7 := Aside0.mk (show ((wd2.alloc (.cells #[.int .i64 tt.f0, .int .i64 tt.f1, .int .i64 tt.f2.f0, .int .i64 tt.f2.f1, .int .i64 tt.f3.f0, .int .i64 tt.f3.f1, .int .i64 uu.f0, .int .i64 uu.f1, .int .i64 uu.f2.f0, .int .i64 uu.f2.f1, .int .i64 uu.f3.f0, .int .i64 uu.f3.f1] 59)).setCell ⟨w6.heap.size, 2, none⟩ (.slice (some ⟨M, 0, none⟩) 2 2)).heap[w6.heap.size]? = some (.cells #[.int .i64 p, .int .i64 o, .slice (some ⟨M, 0, none⟩) 2 2, .slice B33 ns.length d33] 35 (0, 0)) from blk_put (blk_alloc BTd.out _) 2 _ rfl)
    have HTC := Aside0.mk (show Kd.C k59 ((wd2.alloc (.cells #[.int .i64 tt.f0, .int .i64 tt.f1, .int .i64 tt.f2.f0, .int .i64 tt.f2.f1, .int .i64 tt.f3.f0, .int .i64 tt.f3.f1, .int .i64 uu.f0, .int .i64 uu.f1, .int .i64 uu.f2.f0, .int .i64 uu.f2.f1, .int .i64 uu.f3.f0, .int .i64 uu.f3.f1] 59)).setCell ⟨w6.heap.size, 2, none⟩ (.slice (some ⟨M, 0, none⟩) 2 2)) (some ⟨M, 0, none⟩) [tt, uu].length [tt, uu] from two_C (blk_far (hM ▸ blk_new wd2 _) hMG _))
    rw [hM]
    generalize ((wd2.alloc (.cells #[.int .i64 tt.f0, .int .i64 tt.f1, .int .i64 tt.f2.f0, .int .i64 tt.f2.f1, .int .i64 tt.f3.f0, .int .i64 tt.f3.f1, .int .i64 uu.f0, .int .i64 uu.f1, .int .i64 uu.f2.f0, .int .i64 uu.f2.f1, .int .i64 uu.f3.f0, .int .i64 uu.f3.f1] 59)).setCell ⟨w6.heap.size, 2, none⟩ (.slice (some ⟨M, 0, none⟩) 2 2)) = wz at H7 BT7 HTC ⊢
    clear gT gF hHeld hMG hM BTd H6d BT H6 y0 y1 y2 y3 y4 y5 q0 q1 q2 q3 q4 q5 z0 z1 z2 z3
    have HO7 := Aside0.mk (show ROut wz (some ⟨M, 0, none⟩) 2 [tt, uu] B33 d33 (ns.map toN) from ⟨HTC.out, by simp, Kd.C_below HO3.out.2.2.1 H7.out, HO3.out.2.2.2⟩)
    have hb := H7.out
    obtain ⟨z0, z1, z2, z3⟩ := roll_cells BT7.out
    have n0_ := Aside0.mk (below_then HBd.out HBd.out.size hb)
    have n1_ := Aside0.mk (HId.out.below hb)
    have n2_ := Aside0.mk ((hb.block _ (blk_lt BKd.out)).trans BKd.out)
    clear HBd HId BKd
    have HBd := n0_
    have HId := n1_
    have BKd := n2_
    clear n0_ n1_ n2_
    clear hb
    go_wp2_with fail
    refine (Clash_calls p o (some ⟨M, 0, none⟩) 2 [tt, uu] B33 d33 (ns.map toN) 2 _ rfl (List.length_map ..) _ HO7.out).mono ?_
    rintro e w8 ⟨rfl, hb⟩
    rw [HTV.out]
    have n0_ := Aside0.mk (below_then HBd.out HBd.out.size hb)
    have n1_ := Aside0.mk (HId.out.below hb)
    have n2_ := Aside0.mk ((hb.block _ (blk_lt BKd.out)).trans BKd.out)
    clear HBd HId BKd
    have HBd := n0_
    have HId := n1_
    have BKd := n2_
    clear n0_ n1_ n2_
    clear hb z0 z1 z2 z3
    obtain ⟨x0, x1, x2, x3⟩ := roll_cells BKd.out
    go_wp2_with fail
    refine (Roll_calls p o (some ad) c2 ts A3 c3 ns _ HId.out HTS.out HNS.out).mono ?_
    rintro e w9 ⟨B42, d42, B43, d43, rfl, ho, hb⟩
    have HO4 := Aside0.mk ho
    clear ho
    have n0_ := Aside0.mk (below_then HBd.out HBd.out.size hb)
    have n1_ := Aside0.mk (HId.out.below hb)
    have n2_ := Aside0.mk ((hb.block _ (blk_lt BKd.out)).trans BKd.out)
    clear HBd HId BKd
    have HBd := n0_
    have HId := n1_
    have BKd := n2_
    clear n0_ n1_ n2_
    clear hb x0 x1 x2 x3
    obtain ⟨hs1, hs2⟩ := C_to59 B42 d42 (ts.map toT) k w9 (by have := HI0'.out; have := HIK.out; omega) (by rw [List.length_map]; have := HK.out; omega) HO4.out.2.1 HO4.out.1
    rw [List.length_map] at hs1
    have hfs := HFS.out
    have hLk : ((ts.map toT).take k.toNat).length = k.toNat := by rw [List.length_take, List.length_map]; have := HK.out; omega
    obtain ⟨L9, hL9⟩ : ∃ L, (ts.map toT).take k.toNat = L := ⟨_, rfl⟩
    rw [hL9] at hs1 hs2 hfs hLk
    rw [hLk] at hs1
    have HS2 := Aside0.mk hs2
    have HFL := Aside0.mk hfs
    have HL9 := Aside0.mk hLk
    have HD9 := Aside0.mk (show L9.length ≤ d42 by rw [hLk]; have := HO4.out.2.1; rw [List.length_map] at this; have := HK.out; omega)
    clear hs2 hfs hL9 hLk
    go_wp2_with fail
    have hb := below_alloc (Below.refl w9.heap.size w9) (.cells #[.int .i64 p, .int .i64 o, .slice B42 k.toNat d42, .slice B43 ns.length d43] 35)
    have HO9 := Aside0.mk (show ROut (w9.alloc (.cells #[.int .i64 p, .int .i64 o, .slice B42 k.toNat d42, .slice B43 ns.length d43] 35)) B42 d42 L9 B43 d43 (ns.map toN) from ⟨Kd.C_below HS2.out hb, HD9.out, Kd.C_below HO4.out.2.2.1 hb, HO4.out.2.2.2⟩)
    have n0_ := Aside0.mk (below_then HBd.out HBd.out.size hb)
    have n1_ := Aside0.mk (HId.out.below hb)
    have n2_ := Aside0.mk ((hb.block _ (blk_lt BKd.out)).trans BKd.out)
    clear HBd HId BKd
    have HBd := n0_
    have HId := n1_
    have BKd := n2_
    clear n0_ n1_ n2_
    clear hb
    refine (Clash_calls p o B42 d42 L9 B43 d43 (ns.map toN) k.toNat _ HL9.out (List.length_map ..) _ HO9.out).mono ?_
    rintro e w10 ⟨rfl, hb⟩
    have n0_ := Aside0.mk (below_then HBd.out HBd.out.size hb)
    have n1_ := Aside0.mk (HId.out.below hb)
    have n2_ := Aside0.mk ((hb.block _ (blk_lt BKd.out)).trans BKd.out)
    clear HBd HId BKd
    have HBd := n0_
    have HId := n1_
    have BKd := n2_
    clear n0_ n1_ n2_
    clear hb
    have hi := HI0'.out
    rcases HFL.out with h9 | ⟨a, b, h9, hia⟩
    · rw [h9]
      clear h9
      go_wp2_with fail
      refine (awake_calls _).mono ?_
      rintro e wz1 ⟨rfl, hb⟩
      have HBz := Aside0.mk (below_then HBd.out HBd.out.size hb)
      clear hb
      go_wp2
      go_ret
      exact ⟨rfl, HBz.out⟩
    · rw [h9]
      have e9 : decide (i < a) = true := decide_eq_true hia
      clear h9 hia
      go_wp2_with fail
      refine (awake_calls _).mono ?_
      rintro e wz1 ⟨rfl, hb⟩
      have HBz := Aside0.mk (below_then HBd.out HBd.out.size hb)
      clear hb
      go_wp2
      go_ret
      exact ⟨rfl, HBz.out⟩
end Go.Proofs.Ythpheknchikodaa.P
