/- Contracts of functions that the laws reach, part Xh5. Conditions: each theorem names its own. -/
import Derived.Test.YthpheknchikodaaXh3
import Derived.Test.YthpheknchikodaaXh4
import Derived.Test.YthpheknchikodaaXb14
import Derived.Test.YthpheknchikodaaXb1
/- What OfficeLearns' walk needs besides: ProveDates by lengths; what is known says the same. Conditions: none. -/
namespace Go.Proofs.Ythpheknchikodaa.P
open Go.RowKit Go.Proofs.YthpheknchikodaaW.PrintWords Go.Proofs.YthpheknchikodaaW.PrintLast
set_option linter.unusedVariables false
set_option linter.unusedSimpArgs false
theorem pProve_calls (p o : Int) (A2 : Option Addr) (c2 : Nat) (ts : List S59) (A3 : Option Addr) (c3 : Nat) (ns : List S109) (A : Option Addr) (c : Nat) (ds : List S107) (n2 n3 n4 : Nat) (h2 : ts.length = n2) (h3 : ns.length = n3) (h4 : ds.length = n4) (w : World) (hr2 : Kd.C k59 w A2 ts.length ts) (hr3 : Kd.C k109 w A3 ns.length ns) (hts : ts.length ≤ 45) (hds : Kd.C k107 w A ds.length ds) (hdc : ds.length ≤ c) :
    Calls Try.prog 45 #[.agg #[.int .i64 p, .int .i64 o, .slice A2 n2 c2, .slice A3 n3 c3], .slice A n4 c] w fun e w' => e = .returned (.bool (decide (rollFault p o ts ns = 0) && rightB ts ds)) ∧ Below w.heap.size w w' := by
  subst h2 h3 h4
  exact ProveDates_calls p o A2 c2 ts A3 c3 ns A c ds w hr2 hr3 hts hds hdc
theorem known_says (ts : List S54) (i : Int) (h0 : 0 ≤ i) (h1 : i < (ts.length : Int)) :
    rd_T51 ((List.range (ts.map toT).length).map (knownAt (ts.map toT))) i = knownAt (ts.map toT) i.toNat ∧ rd_T117 (rKnown ts) i = rKnownAt ts i.toNat := by
  refine ⟨?_, known_rd ts i h0 (by omega)⟩
  have h : i.toNat < ts.length := by omega
  unfold rd_T51
  simp [h]
theorem known_same (ts : List S54) (i : Nat) (h : i < ts.length) : (knownAt (ts.map toT) i).f0.f0 = (rKnownAt ts i).f0.f0 ∧ (knownAt (ts.map toT) i).f0.f1 = (rKnownAt ts i).f0.f1 ∧ (knownAt (ts.map toT) i).f1.f0 = (rKnownAt ts i).f1.f0 ∧ (knownAt (ts.map toT) i).f1.f1 = (rKnownAt ts i).f1.f1 := by
  have e := tAt_nat (ts := ts) i h
  refine ⟨rfl, ?_, ?_, rfl⟩
  · show (tAt (ts.map toT) i).f2.f1 = (rd_T54 ts i).f2.f1
    rw [e]; rfl
  · show (tAt (ts.map toT) i).f3.f0 = (rd_T54 ts i).f3.f0
    rw [e]; rfl
end Go.Proofs.Ythpheknchikodaa.P

/- The walk of the law OfficeLearns: it answers true. Conditions: none beyond the roll's and the dates' being readable. -/
namespace Go.Proofs.Ythpheknchikodaa.P
open Go.RowKit Go.Proofs.YthpheknchikodaaW.PrintWords Go.Proofs.YthpheknchikodaaW.PrintLast
set_option linter.unusedVariables false
set_option linter.unusedSimpArgs false

set_option maxHeartbeats 4000000 in
set_option maxRecDepth 100000 in
theorem OfficeLearns_calls (p o : Int) (A2 : Option Addr) (c2 : Nat) (ts : List S54) (A3 : Option Addr) (c3 : Nat) (ns : List S88) (AD : Option Addr) (cD : Nat) (ds : List S102) (w : World) (hI : RIn w A2 c2 ts A3 c3 ns) (hD : Kd.C k102 w AD ds.length ds) (hDc : ds.length ≤ cD) :
    Calls Try.prog 14 #[.agg #[.int .i64 p, .int .i64 o, .slice A2 ts.length c2, .slice A3 ns.length c3], .slice AD ds.length cD] w fun e w' => e = .returned (.bool true) ∧ Below w.heap.size w w' := by
  have HD0 := Aside0.mk hD
  have HDC := Aside0.mk hDc
  clear hD hDc
  have hu25 := Try.underlying25
  have HB0 := Aside0.mk (below_alloc (Below.refl w.heap.size w) (.cells #[.int .i64 p, .int .i64 o, .slice A2 ts.length c2, .slice A3 ns.length c3] 25))
  have HI0 := Aside0.mk (hI.below HB0.out)
  have BK0 := Aside0.mk (blk_new w (.cells #[.int .i64 p, .int .i64 o, .slice A2 ts.length c2, .slice A3 ns.length c3] 25))
  obtain ⟨x0, x1, x2, x3⟩ := roll_cells BK0.out
  clear hI
  go_enter Try.func14, Try.ntmps14
  go_wp2_with fail
  cases ht : thinB ts ns
  · refine (Thin_calls p o A2 c2 ts A3 c3 ns _ HI0.out).mono ?_
    rintro e w1 ⟨rfl, hb⟩
    rw [ht]
    have HB1 := Aside0.mk (below_then HB0.out HB0.out.size hb)
    clear hb
    go_wp2_with fail
    refine (awake_calls _).mono ?_
    rintro e wz ⟨rfl, hb⟩
    have HBz := Aside0.mk (below_then HB1.out HB1.out.size hb)
    clear hb
    go_wp2
    go_ret
    exact ⟨rfl, HBz.out⟩
  obtain ⟨hts, hns, hsz⟩ := thin_facts ht
  have HTS := Aside0.mk hts
  have HNS := Aside0.mk hns
  have HSZ := Aside0.mk hsz
  clear hts hns hsz
  refine (Thin_calls p o A2 c2 ts A3 c3 ns _ HI0.out).mono ?_
  rintro e w1 ⟨rfl, hb⟩
  rw [ht]
  have HB1 := Aside0.mk (below_then HB0.out HB0.out.size hb)
  have HI1 := Aside0.mk (HI0.out.below hb)
  have BK1 := Aside0.mk ((hb.block _ (blk_lt BK0.out)).trans BK0.out)
  clear hb x0 x1 x2 x3 HI0 BK0
  obtain ⟨x0, x1, x2, x3⟩ := roll_cells BK1.out
  by_cases hdl : ds.length ≤ 45
  case neg =>
    have e1 : decide ((45 : Int) < (ds.length : Int)) = true := decide_eq_true (by omega)
    clear hdl
    go_wp2_with fail
    refine (awake_calls _).mono ?_
    rintro e wz ⟨rfl, hb⟩
    have HBz := Aside0.mk (below_then HB1.out HB1.out.size hb)
    clear hb
    go_wp2
    go_ret
    exact ⟨rfl, HBz.out⟩
  have e1 : decide ((45 : Int) < (ds.length : Int)) = false := decide_eq_false (by omega)
  have HDL := Aside0.mk hdl
  clear hdl ht
  go_wp2_with fail
  refine (Roll_calls p o A2 c2 ts A3 c3 ns _ HI1.out HTS.out HNS.out).mono ?_
  rintro e w2 ⟨B12, d12, B13, d13, rfl, ho, hb⟩
  have HO1 := Aside0.mk ho
  clear ho
  have HB2 := Aside0.mk (below_then HB1.out HB1.out.size hb)
  have HI2 := Aside0.mk (HI1.out.below hb)
  have BK2 := Aside0.mk ((hb.block _ (blk_lt BK1.out)).trans BK1.out)
  clear hb x0 x1 x2 x3 HI1 BK1
  obtain ⟨x0, x1, x2, x3⟩ := roll_cells BK2.out
  go_wp2_with fail
  refine (pLearn_calls p o B12 d12 (ts.map toT) B13 d13 (ns.map toN) _ _ (List.length_map ..) (List.length_map ..) _ HO1.out.1 HO1.out.2.1 HO1.out.2.2.1 HO1.out.2.2.2).mono ?_
  rintro e w3 ⟨AL, cL, rfl, hl1, hl2, hb⟩
  have HL2 := Aside0.mk hl2
  clear hl1 hl2
  have HB3 := Aside0.mk (below_then HB2.out HB2.out.size hb)
  have HI3 := Aside0.mk (HI2.out.below hb)
  have BK3 := Aside0.mk ((hb.block _ (blk_lt BK2.out)).trans BK2.out)
  clear hb x0 x1 x2 x3 HI2 BK2
  obtain ⟨x0, x1, x2, x3⟩ := roll_cells BK3.out
  go_wp2_with fail
  refine (Roll_calls p o A2 c2 ts A3 c3 ns _ HI3.out HTS.out HNS.out).mono ?_
  rintro e w4 ⟨B22, d22, B23, d23, rfl, ho, hb⟩
  have HO2 := Aside0.mk ho
  clear ho
  have n_ := Aside0.mk (Kd.C_below HL2.out hb)
  clear HL2
  have HL2 := n_
  clear n_
  have HB4 := Aside0.mk (below_then HB3.out HB3.out.size hb)
  have HI4 := Aside0.mk (HI3.out.below hb)
  have BK4 := Aside0.mk ((hb.block _ (blk_lt BK3.out)).trans BK3.out)
  clear hb x0 x1 x2 x3 HI3 BK3
  obtain ⟨x0, x1, x2, x3⟩ := roll_cells BK4.out
  go_wp2_with fail
  refine (Dates_calls AD cD ds _ (Kd.C_below HD0.out HB4.out) HDL.out).mono ?_
  rintro e w5 ⟨BD, dD, rfl, hq1, hq2, hb⟩
  have HQ1 := Aside0.mk hq1
  have HQ2 := Aside0.mk hq2
  clear hq1 hq2
  have n_ := Aside0.mk (Kd.C_below HL2.out hb)
  clear HL2
  have HL2 := n_
  clear n_
  have n_ := Aside0.mk (HO2.out.below hb)
  clear HO2
  have HO2 := n_
  clear n_
  have HB5 := Aside0.mk (below_then HB4.out HB4.out.size hb)
  have HI5 := Aside0.mk (HI4.out.below hb)
  have BK5 := Aside0.mk ((hb.block _ (blk_lt BK4.out)).trans BK4.out)
  clear hb x0 x1 x2 x3 HI4 BK4
  obtain ⟨x0, x1, x2, x3⟩ := roll_cells BK5.out
  go_wp2_with fail
  refine (pProve_calls p o B22 d22 (ts.map toT) B23 d23 (ns.map toN) BD dD (ds.map toD) _ _ _ (List.length_map ..) (List.length_map ..) (List.length_map ..) _ HO2.out.1 HO2.out.2.2.1 (by rw [List.length_map]; exact HTS.out) (by rw [List.length_map]; exact HQ2.out) (by rw [List.length_map]; exact HQ1.out)).mono ?_
  rintro e w6 ⟨rfl, hb⟩
  have n_ := Aside0.mk (Kd.C_below HL2.out hb)
  clear HL2
  have HL2 := n_
  clear n_
  have HB6 := Aside0.mk (below_then HB5.out HB5.out.size hb)
  have HI6 := Aside0.mk (HI5.out.below hb)
  have BK6 := Aside0.mk ((hb.block _ (blk_lt BK5.out)).trans BK5.out)
  clear hb x0 x1 x2 x3 HI5 BK5
  obtain ⟨x0, x1, x2, x3⟩ := roll_cells BK6.out
  go_wp2_with fail
  refine (Fault_calls p o A2 c2 ts A3 c3 ns _ HI6.out.1 HI6.out.2.2.1 HTS.out HNS.out HSZ.out).mono ?_
  rintro e w7 ⟨rfl, hb⟩
  rw [show rollFault p o (ts.map toT) (ns.map toN) = faultOf p o ts ns from rfl]
  have n_ := Aside0.mk (Kd.C_below HL2.out hb)
  clear HL2
  have HL2 := n_
  clear n_
  have HB7 := Aside0.mk (below_then HB6.out HB6.out.size hb)
  have HI7 := Aside0.mk (HI6.out.below hb)
  have BK7 := Aside0.mk ((hb.block _ (blk_lt BK6.out)).trans BK6.out)
  clear hb x0 x1 x2 x3 HI6 BK6
  obtain ⟨x0, x1, x2, x3⟩ := roll_cells BK7.out
  have hls : learnSpec p o (ts.map toT) (ns.map toN) = if brokenOf p o ts ns = 0 then ((List.range (ts.map toT).length).map (knownAt (ts.map toT)), 0) else ([], brokenOf p o ts ns) := rfl
  obtain ⟨E, hE⟩ : ∃ E, brokenOf p o ts ns = E := ⟨_, rfl⟩
  have HE := Aside0.mk hE
  rw [hE] at hls
  obtain ⟨K, hK⟩ : ∃ K, (List.range (ts.map toT).length).map (knownAt (ts.map toT)) = K := ⟨_, rfl⟩
  rw [hK] at hls
  have HKL := Aside0.mk (show K.length = ts.length by rw [← hK]; simp)
  have HKS := Aside0.mk hK
  clear hK
  have HLS := Aside0.mk hls
  obtain ⟨f, hf⟩ : ∃ f, faultOf p o ts ns = f := ⟨_, rfl⟩
  obtain ⟨b, hb0⟩ : ∃ b, rightB (ts.map toT) (ds.map toD) = b := ⟨_, rfl⟩
  have HBB := Aside0.mk hb0
  rw [hf, hb0]
  clear hls hE hb0
  by_cases h0 : f = 0
  case neg =>
    have e2 : (f == 0) = false := beq_eq_false_iff_ne.mpr h0
    have e3 : decide (f = 0) = false := decide_eq_false h0
    rw [e3, Bool.false_and]
    clear e3 h0 hf
    go_wp2_with fail
    refine (broken_calls p o A2 c2 ts A3 c3 ns _ HI7.out HTS.out HNS.out HSZ.out).mono ?_
    rintro e w8 ⟨rfl, hb⟩
    rw [HE.out]
    have n_ := Aside0.mk (Kd.C_below HL2.out hb)
    clear HL2
    have HL2 := n_
    clear n_
    have HB8 := Aside0.mk (below_then HB7.out HB7.out.size hb)
    have HI8 := Aside0.mk (HI7.out.below hb)
    have BK8 := Aside0.mk ((hb.block _ (blk_lt BK7.out)).trans BK7.out)
    clear hb x0 x1 x2 x3 HI7 BK7
    obtain ⟨x0, x1, x2, x3⟩ := roll_cells BK8.out
    by_cases e0 : E = 0
    case neg =>
      have hl := HLS.out
      rw [if_neg e0] at hl
      rw [hl]
      simp only [List.length_nil]
      have e5 : (E != 0) = true := bne_iff_ne.mpr e0
      clear hl e0
      go_wp2_with fail
      refine (awake_calls _).mono ?_
      rintro e wz ⟨rfl, hb⟩
      have HBz := Aside0.mk (below_then HB8.out HB8.out.size hb)
      clear hb
      go_wp2
      go_ret
      exact ⟨rfl, HBz.out⟩
    have hl := HLS.out
    rw [if_pos e0] at hl
    have h2 := HL2.out
    rw [hl] at h2 ⊢
    simp only at h2 ⊢
    rw [HKL.out] at h2 ⊢
    have HK2 := Aside0.mk h2
    subst e0
    clear hl h2
    go_wp2_with fail
    refine (rLearn_calls p o A2 c2 ts A3 c3 ns _ HI8.out.1 HTS.out).mono ?_
    rintro e w9 ⟨AR, cR, rfl, hr, hb⟩
    have HRK := Aside0.mk hr
    clear hr
    have n_ := Aside0.mk (Kd.C_below HK2.out hb)
    clear HK2
    have HK2 := n_
    clear n_
    have HB9 := Aside0.mk (below_then HB8.out HB8.out.size hb)
    have HI9 := Aside0.mk (HI8.out.below hb)
    have BK9 := Aside0.mk ((hb.block _ (blk_lt BK8.out)).trans BK8.out)
    clear hb x0 x1 x2 x3 HI8 BK8
    obtain ⟨x0, x1, x2, x3⟩ := roll_cells BK9.out
    go_wp2_with fail
    refine (known_true AL cL K AR cR (rKnown ts) ts.length _ HKL.out (by simp [rKnown]) HTS.out HK2.out HRK.out (fun i h1 h2 => ?_)).mono ?_
    · obtain ⟨s1, s2⟩ := known_says ts i h1 h2
      rw [← HKS.out, s1, s2]
      exact known_same ts i.toNat (by omega)
    rintro e wk ⟨rfl, hb⟩
    have HBk := Aside0.mk (below_then HB9.out HB9.out.size hb)
    clear hb
    go_wp2_with fail
    refine (awake_calls _).mono ?_
    rintro e wz ⟨rfl, hb⟩
    have HBz := Aside0.mk (below_then HBk.out HBk.out.size hb)
    clear hb
    go_wp2
    go_ret
    exact ⟨rfl, HBz.out⟩
  subst h0
  rw [decide_eq_true rfl, Bool.true_and]
  clear hf
  go_wp2_with fail
  refine (Right_calls p o A2 c2 ts A3 c3 ns AD cD ds _ HI7.out.1 HTS.out (Kd.C_below HD0.out HB7.out)).mono ?_
  rintro e w8 ⟨rfl, hb⟩
  rw [HBB.out]
  have n_ := Aside0.mk (Kd.C_below HL2.out hb)
  clear HL2
  have HL2 := n_
  clear n_
  have HB8 := Aside0.mk (below_then HB7.out HB7.out.size hb)
  have HI8 := Aside0.mk (HI7.out.below hb)
  have BK8 := Aside0.mk ((hb.block _ (blk_lt BK7.out)).trans BK7.out)
  clear hb x0 x1 x2 x3 HI7 BK7
  obtain ⟨x0, x1, x2, x3⟩ := roll_cells BK8.out
  cases b with
  | false =>
    go_wp2_with fail
    refine (broken_calls p o A2 c2 ts A3 c3 ns _ HI8.out HTS.out HNS.out HSZ.out).mono ?_
    rintro e w9 ⟨rfl, hb⟩
    rw [HE.out]
    have n_ := Aside0.mk (Kd.C_below HL2.out hb)
    clear HL2
    have HL2 := n_
    clear n_
    have HB9 := Aside0.mk (below_then HB8.out HB8.out.size hb)
    have HI9 := Aside0.mk (HI8.out.below hb)
    have BK9 := Aside0.mk ((hb.block _ (blk_lt BK8.out)).trans BK8.out)
    clear hb x0 x1 x2 x3 HI8 BK8
    obtain ⟨x0, x1, x2, x3⟩ := roll_cells BK9.out
    by_cases e0 : E = 0
    case neg =>
      have hl := HLS.out
      rw [if_neg e0] at hl
      rw [hl]
      simp only [List.length_nil]
      have e5 : (E != 0) = true := bne_iff_ne.mpr e0
      clear hl e0
      go_wp2_with fail
      refine (awake_calls _).mono ?_
      rintro e wz ⟨rfl, hb⟩
      have HBz := Aside0.mk (below_then HB9.out HB9.out.size hb)
      clear hb
      go_wp2
      go_ret
      exact ⟨rfl, HBz.out⟩
    have hl := HLS.out
    rw [if_pos e0] at hl
    have h2 := HL2.out
    rw [hl] at h2 ⊢
    simp only at h2 ⊢
    rw [HKL.out] at h2 ⊢
    have HK2 := Aside0.mk h2
    subst e0
    clear hl h2
    go_wp2_with fail
    refine (rLearn_calls p o A2 c2 ts A3 c3 ns _ HI9.out.1 HTS.out).mono ?_
    rintro e w10 ⟨AR, cR, rfl, hr, hb⟩
    have HRK := Aside0.mk hr
    clear hr
    have n_ := Aside0.mk (Kd.C_below HK2.out hb)
    clear HK2
    have HK2 := n_
    clear n_
    have HB10 := Aside0.mk (below_then HB9.out HB9.out.size hb)
    have HI10 := Aside0.mk (HI9.out.below hb)
    have BK10 := Aside0.mk ((hb.block _ (blk_lt BK9.out)).trans BK9.out)
    clear hb x0 x1 x2 x3 HI9 BK9
    obtain ⟨x0, x1, x2, x3⟩ := roll_cells BK10.out
    go_wp2_with fail
    refine (known_true AL cL K AR cR (rKnown ts) ts.length _ HKL.out (by simp [rKnown]) HTS.out HK2.out HRK.out (fun i h1 h2 => ?_)).mono ?_
    · obtain ⟨s1, s2⟩ := known_says ts i h1 h2
      rw [← HKS.out, s1, s2]
      exact known_same ts i.toNat (by omega)
    rintro e wk ⟨rfl, hb⟩
    have HBk := Aside0.mk (below_then HB10.out HB10.out.size hb)
    clear hb
    go_wp2_with fail
    refine (awake_calls _).mono ?_
    rintro e wz ⟨rfl, hb⟩
    have HBz := Aside0.mk (below_then HBk.out HBk.out.size hb)
    clear hb
    go_wp2
    go_ret
    exact ⟨rfl, HBz.out⟩
  | true =>
    go_wp2_with fail
    refine (broken_calls p o A2 c2 ts A3 c3 ns _ HI8.out HTS.out HNS.out HSZ.out).mono ?_
    rintro e w9 ⟨rfl, hb⟩
    rw [HE.out]
    have n_ := Aside0.mk (Kd.C_below HL2.out hb)
    clear HL2
    have HL2 := n_
    clear n_
    have HB9 := Aside0.mk (below_then HB8.out HB8.out.size hb)
    have HI9 := Aside0.mk (HI8.out.below hb)
    have BK9 := Aside0.mk ((hb.block _ (blk_lt BK8.out)).trans BK8.out)
    clear hb x0 x1 x2 x3 HI8 BK8
    obtain ⟨x0, x1, x2, x3⟩ := roll_cells BK9.out
    by_cases e0 : E = 0
    case neg =>
      have hl := HLS.out
      rw [if_neg e0] at hl
      rw [hl]
      simp only [List.length_nil]
      have e5 : (E != 0) = true := bne_iff_ne.mpr e0
      clear hl e0
      go_wp2_with fail
      refine (awake_calls _).mono ?_
      rintro e wz ⟨rfl, hb⟩
      have HBz := Aside0.mk (below_then HB9.out HB9.out.size hb)
      clear hb
      go_wp2
      go_ret
      exact ⟨rfl, HBz.out⟩
    have hl := HLS.out
    rw [if_pos e0] at hl
    have h2 := HL2.out
    rw [hl] at h2 ⊢
    simp only at h2 ⊢
    rw [HKL.out] at h2 ⊢
    have HK2 := Aside0.mk h2
    subst e0
    clear hl h2
    go_wp2_with fail
    refine (rLearn_calls p o A2 c2 ts A3 c3 ns _ HI9.out.1 HTS.out).mono ?_
    rintro e w10 ⟨AR, cR, rfl, hr, hb⟩
    have HRK := Aside0.mk hr
    clear hr
    have n_ := Aside0.mk (Kd.C_below HK2.out hb)
    clear HK2
    have HK2 := n_
    clear n_
    have HB10 := Aside0.mk (below_then HB9.out HB9.out.size hb)
    have HI10 := Aside0.mk (HI9.out.below hb)
    have BK10 := Aside0.mk ((hb.block _ (blk_lt BK9.out)).trans BK9.out)
    clear hb x0 x1 x2 x3 HI9 BK9
    obtain ⟨x0, x1, x2, x3⟩ := roll_cells BK10.out
    go_wp2_with fail
    refine (known_true AL cL K AR cR (rKnown ts) ts.length _ HKL.out (by simp [rKnown]) HTS.out HK2.out HRK.out (fun i h1 h2 => ?_)).mono ?_
    · obtain ⟨s1, s2⟩ := known_says ts i h1 h2
      rw [← HKS.out, s1, s2]
      exact known_same ts i.toNat (by omega)
    rintro e wk ⟨rfl, hb⟩
    have HBk := Aside0.mk (below_then HB10.out HB10.out.size hb)
    clear hb
    go_wp2_with fail
    refine (awake_calls _).mono ?_
    rintro e wz ⟨rfl, hb⟩
    have HBz := Aside0.mk (below_then HBk.out HBk.out.size hb)
    clear hb
    go_wp2
    go_ret
    exact ⟨rfl, HBz.out⟩
end Go.Proofs.Ythpheknchikodaa.P

/- A list of dates, as a law's argument, opened. Conditions: none. -/
namespace Go.Proofs.Ythpheknchikodaa.P
open Go.RowKit Go.Joins Go.ChangeShapes Go.WideShapes Go.Deep Go.Proofs.YthpheknchikodaaW.PrintWords Go.Proofs.YthpheknchikodaaW.PrintLast
set_option linter.unusedVariables false
set_option linter.unusedSimpArgs false
theorem cells102_ : Try.prog.cellsOf 102 = 2 := by kernel_rfl
section
variable {H : Type} {enc : TypeId × Value → H} {w : World} {base : Nat} {spare : Nat → Bool} {held : Bool}
theorem cells102 {n : Nat} {cs : List Value} {x : DataW H × List MemPlace} (h : DataW.trod enc Try.prog w base spare held n 102 cs = some x) : ∃ t : S102, cs = [.int .i64 t.f0, .int .i64 t.f1] := by
  obtain ⟨xs, m, _, _, hl, hlen, hf⟩ := DataW.trod_struct Try.underlying102 h
  obtain ⟨a, ha⟩ := part_int Try.underlying3 (hf 0 _ rfl) (some_at hlen (by decide))
  obtain ⟨b, hb⟩ := part_int Try.underlying3 (hf 1 _ rfl) (some_at hlen (by decide))
  obtain ⟨u, v, rfl⟩ := len2 (hl.trans cells102_)
  simp [cells3] at ha hb
  exact ⟨⟨a, b⟩, by rw [ha, hb]⟩
set_option maxRecDepth 100000 in
theorem open_dates {v : Value} {d : DataW H} {p : List MemPlace} {r : Reach} {b0 : Nat} (hv : Value.okWide Try.prog w r b0 89 v) (h : DataW.Trod enc Try.prog w 0 (fun _ => true) held 89 v d p) :
    ∃ (A : Option Addr) (c : Nat) (l : List S102), v = .slice A l.length c ∧ l.length ≤ c ∧ Kd.C k102 w A l.length l := by
  obtain ⟨fuel, hf⟩ := h
  obtain ⟨a, n, c, rfl⟩ := okWide_slice Try.underlying89 hv
  exact slice_C z102 k102 102 89 2 rfl Try.underlying89 cells102_ (fun h => by obtain ⟨t, rfl⟩ := cells102 h; exact ⟨t, k102_mk _ t, rfl⟩) hf
end
end Go.Proofs.Ythpheknchikodaa.P
