/- Contracts of functions that the laws reach, part Xd2. Conditions: each theorem names its own. -/
import Derived.Test.YthpheknchikodaaXd1
import Derived.Test.YthpheknchikodaaXb14
/- The walk of the law OfficeOne: it answers true. Conditions: none beyond the roll's being readable. -/
namespace Go.Proofs.Ythpheknchikodaa.P
open Go.RowKit Go.Proofs.YthpheknchikodaaW.PrintWords Go.Proofs.YthpheknchikodaaW.PrintLast
set_option linter.unusedVariables false
set_option linter.unusedSimpArgs false

set_option maxHeartbeats 4000000 in
set_option maxRecDepth 100000 in
theorem OfficeOne_calls (p o : Int) (A2 : Option Addr) (c2 : Nat) (ts : List S54) (A3 : Option Addr) (c3 : Nat) (ns : List S88) (a1 a2 : Int) (w : World) (hI : RIn w A2 c2 ts A3 c3 ns) (ha1 : 0 ≤ a1 ∧ a1 ≤ 255) (ha2 : 0 ≤ a2 ∧ a2 ≤ 4294967295) :
    Calls Try.prog 6 #[.agg #[.int .i64 p, .int .i64 o, .slice A2 ts.length c2, .slice A3 ns.length c3], .int .u8 a1, .int .u32 a2] w fun e w' => e = .returned (.bool true) ∧ Below w.heap.size w w' := by
  have hu25 := Try.underlying25
  have HB0 := Aside0.mk (below_alloc (Below.refl w.heap.size w) (.cells #[.int .i64 p, .int .i64 o, .slice A2 ts.length c2, .slice A3 ns.length c3] 25))
  have HI0 := Aside0.mk (hI.below HB0.out)
  have BK0 := Aside0.mk (blk_new w (.cells #[.int .i64 p, .int .i64 o, .slice A2 ts.length c2, .slice A3 ns.length c3] 25))
  obtain ⟨x0, x1, x2, x3⟩ := roll_cells BK0.out
  clear hI
  go_enter Try.func6, Try.ntmps6
  go_wp2_with fail
  cases hrd : readyB p o ts ns
  · refine (ready_calls p o A2 c2 ts A3 c3 ns _ HI0.out).mono ?_
    rintro e w1 ⟨rfl, hb⟩
    rw [hrd]
    have HB1 := Aside0.mk (below_then HB0.out HB0.out.size hb)
    clear hb
    go_wp2_with fail
    refine (awake_calls _).mono ?_
    rintro e wz ⟨rfl, hb⟩
    have HBz := Aside0.mk (below_then HB1.out HB1.out.size hb)
    clear hb
    go_wp2
    go_ret
    exact ⟨rfl, HBz.out⟩
  have hrd' := hrd
  unfold readyB at hrd'
  rw [Bool.and_eq_true] at hrd'
  obtain ⟨hts, hns, hsz⟩ := thin_facts hrd'.1
  have HTS := Aside0.mk hts
  have HNS := Aside0.mk hns
  have HSZ := Aside0.mk hsz
  have HFA := Aside0.mk (show rollFault p o (ts.map toT) (ns.map toN) = 0 from of_decide_eq_true hrd'.2)
  have HRO := Aside0.mk (rollOk_of HFA.out)
  clear hts hns hsz hrd'
  refine (ready_calls p o A2 c2 ts A3 c3 ns _ HI0.out).mono ?_
  rintro e w1 ⟨rfl, hb⟩
  rw [hrd]
  have HB1 := Aside0.mk (below_then HB0.out HB0.out.size hb)
  have HI1 := Aside0.mk (HI0.out.below hb)
  have BK1 := Aside0.mk ((hb.block _ (blk_lt BK0.out)).trans BK0.out)
  clear hb x0 x1 x2 x3 HI0 BK0
  obtain ⟨x0, x1, x2, x3⟩ := roll_cells BK1.out
  have hro := HRO.out.o1
  have hro2 := HRO.out.o2
  have e1 : wrap64 a1 = a1 := by unfold wrap64; omega
  have e2 : wrap64 a2 = a2 := by unfold wrap64; omega
  have e5 : (o == 0) = false := beq_eq_false_iff_ne.mpr (by omega)
  have e6 : (o = 0) = False := eq_false (by omega)
  obtain ⟨off, e3⟩ : ∃ off, Int.tmod a1 o = off := ⟨_, rfl⟩
  obtain ⟨day, e4⟩ : ∃ day, Int.tmod a2 100001 = day := ⟨_, rfl⟩
  have HOF := Aside0.mk (show 0 ≤ off ∧ off < o by rw [← e3]; exact ⟨Int.tmod_nonneg _ ha1.1, Int.tmod_lt_of_pos _ (by omega)⟩)
  have HDY := Aside0.mk (show 0 ≤ day ∧ day ≤ 100000 by rw [← e4]; have h1 := Int.tmod_nonneg 100001 ha2.1; have h2 := Int.tmod_lt_of_pos a2 (show (0 : Int) < 100001 by decide); omega)
  have hask : paskedOf p o (ts.map toT) (ns.map toN) off o day = 0 := by
    unfold paskedOf
    rw [if_pos HFA.out, if_pos]
    have h1 := HOF.out
    have h2 := HDY.out
    rw [show wrap64 (o - 1) = o - 1 by unfold wrap64; omega]
    unfold withinB
    simp
    omega
  obtain ⟨H, hH⟩ : ∃ H, holdsSpec p o (ts.map toT) (ns.map toN) off day = H := ⟨_, rfl⟩
  have HH := Aside0.mk hH
  have HHS := Aside0.mk (show H = if soundOf p o (ts.map toT) (ns.map toN) = 0 then ((heldSpec (ts.map toT) off day).1, trueIdx 0 (heldSpec (ts.map toT) off day).2, (heldSpec (ts.map toT) off day).1 == -1, 0) else (0, [], false, soundOf p o (ts.map toT) (ns.map toN)) by rw [← hH]; unfold holdsSpec; rw [if_pos hask])
  clear hask hH ha1 ha2 hrd hro hro2
  go_wp2
  have HBd := Aside0.mk (below_drew1 HB1.out)
  have HId := Aside0.mk (HI1.out.below (below_drew (Below.refl _ _)))
  have BKd := Aside0.mk (show w1.drew.heap[w.heap.size]? = some (.cells #[.int .i64 p, .int .i64 o, .slice A2 ts.length c2, .slice A3 ns.length c3] 25 (0, 0)) from BK1.out)
  refine start_ (n := 20) (S := fun w' => w'.cell? ⟨w.heap.size, 0, none⟩ = some (.int .i64 p) ∧ w'.cell? ⟨w.heap.size, 1, none⟩ = some (.int .i64 o) ∧ w'.cell? ⟨w.heap.size, 2, none⟩ = some (.slice A2 ts.length c2) ∧ w'.cell? ⟨w.heap.size, 3, none⟩ = some (.slice A3 ns.length c3)) (ds := []) #[false, false, false, false, false, false, false, false, false, false, false, false, false, false, false, false, false, false, false, false] (by kernel_rfl) rfl rfl ⟨x0, x1, x2, x3⟩ (fun hHeld => ?_)
  generalize w1.drew = wd at HBd HId BKd hHeld ⊢
  refine pure_ (i := 2) (N := some 19) (v := ?_) (a' := ?_) #[false, false, true, false, false, false, false, false, false, false, false, false, false, false, false, false, false, false, false, false] rfl rfl (by kernel_rfl) (fun _ _ _ h => h) (Or.inl ⟨by rfl, ?_⟩) ?_ ?_
  rotate_left
  · intro w'
    go_simp
    with_reducible rfl
  rotate_left
  · simp only [Act.put, List.setIfInBounds_toArray, List.set_cons_zero, List.set_cons_succ, i64_w, i32_w]
    rfl
  refine pure_ (i := 3) (N := some 20) (v := ?_) (a' := ?_) #[false, false, true, true, false, false, false, false, false, false, false, false, false, false, false, false, false, false, false, false] rfl rfl (by kernel_rfl) (fun _ _ _ h => h) (Or.inl ⟨by rfl, ?_⟩) ?_ ?_
  rotate_left
  · intro w'
    go_simp
    with_reducible rfl
  rotate_left
  · simp only [Act.put, List.setIfInBounds_toArray, List.set_cons_zero, List.set_cons_succ, i64_w, i32_w]
    rfl
  refine pure_ (i := 4) (N := some 21) (v := ?_) (a' := ?_) #[false, false, true, true, true, false, false, false, false, false, false, false, false, false, false, false, false, false, false, false] rfl rfl (by kernel_rfl) (fun _ _ _ h => h) (Or.inl ⟨by rfl, ?_⟩) ?_ ?_
  rotate_left
  · intro w'
    go_simp
    with_reducible rfl
  rotate_left
  · simp only [Act.put, List.setIfInBounds_toArray, List.set_cons_zero, List.set_cons_succ, i64_w, i32_w]
    rfl
  refine pure_ (i := 7) (N := some 24) (v := ?_) (a' := ?_) #[false, false, true, true, true, false, false, true, false, false, false, false, false, false, false, false, false, false, false, false] rfl rfl (by kernel_rfl) (fun _ _ _ h => h) (Or.inl ⟨by rfl, ?_⟩) ?_ ?_
  rotate_left
  · intro w'
    go_simp
    with_reducible rfl
  rotate_left
  · simp only [Act.put, List.setIfInBounds_toArray, List.set_cons_zero, List.set_cons_succ, i64_w, i32_w]
    rfl
  refine pure_ (i := 8) (N := some 25) (v := ?_) (a' := ?_) #[false, false, true, true, true, false, false, true, true, false, false, false, false, false, false, false, false, false, false, false] rfl rfl (by kernel_rfl) (fun _ _ _ h => h) (Or.inl ⟨by rfl, ?_⟩) ?_ ?_
  rotate_left
  · intro w'
    go_simp
    with_reducible rfl
  rotate_left
  · simp only [Act.put, List.setIfInBounds_toArray, List.set_cons_zero, List.set_cons_succ, i64_w, i32_w]
    rfl
  refine pure_ (i := 9) (N := some 26) (v := ?_) (a' := ?_) #[false, false, true, true, true, false, false, true, true, true, false, false, false, false, false, false, false, false, false, false] rfl rfl (by kernel_rfl) (fun _ _ _ h => h) (Or.inl ⟨by rfl, ?_⟩) ?_ ?_
  rotate_left
  · intro w'
    go_simp
    with_reducible rfl
  rotate_left
  · simp only [Act.put, List.setIfInBounds_toArray, List.set_cons_zero, List.set_cons_succ, i64_w, i32_w]
    rfl
  refine take_ (i := 0) (N := some 17) (v := ?_) (a' := ?_) #[true, false, true, true, true, false, false, true, true, true, false, false, false, false, false, false, false, false, false, false] rfl rfl (by kernel_rfl) (fun _ _ _ h => h) (Or.inl ⟨by rfl, ?_⟩) hHeld ?_ ?_
  rotate_left
  · rintro w' ⟨s0, s1, s2, s3⟩
    go_simp
    with_reducible rfl
  rotate_left
  · simp only [Act.put, List.setIfInBounds_toArray, List.set_cons_zero, List.set_cons_succ, i64_w, i32_w]
    rfl
  refine take_ (i := 5) (N := some 22) (v := ?_) (a' := ?_) #[true, false, true, true, true, true, false, true, true, true, false, false, false, false, false, false, false, false, false, false] rfl rfl (by kernel_rfl) (fun _ _ _ h => h) (Or.inl ⟨by rfl, ?_⟩) hHeld ?_ ?_
  rotate_left
  · rintro w' ⟨s0, s1, s2, s3⟩
    go_simp
    with_reducible rfl
  rotate_left
  · simp only [Act.put, List.setIfInBounds_toArray, List.set_cons_zero, List.set_cons_succ, i64_w, i32_w]
    rfl
  refine pure_ (i := 6) (N := some 23) (v := ?_) (a' := ?_) #[true, false, true, true, true, true, true, true, true, true, false, false, false, false, false, false, false, false, false, false] rfl rfl (by kernel_rfl) (fun _ _ _ h => h) (Or.inl ⟨by rfl, ?_⟩) ?_ ?_
  rotate_left
  · intro w'
    go_simp
    with_reducible rfl
  rotate_left
  · simp only [Act.put, List.setIfInBounds_toArray, List.set_cons_zero, List.set_cons_succ, i64_w, i32_w]
    rfl
  refine one_ (i := 1) (N := some 18) #[true, true, true, true, true, true, true, true, true, true, false, false, false, false, false, false, false, false, false, false] rfl rfl (by kernel_rfl) (by decide) (fun K hK => ?_)
  refine goes_ Try.func20 (by kernel_rfl) rfl #[.agg #[.int .i64 p, .int .i64 o, .slice A2 ts.length c2, .slice A3 ns.length c3]] (by rfl) rfl rfl (by simp only [List.map_toArray, List.map_cons, List.map_nil]; rfl) ?_
  refine (Roll_calls p o A2 c2 ts A3 c3 ns _ HId.out HTS.out HNS.out).mono ?_
  rintro e w31 ⟨B12, d12, B13, d13, rfl, ho, hb⟩
  refine ⟨_, rfl, ?_⟩
  have HO1 := Aside0.mk ho
  clear ho
  have n0_ := Aside0.mk (below_then HBd.out HBd.out.size hb)
  have n1_ := Aside0.mk (HId.out.below hb)
  have n2_ := Aside0.mk ((hb.block _ (blk_lt BKd.out)).trans BKd.out)
  clear HBd HId BKd
  have HBd := n0_
  have HId := n1_
  have BKd := n2_
  clear n0_ n1_ n2_
  refine hK.out _ _ ⟨pw_cell_below hb hHeld.1, pw_cell_below hb hHeld.2.1, pw_cell_below hb hHeld.2.2.1, pw_cell_below hb hHeld.2.2.2⟩ (fun hHeld => ?_)
  clear hK K
  refine norm_ (a' := ?_) ?_ ?_
  rotate_left
  · show Act.put _ (some 18) _ = _
    simp only [Act.put, List.setIfInBounds_toArray, List.set_cons_zero, List.set_cons_succ, i64_w, i32_w]
    rfl
  refine one_ (i := 10) (N := some 27) #[true, true, true, true, true, true, true, true, true, true, true, false, false, false, false, false, false, false, false, false] rfl rfl (by kernel_rfl) (by decide) (fun K hK => ?_)
  refine goes_ Try.func19 (by kernel_rfl) rfl #[.agg #[.int .i64 p, .int .i64 o, .slice B12 ts.length d12, .slice B13 ns.length d13], .int .i64 off, .int .i64 day] (by rfl) rfl rfl (by simp only [List.map_toArray, List.map_cons, List.map_nil]; rfl) ?_
  refine (pHolds_calls p o B12 d12 (ts.map toT) B13 d13 (ns.map toN) _ _ (List.length_map ..) (List.length_map ..) off day _ HO1.out.1 HO1.out.2.1 HO1.out.2.2.1 HO1.out.2.2.2 H HH.out).mono ?_
  rintro e w4 ⟨AP, cP, rfl, hp1, hp2, hb⟩
  refine ⟨_, rfl, ?_⟩
  have HP := Aside0.mk (And.intro hp1 hp2)
  clear hp1 hp2
  have n0_ := Aside0.mk (below_then HBd.out HBd.out.size hb)
  have n1_ := Aside0.mk (HId.out.below hb)
  have n2_ := Aside0.mk ((hb.block _ (blk_lt BKd.out)).trans BKd.out)
  clear HBd HId BKd
  have HBd := n0_
  have HId := n1_
  have BKd := n2_
  clear n0_ n1_ n2_
  refine hK.out _ _ ⟨pw_cell_below hb hHeld.1, pw_cell_below hb hHeld.2.1, pw_cell_below hb hHeld.2.2.1, pw_cell_below hb hHeld.2.2.2⟩ (fun hHeld => ?_)
  clear hK K
  refine norm_ (a' := ?_) ?_ ?_
  rotate_left
  · show Act.put _ (some 27) _ = _
    simp only [Act.put, List.setIfInBounds_toArray, List.set_cons_zero, List.set_cons_succ, i64_w, i32_w]
    rfl
  refine pure_ (i := 11) (N := some 16) (v := ?_) (a' := ?_) #[true, true, true, true, true, true, true, true, true, true, true, true, false, false, false, false, false, false, false, false] rfl rfl (by kernel_rfl) (fun _ _ _ h => h) (Or.inl ⟨by rfl, ?_⟩) ?_ ?_
  rotate_left
  · intro w'
    go_simp
    with_reducible rfl
  rotate_left
  · simp only [Act.put, List.setIfInBounds_toArray, List.set_cons_zero, List.set_cons_succ, i64_w, i32_w]
    rfl
  refine pure_ (i := 12) (N := some 28) (v := ?_) (a' := ?_) #[true, true, true, true, true, true, true, true, true, true, true, true, true, false, false, false, false, false, false, false] rfl rfl (by kernel_rfl) (fun _ _ _ h => h) (Or.inl ⟨by rfl, ?_⟩) ?_ ?_
  rotate_left
  · intro w'
    go_simp
    with_reducible rfl
  rotate_left
  · simp only [Act.put, List.setIfInBounds_toArray, List.set_cons_zero, List.set_cons_succ, i64_w, i32_w]
    rfl
  refine pure_ (i := 13) (N := some 29) (v := ?_) (a' := ?_) #[true, true, true, true, true, true, true, true, true, true, true, true, true, true, false, false, false, false, false, false] rfl rfl (by kernel_rfl) (fun _ _ _ h => h) (Or.inl ⟨by rfl, ?_⟩) ?_ ?_
  rotate_left
  · intro w'
    go_simp
    with_reducible rfl
  rotate_left
  · simp only [Act.put, List.setIfInBounds_toArray, List.set_cons_zero, List.set_cons_succ, i64_w, i32_w]
    rfl
  refine pure_ (i := 14) (N := some 30) (v := ?_) (a' := ?_) #[true, true, true, true, true, true, true, true, true, true, true, true, true, true, true, false, false, false, false, false] rfl rfl (by kernel_rfl) (fun _ _ _ h => h) (Or.inl ⟨by rfl, ?_⟩) ?_ ?_
  rotate_left
  · intro w'
    go_simp
    with_reducible rfl
  rotate_left
  · simp only [Act.put, List.setIfInBounds_toArray, List.set_cons_zero, List.set_cons_succ, i64_w, i32_w]
    rfl
  refine pure_ (i := 15) (N := some 31) (v := ?_) (a' := ?_) #[true, true, true, true, true, true, true, true, true, true, true, true, true, true, true, true, false, false, false, false] rfl rfl (by kernel_rfl) (fun _ _ _ h => h) (Or.inl ⟨by rfl, ?_⟩) ?_ ?_
  rotate_left
  · intro w'
    go_simp
    with_reducible rfl
  rotate_left
  · simp only [Act.put, List.setIfInBounds_toArray, List.set_cons_zero, List.set_cons_succ, i64_w, i32_w]
    rfl
  refine pure_ (i := 16) (N := some 7) (v := ?_) (a' := ?_) #[true, true, true, true, true, true, true, true, true, true, true, true, true, true, true, true, true, false, false, false] rfl rfl (by kernel_rfl) (fun _ _ _ h => h) (Or.inl ⟨by rfl, ?_⟩) ?_ ?_
  rotate_left
  · intro w'
    go_simp
    with_reducible rfl
  rotate_left
  · simp only [Act.put, List.setIfInBounds_toArray, List.set_cons_zero, List.set_cons_succ, i64_w, i32_w]
    rfl
  refine pure_ (i := 17) (N := some 8) (v := ?_) (a' := ?_) #[true, true, true, true, true, true, true, true, true, true, true, true, true, true, true, true, true, true, false, false] rfl rfl (by kernel_rfl) (fun _ _ _ h => h) (Or.inl ⟨by rfl, ?_⟩) ?_ ?_
  rotate_left
  · intro w'
    go_simp
    with_reducible rfl
  rotate_left
  · simp only [Act.put, List.setIfInBounds_toArray, List.set_cons_zero, List.set_cons_succ, i64_w, i32_w]
    rfl
  refine pure_ (i := 18) (N := some 9) (v := ?_) (a' := ?_) #[true, true, true, true, true, true, true, true, true, true, true, true, true, true, true, true, true, true, true, false] rfl rfl (by kernel_rfl) (fun _ _ _ h => h) (Or.inl ⟨by rfl, ?_⟩) ?_ ?_
  rotate_left
  · intro w'
    go_simp
    with_reducible rfl
  rotate_left
  · simp only [Act.put, List.setIfInBounds_toArray, List.set_cons_zero, List.set_cons_succ, i64_w, i32_w]
    rfl
  refine pure_ (i := 19) (N := some 10) (v := ?_) (a' := ?_) #[true, true, true, true, true, true, true, true, true, true, true, true, true, true, true, true, true, true, true, true] rfl rfl (by kernel_rfl) (fun _ _ _ h => h) (Or.inl ⟨by rfl, ?_⟩) ?_ ?_
  rotate_left
  · intro w'
    go_simp
    with_reducible rfl
  rotate_left
  · simp only [Act.put, List.setIfInBounds_toArray, List.set_cons_zero, List.set_cons_succ, i64_w, i32_w]
    rfl
  refine done_ (by kernel_rfl) ?_
  clear x0 x1 x2 x3 e1 e2 e3 e4 e5 e6 HI1 BK1
  obtain ⟨H1, H2, H3, H4⟩ := H
  have hhs := HHS.out
  simp only at HP
  by_cases hs : soundOf p o (ts.map toT) (ns.map toN) = 0
  case neg =>
    have hs9 : soundOf p o (ts.map toT) (ns.map toN) = 9 := by
      have h := hs
      unfold soundOf at h ⊢
      rw [if_pos HFA.out] at h ⊢
      cases c : (firstClash 0 (ts.map toT)).isSome
      · rw [c] at h; exact absurd rfl h
      · rfl
    rw [if_neg hs, hs9] at hhs
    obtain ⟨rfl, rfl, rfl, rfl⟩ := (by simpa using hhs : H1 = 0 ∧ H2 = [] ∧ H3 = false ∧ H4 = 9)
    clear hs hs9 hhs HHS HH
    go_wp2_with fail
    refine (awake_calls _).mono ?_
    rintro e wz ⟨rfl, hb⟩
    have HBz := Aside0.mk (below_then HBd.out HBd.out.size hb)
    clear hb
    go_wp2
    go_ret
    exact ⟨rfl, HBz.out⟩
  rw [if_pos hs] at hhs
  have HC := Aside0.mk (sound_zero hs).2
  obtain ⟨h1, h2, h3, h4⟩ := (by simpa using hhs : H1 = (heldSpec (ts.map toT) off day).1 ∧ H2 = trueIdx 0 (heldSpec (ts.map toT) off day).2 ∧ H3 = ((heldSpec (ts.map toT) off day).1 == -1) ∧ H4 = 0)
  subst h4
  have HRG := Aside0.mk (show ∀ q ∈ H2, 0 ≤ q ∧ q < p by rw [h2]; exact fun q hq => perhaps_range HRO.out HC.out off day q hq)
  have HST := Aside0.mk (show H2.Pairwise (· < ·) by rw [h2]; exact trueIdx_sorted _ 0)
  have HSR := Aside0.mk (show H1 = -1 ∨ 0 ≤ H1 ∧ H1 < p by rw [h1]; exact surely_range HRO.out off day)
  have HON := Aside0.mk (show 0 ≤ H1 → H2 = [H1] by rw [h1, h2]; exact one_alone HRO.out HC.out off day)
  have HVC := Aside0.mk (show H3 = (H1 == -1) by rw [h3, h1])
  have HLN := Aside0.mk (show H2.length ≤ 20 by rw [h2]; exact Nat.le_trans (trueIdx_le _ 0) (by rw [held_len20]; exact Nat.le_refl _))
  clear hs hhs HHS HH h1 h2 h3
  obtain ⟨x0, x1, x2, x3⟩ := roll_cells BKd.out
  have hp1 := HRO.out.p1
  have hp2 := HRO.out.p2
  go_wp2
  clear x0 x1 x2 x3
  go_loopg [11] H2.length (fun kq v11 w' => ∃ i : Int, v11 = .int .i64 i ∧ Aside0 (0 ≤ i ∧ kq + i.toNat = H2.length) ∧ Aside0 (Kd.C (Kd.int .i64) w' AP H2.length H2) ∧ Aside0 (w'.heap[w.heap.size]? = some (.cells #[.int .i64 p, .int .i64 o, .slice A2 ts.length c2, .slice A3 ns.length c3] 25 (0, 0))) ∧ Aside0 (Below w.heap.size w w'))
  case atStart => exact ⟨0, rfl, ⟨by simp⟩, ⟨HP.out.2⟩, BKd, HBd⟩
  case round =>
    clear BKd HBd HId
    obtain ⟨i, rfl, HI, HC2, BK, HB⟩ := hrel
    by_cases hlt : i < (H2.length : Int)
    case neg =>
      have t0 : decide (i < (H2.length : Int)) = false := decide_eq_false hlt
      clear hlt
      rcases HSR.out with h1 | h1
      · subst h1
        have hv : H3 = true := HVC.out
        subst hv
        clear HVC HSR
        go_wp2_with fail
        refine (awake_calls _).mono ?_
        rintro e wz ⟨rfl, hb⟩
        have HBz := Aside0.mk (below_then HB.out HB.out.size hb)
        clear hb
        go_wp2
        go_ret
        exact ⟨rfl, HBz.out⟩
      · have h2 := HON.out h1.1
        have hl1 : H2.length = 1 := by rw [h2]; rfl
        have e7 : ((H2.length : Int) == 1) = true := by rw [hl1]; rfl
        have e8 : decide ((0 : Int) < (H2.length : Int)) = true := by rw [hl1]; rfl
        have e9 : (0 : Int) < (H2.length : Int) := by rw [hl1]; decide
        have hv : H3 = false := by rw [HVC.out]; exact beq_eq_false_iff_ne.mpr (by omega)
        subst hv
        have g1 : decide (0 ≤ H1) = true := decide_eq_true h1.1
        obtain ⟨ad, hA, q0⟩ := Kd.at_int HC2.out 0 (by decide) e9
        have q1 : wr.cell? ad = some (.int .i64 H1) := by have h := q0; rw [show (0 : Int).toNat = 0 from rfl, Addr.add_zero', h2] at h; exact h
        cases hA
        clear h2 hl1
        clear HVC HSR h1 q0 HI HRG HST HON
        go_wp2_with fail
        refine (awake_calls _).mono ?_
        rintro e wz ⟨rfl, hb⟩
        have HBz := Aside0.mk (below_then HB.out HB.out.size hb)
        clear hb
        go_wp2
        go_ret
        exact ⟨rfl, HBz.out⟩
    case pos =>
      have t0 : decide (i < (H2.length : Int)) = true := decide_eq_true hlt
      have i0 : 0 ≤ i := HI.out.1
      have i20 : i ≤ 20 := by have := HLN.out; omega
      have HW := Aside0.mk (show wrap64 (i + 1) = i + 1 by unfold wrap64; omega)
      have HLT := Aside0.mk hlt
      obtain ⟨ad, hA, q0⟩ := Kd.at_int HC2.out i i0 hlt
      obtain ⟨u, hu⟩ : ∃ u, rd H2 i = u := ⟨_, rfl⟩
      have hget : ∀ k : Nat, k < H2.length → rd H2 (k : Int) = H2.getD k 0 := fun k _ => by unfold rd; rw [Int.toNat_natCast]
      have hm : u ∈ H2 := by
        rw [← hu]; unfold rd
        have h' : i.toNat < H2.length := by omega
        rw [List.getD_eq_getElem?_getD, List.getElem?_eq_getElem h', Option.getD_some]
        exact List.getElem_mem h'
      have hwi : withinB u 0 (p - 1) = true := by have := HRG.out u hm; unfold withinB; simp; omega
      rw [hu] at q0
      obtain ⟨x0, x1, x2, x3⟩ := roll_cells BK.out
      cases hA
      clear hm hget
      by_cases hz : i = 0
      · subst hz
        have q1 : wr.cell? ad = some (.int .i64 u) := by have h := q0; rw [show (0 : Int).toNat = 0 from rfl, Addr.add_zero'] at h; exact h
        have tn : 0 < H2.length := by omega
        have tn2 : decide (0 < H2.length) = true := decide_eq_true tn
        clear q0
        go_wp2
        go_quiet ((go_at_call 29; exact Calls.quiet_of_same ((In_calls _ _ _ _).mono (fun e w' h => ⟨h.1, h.2.symm⟩))))
        go_wp2
        go_roundg (gk - 1)
        case measure => have := HI.out; have := HLT.out; omega
        case rel => exact ⟨1, by first | rfl | (simp; done), ⟨by have := HI.out; have := HLT.out; omega⟩, ⟨Kd.C_drewN HC2.out _⟩, BK, ⟨pw_below_drewN HB.out _⟩⟩
      · have hz1 : 0 < i := by omega
        have e1 : decide (0 < i) = true := decide_eq_true hz1
        have hi1 : 0 ≤ i - 1 := by omega
        have hi2 : i - 1 < (H2.length : Int) := by omega
        have hw1 : wrap64 (i - 1) = i - 1 := by unfold wrap64; omega
        obtain ⟨ad', hA', q1⟩ := Kd.at_int HC2.out (i - 1) hi1 hi2
        obtain ⟨v, hv⟩ : ∃ v, rd H2 (i - 1) = v := ⟨_, rfl⟩
        rw [hv] at q1
        obtain rfl : ad = ad' := by injection hA'
        have hlt2 : v < u := by
          have h' : i.toNat < H2.length := by omega
          have h'' : (i - 1).toNat < H2.length := by omega
          have hp := List.pairwise_iff_getElem.1 HST.out (i - 1).toNat i.toNat h'' h' (by omega)
          rw [← hu, ← hv]; unfold rd
          rw [List.getD_eq_getElem?_getD, List.getElem?_eq_getElem h'', Option.getD_some, List.getD_eq_getElem?_getD, List.getElem?_eq_getElem h', Option.getD_some]
          exact hp
        have e2 : decide (u ≤ v) = false := decide_eq_false (by omega)
        clear hlt2 hA' hz
        have q1' : wr.cell? (ad.add (i.toNat - 1)) = some (.int .i64 v) := by rw [show i.toNat - 1 = (i - 1).toNat by omega]; exact q1
        have h1i : (1 ≤ i) = True := eq_true (by omega)
        have h2i : (i ≤ (H2.length : Int)) = True := eq_true (by omega)
        replace hi1 := eq_true hi1
        replace hi2 := eq_true hi2
        replace hlt := eq_true hlt
        replace i0' := eq_true i0
        go_wp2
        go_quiet ((go_at_call 29; exact Calls.quiet_of_same ((In_calls _ _ _ _).mono (fun e w' h => ⟨h.1, h.2.symm⟩))))
        go_wp2
        go_roundg (gk - 1)
        case measure => have := HI.out; have := HLT.out; omega
        case rel => exact ⟨i + 1, by first | rfl | rw [HW.out], ⟨by have := HI.out; have := HLT.out; omega⟩, ⟨Kd.C_drewN HC2.out _⟩, BK, ⟨pw_below_drewN HB.out _⟩⟩
end Go.Proofs.Ythpheknchikodaa.P
