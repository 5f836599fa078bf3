/- Contracts of functions that the laws reach, part Xb14. Conditions: each theorem names its own. -/
import Derived.Test.YthpheknchikodaaXb9
import Derived.Test.YthpheknchikodaaXb13
/- The walk of the reference's Clashes: the first two terms that clash, by its words. Conditions: at most 45 terms. -/
namespace Go.Proofs.Ythpheknchikodaa.P
open Go.RowKit Go.Proofs.YthpheknchikodaaW.PrintWords Go.Proofs.YthpheknchikodaaW.PrintLast
set_option linter.unusedVariables false
set_option linter.unusedSimpArgs false

def pairIn (i : Int) (R : Int × Int) : Option Int → Int × Int
  | some k => (i, k)
  | none => R
theorem pair_step (i : Int) (t : S59) (l : List S59) : pairOf (firstClash i (t :: l)) = pairIn i (pairOf (firstClash (i + 1) l)) (findClash t (i + 1) l) := by
  rw [firstClash]
  cases findClash t (i + 1) l <;> rfl
set_option maxHeartbeats 4000000 in
set_option maxRecDepth 100000 in
theorem Clashes_calls (p o : Int) (A2 : Option Addr) (c2 : Nat) (ts : List S54) (A3 : Option Addr) (c3 : Nat) (ns : List S88) (w : World) (hr2 : Kd.C k54 w A2 ts.length ts) (hts : ts.length ≤ 45) :
    Calls Try.prog 33 #[.agg #[.int .i64 p, .int .i64 o, .slice A2 ts.length c2, .slice A3 ns.length c3]] w fun e w' => e = .returned (.tuple #[.int .i64 (pairOf (clashOf ts)).1, .int .i64 (pairOf (clashOf ts)).2]) ∧ Below w.heap.size w w' := by
  have HR2 := Aside0.mk hr2
  have HTS := Aside0.mk hts
  clear hr2 hts
  have hu25 := Try.underlying25
  have hu54 := Try.underlying54
  have HB0 := Aside0.mk (below_alloc (Below.refl w.heap.size w) (.cells #[.int .i64 p, .int .i64 o, .slice A2 ts.length c2, .slice A3 ns.length c3] 25))
  have BK0 := Aside0.mk (blk_new w (.cells #[.int .i64 p, .int .i64 o, .slice A2 ts.length c2, .slice A3 ns.length c3] 25))
  obtain ⟨R, hR⟩ : ∃ R, pairOf (clashOf ts) = R := ⟨_, rfl⟩
  rw [hR]
  have HR := Aside0.mk (show pairOf (firstClash 0 ((ts.drop (0 : Int).toNat).map toT)) = R from hR)
  clear hR
  go_enter Try.func33, Try.ntmps33
  obtain ⟨x0, x1, x2, x3⟩ := roll_cells BK0.out
  go_wp2
  clear x0 x1 x2 x3
  go_loopg [4] ts.length (fun kq v4 w' => ∃ i : Int, v4 = .int .i64 i ∧ Aside0 (0 ≤ i ∧ kq + i.toNat = ts.length) ∧ Aside0 (pairOf (firstClash i ((ts.drop i.toNat).map toT)) = R) ∧ Aside0 (w'.heap[w.heap.size]? = some (.cells #[.int .i64 p, .int .i64 o, .slice A2 ts.length c2, .slice A3 ns.length c3] 25 (0, 0))) ∧ Aside0 (Below w.heap.size w w'))
  case atStart => exact ⟨0, rfl, ⟨by simp⟩, HR, BK0, HB0⟩
  case round =>
    clear HR BK0 HB0
    obtain ⟨i, rfl, HI, HE, BK, HB⟩ := hrel
    obtain ⟨x0, x1, x2, x3⟩ := roll_cells BK.out
    by_cases hlt : i < (ts.length : Int)
    case neg =>
      have t0 : decide (i < (ts.length : Int)) = false := decide_eq_false hlt
      have hF : R = (-1, -1) := by rw [← HE.out, List.drop_eq_nil_of_le (by have := HI.out; omega)]; rfl
      subst hF
      clear hlt HE
      go_wp2
      refine bodyPost_ret (results_tmp2 rfl _ _ _) rfl ?_
      exact ⟨rfl, HB.out⟩
    case pos =>
      have t0 : decide (i < (ts.length : Int)) = true := decide_eq_true hlt
      have i0 : 0 ≤ i := HI.out.1
      have HW := Aside0.mk (show wrap64 (i + 1) = i + 1 by unfold wrap64; have := HTS.out; omega)
      have HLT := Aside0.mk hlt
      obtain ⟨g1, rfl⟩ : ∃ g1, gk = g1 + 1 := ⟨gk - 1, by have := HI.out; omega⟩
      obtain ⟨t, ht⟩ : ∃ t, rd_T54 ts i = t := ⟨_, rfl⟩
      have HT := Aside0.mk ht
      obtain ⟨L, hL⟩ : ∃ L, (ts.drop (i + 1).toNat).map toT = L := ⟨_, rfl⟩
      have HL := Aside0.mk hL
      have HE1 := Aside0.mk (show pairIn i (pairOf (firstClash (i + 1) L)) (findClash (toT t) (i + 1) ((ts.drop (i + 1).toNat).map toT)) = R by
        have h' : i.toNat < ts.length := by omega
        rw [← HE.out, List.drop_eq_getElem_cons h', List.map_cons, pair_step, ← hL, ← ht, show (i + 1).toNat = i.toNat + 1 by omega]
        simp [rd_T54, h'])
      clear ht hL HE
      replace i0 := eq_true i0
      replace hlt := eq_true hlt
      go_wp2
      clear x0 x1 x2 x3
      go_loopg [5] (ts.length - (i + 1).toNat) (fun kq v5 w' => ∃ j : Int, v5 = .int .i64 j ∧ Aside0 (i + 1 ≤ j ∧ kq + j.toNat = ts.length) ∧ Aside0 (pairIn i (pairOf (firstClash (i + 1) L)) (findClash (toT t) j ((ts.drop j.toNat).map toT)) = R) ∧ Aside0 (w'.heap[w.heap.size]? = some (.cells #[.int .i64 p, .int .i64 o, .slice A2 ts.length c2, .slice A3 ns.length c3] 25 (0, 0))) ∧ Aside0 (Below w.heap.size w w'))
      case atStart => exact ⟨i + 1, by first | rfl | rw [HW.out], ⟨by have := HLT.out; have := HI.out; omega⟩, HE1, BK, HB⟩
      case round =>
        clear HE1 BK HB t0
        obtain ⟨j, rfl, HJ, HE, BK', HB'⟩ := hrel
        obtain ⟨x0, x1, x2, x3⟩ := roll_cells BK'.out
        by_cases hjt : j < (ts.length : Int)
        case neg =>
          have t1 : decide (j < (ts.length : Int)) = false := decide_eq_false hjt
          have HF := Aside0.mk (show pairOf (firstClash (i + 1) ((ts.drop (i + 1).toNat).map toT)) = R by rw [← HE.out, HL.out, List.drop_eq_nil_of_le (by have := HJ.out; omega)]; rfl)
          clear hjt
          go_wp2
          go_roundg g1
          case measure => omega
          case rel => exact ⟨i + 1, by first | rfl | rw [HW.out], ⟨by have := HI.out; have := HLT.out; omega⟩, HF, BK', HB'⟩
        case pos =>
          have t1 : decide (j < (ts.length : Int)) = true := decide_eq_true hjt
          have j0 : 0 ≤ j := by have := HJ.out; have := HI.out; omega
          have HWJ := Aside0.mk (show wrap64 (j + 1) = j + 1 by unfold wrap64; have := HTS.out; omega)
          have HJT := Aside0.mk hjt
          obtain ⟨ad, hA, y0, y1, y2, y3, y4, y5⟩ := at_T54 (Kd.C_below HR2.out HB'.out) i HI.out.1 HLT.out
          obtain ⟨ad', hA', q0, q1, q2, q3, q4, q5⟩ := at_T54 (Kd.C_below HR2.out HB'.out) j j0 hjt
          rw [HT.out] at y0 y1 y2 y3 y4 y5
          obtain ⟨u, hu⟩ : ∃ u, rd_T54 ts j = u := ⟨_, rfl⟩
          have HE1 := Aside0.mk (show (if clashB (toT t) (toT u) = true then (i, j) else pairIn i (pairOf (firstClash (i + 1) L)) (findClash (toT t) (j + 1) ((ts.drop (j + 1).toNat).map toT))) = R by
            have h' : j.toNat < ts.length := by omega
            rw [← HE.out, List.drop_eq_getElem_cons h', List.map_cons, findClash, ← hu, show (j + 1).toNat = j.toNat + 1 by omega]
            simp only [rd_T54, List.getD_eq_getElem?_getD, List.getElem?_eq_getElem h', Option.getD_some]
            by_cases c : clashB (toT t) (toT ts[j.toNat]) = true
            · rw [if_pos c, if_pos c]; rfl
            · rw [if_neg c, if_neg c])
          rw [hu] at q0 q1 q2 q3 q4 q5
          cases hA
          obtain rfl : ad = ad' := by injection hA'
          clear hu HE hA'
          replace j0 := eq_true j0
          replace hjt := eq_true hjt
          go_wp2
          have HBd := Aside0.mk (below_drew1 HB'.out)
          have BKd := Aside0.mk (show wr.drew.heap[w.heap.size]? = some (.cells #[.int .i64 p, .int .i64 o, .slice (some ad) ts.length c2, .slice A3 ns.length c3] 25 (0, 0)) from BK'.out)
          refine start_ (n := 11) (S := fun w' => w'.cell? ⟨w.heap.size, 2, none⟩ = some (.slice (some ad) ts.length c2) ∧ w'.cell? (ad.add (i.toNat * 6)) = some (.int .i64 t.f0) ∧ w'.cell? ⟨(ad.add (i.toNat * 6)).block, (ad.add (i.toNat * 6)).off + 1, none⟩ = some (.int .i64 t.f1) ∧ w'.cell? ⟨(ad.add (i.toNat * 6)).block, (ad.add (i.toNat * 6)).off + 2, none⟩ = some (.int .i64 t.f2.f0) ∧ w'.cell? ⟨(ad.add (i.toNat * 6)).block, (ad.add (i.toNat * 6)).off + 3, none⟩ = some (.int .i64 t.f2.f1) ∧ w'.cell? ⟨(ad.add (i.toNat * 6)).block, (ad.add (i.toNat * 6)).off + 4, none⟩ = some (.int .i64 t.f3.f0) ∧ w'.cell? ⟨(ad.add (i.toNat * 6)).block, (ad.add (i.toNat * 6)).off + 5, none⟩ = some (.int .i64 t.f3.f1) ∧ w'.cell? (ad.add (j.toNat * 6)) = some (.int .i64 u.f0) ∧ w'.cell? ⟨(ad.add (j.toNat * 6)).block, (ad.add (j.toNat * 6)).off + 1, none⟩ = some (.int .i64 u.f1) ∧ w'.cell? ⟨(ad.add (j.toNat * 6)).block, (ad.add (j.toNat * 6)).off + 2, none⟩ = some (.int .i64 u.f2.f0) ∧ w'.cell? ⟨(ad.add (j.toNat * 6)).block, (ad.add (j.toNat * 6)).off + 3, none⟩ = some (.int .i64 u.f2.f1) ∧ w'.cell? ⟨(ad.add (j.toNat * 6)).block, (ad.add (j.toNat * 6)).off + 4, none⟩ = some (.int .i64 u.f3.f0) ∧ w'.cell? ⟨(ad.add (j.toNat * 6)).block, (ad.add (j.toNat * 6)).off + 5, none⟩ = some (.int .i64 u.f3.f1)) (ds := [10]) #[false, false, false, false, false, false, false, false, false, false, false] (by kernel_rfl) rfl rfl ⟨x2, y0, y1, y2, y3, y4, y5, q0, q1, q2, q3, q4, q5⟩ (fun hHeld => ?_)
          generalize wr.drew = wd at HBd BKd hHeld ⊢
          refine pure_ (i := 0) (N := some 22) (v := ?_) (a' := ?_) #[true, false, false, false, false, false, false, false, false, false, false] rfl rfl (by kernel_rfl) (fun _ _ _ h => h) (Or.inl ⟨by rfl, ?_⟩) ?_ ?_
          rotate_left
          · intro w'
            go_simp
            with_reducible rfl
          rotate_left
          · simp only [Act.put, List.setIfInBounds_toArray, List.set_cons_zero, List.set_cons_succ, i64_w, i32_w]
            rfl
          refine pure_ (i := 2) (N := some 24) (v := ?_) (a' := ?_) #[true, false, true, false, false, false, false, false, false, false, false] rfl rfl (by kernel_rfl) (fun _ _ _ h => h) (Or.inl ⟨by rfl, ?_⟩) ?_ ?_
          rotate_left
          · intro w'
            go_simp
            with_reducible rfl
          rotate_left
          · simp only [Act.put, List.setIfInBounds_toArray, List.set_cons_zero, List.set_cons_succ, i64_w, i32_w]
            rfl
          refine pure_ (i := 5) (N := some 27) (v := ?_) (a' := ?_) #[true, false, true, false, false, true, false, false, false, false, false] rfl rfl (by kernel_rfl) (fun _ _ _ h => h) (Or.inl ⟨by rfl, ?_⟩) ?_ ?_
          rotate_left
          · intro w'
            go_simp
            with_reducible rfl
          rotate_left
          · simp only [Act.put, List.setIfInBounds_toArray, List.set_cons_zero, List.set_cons_succ, i64_w, i32_w]
            rfl
          refine pure_ (i := 7) (N := some 29) (v := ?_) (a' := ?_) #[true, false, true, false, false, true, false, true, false, false, false] rfl rfl (by kernel_rfl) (fun _ _ _ h => h) (Or.inl ⟨by rfl, ?_⟩) ?_ ?_
          rotate_left
          · intro w'
            go_simp
            with_reducible rfl
          rotate_left
          · simp only [Act.put, List.setIfInBounds_toArray, List.set_cons_zero, List.set_cons_succ, i64_w, i32_w]
            rfl
          refine take_ (i := 1) (N := some 23) (v := ?_) (a' := ?_) #[true, true, true, false, false, true, false, true, false, false, false] rfl rfl (by kernel_rfl) (fun _ _ _ h => h) (Or.inl ⟨by rfl, ?_⟩) hHeld ?_ ?_
          rotate_left
          · rintro w' ⟨s0, s1, s2, s3, s4, s5, s6, s7, s8, s9, s10, s11, s12⟩
            go_simp
            with_reducible rfl
          rotate_left
          · simp only [Act.put, List.setIfInBounds_toArray, List.set_cons_zero, List.set_cons_succ, i64_w, i32_w]
            rfl
          refine pure_ (i := 3) (N := some 25) (v := ?_) (a' := ?_) #[true, true, true, true, false, true, false, true, false, false, false] rfl rfl (by kernel_rfl) (fun _ _ _ h => h) (Or.inl ⟨by rfl, ?_⟩) ?_ ?_
          rotate_left
          · intro w'
            go_simp
            with_reducible rfl
          rotate_left
          · simp only [Act.put, List.setIfInBounds_toArray, List.set_cons_zero, List.set_cons_succ, i64_w, i32_w]
            rfl
          refine take_ (i := 4) (N := some 26) (v := ?_) (a' := ?_) #[true, true, true, true, true, true, false, true, false, false, false] rfl rfl (by kernel_rfl) (fun _ _ _ h => h) (Or.inl ⟨by rfl, ?_⟩) hHeld ?_ ?_
          rotate_left
          · rintro w' ⟨s0, s1, s2, s3, s4, s5, s6, s7, s8, s9, s10, s11, s12⟩
            go_simp
            with_reducible rfl
          rotate_left
          · simp only [Act.put, List.setIfInBounds_toArray, List.set_cons_zero, List.set_cons_succ, i64_w, i32_w]
            rfl
          refine take_ (i := 6) (N := some 28) (v := ?_) (a' := ?_) #[true, true, true, true, true, true, true, true, false, false, false] rfl rfl (by kernel_rfl) (fun _ _ _ h => h) (Or.inl ⟨by rfl, ?_⟩) hHeld ?_ ?_
          rotate_left
          · rintro w' ⟨s0, s1, s2, s3, s4, s5, s6, s7, s8, s9, s10, s11, s12⟩
            go_simp
            with_reducible rfl
          rotate_left
          · simp only [Act.put, List.setIfInBounds_toArray, List.set_cons_zero, List.set_cons_succ, i64_w, i32_w]
            rfl
          refine pure_ (i := 8) (N := some 30) (v := ?_) (a' := ?_) #[true, true, true, true, true, true, true, true, true, false, false] rfl rfl (by kernel_rfl) (fun _ _ _ h => h) (Or.inl ⟨by rfl, ?_⟩) ?_ ?_
          rotate_left
          · intro w'
            go_simp
            with_reducible rfl
          rotate_left
          · simp only [Act.put, List.setIfInBounds_toArray, List.set_cons_zero, List.set_cons_succ, i64_w, i32_w]
            rfl
          refine take_ (i := 9) (N := some 31) (v := ?_) (a' := ?_) #[true, true, true, true, true, true, true, true, true, true, false] rfl rfl (by kernel_rfl) (fun _ _ _ h => h) (Or.inl ⟨by rfl, ?_⟩) hHeld ?_ ?_
          rotate_left
          · rintro w' ⟨s0, s1, s2, s3, s4, s5, s6, s7, s8, s9, s10, s11, s12⟩
            go_simp
            with_reducible rfl
          rotate_left
          · simp only [Act.put, List.setIfInBounds_toArray, List.set_cons_zero, List.set_cons_succ, i64_w, i32_w]
            rfl
          refine last_ (i := 10) (N := some 32) #[true, true, true, true, true, true, true, true, true, true, true] rfl rfl (by kernel_rfl) (by decide) (fun K hK => ?_)
          refine goes_ Try.func63 (by kernel_rfl) rfl #[.agg #[.int .i64 t.f0, .int .i64 t.f1, .int .i64 t.f2.f0, .int .i64 t.f2.f1, .int .i64 t.f3.f0, .int .i64 t.f3.f1], .agg #[.int .i64 u.f0, .int .i64 u.f1, .int .i64 u.f2.f0, .int .i64 u.f2.f1, .int .i64 u.f3.f0, .int .i64 u.f3.f1]] (by rfl) rfl rfl (by simp only [List.map_toArray, List.map_cons, List.map_nil]; rfl) ?_
          with_reducible refine (rclash_calls t u _).mono ?_
          rintro e w3 ⟨rfl, hb⟩
          refine ⟨_, rfl, ?_⟩
          have HB3 := Aside0.mk (below_then HBd.out HBd.out.size hb)
          have BK3 := Aside0.mk ((hb.block _ (blk_lt BKd.out)).trans BKd.out)
          clear hb
          refine hK.out _ _ ?_
          clear hK K
          refine norm_ (a' := ?_) ?_ ?_
          rotate_left
          · show Act.put _ (some 32) _ = _
            simp only [Act.put, List.setIfInBounds_toArray, List.set_cons_zero, List.set_cons_succ, i64_w, i32_w]
            rfl
          refine done_ (by kernel_rfl) ?_

          cases hcl : clashB (toT t) (toT u)
          · rw [hcl] at HE1
            go_wp2
            go_roundg (gk - 1)
            case measure => have := HJ.out; have := HJT.out; have := HI.out; omega
            case rel => exact ⟨j + 1, by first | rfl | rw [HWJ.out], ⟨by have := HJ.out; have := HJT.out; have := HI.out; omega⟩, HE1, BK3, HB3⟩
          · rw [hcl, if_pos rfl] at HE1
            have hE := HE1.out
            subst hE
            clear HE1
            go_wp2
            refine bodyPost_ret (results_tmp2 rfl _ _ _) rfl ?_
            exact ⟨rfl, HB3.out⟩
end Go.Proofs.Ythpheknchikodaa.P

/- What CheckRoll and Clash of the program answer, in plain words. Conditions: the lists are readable, and of bounded length. -/
namespace Go.Proofs.Ythpheknchikodaa.P
open Go.RowKit Go.Proofs.YthpheknchikodaaW.PrintWords Go.Proofs.YthpheknchikodaaW.PrintLast
set_option linter.unusedVariables false
set_option linter.unusedSimpArgs false
def pClash (p o : Int) (ts : List S59) (ns : List S109) : Int × Int × Int :=
  if rollFault p o ts ns = 0 then (match firstClash 0 ts with | some r => (r.1, r.2, 0) | none => (0, 0, 7)) else (0, 0, rollFault p o ts ns)
theorem CheckRoll_calls (p o : Int) (A2 : Option Addr) (c2 : Nat) (ts : List S59) (A3 : Option Addr) (c3 : Nat) (ns : List S109) (n2 n3 : Nat) (h2 : ts.length = n2) (h3 : ns.length = n3) (w : World) (h : ROut w A2 c2 ts A3 c3 ns) :
    Calls Try.prog 32 #[.agg #[.int .i64 p, .int .i64 o, .slice A2 n2 c2, .slice A3 n3 c3]] w fun e w' => e = .returned (.int .i64 (rollFault p o ts ns)) ∧ Below w.heap.size w w' := by
  subst h2 h3
  have HB0 := Aside0.mk (below_alloc (Below.refl w.heap.size w) (.cells #[.int .i64 p, .int .i64 o, .slice A2 ts.length c2, .slice A3 ns.length c3] 35))
  have BK0 := Aside0.mk (blk_new w (.cells #[.int .i64 p, .int .i64 o, .slice A2 ts.length c2, .slice A3 ns.length c3] 35))
  have HR := Aside0.mk h
  have hu35 := Try.underlying35
  obtain ⟨x0, x1, x2, x3⟩ := roll_cells BK0.out
  clear h
  go_enter Try.func32, Try.ntmps32
  go_wp2_with fail
  refine (check_calls p o A2 c2 ts A3 c3 ns _ (Kd.C_below HR.out.1 HB0.out) (Kd.C_below HR.out.2.2.1 HB0.out)).mono ?_
  rintro e w1 ⟨rfl, hb⟩
  have HB1 := Aside0.mk (below_then HB0.out HB0.out.size hb)
  clear hb
  go_wp2
  go_ret
  exact ⟨rfl, HB1.out⟩
set_option maxHeartbeats 1000000 in
theorem Clash_calls (p o : Int) (A2 : Option Addr) (c2 : Nat) (ts : List S59) (A3 : Option Addr) (c3 : Nat) (ns : List S109) (n2 n3 : Nat) (h2 : ts.length = n2) (h3 : ns.length = n3) (w : World) (h : ROut w A2 c2 ts A3 c3 ns) :
    Calls Try.prog 31 #[.agg #[.int .i64 p, .int .i64 o, .slice A2 n2 c2, .slice A3 n3 c3]] w fun e w' => e = .returned (.tuple #[.int .i64 (pClash p o ts ns).1, .int .i64 (pClash p o ts ns).2.1, .int .i64 (pClash p o ts ns).2.2]) ∧ Below w.heap.size w w' := by
  subst h2 h3
  have HB0 := Aside0.mk (below_alloc (Below.refl w.heap.size w) (.cells #[.int .i64 p, .int .i64 o, .slice A2 ts.length c2, .slice A3 ns.length c3] 35))
  have BK0 := Aside0.mk (blk_new w (.cells #[.int .i64 p, .int .i64 o, .slice A2 ts.length c2, .slice A3 ns.length c3] 35))
  have HR := Aside0.mk h
  have hu35 := Try.underlying35
  obtain ⟨x0, x1, x2, x3⟩ := roll_cells BK0.out
  obtain ⟨R, hR⟩ : ∃ R, pClash p o ts ns = R := ⟨_, rfl⟩
  rw [hR]
  unfold pClash at hR
  obtain ⟨f, hf⟩ : ∃ f, rollFault p o ts ns = f := ⟨_, rfl⟩
  rw [hf] at hR
  have HF := Aside0.mk hf
  clear h hf
  go_enter Try.func31, Try.ntmps31
  go_wp2_with fail
  refine (check_calls p o A2 c2 ts A3 c3 ns _ (Kd.C_below HR.out.1 HB0.out) (Kd.C_below HR.out.2.2.1 HB0.out)).mono ?_
  rintro e w1 ⟨rfl, hb⟩
  have HB1 := Aside0.mk (below_then HB0.out HB0.out.size hb)
  have BK1 := Aside0.mk ((hb.block _ (blk_lt BK0.out)).trans BK0.out)
  clear hb x0 x1 x2 x3
  rw [HF.out]
  by_cases h0 : f = 0
  case neg =>
    rw [if_neg h0] at hR
    subst hR
    have e1 : (f != 0) = true := bne_iff_ne.mpr h0
    clear h0
    go_wp2
    go_ret3
    exact ⟨rfl, HB1.out⟩
  subst h0
  rw [if_pos rfl] at hR
  have HRR := Aside0.mk hR
  clear hR
  obtain ⟨x0, x1, x2, x3⟩ := roll_cells BK1.out
  go_wp2_with fail
  refine (clash_calls p o A2 c2 ts A3 c3 ns _ (Kd.C_below HR.out.1 HB1.out) HR.out.2.1 (by have := fault_len HF.out; omega)).mono ?_
  rintro e w2 ⟨rfl, hb⟩
  have HB2 := Aside0.mk (below_then HB1.out HB1.out.size hb)
  clear hb x0 x1 x2 x3
  have hr := HRR.out
  cases hc : firstClash 0 ts with
  | none =>
    rw [hc] at hr
    subst hr
    clear HRR hc
    simp only [tripOf]
    go_wp2
    go_ret3
    exact ⟨rfl, HB2.out⟩
  | some x =>
    obtain ⟨a, b⟩ := x
    rw [hc] at hr
    subst hr
    clear HRR hc
    simp only [tripOf]
    go_wp2
    go_ret3
    exact ⟨rfl, HB2.out⟩
end Go.Proofs.Ythpheknchikodaa.P

/- The walks of Call, the reference's and the program's: by which name a person is called on a day. Conditions: at most 65 names. -/
namespace Go.Proofs.Ythpheknchikodaa.P
open Go.RowKit Go.Proofs.YthpheknchikodaaW.PrintWords Go.Proofs.YthpheknchikodaaW.PrintLast
set_option linter.unusedVariables false
set_option linter.unusedSimpArgs false

/-- Is a name better than the best one yet? -/
def better (ns : List S109) (person day : Int) (n : S109) (b : Int) : Bool := decide (n.f0 = person) && (decide (n.f1 ≤ day) && (decide (b = -1) || decide ((rd_T109 ns b).f1 < n.f1)))
def callFrom (ns : List S109) (person day : Int) : List S109 → Int → Int → Int
  | [], _, b => b
  | n :: l, i, b => callFrom ns person day l (i + 1) (if better ns person day n b = true then i else b)
def callOf (ns : List S109) (person day : Int) : Int := callFrom ns person day ns 0 (-1)
theorem callFrom_range (ns : List S109) (person day N : Int) : ∀ (l : List S109) (i b : Int), 0 ≤ i → i + l.length = N → (b = -1 ∨ 0 ≤ b ∧ b < N) → (callFrom ns person day l i b = -1 ∨ 0 ≤ callFrom ns person day l i b ∧ callFrom ns person day l i b < N)
  | [], _, _, _, _, h => h
  | n :: l, i, b, hi, hl, h => by
    rw [callFrom]
    refine callFrom_range ns person day N l (i + 1) _ (by omega) (by rw [List.length_cons] at hl; push_cast at hl; omega) ?_
    split
    · rw [List.length_cons] at hl; push_cast at hl; exact .inr (by omega)
    · exact h
theorem callOf_range (ns : List S109) (person day : Int) : callOf ns person day = -1 ∨ 0 ≤ callOf ns person day ∧ callOf ns person day < ns.length :=
  callFrom_range ns person day ns.length ns 0 (-1) (by omega) (by omega) (.inl rfl)
theorem rd_toN (ns : List S88) (i : Int) : rd_T109 (ns.map toN) i = toN (rd_T88 ns i) := by
  unfold rd_T109 rd_T88
  rw [List.getD_eq_getElem?_getD, List.getD_eq_getElem?_getD, List.getElem?_map]
  cases ns[i.toNat]? <;> rfl
set_option maxHeartbeats 4000000 in
set_option maxRecDepth 100000 in
theorem rCall_calls (p o : Int) (A2 : Option Addr) (c2 : Nat) (ts : List S54) (A3 : Option Addr) (c3 : Nat) (ns : List S88) (person day : Int) (w : World) (hr3 : Kd.C k88 w A3 ns.length ns) (hns : ns.length ≤ 65) :
    Calls Try.prog 44 #[.agg #[.int .i64 p, .int .i64 o, .slice A2 ts.length c2, .slice A3 ns.length c3], .int .i64 person, .int .i64 day] w fun e w' => e = .returned (.int .i64 (callOf (ns.map toN) person day)) ∧ Below w.heap.size w w' := by
  have HR3 := Aside0.mk hr3
  have HNS := Aside0.mk hns
  clear hr3 hns
  have hu25 := Try.underlying25
  have hu88 := Try.underlying88
  have HB0 := Aside0.mk (below_alloc (Below.refl w.heap.size w) (.cells #[.int .i64 p, .int .i64 o, .slice A2 ts.length c2, .slice A3 ns.length c3] 25))
  have BK0 := Aside0.mk (blk_new w (.cells #[.int .i64 p, .int .i64 o, .slice A2 ts.length c2, .slice A3 ns.length c3] 25))
  obtain ⟨R, hR⟩ : ∃ R, callOf (ns.map toN) person day = R := ⟨_, rfl⟩
  rw [hR]
  have HR := Aside0.mk (show callFrom (ns.map toN) person day ((ns.drop (0 : Int).toNat).map toN) 0 (-1) = R from hR)
  clear hR
  go_enter Try.func44, Try.ntmps44
  obtain ⟨x0, x1, x2, x3⟩ := roll_cells BK0.out
  go_wp2
  go_loopg [7, 8] ns.length (fun kq v7 v8 w' => ∃ (b i : Int), v7 = .int .i64 b ∧ v8 = .int .i64 i ∧ Aside0 (0 ≤ i ∧ kq + i.toNat = ns.length ∧ (b = -1 ∨ 0 ≤ b ∧ b < (ns.length : Int))) ∧ Aside0 (callFrom (ns.map toN) person day ((ns.drop i.toNat).map toN) i b = R) ∧ Aside0 (w'.heap[w.heap.size]? = some (.cells #[.int .i64 p, .int .i64 o, .slice A2 ts.length c2, .slice A3 ns.length c3] 25 (0, 0))) ∧ Aside0 (Below w.heap.size w w'))
  case atStart => exact ⟨-1, 0, rfl, rfl, ⟨by simp⟩, HR, BK0, HB0⟩
  case round =>
    clear HR BK0 HB0 x0 x1 x2 x3
    obtain ⟨b, i, rfl, rfl, HI, HE, BK, HB⟩ := hrel
    obtain ⟨x0, x1, x2, x3⟩ := roll_cells BK.out
    by_cases hlt : i < (ns.length : Int)
    case neg =>
      have t0 : decide (i < (ns.length : Int)) = false := decide_eq_false hlt
      have hF : b = R := by rw [← HE.out, List.drop_eq_nil_of_le (by have := HI.out; omega)]; rfl
      clear hlt
      go_wp2
      go_ret
      exact ⟨by rw [hF]; rfl, HB.out⟩
    case pos =>
      have t0 : decide (i < (ns.length : Int)) = true := decide_eq_true hlt
      have i0 : 0 ≤ i := HI.out.1
      have HW := Aside0.mk (show wrap64 (i + 1) = i + 1 by unfold wrap64; have := HNS.out; omega)
      have HLT := Aside0.mk hlt
      obtain ⟨ad, hA, y0, y1, y2⟩ := at_T88 (Kd.C_below HR3.out HB.out) i i0 hlt
      obtain ⟨n, hn⟩ : ∃ n, rd_T88 ns i = n := ⟨_, rfl⟩
      have HE1 := Aside0.mk (show callFrom (ns.map toN) person day ((ns.drop (i + 1).toNat).map toN) (i + 1) (if better (ns.map toN) person day (toN n) b = true then i else b) = R by
        have h' : i.toNat < ns.length := by omega
        rw [← HE.out, List.drop_eq_getElem_cons h', List.map_cons, callFrom, ← hn, show (i + 1).toNat = i.toNat + 1 by omega]
        simp [rd_T88, h'])
      rw [hn] at y0 y1 y2
      have HBA := fun O => Aside0.mk (below_alloc HB.out O)
      have BKA := fun O => Aside0.mk ((((Below.refl wr.heap.size wr).alloc (Nat.le_refl _) O).block _ (blk_lt BK.out)).trans BK.out)
      have z3 := fun O => pw_cell_below (((Below.refl wr.heap.size wr).alloc (Nat.le_refl _) O)) x3
      clear hn HE
      cases hA
      replace i0 := eq_true i0
      replace hlt := eq_true hlt
      by_cases c1 : n.f0 = person
      case neg =>
        have hbt : better (ns.map toN) person day (toN n) b = false := by unfold better; rw [show decide ((toN n).f0 = person) = false from decide_eq_false c1]; rfl
        have e1 : (n.f0 == person) = false := by simpa using c1
        rw [hbt, if_neg (by simp)] at HE1
        clear c1 hbt
        go_wp2
        go_quiet (fail)
        go_wp2
        go_roundg (gk - 1)
        case measure => have := HI.out; have := HLT.out; omega
        case rel => exact ⟨b, i + 1, rfl, by first | rfl | rw [HW.out], ⟨by have := HI.out; have := HLT.out; omega⟩, HE1, BKA _, ⟨pw_below_drewN (HBA _).out _⟩⟩
      by_cases c2 : n.f1 ≤ day
      case neg =>
        have hbt : better (ns.map toN) person day (toN n) b = false := by unfold better; rw [show decide ((toN n).f1 ≤ day) = false from decide_eq_false c2]; simp
        have e1 : (n.f0 == person) = true := by simpa using c1
        have e2 : decide (n.f1 ≤ day) = false := decide_eq_false c2
        clear c2
        rw [hbt, if_neg (by simp)] at HE1
        clear c1 hbt
        go_wp2
        go_quiet (fail)
        go_wp2
        go_roundg (gk - 1)
        case measure => have := HI.out; have := HLT.out; omega
        case rel => exact ⟨b, i + 1, rfl, by first | rfl | rw [HW.out], ⟨by have := HI.out; have := HLT.out; omega⟩, HE1, BKA _, ⟨pw_below_drewN (HBA _).out _⟩⟩
      have e1 : (n.f0 == person) = true := by simpa using c1
      have e2 : decide (n.f1 ≤ day) = true := decide_eq_true c2
      by_cases c3 : b = -1
      case pos =>
        have hbt : better (ns.map toN) person day (toN n) b = true := by unfold better; rw [show decide ((toN n).f0 = person) = true from decide_eq_true c1, show decide ((toN n).f1 ≤ day) = true from decide_eq_true c2, decide_eq_true c3]; rfl
        have e3 : decide (b < 0) = true := decide_eq_true (by omega)
        clear c2 c3
        rw [hbt, if_pos rfl] at HE1
        clear c1 hbt
        go_wp2
        go_quiet (fail)
        go_wp2
        go_roundg (gk - 1)
        case measure => have := HI.out; have := HLT.out; omega
        case rel => exact ⟨i, i + 1, rfl, by first | rfl | rw [HW.out], ⟨by have := HI.out; have := HLT.out; omega⟩, HE1, BKA _, ⟨pw_below_drewN (HBA _).out _⟩⟩
      have hb0 : 0 ≤ b ∧ b < (ns.length : Int) := by have := HI.out; omega
      obtain ⟨hb1, hb2⟩ := hb0
      obtain ⟨ad', hA', q0, q1, q2⟩ := at_T88 (Kd.C_below HR3.out HB.out) b hb1 hb2
      obtain rfl : ad = ad' := by injection hA'
      have r1 := fun O => pw_cell_below (((Below.refl wr.heap.size wr).alloc (Nat.le_refl _) O)) q1
      have e3 : decide (b < 0) = false := decide_eq_false (by omega)
      clear hA' q0 q1 q2
      replace hb1 := eq_true hb1
      replace hb2 := eq_true hb2
      by_cases c4 : (rd_T88 ns b).f1 < n.f1
      · have hbt : better (ns.map toN) person day (toN n) b = true := by unfold better; rw [show decide ((toN n).f0 = person) = true from decide_eq_true c1, show decide ((toN n).f1 ≤ day) = true from decide_eq_true c2, rd_toN, decide_eq_true (show (toN (rd_T88 ns b)).f1 < (toN n).f1 from c4)]; simp
        have e4 : decide ((rd_T88 ns b).f1 < n.f1) = true := decide_eq_true c4
        clear c2 c3 c4
        rw [hbt, if_pos rfl] at HE1
        clear c1 hbt
        go_wp2
        go_quiet (fail)
        go_wp2
        go_roundg (gk - 1)
        case measure => have := HI.out; have := HLT.out; omega
        case rel => exact ⟨i, i + 1, rfl, by first | rfl | rw [HW.out], ⟨by have := HI.out; have := HLT.out; omega⟩, HE1, BKA _, ⟨pw_below_drewN (HBA _).out _⟩⟩
      · have hbt : better (ns.map toN) person day (toN n) b = false := by unfold better; rw [show decide ((toN n).f0 = person) = true from decide_eq_true c1, show decide ((toN n).f1 ≤ day) = true from decide_eq_true c2, rd_toN, decide_eq_false (show ¬ (toN (rd_T88 ns b)).f1 < (toN n).f1 from c4), decide_eq_false c3]; rfl
        have e4 : decide ((rd_T88 ns b).f1 < n.f1) = false := decide_eq_false c4
        clear c2 c3 c4
        rw [hbt, if_neg (by simp)] at HE1
        clear c1 hbt
        go_wp2
        go_quiet (fail)
        go_wp2
        go_roundg (gk - 1)
        case measure => have := HI.out; have := HLT.out; omega
        case rel => exact ⟨b, i + 1, rfl, by first | rfl | rw [HW.out], ⟨by have := HI.out; have := HLT.out; omega⟩, HE1, BKA _, ⟨pw_below_drewN (HBA _).out _⟩⟩
theorem fault_names {p o : Int} {ts : List S59} {ns : List S109} (h : rollFault p o ts ns = 0) : ns.length ≤ 60 := by
  unfold rollFault at h
  split at h
  · by_cases c : ns.length ≤ 60
    · exact c
    · rw [if_neg c] at h; cases h
  · cases h
theorem asked_fault {p o : Int} {ts : List S59} {ns : List S109} {n most day : Int} (h : paskedOf p o ts ns n most day = 0) : rollFault p o ts ns = 0 := by
  unfold paskedOf at h
  by_cases c : rollFault p o ts ns = 0
  · exact c
  · rw [if_neg c] at h; exact h
def pCall (p o : Int) (ts : List S59) (ns : List S109) (person day : Int) : ByteArray × Int :=
  if paskedOf p o ts ns person p day = 0 then (if callOf ns person day = -1 then (⟨#[]⟩, 7) else ((rd_T109 ns (callOf ns person day)).f2, 0)) else (⟨#[]⟩, paskedOf p o ts ns person p day)
set_option maxHeartbeats 4000000 in
set_option maxRecDepth 100000 in
theorem pCall_calls (p o : Int) (A2 : Option Addr) (c2 : Nat) (ts : List S59) (A3 : Option Addr) (c3 : Nat) (ns : List S109) (n2 n3 : Nat) (h2 : ts.length = n2) (h3 : ns.length = n3) (person day : Int) (w : World) (hr2 : Kd.C k59 w A2 ts.length ts) (hc2 : ts.length ≤ c2) (hr3 : Kd.C k109 w A3 ns.length ns) (hc3 : ns.length ≤ c3) :
    Calls Try.prog 43 #[.agg #[.int .i64 p, .int .i64 o, .slice A2 n2 c2, .slice A3 n3 c3], .int .i64 person, .int .i64 day] w fun e w' => e = .returned (.tuple #[.string (pCall p o ts ns person day).1, .int .i64 (pCall p o ts ns person day).2]) ∧ Below w.heap.size w w' := by
  subst h2 h3
  have HR2 := Aside0.mk hr2
  have HR3 := Aside0.mk hr3
  have HC2 := Aside0.mk hc2
  have HC3 := Aside0.mk hc3
  clear hr2 hr3 hc2 hc3
  have hu35 := Try.underlying35
  have hu109 := Try.underlying109
  have HB00 := Aside0.mk (below_alloc (Below.refl w.heap.size w) (.cells #[.int .i64 p, .int .i64 o, .slice A2 ts.length c2, .slice A3 ns.length c3] 35))
  have BK00 := Aside0.mk (blk_new w (.cells #[.int .i64 p, .int .i64 o, .slice A2 ts.length c2, .slice A3 ns.length c3] 35))
  obtain ⟨R, hR⟩ : ∃ R, pCall p o ts ns person day = R := ⟨_, rfl⟩
  rw [hR]
  unfold pCall at hR
  obtain ⟨f, hf⟩ : ∃ f, paskedOf p o ts ns person p day = f := ⟨_, rfl⟩
  rw [hf] at hR
  have HF := Aside0.mk hf
  clear hf
  go_enter Try.func43, Try.ntmps43
  obtain ⟨x0, x1, x2, x3⟩ := roll_cells BK00.out
  go_wp2_with fail
  refine (office_Roll_asked.calls p o A2 c2 ts A3 c3 ns person p day _ _ (Kd.C_below HR2.out HB00.out) HC2.out (Kd.C_below HR3.out HB00.out) HC3.out rfl).mono ?_
  rintro e w1 ⟨rfl, hb⟩
  have HB0 := Aside0.mk (below_then HB00.out HB00.out.size hb)
  have BK0 := Aside0.mk ((hb.block _ (blk_lt BK00.out)).trans BK00.out)
  clear hb x0 x1 x2 x3
  rw [HF.out]
  by_cases h0 : f = 0
  case neg =>
    rw [if_neg h0] at hR
    subst hR
    have e1 : (f != 0) = true := bne_iff_ne.mpr h0
    clear h0
    go_wp2
    refine bodyPost_ret (results_tmp2 rfl _ _ _) rfl ?_
    exact ⟨rfl, HB0.out⟩
  subst h0
  rw [if_pos rfl] at hR
  have HRR := Aside0.mk hR
  have HNS := Aside0.mk (show ns.length ≤ 65 by have := fault_names (asked_fault HF.out); omega)
  have HRG := Aside0.mk (callOf_range ns person day)
  clear hR
  obtain ⟨C, hC⟩ : ∃ C, callOf ns person day = C := ⟨_, rfl⟩
  rw [hC] at HRR HRG
  have HR := Aside0.mk (show callFrom ns person day (ns.drop (0 : Int).toNat) 0 (-1) = C from hC)
  clear hC
  obtain ⟨x0, x1, x2, x3⟩ := roll_cells BK0.out
  go_wp2
  go_loopg [9, 24] ns.length (fun kq v9 v24 w' => ∃ (b i : Int), v9 = .int .i64 b ∧ v24 = .int .i64 i ∧ Aside0 (0 ≤ i ∧ kq + i.toNat = ns.length ∧ (b = -1 ∨ 0 ≤ b ∧ b < (ns.length : Int))) ∧ Aside0 (callFrom ns person day (ns.drop i.toNat) i b = C) ∧ Aside0 (w'.heap[w.heap.size]? = some (.cells #[.int .i64 p, .int .i64 o, .slice A2 ts.length c2, .slice A3 ns.length c3] 35 (0, 0))) ∧ Aside0 (Below w.heap.size w w'))
  case atStart => exact ⟨-1, 0, rfl, rfl, ⟨by simp⟩, HR, BK0, HB0⟩
  case round =>
    clear HR BK0 HB0 x0 x1 x2 x3
    obtain ⟨b, i, rfl, rfl, HI, HE, BK, HB⟩ := hrel
    obtain ⟨x0, x1, x2, x3⟩ := roll_cells BK.out
    by_cases hlt : i < (ns.length : Int)
    case neg =>
      have t0 : decide (i < (ns.length : Int)) = false := decide_eq_false hlt
      have hF : b = C := by rw [← HE.out, List.drop_eq_nil_of_le (by have := HI.out; omega)]; rfl
      clear hlt
      subst hF
      have hr := HRR.out
      by_cases hm : b = -1
      · rw [if_pos hm] at hr
        subst hr
        have e1 : (b == -1) = true := beq_iff_eq.mpr hm
        clear hm HRR
        go_wp2
        refine bodyPost_ret (results_tmp2 rfl _ _ _) rfl ?_
        exact ⟨rfl, HB.out⟩
      · rw [if_neg hm] at hr
        subst hr
        have e1 : (b == -1) = false := beq_eq_false_iff_ne.mpr hm
        have hb0 : 0 ≤ b ∧ b < (ns.length : Int) := by have := HI.out; omega
        obtain ⟨hb1, hb2⟩ := hb0
        obtain ⟨ad, hA, q0, q1, q2⟩ := at_T109 (Kd.C_below HR3.out HB.out) b hb1 hb2
        cases hA
        replace hb1 := eq_true hb1
        replace hb2 := eq_true hb2
        clear hm HRR
        go_wp2
        refine bodyPost_ret (results_tmp2 rfl _ _ _) rfl ?_
        exact ⟨rfl, HB.out⟩
    case pos =>
      have t0 : decide (i < (ns.length : Int)) = true := decide_eq_true hlt
      have i0 : 0 ≤ i := HI.out.1
      have HW := Aside0.mk (show wrap64 (i + 1) = i + 1 by unfold wrap64; have := HNS.out; omega)
      have HLT := Aside0.mk hlt
      obtain ⟨ad, hA, y0, y1, y2⟩ := at_T109 (Kd.C_below HR3.out HB.out) i i0 hlt
      obtain ⟨n, hn⟩ : ∃ n, rd_T109 ns i = n := ⟨_, rfl⟩
      have HE1 := Aside0.mk (show callFrom ns person day (ns.drop (i + 1).toNat) (i + 1) (if better ns person day ( n) b = true then i else b) = C by
        have h' : i.toNat < ns.length := by omega
        rw [← HE.out, List.drop_eq_getElem_cons h',  callFrom, ← hn, show (i + 1).toNat = i.toNat + 1 by omega]
        simp [rd_T109, h'])
      rw [hn] at y0 y1 y2
      have HBA := fun O => Aside0.mk (below_alloc HB.out O)
      have BKA := fun O => Aside0.mk ((((Below.refl wr.heap.size wr).alloc (Nat.le_refl _) O).block _ (blk_lt BK.out)).trans BK.out)
      have z3 := fun O => pw_cell_below (((Below.refl wr.heap.size wr).alloc (Nat.le_refl _) O)) x3
      clear hn HE
      cases hA
      replace i0 := eq_true i0
      replace hlt := eq_true hlt
      by_cases c1 : n.f0 = person
      case neg =>
        have hbt : better ns person day ( n) b = false := by unfold better; rw [show decide (( n).f0 = person) = false from decide_eq_false c1]; rfl
        have e1 : (n.f0 == person) = false := by simpa using c1
        rw [hbt, if_neg (by simp)] at HE1
        clear c1 hbt
        go_wp2
        go_quiet (fail)
        go_wp2
        go_roundg (gk - 1)
        case measure => have := HI.out; have := HLT.out; omega
        case rel => exact ⟨b, i + 1, rfl, by first | rfl | rw [HW.out], ⟨by have := HI.out; have := HLT.out; omega⟩, HE1, BKA _, ⟨pw_below_drewN (HBA _).out _⟩⟩
      by_cases c2 : n.f1 ≤ day
      case neg =>
        have hbt : better ns person day ( n) b = false := by unfold better; rw [show decide (( n).f1 ≤ day) = false from decide_eq_false c2]; simp
        have e1 : (n.f0 == person) = true := by simpa using c1
        have e2 : decide (n.f1 ≤ day) = false := decide_eq_false c2
        clear c2
        rw [hbt, if_neg (by simp)] at HE1
        clear c1 hbt
        go_wp2
        go_quiet (fail)
        go_wp2
        go_roundg (gk - 1)
        case measure => have := HI.out; have := HLT.out; omega
        case rel => exact ⟨b, i + 1, rfl, by first | rfl | rw [HW.out], ⟨by have := HI.out; have := HLT.out; omega⟩, HE1, BKA _, ⟨pw_below_drewN (HBA _).out _⟩⟩
      have e1 : (n.f0 == person) = true := by simpa using c1
      have e2 : decide (n.f1 ≤ day) = true := decide_eq_true c2
      by_cases c3 : b = -1
      case pos =>
        have hbt : better ns person day ( n) b = true := by unfold better; rw [show decide (( n).f0 = person) = true from decide_eq_true c1, show decide (( n).f1 ≤ day) = true from decide_eq_true c2, decide_eq_true c3]; rfl
        have e3 : (b == -1) = true := beq_iff_eq.mpr c3
        clear c2 c3
        rw [hbt, if_pos rfl] at HE1
        clear c1 hbt
        go_wp2
        go_quiet (fail)
        go_wp2
        go_roundg (gk - 1)
        case measure => have := HI.out; have := HLT.out; omega
        case rel => exact ⟨i, i + 1, rfl, by first | rfl | rw [HW.out], ⟨by have := HI.out; have := HLT.out; omega⟩, HE1, BKA _, ⟨pw_below_drewN (HBA _).out _⟩⟩
      have hb0 : 0 ≤ b ∧ b < (ns.length : Int) := by have := HI.out; omega
      obtain ⟨hb1, hb2⟩ := hb0
      obtain ⟨ad', hA', q0, q1, q2⟩ := at_T109 (Kd.C_below HR3.out HB.out) b hb1 hb2
      obtain rfl : ad = ad' := by injection hA'
      have r1 := fun O => pw_cell_below (((Below.refl wr.heap.size wr).alloc (Nat.le_refl _) O)) q1
      have e3 : (b == -1) = false := beq_eq_false_iff_ne.mpr c3
      clear hA' q0 q1 q2
      replace hb1 := eq_true hb1
      replace hb2 := eq_true hb2
      by_cases c4 : (rd_T109 ns b).f1 < n.f1
      · have hbt : better ns person day ( n) b = true := by unfold better; rw [show decide (( n).f0 = person) = true from decide_eq_true c1, show decide (( n).f1 ≤ day) = true from decide_eq_true c2,  decide_eq_true (show ( (rd_T109 ns b)).f1 < ( n).f1 from c4)]; simp
        have e4 : decide ((rd_T109 ns b).f1 < n.f1) = true := decide_eq_true c4
        clear c2 c3 c4
        rw [hbt, if_pos rfl] at HE1
        clear c1 hbt
        go_wp2
        go_quiet (fail)
        go_wp2
        go_roundg (gk - 1)
        case measure => have := HI.out; have := HLT.out; omega
        case rel => exact ⟨i, i + 1, rfl, by first | rfl | rw [HW.out], ⟨by have := HI.out; have := HLT.out; omega⟩, HE1, BKA _, ⟨pw_below_drewN (HBA _).out _⟩⟩
      · have hbt : better ns person day ( n) b = false := by unfold better; rw [show decide (( n).f0 = person) = true from decide_eq_true c1, show decide (( n).f1 ≤ day) = true from decide_eq_true c2,  decide_eq_false (show ¬ ( (rd_T109 ns b)).f1 < ( n).f1 from c4), decide_eq_false c3]; rfl
        have e4 : decide ((rd_T109 ns b).f1 < n.f1) = false := decide_eq_false c4
        clear c2 c3 c4
        rw [hbt, if_neg (by simp)] at HE1
        clear c1 hbt
        go_wp2
        go_quiet (fail)
        go_wp2
        go_roundg (gk - 1)
        case measure => have := HI.out; have := HLT.out; omega
        case rel => exact ⟨b, i + 1, rfl, by first | rfl | rw [HW.out], ⟨by have := HI.out; have := HLT.out; omega⟩, HE1, BKA _, ⟨pw_below_drewN (HBA _).out _⟩⟩
end Go.Proofs.Ythpheknchikodaa.P
