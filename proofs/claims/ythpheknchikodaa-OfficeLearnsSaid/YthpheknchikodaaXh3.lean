/- Contracts of functions that the laws reach, part Xh3. Conditions: each theorem names its own. -/
import Derived.Test.YthpheknchikodaaXh2
import Derived.Test.YthpheknchikodaaXb7
import Derived.Test.YthpheknchikodaaXb3
import Derived.Test.YthpheknchikodaaXb9
import Derived.Test.YthpheknchikodaaXb13
import Derived.Test.YthpheknchikodaaXb14
import Derived.Test.YthpheknchikodaaXh1
/- The walk of ProveDates: are dates right, in plain words. Conditions: at most 45 terms. -/
namespace Go.Proofs.Ythpheknchikodaa.P
open Go.RowKit Go.Proofs.YthpheknchikodaaW.PrintWords Go.Proofs.YthpheknchikodaaW.PrintLast
set_option linter.unusedVariables false
set_option linter.unusedSimpArgs false

theorem C_to107 (A : Option Addr) (c : Nat) (xs : List S107) (a : Int) (w : World) (h0 : 0 ≤ a) (hm : a ≤ xs.length) (hc : xs.length ≤ c) (h : Kd.C k107 w A xs.length xs) :
    (∀ W : World, (Instr.slice 91 (.slice A xs.length c) none (some (.int .i64 a)) none).run Try.prog W = .ok (.slice A (xs.take a.toNat).length c) W) ∧ Kd.C k107 w A (xs.take a.toNat).length (xs.take a.toNat) := by
  obtain ⟨i0, hi, _, hz1, _⟩ := info_parts info107
  have h1 := cut_to (P := Try.prog) 91 107 .i64 Try.underlying91 hi A xs.length c a h0 hm hc
  refine ⟨?_, Kd.C_take h (by omega)⟩
  rw [show ((xs.take a.toNat).length) = a.toNat by rw [List.length_take]; omega]
  exact h1
theorem tAt_rd59 (ts : List S59) (i : Int) : tAt ts i.toNat = rd_T59 ts i := rfl
theorem dAt_rd107 (ds : List S107) (i : Int) : dAt ds i.toNat = rd_T107 ds i := rfl
set_option maxHeartbeats 8000000 in
set_option maxRecDepth 100000 in
theorem ProveDates_calls (p o : Int) (A2 : Option Addr) (c2 : Nat) (ts : List S59) (A3 : Option Addr) (c3 : Nat) (ns : List S109) (A : Option Addr) (c : Nat) (ds : List S107) (w : World) (hr2 : Kd.C k59 w A2 ts.length ts) (hr3 : Kd.C k109 w A3 ns.length ns) (hts : ts.length ≤ 45) (hds : Kd.C k107 w A ds.length ds) (hdc : ds.length ≤ c) :
    Calls Try.prog 45 #[.agg #[.int .i64 p, .int .i64 o, .slice A2 ts.length c2, .slice A3 ns.length c3], .slice A ds.length c] w fun e w' => e = .returned (.bool (decide (rollFault p o ts ns = 0) && rightB ts ds)) ∧ Below w.heap.size w w' := by
  have hu35 := Try.underlying35
  have hu59 := Try.underlying59
  have hu49 := Try.underlying49
  have hu107 := Try.underlying107
  have hu91 := Try.underlying91
  have HR2 := Aside0.mk hr2
  have HR3 := Aside0.mk hr3
  have HTS := Aside0.mk hts
  have HDS := Aside0.mk hds
  have HDC := Aside0.mk hdc
  have HB0 := Aside0.mk (below_alloc (Below.refl w.heap.size w) (.cells #[.int .i64 p, .int .i64 o, .slice A2 ts.length c2, .slice A3 ns.length c3] 35))
  have BK0 := Aside0.mk (blk_new w (.cells #[.int .i64 p, .int .i64 o, .slice A2 ts.length c2, .slice A3 ns.length c3] 35))
  obtain ⟨x0, x1, x2, x3⟩ := roll_cells BK0.out
  obtain ⟨R, hR⟩ : ∃ R, (decide (rollFault p o ts ns = 0) && rightB ts ds) = R := ⟨_, rfl⟩
  rw [hR]
  unfold rightB at hR
  obtain ⟨f, hf⟩ : ∃ f, rollFault p o ts ns = f := ⟨_, rfl⟩
  rw [hf] at hR
  have HF := Aside0.mk hf
  clear hr2 hr3 hts hds hdc hf
  go_enter Try.func45, Try.ntmps45
  go_wp2_with fail
  refine (check_calls p o A2 c2 ts A3 c3 ns _ (Kd.C_below HR2.out HB0.out) (Kd.C_below HR3.out HB0.out)).mono ?_
  rintro e w1 ⟨rfl, hb⟩
  rw [HF.out]
  have HB1 := Aside0.mk (below_then HB0.out HB0.out.size hb)
  have BK1 := Aside0.mk ((hb.block _ (blk_lt BK0.out)).trans BK0.out)
  clear hb x0 x1 x2 x3 HB0 BK0
  obtain ⟨x0, x1, x2, x3⟩ := roll_cells BK1.out
  by_cases h0 : f = 0
  case neg =>
    have e1 : (f != 0) = true := bne_iff_ne.mpr h0
    rw [decide_eq_false h0, Bool.false_and] at hR
    subst hR
    clear h0
    go_wp2
    go_ret
    exact ⟨rfl, HB1.out⟩
  subst h0
  rw [decide_eq_true rfl, Bool.true_and] at hR
  by_cases hlen : ds.length = ts.length
  case neg =>
    have e1 : ((ds.length : Int) != (ts.length : Int)) = true := bne_iff_ne.mpr (by omega)
    rw [decide_eq_false hlen, Bool.false_and] at hR
    subst hR
    clear hlen
    go_wp2
    go_ret
    exact ⟨rfl, HB1.out⟩
  have e1 : ((ds.length : Int) != (ts.length : Int)) = false := bne_eq_false_iff_eq.mpr (by omega)
  rw [decide_eq_true hlen, Bool.true_and] at hR
  have HLEN := Aside0.mk hlen
  have HR := Aside0.mk hR
  clear hlen hR
  go_wp2
  clear x0 x1 x2 x3
  go_loopg [25] ds.length (fun kq v25 w' => ∃ i : Int, v25 = .int .i64 i ∧ Aside0 (0 ≤ i ∧ kq + i.toNat = ds.length) ∧ Aside0 (allFrom (dateOk ts ds) i.toNat ts.length = R) ∧ Aside0 (w'.heap[w.heap.size]? = some (.cells #[.int .i64 p, .int .i64 o, .slice A2 ts.length c2, .slice A3 ns.length c3] 35 (0, 0))) ∧ Aside0 (Below w.heap.size w w'))
  case atStart => exact ⟨0, rfl, ⟨by simp⟩, HR, BK1, HB1⟩
  case round =>
    clear HR BK1 HB1
    obtain ⟨i, rfl, HI, HE, BK, HB⟩ := hrel
    rename World => W1
    by_cases hlt : i < (ds.length : Int)
    case neg =>
      have t0 : decide (i < (ds.length : Int)) = false := decide_eq_false hlt
      have he := HE.out
      rw [allFrom_end _ (by have := HI.out; have := HLEN.out; omega)] at he
      subst he
      clear hlt HE
      go_wp2
      go_ret
      exact ⟨rfl, HB.out⟩
    case pos =>
      have t0 : decide (i < (ds.length : Int)) = true := decide_eq_true hlt
      have i0 : 0 ≤ i := HI.out.1
      have HW := Aside0.mk (show wrap64 (i + 1) = i + 1 by unfold wrap64; have := HTS.out; have := HLEN.out; omega)
      have HLT := Aside0.mk hlt
      obtain ⟨g1, rfl⟩ : ∃ g1, gk = g1 + 1 := ⟨gk - 1, by have := HI.out; omega⟩
      have hlt2 : i < (ts.length : Int) := by have := HLEN.out; omega
      obtain ⟨t, ht⟩ : ∃ t, rd_T59 ts i = t := ⟨_, rfl⟩
      obtain ⟨d, hd⟩ : ∃ d, rd_T107 ds i = d := ⟨_, rfl⟩
      have HB2 := Aside0.mk (below_alloc HB.out (.cells #[.int .i64 d.f0, .int .i64 d.f1] 107))
      have BK2 := Aside0.mk (blk_alloc BK.out (.cells #[.int .i64 d.f0, .int .i64 d.f1] 107))
      obtain ⟨ad, hA, y0, y1, y2, y3, y4, y5⟩ := at_T59 (Kd.C_below HR2.out HB2.out) i i0 hlt2
      obtain ⟨bd, hB, z0, z1⟩ := at_T107 (Kd.C_below HDS.out HB.out) i i0 hlt
      rw [ht] at y0 y1 y2 y3 y4 y5
      rw [hd] at z0 z1
      have he := HE.out
      rw [allFrom_step _ (by omega)] at he
      unfold dateOk at he
      rw [tAt_rd59, dAt_rd107, ht, hd] at he
      have HE1 := Aside0.mk he
      cases hA
      cases hB
      obtain ⟨x0, x1, x2, x3⟩ := roll_cells BK2.out
      have BK5 := Aside0.mk (blk_alloc BK2.out (.cells #[.int .i64 t.f0, .int .i64 t.f1, .int .i64 t.f2.f0, .int .i64 t.f2.f1, .int .i64 t.f3.f0, .int .i64 t.f3.f1] 59))
      have HB5 := Aside0.mk (below_alloc HB2.out (.cells #[.int .i64 t.f0, .int .i64 t.f1, .int .i64 t.f2.f0, .int .i64 t.f2.f1, .int .i64 t.f3.f0, .int .i64 t.f3.f1] 59))
      have L6 := Aside0.mk (blk_alloc (blk_new W1 (.cells #[.int .i64 d.f0, .int .i64 d.f1] 107)) (.cells #[.int .i64 t.f0, .int .i64 t.f1, .int .i64 t.f2.f0, .int .i64 t.f2.f1, .int .i64 t.f3.f0, .int .i64 t.f3.f1] 59))
      have L7 := Aside0.mk (two_new W1 (.cells #[.int .i64 d.f0, .int .i64 d.f1] 107) (.cells #[.int .i64 t.f0, .int .i64 t.f1, .int .i64 t.f2.f0, .int .i64 t.f2.f1, .int .i64 t.f3.f0, .int .i64 t.f3.f1] 59))
      clear ht hd he HE
      replace i0 := eq_true i0
      replace hlt := eq_true hlt
      replace hlt2 := eq_true hlt2
      go_wp2_with fail
      clear x0 x1 x2 x3 y0 y1 y2 y3 y4 y5 z0 z1 HB2 BK2
      generalize (W1.alloc (.cells #[.int .i64 d.f0, .int .i64 d.f1] 107)).alloc (.cells #[.int .i64 t.f0, .int .i64 t.f1, .int .i64 t.f2.f0, .int .i64 t.f2.f1, .int .i64 t.f3.f0, .int .i64 t.f3.f1] 59) = w5 at HB5 BK5 L6 L7 ⊢
      generalize W1.heap.size + 1 = g7 at L7 ⊢
      generalize W1.heap.size = g6 at L6 ⊢
      obtain ⟨a0, a1, a2, a3, a4, a5⟩ := six_cells L7.out
      refine start_ (n := 8) (S := fun w' => w'.cell? ⟨g7, 2, none⟩ = some (.int .i64 t.f2.f0) ∧ w'.cell? ⟨g7, 3, none⟩ = some (.int .i64 t.f2.f1) ∧ w'.cell? ⟨g7, 4, none⟩ = some (.int .i64 t.f3.f0) ∧ w'.cell? ⟨g7, 5, none⟩ = some (.int .i64 t.f3.f1)) (ds := []) #[false, false, false, false, false, false, false, false] (by kernel_rfl) rfl rfl ⟨a2, a3, a4, a5⟩ (fun hHeld => ?_)
      have HBe := Aside0.mk (below_drew1 HB5.out)
      have BKe := Aside0.mk (show w5.drew.heap[w.heap.size]? = some (.cells #[.int .i64 p, .int .i64 o, .slice (some ad) ts.length c2, .slice A3 ns.length c3] 35 (0, 0)) from BK5.out)
      have L6e := Aside0.mk (show w5.drew.heap[g6]? = some (.cells #[.int .i64 d.f0, .int .i64 d.f1] 107 (0, 0)) from L6.out)
      have L7e := Aside0.mk (show w5.drew.heap[g7]? = some (.cells #[.int .i64 t.f0, .int .i64 t.f1, .int .i64 t.f2.f0, .int .i64 t.f2.f1, .int .i64 t.f3.f0, .int .i64 t.f3.f1] 59 (0, 0)) from L7.out)
      clear HB5 BK5 L6 L7
      generalize w5.drew = w6 at HBe BKe L6e L7e hHeld ⊢
      refine pure_ (i := 0) (N := some 35) (v := ?_) (a' := ?_) #[true, false, false, false, false, false, false, false] rfl rfl (by kernel_rfl) (fun _ _ _ h => h) (Or.inl ⟨by rfl, ?_⟩) ?_ ?_
      rotate_left
      · intro w'
        go_simp
        with_reducible rfl
      rotate_left
      · simp only [Act.put, List.setIfInBounds_toArray, List.set_cons_zero, List.set_cons_succ, i64_w, i32_w]
        rfl
      refine pure_ (i := 3) (N := some 38) (v := ?_) (a' := ?_) #[true, false, false, true, false, false, false, false] rfl rfl (by kernel_rfl) (fun _ _ _ h => h) (Or.inl ⟨by rfl, ?_⟩) ?_ ?_
      rotate_left
      · intro w'
        go_simp
        with_reducible rfl
      rotate_left
      · simp only [Act.put, List.setIfInBounds_toArray, List.set_cons_zero, List.set_cons_succ, i64_w, i32_w]
        rfl
      refine take_ (i := 1) (N := some 36) (v := ?_) (a' := ?_) #[true, true, false, true, false, false, false, false] rfl rfl (by kernel_rfl) (fun _ _ _ h => h) (Or.inl ⟨by rfl, ?_⟩) hHeld ?_ ?_
      rotate_left
      · rintro w' ⟨s0, s1, s2, s3⟩
        go_simp
        with_reducible rfl
      rotate_left
      · simp only [Act.put, List.setIfInBounds_toArray, List.set_cons_zero, List.set_cons_succ, i64_w, i32_w]
        rfl
      refine pure_ (i := 2) (N := some 37) (v := ?_) (a' := ?_) #[true, true, true, true, false, false, false, false] rfl rfl (by kernel_rfl) (fun _ _ _ h => h) (Or.inl ⟨by rfl, ?_⟩) ?_ ?_
      rotate_left
      · intro w'
        go_simp
        with_reducible rfl
      rotate_left
      · simp only [Act.put, List.setIfInBounds_toArray, List.set_cons_zero, List.set_cons_succ, i64_w, i32_w]
        rfl
      refine pure_ (i := 6) (N := some 8) (v := ?_) (a' := ?_) #[true, true, true, true, false, false, true, false] rfl rfl (by kernel_rfl) (fun _ _ _ h => h) (Or.inl ⟨by rfl, ?_⟩) ?_ ?_
      rotate_left
      · intro w'
        go_simp
        with_reducible rfl
      rotate_left
      · simp only [Act.put, List.setIfInBounds_toArray, List.set_cons_zero, List.set_cons_succ, i64_w, i32_w]
        rfl
      refine take_ (i := 4) (N := some 39) (v := ?_) (a' := ?_) #[true, true, true, true, true, false, true, false] rfl rfl (by kernel_rfl) (fun _ _ _ h => h) (Or.inl ⟨by rfl, ?_⟩) hHeld ?_ ?_
      rotate_left
      · rintro w' ⟨s0, s1, s2, s3⟩
        go_simp
        with_reducible rfl
      rotate_left
      · simp only [Act.put, List.setIfInBounds_toArray, List.set_cons_zero, List.set_cons_succ, i64_w, i32_w]
        rfl
      refine pure_ (i := 5) (N := some 40) (v := ?_) (a' := ?_) #[true, true, true, true, true, true, true, false] rfl rfl (by kernel_rfl) (fun _ _ _ h => h) (Or.inl ⟨by rfl, ?_⟩) ?_ ?_
      rotate_left
      · intro w'
        go_simp
        with_reducible rfl
      rotate_left
      · simp only [Act.put, List.setIfInBounds_toArray, List.set_cons_zero, List.set_cons_succ, i64_w, i32_w]
        rfl
      refine pure_ (i := 7) (N := some 9) (v := ?_) (a' := ?_) #[true, true, true, true, true, true, true, true] rfl rfl (by kernel_rfl) (fun _ _ _ h => h) (Or.inl ⟨by rfl, ?_⟩) ?_ ?_
      rotate_left
      · intro w'
        go_simp
        with_reducible rfl
      rotate_left
      · simp only [Act.put, List.setIfInBounds_toArray, List.set_cons_zero, List.set_cons_succ, i64_w, i32_w]
        rfl
      refine done_ (by kernel_rfl) ?_
      clear a0 a1 a2 a3 a4 a5 hHeld BK HB
      have he : ((withinB d.f0 t.f2.f0 t.f2.f1 && (withinB d.f1 t.f3.f0 t.f3.f1 && allFrom (fun k => !overB t (tAt ts k) d (dAt ds k)) 0 i.toNat)) && allFrom (dateOk ts ds) (i.toNat + 1) ts.length) = R := HE1.out
      have b0 := (blk_cell L6e.out 0).trans (show _ = some (Value.int .i64 d.f0) from rfl)
      go_wp2_with fail
      refine (has_calls t.f2.f0 t.f2.f1 d.f0 _).mono ?_
      rintro e w7 ⟨rfl, hb⟩
      have n0_ := Aside0.mk (below_then HBe.out HBe.out.size hb)
      have n1_ := Aside0.mk ((hb.block _ (blk_lt BKe.out)).trans BKe.out)
      have n2_ := Aside0.mk ((hb.block _ (blk_lt L6e.out)).trans L6e.out)
      have n3_ := Aside0.mk ((hb.block _ (blk_lt L7e.out)).trans L7e.out)
      clear HBe BKe L6e L7e hb
      have HBe := n0_
      have BKe := n1_
      have L6e := n2_
      have L7e := n3_
      clear n0_ n1_ n2_ n3_
      clear b0
      have b1 := (blk_cell L6e.out 1).trans (show _ = some (Value.int .i64 d.f1) from rfl)
      cases c1 : withinB d.f0 t.f2.f0 t.f2.f1
      · rw [c1, Bool.false_and, Bool.false_and] at he
        subst he
        clear HE1
        go_wp2
        go_ret
        exact ⟨rfl, HBe.out⟩
      rw [c1, Bool.true_and] at he
      go_wp2_with fail
      refine (has_calls t.f3.f0 t.f3.f1 d.f1 _).mono ?_
      rintro e w8 ⟨rfl, hb⟩
      have n0_ := Aside0.mk (below_then HBe.out HBe.out.size hb)
      have n1_ := Aside0.mk ((hb.block _ (blk_lt BKe.out)).trans BKe.out)
      have n2_ := Aside0.mk ((hb.block _ (blk_lt L6e.out)).trans L6e.out)
      have n3_ := Aside0.mk ((hb.block _ (blk_lt L7e.out)).trans L7e.out)
      clear HBe BKe L6e L7e hb
      have HBe := n0_
      have BKe := n1_
      have L6e := n2_
      have L7e := n3_
      clear n0_ n1_ n2_ n3_
      clear b1 c1
      cases cc2 : withinB d.f1 t.f3.f0 t.f3.f1
      · rw [cc2, Bool.false_and, Bool.false_and] at he
        subst he
        clear HE1
        go_wp2
        go_ret
        exact ⟨rfl, HBe.out⟩
      rw [cc2, Bool.true_and] at he
      have HE2 := Aside0.mk (show (allFrom (fun k => !overB t (tAt ts k) d (dAt ds k)) (0 : Int).toNat i.toNat && allFrom (dateOk ts ds) (i + 1).toNat ts.length) = R by rw [show (i + 1).toNat = i.toNat + 1 by have := HI.out; omega]; exact he)
      clear he HE1 cc2
      obtain ⟨hs1, hs2⟩ := C_to107 (some bd) c ds i w8 HI.out.1 (by have := HLT.out; omega) HDC.out (Kd.C_below HDS.out HBe.out)
      have hlk : (ds.take i.toNat).length = i.toNat := by rw [List.length_take]; have := HLT.out; omega
      have HS2 := Aside0.mk (show Kd.C k107 w (some bd) ds.length ds from HDS.out)
      rw [hlk] at hs1
      have hin : ((i.toNat : Nat) : Int) = i := by have := HI.out; omega
      clear hs2 hlk
      go_wp2
      go_loopg [57] i.toNat (fun kq v57 w' => ∃ j : Int, v57 = .int .i64 j ∧ Aside0 (0 ≤ j ∧ kq + j.toNat = i.toNat) ∧ Aside0 ((allFrom (fun k => !overB t (tAt ts k) d (dAt ds k)) j.toNat i.toNat && allFrom (dateOk ts ds) (i + 1).toNat ts.length) = R) ∧ Aside0 (w'.heap[w.heap.size]? = some (.cells #[.int .i64 p, .int .i64 o, .slice (some ad) ts.length c2, .slice A3 ns.length c3] 35 (0, 0))) ∧ Aside0 (w'.heap[g6]? = some (.cells #[.int .i64 d.f0, .int .i64 d.f1] 107 (0, 0))) ∧ Aside0 (w'.heap[g7]? = some (.cells #[.int .i64 t.f0, .int .i64 t.f1, .int .i64 t.f2.f0, .int .i64 t.f2.f1, .int .i64 t.f3.f0, .int .i64 t.f3.f1] 59 (0, 0))) ∧ Aside0 (Below w.heap.size w w'))
      case atStart => exact ⟨0, rfl, ⟨by simp⟩, HE2, BKe, L6e, L7e, HBe⟩
      case round =>
        clear HE2 BKe L6e L7e HBe
        obtain ⟨j, rfl, HJ, HE, BK, L6, L7, HB⟩ := hrel
        rename World => W2
        by_cases hjt : j < i
        case neg =>
          have t1 : decide (j < i) = false := decide_eq_false hjt
          have t2 : decide (j < ((i.toNat : Nat) : Int)) = false := decide_eq_false (by omega)
          have he := HE.out
          rw [allFrom_end _ (by have := HJ.out; have := HI.out; omega), Bool.true_and] at he
          have HE3 := Aside0.mk he
          clear he hjt HE
          go_wp2
          go_roundg g1
          case measure => have := HI.out; have := HLT.out; omega
          case rel => exact ⟨i + 1, by first | rfl | rw [HW.out], ⟨by have := HI.out; have := HLT.out; omega⟩, HE3, BK, HB⟩
        case pos =>
          have t1 : decide (j < i) = true := decide_eq_true hjt
          have t2 : decide (j < ((i.toNat : Nat) : Int)) = true := decide_eq_true (by omega)
          have j0 : 0 ≤ j := HJ.out.1
          have HWJ := Aside0.mk (show wrap64 (j + 1) = j + 1 by unfold wrap64; have := HTS.out; have := HLEN.out; have := HLT.out; omega)
          have HJT := Aside0.mk hjt
          have hj2 : j < (ts.length : Int) := by have := HLEN.out; have := HLT.out; omega
          have hj3 : j < (ds.length : Int) := by have := HLT.out; omega
          obtain ⟨u, hu⟩ : ∃ u, rd_T59 ts j = u := ⟨_, rfl⟩
          obtain ⟨e, hee⟩ : ∃ e, rd_T107 ds j = e := ⟨_, rfl⟩
          have HBd := Aside0.mk (below_alloc HB.out (.cells #[.int .i64 e.f0, .int .i64 e.f1] 107))
          have BKd := Aside0.mk (blk_alloc BK.out (.cells #[.int .i64 e.f0, .int .i64 e.f1] 107))
          have L6d := Aside0.mk (blk_alloc L6.out (.cells #[.int .i64 e.f0, .int .i64 e.f1] 107))
          have L7d := Aside0.mk (blk_alloc L7.out (.cells #[.int .i64 e.f0, .int .i64 e.f1] 107))
          have BU := Aside0.mk (blk_new W2 (.cells #[.int .i64 e.f0, .int .i64 e.f1] 107))
          obtain ⟨ad', hA', q0, q1, q2, q3, q4, q5⟩ := at_T59 (Kd.C_below HR2.out HBd.out) j j0 hj2
          obtain ⟨bd', hB', r0, r1⟩ := at_T107 (Kd.C_below HDS.out HB.out) j j0 hj3
          obtain rfl : ad = ad' := by injection hA'
          obtain rfl : bd = bd' := by injection hB'
          rw [hu] at q0 q1 q2 q3 q4 q5
          rw [hee] at r0 r1
          have he := HE.out
          rw [allFrom_step _ (by have := HI.out; omega), tAt_rd59, dAt_rd107, hu, hee] at he
          have hv : overB t u d e = ((u.f1 == t.f1) && (decide (d.f0 < e.f1) && decide (e.f0 < d.f1))) := by
            unfold overB
            rw [show decide (u.f1 = t.f1) = (u.f1 == t.f1) from rfl]
          rw [hv] at he
          have HE3 := Aside0.mk he
          obtain ⟨x0, x1, x2, x3⟩ := roll_cells BKd.out
          obtain ⟨a0, a1, a2, a3, a4, a5⟩ := six_cells L7d.out
          have b0 := (blk_cell L6d.out 0).trans (show _ = some (Value.int .i64 d.f0) from rfl)
          have b1 := (blk_cell L6d.out 1).trans (show _ = some (Value.int .i64 d.f1) from rfl)
          have v0 := (blk_cell BU.out 0).trans (show _ = some (Value.int .i64 e.f0) from rfl)
          have v1 := (blk_cell BU.out 1).trans (show _ = some (Value.int .i64 e.f1) from rfl)
          clear hA' hB' hu hee he hv HE
          have hji : (j < i) = True := eq_true hjt
          have hji2 : (j < ((i.toNat : Nat) : Int)) = True := eq_true (by omega)
          replace j0 := eq_true j0
          replace hj2 := eq_true hj2
          replace hj3 := eq_true hj3
          have he := HE3.out
          cases o1 : (u.f1 == t.f1)
          · rw [o1] at he
            simp only [Bool.false_and, Bool.and_false, Bool.and_self, Bool.true_and, Bool.not_false] at he
            have HE4 := Aside0.mk (show (allFrom (fun k => !overB t (tAt ts k) d (dAt ds k)) (j + 1).toNat i.toNat && allFrom (dateOk ts ds) (i + 1).toNat ts.length) = R by rw [show (j + 1).toNat = j.toNat + 1 by have := HJ.out; omega]; exact he)
            clear he HE3
            go_wp2
            go_quiet (fail)
            go_wp2
            go_roundg (gk - 1)
            case measure => have := HJ.out; have := HJT.out; omega
            case rel => exact ⟨j + 1, by first | rfl | rw [HWJ.out], ⟨by have := HJ.out; have := HJT.out; omega⟩, HE4, BKd, L6d, L7d, ⟨pw_below_drewN HBd.out _⟩⟩
          cases o2 : decide (d.f0 < e.f1)
          · rw [o1, o2] at he
            simp only [Bool.false_and, Bool.and_false, Bool.and_self, Bool.true_and, Bool.not_false] at he
            have HE4 := Aside0.mk (show (allFrom (fun k => !overB t (tAt ts k) d (dAt ds k)) (j + 1).toNat i.toNat && allFrom (dateOk ts ds) (i + 1).toNat ts.length) = R by rw [show (j + 1).toNat = j.toNat + 1 by have := HJ.out; omega]; exact he)
            clear he HE3
            go_wp2
            go_quiet (fail)
            go_wp2
            go_roundg (gk - 1)
            case measure => have := HJ.out; have := HJT.out; omega
            case rel => exact ⟨j + 1, by first | rfl | rw [HWJ.out], ⟨by have := HJ.out; have := HJT.out; omega⟩, HE4, BKd, L6d, L7d, ⟨pw_below_drewN HBd.out _⟩⟩
          cases o3 : decide (e.f0 < d.f1)
          · rw [o1, o2, o3] at he
            simp only [Bool.false_and, Bool.and_false, Bool.and_self, Bool.true_and, Bool.not_false] at he
            have HE4 := Aside0.mk (show (allFrom (fun k => !overB t (tAt ts k) d (dAt ds k)) (j + 1).toNat i.toNat && allFrom (dateOk ts ds) (i + 1).toNat ts.length) = R by rw [show (j + 1).toNat = j.toNat + 1 by have := HJ.out; omega]; exact he)
            clear he HE3
            go_wp2
            go_quiet (fail)
            go_wp2
            go_roundg (gk - 1)
            case measure => have := HJ.out; have := HJT.out; omega
            case rel => exact ⟨j + 1, by first | rfl | rw [HWJ.out], ⟨by have := HJ.out; have := HJT.out; omega⟩, HE4, BKd, L6d, L7d, ⟨pw_below_drewN HBd.out _⟩⟩
          rw [o1, o2, o3] at he
          simp only [Bool.and_self, Bool.not_true, Bool.false_and] at he
          subst he
          clear HE3
          go_wp2
          go_quiet (fail)
          go_wp2
          go_ret
          exact ⟨rfl, pw_below_drewN HBd.out _⟩
end Go.Proofs.Ythpheknchikodaa.P

/- The walk of known, for lists that say the same. Conditions: at most 45. -/
namespace Go.Proofs.Ythpheknchikodaa.P
open Go.RowKit Go.Proofs.YthpheknchikodaaW.PrintWords Go.Proofs.YthpheknchikodaaW.PrintLast
set_option linter.unusedVariables false
set_option linter.unusedSimpArgs false

set_option maxHeartbeats 8000000 in
set_option maxRecDepth 100000 in
theorem known_true (A : Option Addr) (c : Nat) (a : List S51) (B : Option Addr) (d : Nat) (b : List S117) (n : Nat) (w : World) (hn : a.length = n) (hn2 : b.length = n) (hl : n ≤ 45) (ha : Kd.C k51 w A n a) (hb : Kd.C k117 w B n b)
    (hs : ∀ i : Int, 0 ≤ i → i < n → (rd_T51 a i).f0.f0 = (rd_T117 b i).f0.f0 ∧ (rd_T51 a i).f0.f1 = (rd_T117 b i).f0.f1 ∧ (rd_T51 a i).f1.f0 = (rd_T117 b i).f1.f0 ∧ (rd_T51 a i).f1.f1 = (rd_T117 b i).f1.f1) :
    Calls Try.prog 49 #[.slice A n c, .slice B n d] w fun e w' => e = .returned (.bool true) ∧ Below w.heap.size w w' := by
  have hu51 := Try.underlying51
  have hu117 := Try.underlying117
  have hu49 := Try.underlying49
  have hu52 := Try.underlying52
  have HA := Aside0.mk ha
  have HC := Aside0.mk hb
  have HS := Aside0.mk hs
  have HL := Aside0.mk hl
  clear ha hb hs hl hn hn2
  go_enter Try.func49, Try.ntmps49
  go_wp2
  go_loopg [5] n (fun kq v5 w' => ∃ i : Int, v5 = .int .i64 i ∧ Aside0 (0 ≤ i ∧ kq + i.toNat = n) ∧ Aside0 (Below w.heap.size w w'))
  case atStart => exact ⟨0, rfl, ⟨by simp⟩, ⟨Below.refl _ _⟩⟩
  case round =>
    obtain ⟨i, rfl, HI, HB⟩ := hrel
    rename World => W1
    by_cases hlt : i < (n : Int)
    case neg =>
      have t0 : decide (i < (n : Int)) = false := decide_eq_false hlt
      clear hlt
      go_wp2
      go_ret
      exact ⟨rfl, HB.out⟩
    case pos =>
      have t0 : decide (i < (n : Int)) = true := decide_eq_true hlt
      have i0 : 0 ≤ i := HI.out.1
      have HW := Aside0.mk (show wrap64 (i + 1) = i + 1 by unfold wrap64; have := HL.out; omega)
      have HLT := Aside0.mk hlt
      obtain ⟨ad, hA, y0, y1, y2, y3⟩ := at_T51 (Kd.C_below HA.out HB.out) i i0 hlt
      obtain ⟨bd, hB, z0, z1, z2, z3⟩ := at_T117 (Kd.C_below HC.out HB.out) i i0 hlt
      obtain ⟨s0, s1, s2, s3⟩ := HS.out i i0 hlt
      rw [s0] at y0
      rw [s1] at y1
      rw [s2] at y2
      rw [s3] at y3
      obtain ⟨v0, h0⟩ : ∃ v, (rd_T117 b i).f0.f0 = v := ⟨_, rfl⟩
      obtain ⟨v1, h1⟩ : ∃ v, (rd_T117 b i).f0.f1 = v := ⟨_, rfl⟩
      obtain ⟨v2, h2⟩ : ∃ v, (rd_T117 b i).f1.f0 = v := ⟨_, rfl⟩
      obtain ⟨v3, h3⟩ : ∃ v, (rd_T117 b i).f1.f1 = v := ⟨_, rfl⟩
      rw [h0] at y0 z0
      rw [h1] at y1 z1
      rw [h2] at y2 z2
      rw [h3] at y3 z3
      cases hA
      cases hB
      clear s0 s1 s2 s3 h0 h1 h2 h3
      replace i0 := eq_true i0
      replace hlt := eq_true hlt
      go_wp2
      refine start_ (n := 26) (S := fun w' => w'.cell? (ad.add (i.toNat * 4)) = some (.int .i64 v0) ∧ w'.cell? ⟨(ad.add (i.toNat * 4)).block, (ad.add (i.toNat * 4)).off + 1, none⟩ = some (.int .i64 v1) ∧ w'.cell? ⟨(ad.add (i.toNat * 4)).block, (ad.add (i.toNat * 4)).off + 2, none⟩ = some (.int .i64 v2) ∧ w'.cell? ⟨(ad.add (i.toNat * 4)).block, (ad.add (i.toNat * 4)).off + 3, none⟩ = some (.int .i64 v3) ∧ w'.cell? (bd.add (i.toNat * 4)) = some (.int .i64 v0) ∧ w'.cell? ⟨(bd.add (i.toNat * 4)).block, (bd.add (i.toNat * 4)).off + 1, none⟩ = some (.int .i64 v1) ∧ w'.cell? ⟨(bd.add (i.toNat * 4)).block, (bd.add (i.toNat * 4)).off + 2, none⟩ = some (.int .i64 v2) ∧ w'.cell? ⟨(bd.add (i.toNat * 4)).block, (bd.add (i.toNat * 4)).off + 3, none⟩ = some (.int .i64 v3)) (ds := []) #[false, false, false, false, false, false, false, false, false, false, false, false, false, false, false, false, false, false, false, false, false, false, false, false, false, false] (by kernel_rfl) rfl rfl ⟨y0, y1, y2, y3, z0, z1, z2, z3⟩ (fun hHeld => ?_)
      have HBd := Aside0.mk (below_drew1 HB.out)
      clear HB
      generalize W1.drew = wd at HBd hHeld ⊢
      refine pure_ (i := 0) (N := some 17) (v := ?_) (a' := ?_) #[true, false, false, false, false, false, false, false, false, false, false, false, false, false, false, false, false, false, false, false, false, false, false, false, false, false] rfl rfl (by kernel_rfl) (fun _ _ _ h => h) (Or.inl ⟨by rfl, ?_⟩) ?_ ?_
      rotate_left
      · intro w'
        go_simp
        with_reducible rfl
      rotate_left
      · simp only [Act.put, List.setIfInBounds_toArray, List.set_cons_zero, List.set_cons_succ, i64_w, i32_w]
        rfl
      refine pure_ (i := 1) (N := some 18) (v := ?_) (a' := ?_) #[true, true, false, false, false, false, false, false, false, false, false, false, false, false, false, false, false, false, false, false, false, false, false, false, false, false] rfl rfl (by kernel_rfl) (fun _ _ _ h => h) (Or.inl ⟨by rfl, ?_⟩) ?_ ?_
      rotate_left
      · intro w'
        go_simp
        with_reducible rfl
      rotate_left
      · simp only [Act.put, List.setIfInBounds_toArray, List.set_cons_zero, List.set_cons_succ, i64_w, i32_w]
        rfl
      refine pure_ (i := 2) (N := some 19) (v := ?_) (a' := ?_) #[true, true, true, false, false, false, false, false, false, false, false, false, false, false, false, false, false, false, false, false, false, false, false, false, false, false] rfl rfl (by kernel_rfl) (fun _ _ _ h => h) (Or.inl ⟨by rfl, ?_⟩) ?_ ?_
      rotate_left
      · intro w'
        go_simp
        with_reducible rfl
      rotate_left
      · simp only [Act.put, List.setIfInBounds_toArray, List.set_cons_zero, List.set_cons_succ, i64_w, i32_w]
        rfl
      refine pure_ (i := 3) (N := some 20) (v := ?_) (a' := ?_) #[true, true, true, true, false, false, false, false, false, false, false, false, false, false, false, false, false, false, false, false, false, false, false, false, false, false] rfl rfl (by kernel_rfl) (fun _ _ _ h => h) (Or.inl ⟨by rfl, ?_⟩) ?_ ?_
      rotate_left
      · intro w'
        go_simp
        with_reducible rfl
      rotate_left
      · simp only [Act.put, List.setIfInBounds_toArray, List.set_cons_zero, List.set_cons_succ, i64_w, i32_w]
        rfl
      refine pure_ (i := 5) (N := some 22) (v := ?_) (a' := ?_) #[true, true, true, true, false, true, false, false, false, false, false, false, false, false, false, false, false, false, false, false, false, false, false, false, false, false] rfl rfl (by kernel_rfl) (fun _ _ _ h => h) (Or.inl ⟨by rfl, ?_⟩) ?_ ?_
      rotate_left
      · intro w'
        go_simp
        with_reducible rfl
      rotate_left
      · simp only [Act.put, List.setIfInBounds_toArray, List.set_cons_zero, List.set_cons_succ, i64_w, i32_w]
        rfl
      refine pure_ (i := 6) (N := some 23) (v := ?_) (a' := ?_) #[true, true, true, true, false, true, true, false, false, false, false, false, false, false, false, false, false, false, false, false, false, false, false, false, false, false] rfl rfl (by kernel_rfl) (fun _ _ _ h => h) (Or.inl ⟨by rfl, ?_⟩) ?_ ?_
      rotate_left
      · intro w'
        go_simp
        with_reducible rfl
      rotate_left
      · simp only [Act.put, List.setIfInBounds_toArray, List.set_cons_zero, List.set_cons_succ, i64_w, i32_w]
        rfl
      refine pure_ (i := 7) (N := some 24) (v := ?_) (a' := ?_) #[true, true, true, true, false, true, true, true, false, false, false, false, false, false, false, false, false, false, false, false, false, false, false, false, false, false] rfl rfl (by kernel_rfl) (fun _ _ _ h => h) (Or.inl ⟨by rfl, ?_⟩) ?_ ?_
      rotate_left
      · intro w'
        go_simp
        with_reducible rfl
      rotate_left
      · simp only [Act.put, List.setIfInBounds_toArray, List.set_cons_zero, List.set_cons_succ, i64_w, i32_w]
        rfl
      refine pure_ (i := 8) (N := some 25) (v := ?_) (a' := ?_) #[true, true, true, true, false, true, true, true, true, false, false, false, false, false, false, false, false, false, false, false, false, false, false, false, false, false] rfl rfl (by kernel_rfl) (fun _ _ _ h => h) (Or.inl ⟨by rfl, ?_⟩) ?_ ?_
      rotate_left
      · intro w'
        go_simp
        with_reducible rfl
      rotate_left
      · simp only [Act.put, List.setIfInBounds_toArray, List.set_cons_zero, List.set_cons_succ, i64_w, i32_w]
        rfl
      refine take_ (i := 4) (N := some 21) (v := ?_) (a' := ?_) #[true, true, true, true, true, true, true, true, true, false, false, false, false, false, false, false, false, false, false, false, false, false, false, false, false, false] rfl rfl (by kernel_rfl) (fun _ _ _ h => h) (Or.inl ⟨by rfl, ?_⟩) hHeld ?_ ?_
      rotate_left
      · rintro w' ⟨s0, s1, s2, s3, s4, s5, s6, s7⟩
        go_simp
        with_reducible rfl
      rotate_left
      · simp only [Act.put, List.setIfInBounds_toArray, List.set_cons_zero, List.set_cons_succ, i64_w, i32_w]
        rfl
      refine take_ (i := 9) (N := some 26) (v := ?_) (a' := ?_) #[true, true, true, true, true, true, true, true, true, true, false, false, false, false, false, false, false, false, false, false, false, false, false, false, false, false] rfl rfl (by kernel_rfl) (fun _ _ _ h => h) (Or.inl ⟨by rfl, ?_⟩) hHeld ?_ ?_
      rotate_left
      · rintro w' ⟨s0, s1, s2, s3, s4, s5, s6, s7⟩
        go_simp
        with_reducible rfl
      rotate_left
      · simp only [Act.put, List.setIfInBounds_toArray, List.set_cons_zero, List.set_cons_succ, i64_w, i32_w]
        rfl
      refine one_ (i := 10) (N := some 27) #[true, true, true, true, true, true, true, true, true, true, true, false, false, false, false, false, false, false, false, false, false, false, false, false, false, false] rfl rfl (by kernel_rfl) (by decide) (fun K hK => ?_)
      refine goes_ Try.func28 (by kernel_rfl) rfl #[.agg #[.int .i64 v0, .int .i64 v1]] (by rfl) rfl rfl (by simp only [List.map_toArray, List.map_cons, List.map_nil]; rfl) ?_
      with_reducible refine (palantypelaw05_to.calls _ _ _ _ _ rfl).mono ?_
      rintro e w3 ⟨rfl, hb⟩
      refine ⟨_, rfl, ?_⟩
      have HBn := Aside0.mk (below_then HBd.out HBd.out.size hb)
      clear HBd
      have HBd := HBn
      clear HBn
      refine hK.out _ _ ⟨pw_cell_below hb (hHeld.1), pw_cell_below hb (hHeld.2.1), pw_cell_below hb (hHeld.2.2.1), pw_cell_below hb (hHeld.2.2.2.1), pw_cell_below hb (hHeld.2.2.2.2.1), pw_cell_below hb (hHeld.2.2.2.2.2.1), pw_cell_below hb (hHeld.2.2.2.2.2.2.1), pw_cell_below hb (hHeld.2.2.2.2.2.2.2)⟩ (fun hHeld => ?_)
      clear hK K
      refine norm_ (a' := ?_) ?_ ?_
      rotate_left
      · show Act.put _ (some 27) _ = _
        simp only [Act.put, List.setIfInBounds_toArray, List.set_cons_zero, List.set_cons_succ, i64_w, i32_w]
        rfl
      refine pure_ (i := 11) (N := some 28) (v := ?_) (a' := ?_) #[true, true, true, true, true, true, true, true, true, true, true, true, false, false, false, false, false, false, false, false, false, false, false, false, false, false] rfl rfl (by kernel_rfl) (fun _ _ _ h => h) (Or.inl ⟨by rfl, ?_⟩) ?_ ?_
      rotate_left
      · intro w'
        go_simp
        with_reducible rfl
      rotate_left
      · simp only [Act.put, List.setIfInBounds_toArray, List.set_cons_zero, List.set_cons_succ, i64_w, i32_w]
        rfl
      refine pure_ (i := 12) (N := some 29) (v := ?_) (a' := ?_) #[true, true, true, true, true, true, true, true, true, true, true, true, true, false, false, false, false, false, false, false, false, false, false, false, false, false] rfl rfl (by kernel_rfl) (fun _ _ _ h => h) (Or.inl ⟨by rfl, ?_⟩) ?_ ?_
      rotate_left
      · intro w'
        go_simp
        with_reducible rfl
      rotate_left
      · simp only [Act.put, List.setIfInBounds_toArray, List.set_cons_zero, List.set_cons_succ, i64_w, i32_w]
        rfl
      refine pure_ (i := 13) (N := some 30) (v := ?_) (a' := ?_) #[true, true, true, true, true, true, true, true, true, true, true, true, true, true, false, false, false, false, false, false, false, false, false, false, false, false] rfl rfl (by kernel_rfl) (fun _ _ _ h => h) (Or.inl ⟨by rfl, ?_⟩) ?_ ?_
      rotate_left
      · intro w'
        go_simp
        with_reducible rfl
      rotate_left
      · simp only [Act.put, List.setIfInBounds_toArray, List.set_cons_zero, List.set_cons_succ, i64_w, i32_w]
        rfl
      refine pure_ (i := 14) (N := some 31) (v := ?_) (a' := ?_) #[true, true, true, true, true, true, true, true, true, true, true, true, true, true, true, false, false, false, false, false, false, false, false, false, false, false] rfl rfl (by kernel_rfl) (fun _ _ _ h => h) (Or.inl ⟨by rfl, ?_⟩) ?_ ?_
      rotate_left
      · intro w'
        go_simp
        with_reducible rfl
      rotate_left
      · simp only [Act.put, List.setIfInBounds_toArray, List.set_cons_zero, List.set_cons_succ, i64_w, i32_w]
        rfl
      refine pure_ (i := 15) (N := some 32) (v := ?_) (a' := ?_) #[true, true, true, true, true, true, true, true, true, true, true, true, true, true, true, true, false, false, false, false, false, false, false, false, false, false] rfl rfl (by kernel_rfl) (fun _ _ _ h => h) (Or.inl ⟨by rfl, ?_⟩) ?_ ?_
      rotate_left
      · intro w'
        go_simp
        with_reducible rfl
      rotate_left
      · simp only [Act.put, List.setIfInBounds_toArray, List.set_cons_zero, List.set_cons_succ, i64_w, i32_w]
        rfl
      refine pure_ (i := 16) (N := some 33) (v := ?_) (a' := ?_) #[true, true, true, true, true, true, true, true, true, true, true, true, true, true, true, true, true, false, false, false, false, false, false, false, false, false] rfl rfl (by kernel_rfl) (fun _ _ _ h => h) (Or.inl ⟨by rfl, ?_⟩) ?_ ?_
      rotate_left
      · intro w'
        go_simp
        with_reducible rfl
      rotate_left
      · simp only [Act.put, List.setIfInBounds_toArray, List.set_cons_zero, List.set_cons_succ, i64_w, i32_w]
        rfl
      refine pure_ (i := 18) (N := some 35) (v := ?_) (a' := ?_) #[true, true, true, true, true, true, true, true, true, true, true, true, true, true, true, true, true, false, true, false, false, false, false, false, false, false] rfl rfl (by kernel_rfl) (fun _ _ _ h => h) (Or.inl ⟨by rfl, ?_⟩) ?_ ?_
      rotate_left
      · intro w'
        go_simp
        with_reducible rfl
      rotate_left
      · simp only [Act.put, List.setIfInBounds_toArray, List.set_cons_zero, List.set_cons_succ, i64_w, i32_w]
        rfl
      refine pure_ (i := 19) (N := some 36) (v := ?_) (a' := ?_) #[true, true, true, true, true, true, true, true, true, true, true, true, true, true, true, true, true, false, true, true, false, false, false, false, false, false] rfl rfl (by kernel_rfl) (fun _ _ _ h => h) (Or.inl ⟨by rfl, ?_⟩) ?_ ?_
      rotate_left
      · intro w'
        go_simp
        with_reducible rfl
      rotate_left
      · simp only [Act.put, List.setIfInBounds_toArray, List.set_cons_zero, List.set_cons_succ, i64_w, i32_w]
        rfl
      refine pure_ (i := 20) (N := some 37) (v := ?_) (a' := ?_) #[true, true, true, true, true, true, true, true, true, true, true, true, true, true, true, true, true, false, true, true, true, false, false, false, false, false] rfl rfl (by kernel_rfl) (fun _ _ _ h => h) (Or.inl ⟨by rfl, ?_⟩) ?_ ?_
      rotate_left
      · intro w'
        go_simp
        with_reducible rfl
      rotate_left
      · simp only [Act.put, List.setIfInBounds_toArray, List.set_cons_zero, List.set_cons_succ, i64_w, i32_w]
        rfl
      refine pure_ (i := 21) (N := some 38) (v := ?_) (a' := ?_) #[true, true, true, true, true, true, true, true, true, true, true, true, true, true, true, true, true, false, true, true, true, true, false, false, false, false] rfl rfl (by kernel_rfl) (fun _ _ _ h => h) (Or.inl ⟨by rfl, ?_⟩) ?_ ?_
      rotate_left
      · intro w'
        go_simp
        with_reducible rfl
      rotate_left
      · simp only [Act.put, List.setIfInBounds_toArray, List.set_cons_zero, List.set_cons_succ, i64_w, i32_w]
        rfl
      refine take_ (i := 17) (N := some 34) (v := ?_) (a' := ?_) #[true, true, true, true, true, true, true, true, true, true, true, true, true, true, true, true, true, true, true, true, true, true, false, false, false, false] rfl rfl (by kernel_rfl) (fun _ _ _ h => h) (Or.inl ⟨by rfl, ?_⟩) hHeld ?_ ?_
      rotate_left
      · rintro w' ⟨s0, s1, s2, s3, s4, s5, s6, s7⟩
        go_simp
        with_reducible rfl
      rotate_left
      · simp only [Act.put, List.setIfInBounds_toArray, List.set_cons_zero, List.set_cons_succ, i64_w, i32_w]
        rfl
      refine take_ (i := 22) (N := some 39) (v := ?_) (a' := ?_) #[true, true, true, true, true, true, true, true, true, true, true, true, true, true, true, true, true, true, true, true, true, true, true, false, false, false] rfl rfl (by kernel_rfl) (fun _ _ _ h => h) (Or.inl ⟨by rfl, ?_⟩) hHeld ?_ ?_
      rotate_left
      · rintro w' ⟨s0, s1, s2, s3, s4, s5, s6, s7⟩
        go_simp
        with_reducible rfl
      rotate_left
      · simp only [Act.put, List.setIfInBounds_toArray, List.set_cons_zero, List.set_cons_succ, i64_w, i32_w]
        rfl
      refine one_ (i := 23) (N := some 40) #[true, true, true, true, true, true, true, true, true, true, true, true, true, true, true, true, true, true, true, true, true, true, true, true, false, false] rfl rfl (by kernel_rfl) (by decide) (fun K hK => ?_)
      refine goes_ Try.func28 (by kernel_rfl) rfl #[.agg #[.int .i64 v2, .int .i64 v3]] (by rfl) rfl rfl (by simp only [List.map_toArray, List.map_cons, List.map_nil]; rfl) ?_
      with_reducible refine (palantypelaw05_to.calls _ _ _ _ _ rfl).mono ?_
      rintro e w4 ⟨rfl, hb⟩
      refine ⟨_, rfl, ?_⟩
      have HBn := Aside0.mk (below_then HBd.out HBd.out.size hb)
      clear HBd
      have HBd := HBn
      clear HBn
      refine hK.out _ _ ⟨pw_cell_below hb (hHeld.1), pw_cell_below hb (hHeld.2.1), pw_cell_below hb (hHeld.2.2.1), pw_cell_below hb (hHeld.2.2.2.1), pw_cell_below hb (hHeld.2.2.2.2.1), pw_cell_below hb (hHeld.2.2.2.2.2.1), pw_cell_below hb (hHeld.2.2.2.2.2.2.1), pw_cell_below hb (hHeld.2.2.2.2.2.2.2)⟩ (fun hHeld => ?_)
      clear hK K
      refine norm_ (a' := ?_) ?_ ?_
      rotate_left
      · show Act.put _ (some 40) _ = _
        simp only [Act.put, List.setIfInBounds_toArray, List.set_cons_zero, List.set_cons_succ, i64_w, i32_w]
        rfl
      refine pure_ (i := 24) (N := some 41) (v := ?_) (a' := ?_) #[true, true, true, true, true, true, true, true, true, true, true, true, true, true, true, true, true, true, true, true, true, true, true, true, true, false] rfl rfl (by kernel_rfl) (fun _ _ _ h => h) (Or.inl ⟨by rfl, ?_⟩) ?_ ?_
      rotate_left
      · intro w'
        go_simp
        with_reducible rfl
      rotate_left
      · simp only [Act.put, List.setIfInBounds_toArray, List.set_cons_zero, List.set_cons_succ, i64_w, i32_w]
        rfl
      refine pure_ (i := 25) (N := some 42) (v := ?_) (a' := ?_) #[true, true, true, true, true, true, true, true, true, true, true, true, true, true, true, true, true, true, true, true, true, true, true, true, true, true] rfl rfl (by kernel_rfl) (fun _ _ _ h => h) (Or.inl ⟨by rfl, ?_⟩) ?_ ?_
      rotate_left
      · intro w'
        go_simp
        with_reducible rfl
      rotate_left
      · simp only [Act.put, List.setIfInBounds_toArray, List.set_cons_zero, List.set_cons_succ, i64_w, i32_w]
        rfl
      refine done_ (by kernel_rfl) ?_
      go_wp2
      go_roundg (gk - 1)
      case measure => have := HI.out; have := HLT.out; omega
      case rel => exact ⟨i + 1, by first | rfl | rw [HW.out], ⟨by have := HI.out; have := HLT.out; omega⟩, HBd⟩
end Go.Proofs.Ythpheknchikodaa.P

/- What broken, asked and Has answer, in plain words. Conditions: the lists are readable, and of bounded length. -/
namespace Go.Proofs.Ythpheknchikodaa.P
open Go.RowKit Go.Proofs.YthpheknchikodaaW.PrintWords Go.Proofs.YthpheknchikodaaW.PrintLast
set_option linter.unusedVariables false
set_option linter.unusedSimpArgs false

set_option maxHeartbeats 1000000 in
set_option maxRecDepth 100000 in
theorem broken_calls (p o : Int) (A2 : Option Addr) (c2 : Nat) (ts : List S54) (A3 : Option Addr) (c3 : Nat) (ns : List S88) (w : World) (hI : RIn w A2 c2 ts A3 c3 ns) (hts : ts.length ≤ 45) (hns : ns.length ≤ 65) (hsz : ∀ n ∈ ns, n.f2.size ≤ 1000000) :
    Calls Try.prog 48 #[.agg #[.int .i64 p, .int .i64 o, .slice A2 ts.length c2, .slice A3 ns.length c3]] w fun e w' => e = .returned (.int .i64 (brokenOf p o ts ns)) ∧ Below w.heap.size w w' := by
  have HTS := Aside0.mk hts
  have HNS := Aside0.mk hns
  have HSZ := Aside0.mk hsz
  clear hts hns hsz
  obtain ⟨R, hR⟩ : ∃ R, brokenOf p o ts ns = R := ⟨_, rfl⟩
  rw [hR]
  obtain ⟨f, hf⟩ : ∃ f, faultOf p o ts ns = f := ⟨_, rfl⟩
  have hR' := hR
  unfold brokenOf at hR'
  rw [hf] at hR'
  have HF := Aside0.mk hf
  clear hf hR
  have hu25 := Try.underlying25
  have HB0 := Aside0.mk (below_alloc (Below.refl w.heap.size w) (.cells #[.int .i64 p, .int .i64 o, .slice A2 ts.length c2, .slice A3 ns.length c3] 25))
  have HI0 := Aside0.mk (hI.below HB0.out)
  have BK0 := Aside0.mk (blk_new w (.cells #[.int .i64 p, .int .i64 o, .slice A2 ts.length c2, .slice A3 ns.length c3] 25))
  obtain ⟨x0, x1, x2, x3⟩ := roll_cells BK0.out
  clear hI
  go_enter Try.func48, Try.ntmps48
  go_wp2_with fail
  refine (Fault_calls p o A2 c2 ts A3 c3 ns _ HI0.out.1 HI0.out.2.2.1 HTS.out HNS.out HSZ.out).mono ?_
  rintro e w1 ⟨rfl, hb⟩
  rw [HF.out]
  have HB1 := Aside0.mk (below_then HB0.out HB0.out.size hb)
  have HI1 := Aside0.mk (HI0.out.below hb)
  have BK1 := Aside0.mk ((hb.block _ (blk_lt BK0.out)).trans BK0.out)
  clear hb x0 x1 x2 x3 HI0 BK0
  obtain ⟨x0, x1, x2, x3⟩ := roll_cells BK1.out
  by_cases h0 : f = 0
  case neg =>
    rw [if_neg h0] at hR'
    subst hR'
    have e1 : (f != 0) = true := bne_iff_ne.mpr h0
    clear h0
    go_wp2
    go_ret
    exact ⟨rfl, HB1.out⟩
  subst h0
  rw [if_pos rfl] at hR'
  have HR := Aside0.mk hR'
  clear hR'
  go_wp2_with fail
  refine (Clashes_calls p o A2 c2 ts A3 c3 ns _ HI1.out.1 HTS.out).mono ?_
  rintro e w2 ⟨rfl, hb⟩
  have HB2 := Aside0.mk (below_then HB1.out HB1.out.size hb)
  have HI2 := Aside0.mk (HI1.out.below hb)
  have BK2 := Aside0.mk ((hb.block _ (blk_lt BK1.out)).trans BK1.out)
  clear hb x0 x1 x2 x3 HI1 BK1
  obtain ⟨x0, x1, x2, x3⟩ := roll_cells BK2.out
  have hR' := HR.out
  obtain ⟨c, hc⟩ : ∃ c, clashOf ts = c := ⟨_, rfl⟩
  rw [hc] at hR' ⊢
  cases c with
  | none =>
    obtain rfl : R = 0 := by rw [← hR']; rfl
    simp only [pairOf]
    clear hR' HR hc
    go_wp2
    go_ret
    exact ⟨rfl, HB2.out⟩
  | some r =>
    obtain rfl : R = 9 := by rw [← hR']; rfl
    have h := firstClash_ge _ _ _ hc
    have e2 : decide (0 ≤ r.1) = true := decide_eq_true h.1
    simp only [pairOf]
    clear hR' HR hc h
    go_wp2
    go_ret
    exact ⟨rfl, HB2.out⟩
set_option maxHeartbeats 1000000 in
set_option maxRecDepth 100000 in
theorem asked_calls (p o : Int) (A2 : Option Addr) (c2 : Nat) (ts : List S54) (A3 : Option Addr) (c3 : Nat) (ns : List S88) (n most day : Int) (w : World) (hI : RIn w A2 c2 ts A3 c3 ns) (hts : ts.length ≤ 45) (hns : ns.length ≤ 65) (hsz : ∀ n ∈ ns, n.f2.size ≤ 1000000) :
    Calls Try.prog 21 #[.agg #[.int .i64 p, .int .i64 o, .slice A2 ts.length c2, .slice A3 ns.length c3], .int .i64 n, .int .i64 most, .int .i64 day] w fun e w' => e = .returned (.int .i64 (askedOf p o ts ns n most day)) ∧ Below w.heap.size w w' := by
  have HTS := Aside0.mk hts
  have HNS := Aside0.mk hns
  have HSZ := Aside0.mk hsz
  clear hts hns hsz
  obtain ⟨R, hR⟩ : ∃ R, askedOf p o ts ns n most day = R := ⟨_, rfl⟩
  rw [hR]
  obtain ⟨f, hf⟩ : ∃ f, faultOf p o ts ns = f := ⟨_, rfl⟩
  have hR' := hR
  unfold askedOf at hR'
  rw [hf] at hR'
  have HF := Aside0.mk hf
  clear hf hR
  have hu25 := Try.underlying25
  have HB0 := Aside0.mk (below_alloc (Below.refl w.heap.size w) (.cells #[.int .i64 p, .int .i64 o, .slice A2 ts.length c2, .slice A3 ns.length c3] 25))
  have HI0 := Aside0.mk (hI.below HB0.out)
  have BK0 := Aside0.mk (blk_new w (.cells #[.int .i64 p, .int .i64 o, .slice A2 ts.length c2, .slice A3 ns.length c3] 25))
  obtain ⟨x0, x1, x2, x3⟩ := roll_cells BK0.out
  clear hI
  go_enter Try.func21, Try.ntmps21
  go_wp2_with fail
  refine (Fault_calls p o A2 c2 ts A3 c3 ns _ HI0.out.1 HI0.out.2.2.1 HTS.out HNS.out HSZ.out).mono ?_
  rintro e w1 ⟨rfl, hb⟩
  rw [HF.out]
  have HB1 := Aside0.mk (below_then HB0.out HB0.out.size hb)
  have HI1 := Aside0.mk (HI0.out.below hb)
  have BK1 := Aside0.mk ((hb.block _ (blk_lt BK0.out)).trans BK0.out)
  clear hb x0 x1 x2 x3 HI0 BK0
  obtain ⟨x0, x1, x2, x3⟩ := roll_cells BK1.out
  by_cases h0 : f = 0
  case neg =>
    rw [if_neg h0] at hR'
    subst hR'
    have e1 : (f != 0) = true := bne_iff_ne.mpr h0
    clear h0
    go_wp2
    go_ret
    exact ⟨rfl, HB1.out⟩
  subst h0
  rw [if_pos rfl] at hR'
  cases c1 : withinB n 0 (wrap64 (most - 1))
  · rw [c1, Bool.false_and, if_neg (by decide)] at hR'
    subst hR'
    go_wp2_with (go_at_call 29; (with_reducible refine (In_calls _ _ _ _).mono ?_); rintro e w' ⟨rfl, rfl⟩; (first | rw [c1]))
    go_ret
    exact ⟨rfl, HB1.out⟩
  cases cc2 : withinB day 0 100000
  · rw [c1, cc2, Bool.and_false, if_neg (by decide)] at hR'
    subst hR'
    go_wp2_with (go_at_call 29; (with_reducible refine (In_calls _ _ _ _).mono ?_); rintro e w' ⟨rfl, rfl⟩; (first | rw [c1] | rw [cc2]))
    go_ret
    exact ⟨rfl, HB1.out⟩
  rw [c1, cc2, Bool.and_true, if_pos rfl] at hR'
  subst hR'
  go_wp2_with (go_at_call 29; (with_reducible refine (In_calls _ _ _ _).mono ?_); rintro e w' ⟨rfl, rfl⟩; (first | rw [c1] | rw [cc2]))
  refine (broken_calls p o A2 c2 ts A3 c3 ns _ HI1.out HTS.out HNS.out HSZ.out).mono ?_
  rintro e w2 ⟨rfl, hb⟩
  have HB2 := Aside0.mk (below_then HB1.out HB1.out.size hb)
  clear hb
  go_wp2
  go_ret
  exact ⟨rfl, HB2.out⟩
def hasB (l : List Int) (n : Int) : Bool := l.any (· == n)
set_option maxHeartbeats 1000000 in
set_option maxRecDepth 100000 in
theorem Has_calls (A : Option Addr) (c : Nat) (l : List Int) (n : Int) (w : World) (h : Kd.C (Kd.int .i64) w A l.length l) (hl : l.length ≤ 1000000) :
    Calls Try.prog 53 #[.slice A l.length c, .int .i64 n] w fun e w' => e = .returned (.bool (hasB l n)) ∧ Drawn0 w w' := by
  have HC := Aside0.mk h
  have HL := Aside0.mk hl
  clear h hl
  obtain ⟨R, hR⟩ : ∃ R, hasB l n = R := ⟨_, rfl⟩
  rw [hR]
  have HR := Aside0.mk (show hasB (l.drop (0 : Int).toNat) n = R from hR)
  clear hR
  go_enter Try.func53, Try.ntmps53
  go_wp2
  go_loopg [5] l.length (fun kq v5 w' => ∃ i : Int, v5 = .int .i64 i ∧ Aside0 (0 ≤ i ∧ kq + i.toNat = l.length) ∧ Aside0 (hasB (l.drop i.toNat) n = R) ∧ Drawn0 w w')
  case atStart => exact ⟨0, rfl, ⟨by simp⟩, HR, by repeat (first | exact Drawn0.refl _ | apply Drawn0.step)⟩
  case round =>
    clear HR
    obtain ⟨i, rfl, HI, HR, ⟨m1, rfl⟩⟩ := hrel
    have hr := HR.out
    by_cases hlt : i < (l.length : Int)
    · have t0 : decide (i < (l.length : Int)) = true := decide_eq_true hlt
      have i0 : 0 ≤ i := HI.out.1
      have HW := Aside0.mk (show wrap64 (i + 1) = i + 1 by unfold wrap64; have := HL.out; omega)
      obtain ⟨ad, hA, q0⟩ := Kd.at_int HC.out i i0 hlt
      have h' : i.toNat < l.length := by omega
      have hx : rd l i = l[i.toNat] := by unfold rd; simp [h']
      rw [List.drop_eq_getElem_cons h', ← hx, show i.toNat + 1 = (i + 1).toNat by omega] at hr
      have HLT := Aside0.mk hlt
      cases hA
      clear hx h'
      replace i0 := eq_true i0
      replace hlt := eq_true hlt
      cases c5 : (rd l i == n)
      · have HR' := Aside0.mk (show hasB (l.drop (i + 1).toNat) n = R by rw [← hr]; unfold hasB; rw [List.any_cons, c5, Bool.false_or])
        clear hr HR
        go_wp2
        go_roundg (gk - 1)
        case measure => have := HI.out; have := HLT.out; omega
        case rel => exact ⟨i + 1, by first | rfl | rw [HW.out], ⟨by have := HI.out; have := HLT.out; omega⟩, HR', by repeat (first | exact Drawn0.refl _ | exact ⟨_, rfl⟩ | apply Drawn0.step)⟩
      · obtain rfl : R = true := by rw [← hr]; unfold hasB; rw [List.any_cons, c5, Bool.true_or]
        clear hr HR
        go_wp2
        go_ret
        exact ⟨rfl, by repeat (first | exact Drawn0.refl _ | exact ⟨_, rfl⟩ | apply Drawn0.step)⟩
    · have t0 : decide (i < (l.length : Int)) = false := decide_eq_false hlt
      obtain rfl : R = false := by rw [← hr, List.drop_eq_nil_of_le (by omega)]; rfl
      clear hr HR hlt
      go_wp2
      go_ret
      exact ⟨rfl, by repeat (first | exact Drawn0.refl _ | exact ⟨_, rfl⟩ | apply Drawn0.step)⟩
end Go.Proofs.Ythpheknchikodaa.P

/- Who holds an office on a day, in plain words: surely one alone, and then nobody else perhaps. Conditions: the roll is as described, no two terms clash. -/
namespace Go.Proofs.Ythpheknchikodaa.P
open Go.RowKit Go.Proofs.YthpheknchikodaaW.PrintWords Go.Proofs.YthpheknchikodaaW.PrintLast
set_option linter.unusedVariables false
set_option linter.unusedSimpArgs false

theorem held_fst (day : Int) (L : List S122) : ∀ h : Int × List Bool, ((L.foldl (heldStep day) h).1 = h.1 ∧ ∀ x ∈ L, sureB day x = false) ∨ ∃ x ∈ L, sureB day x = true ∧ (L.foldl (heldStep day) h).1 = x.f0.f0 := by
  induction L with
  | nil => intro h; exact .inl ⟨rfl, fun x hx => by cases hx⟩
  | cons y L ih =>
    intro h
    rw [List.foldl_cons]
    rcases ih (heldStep day h y) with ⟨e, hn⟩ | ⟨x, hx, hs, e⟩
    · by_cases c : sureB day y = true
      · exact .inr ⟨y, by simp, c, by rw [e]; simp [heldStep, c]⟩
      · have c' := Bool.eq_false_iff.2 c
        refine .inl ⟨by rw [e]; simp [heldStep, c'], fun x hx => ?_⟩
        rcases List.mem_cons.1 hx with rfl | hx
        · exact c'
        · exact hn x hx
    · exact .inr ⟨x, List.mem_cons_of_mem _ hx, hs, e⟩
theorem held_snd (day : Int) (L : List S122) : ∀ h : Int × List Bool, ∀ q, q < h.2.length → ((L.foldl (heldStep day) h).2.getD q false = true ↔ h.2.getD q false = true ∨ ∃ x ∈ L, maybeB day x = true ∧ x.f0.f0.toNat = q) := by
  induction L with
  | nil => intro h q _; simp
  | cons y L ih =>
    intro h q hq
    rw [List.foldl_cons]
    have hl : (heldStep day h y).2.length = h.2.length := by unfold heldStep; dsimp only; split <;> simp
    rw [ih (heldStep day h y) q (by omega)]
    have key : (heldStep day h y).2.getD q false = true ↔ h.2.getD q false = true ∨ (maybeB day y = true ∧ y.f0.f0.toNat = q) := by
      unfold heldStep
      dsimp only
      by_cases c : maybeB day y = true
      · rw [if_pos c]
        by_cases e : y.f0.f0.toNat = q
        · subst e; simp [c, hq]
        · simp [c, e]
      · rw [if_neg c]; simp [c]
    rw [key]
    constructor
    · rintro ((h | ⟨h1, h2⟩) | ⟨x, hx, h⟩)
      · exact .inl h
      · exact .inr ⟨y, by simp, h1, h2⟩
      · exact .inr ⟨x, List.mem_cons_of_mem _ hx, h⟩
    · rintro (h | ⟨x, hx, h1, h2⟩)
      · exact .inl (.inl h)
      · rcases List.mem_cons.1 hx with rfl | hx
        · exact .inl (.inr ⟨h1, h2⟩)
        · exact .inr ⟨x, hx, h1, h2⟩
theorem trueIdx_mem (l : List Bool) : ∀ (i : Int) (q : Int), q ∈ trueIdx i l ↔ i ≤ q ∧ q < i + l.length ∧ l.getD (q - i).toNat false = true := by
  induction l with
  | nil => intro i q; simp [trueIdx]
  | cons b l ih =>
    intro i q
    have hl : ((b :: l).length : Int) = l.length + 1 := by simp
    have key : (i ≤ q ∧ q < i + ((b :: l).length : Int) ∧ (b :: l).getD (q - i).toNat false = true) ↔ (q = i ∧ b = true) ∨ (i + 1 ≤ q ∧ q < i + 1 + (l.length : Int) ∧ l.getD (q - (i + 1)).toNat false = true) := by
      rw [hl]
      constructor
      · rintro ⟨h1, h2, h3⟩
        by_cases e : q = i
        · subst e; left; simpa using h3
        · right
          refine ⟨by omega, by omega, ?_⟩
          rw [show (q - i).toNat = (q - (i + 1)).toNat + 1 by omega] at h3
          simpa using h3
      · rintro (⟨rfl, h⟩ | ⟨h1, h2, h3⟩)
        · exact ⟨by omega, by omega, by simpa using h⟩
        · refine ⟨by omega, by omega, ?_⟩
          rw [show (q - i).toNat = (q - (i + 1)).toNat + 1 by omega]
          simpa using h3
    rw [key, trueIdx]
    cases b
    · simp [ih (i + 1) q]
    · simp [ih (i + 1) q]
theorem trueIdx_sorted (l : List Bool) : ∀ i : Int, (trueIdx i l).Pairwise (· < ·) := by
  induction l with
  | nil => intro i; simp [trueIdx]
  | cons b l ih =>
    intro i
    rw [trueIdx]
    split
    · rw [List.pairwise_cons]
      exact ⟨fun q hq => by have := (trueIdx_mem l (i + 1) q).1 hq; omega, ih (i + 1)⟩
    · exact ih (i + 1)
/-- Surely; perhaps: term i has the day. -/
def Sure (ts : List S59) (off day : Int) (i : Nat) : Prop := i < ts.length ∧ (tAt ts i).f1 = off ∧ (tAt ts i).f2.f1 ≤ day ∧ day < (tAt ts i).f3.f0
def May (ts : List S59) (off day : Int) (i : Nat) : Prop := i < ts.length ∧ (tAt ts i).f1 = off ∧ (knownAt ts i).f0.f0 ≤ day ∧ day < (knownAt ts i).f1.f1
section
variable {p o : Int} {ts : List S59}
theorem known_range (hk : TermsOk ts) {i : Nat} (hi : i < ts.length) : (tAt ts i).f2.f0 ≤ (knownAt ts i).f0.f0 ∧ (knownAt ts i).f0.f0 ≤ (tAt ts i).f2.f1 ∧ (tAt ts i).f3.f0 ≤ (knownAt ts i).f1.f1 ∧ (knownAt ts i).f1.f1 ≤ (tAt ts i).f3.f1 ∨ ¬ NoClash ts := by
  by_cases hc : NoClash ts
  · left
    obtain ⟨a1, a2, a3⟩ := known_lo ts i
    obtain ⟨b1, b2, b3⟩ := known_hi ts i
    have ki := hk i hi
    refine ⟨a1, ?_, ?_, b1⟩
    · rcases a3 with e | ⟨k, _, hb, e⟩
      · omega
      · rw [e]; exact hb.2.2
    · rcases b3 with e | ⟨k, hkl, hb, e⟩
      · omega
      · rw [e]
        have h := clash_false hc hb.1 hkl hi
        unfold clashB befB at h
        rw [decide_eq_true hb.2.1, Bool.true_and, decide_eq_false hb.2.2] at h
        simp at h
        exact h
  · exact .inr hc
theorem sureB_iff (hk : TermsOk ts) {i : Nat} (hi : i < ts.length) (day : Int) : sureB day ⟨tAt ts i, (i : Int), knownAt ts i⟩ = true ↔ (tAt ts i).f2.f1 ≤ day ∧ day < (tAt ts i).f3.f0 := by
  have ki := hk i hi
  unfold sureB withinB
  rw [show wrap64 ((tAt ts i).f3.f0 - 1) = (tAt ts i).f3.f0 - 1 by unfold wrap64; omega]
  simp
  omega
theorem maybeB_iff (hk : TermsOk ts) (hc : NoClash ts) {i : Nat} (hi : i < ts.length) (day : Int) : maybeB day ⟨tAt ts i, (i : Int), knownAt ts i⟩ = true ↔ (knownAt ts i).f0.f0 ≤ day ∧ day < (knownAt ts i).f1.f1 := by
  have ki := hk i hi
  have kr := (known_range hk hi).resolve_right (fun h => h hc)
  unfold maybeB withinB
  rw [show wrap64 ((knownAt ts i).f1.f1 - 1) = (knownAt ts i).f1.f1 - 1 by unfold wrap64; omega]
  simp
  omega
theorem held_surely (hk : TermsOk ts) (off day : Int) : ((heldSpec ts off day).1 = -1 ∧ ∀ i, ¬ Sure ts off day i) ∨ ∃ i, Sure ts off day i ∧ (heldSpec ts off day).1 = (tAt ts i).f0 := by
  rcases held_fst day (termsOf ts off) (-1, List.replicate 20 false) with ⟨e, hn⟩ | ⟨x, hx, hs, e⟩
  · refine .inl ⟨e, ?_⟩
    rintro i ⟨hi, ho, h1, h2⟩
    have := hn _ ((termsOf_mem _).2 ⟨i, hi, ho, rfl⟩)
    rw [(sureB_iff hk hi day).2 ⟨h1, h2⟩] at this
    cases this
  · obtain ⟨i, hi, ho, rfl⟩ := (termsOf_mem x).1 hx
    have h := (sureB_iff hk hi day).1 hs
    exact .inr ⟨i, ⟨hi, ho, h.1, h.2⟩, e⟩
theorem held_len20 (ts : List S59) (off day : Int) : (heldSpec ts off day).2.length = 20 := by
  have h := held_len day (termsOf ts off) (-1, List.replicate 20 false)
  rw [show ((-1, List.replicate 20 false) : Int × List Bool).2.length = 20 from rfl] at h
  exact h
theorem perhaps_mem (hR : RollOk p o ts) (hc : NoClash ts) (off day q : Int) : q ∈ trueIdx 0 (heldSpec ts off day).2 ↔ ∃ i, May ts off day i ∧ (tAt ts i).f0 = q := by
  rw [trueIdx_mem, held_len20]
  have hs : ∀ n : Nat, n < 20 → ((heldSpec ts off day).2.getD n false = true ↔ ∃ i, May ts off day i ∧ (tAt ts i).f0.toNat = n) := by
    intro n hn
    have h := held_snd day (termsOf ts off) (-1, List.replicate 20 false) n (by simpa using hn)
    rw [show (termsOf ts off).foldl (heldStep day) (-1, List.replicate 20 false) = heldSpec ts off day from rfl] at h
    rw [h]
    constructor
    · rintro (h | ⟨x, hx, h1, h2⟩)
      · exfalso
        revert h
        show ¬ ((List.replicate 20 false).getD n false = true)
        rw [List.getD_eq_getElem?_getD, List.getElem?_replicate]
        split <;> simp
      · obtain ⟨i, hi, ho, rfl⟩ := (termsOf_mem x).1 hx
        have h := (maybeB_iff hR.ok hc hi day).1 h1
        exact ⟨i, ⟨hi, ho, h.1, h.2⟩, h2⟩
    · rintro ⟨i, ⟨hi, ho, h1, h2⟩, h3⟩
      exact .inr ⟨_, (termsOf_mem _).2 ⟨i, hi, ho, rfl⟩, (maybeB_iff hR.ok hc hi day).2 ⟨h1, h2⟩, h3⟩
  constructor
  · rintro ⟨h1, h2, h3⟩
    obtain ⟨i, hm, h4⟩ := (hs (q - 0).toNat (by omega)).1 h3
    have := hR.pers i hm.1
    exact ⟨i, hm, by omega⟩
  · rintro ⟨i, hm, rfl⟩
    have := hR.pers i hm.1
    have := hR.p2
    refine ⟨by omega, by omega, (hs _ (by omega)).2 ⟨i, hm, by omega⟩⟩
theorem sure_may (hk : TermsOk ts) (hc : NoClash ts) {off day : Int} {i : Nat} (h : Sure ts off day i) : May ts off day i := by
  obtain ⟨hi, ho, h1, h2⟩ := h
  have kr := (known_range hk hi).resolve_right (fun h => h hc)
  exact ⟨hi, ho, by omega, by omega⟩
theorem sure_alone (hk : TermsOk ts) (hc : NoClash ts) {off day : Int} {i j : Nat} (h : Sure ts off day i) (k : May ts off day j) : j = i := by
  obtain ⟨hi, ho, h1, h2⟩ := h
  obtain ⟨hj, ho', h3, h4⟩ := k
  by_cases e : j = i
  · exact e
  · exfalso
    have hcl := clash_false hc e hj hi
    unfold clashB befB at hcl
    rw [decide_eq_true (ho'.trans ho.symm), Bool.true_and] at hcl
    simp at hcl
    have ki := hk i hi
    have kj := hk j hj
    by_cases c : (tAt ts j).f3.f0 ≤ (tAt ts i).f2.f1
    · -- j ends before i begins
      have hA : Aft ts j i := ⟨fun e' => e e'.symm, ho.trans ho'.symm, by omega⟩
      have := (known_hi ts j).2.1 i hi hA
      omega
    · have hB : Bef ts j i := ⟨fun e' => e e'.symm, ho.trans ho'.symm, hcl (by omega)⟩
      have := (known_lo ts j).2.1 i hi hB
      omega
theorem sorted_one {l : List Int} {s : Int} (h : l.Pairwise (· < ·)) (hm : ∀ q, q ∈ l ↔ q = s) : l = [s] := by
  match l, h with
  | [], _ => exact absurd ((hm s).2 rfl) (by simp)
  | [a], _ => rw [(hm a).1 (by simp)]
  | a :: b :: l, h =>
    have h1 := (hm a).1 (by simp)
    have h2 := (hm b).1 (by simp)
    have := (List.pairwise_cons.1 h).1 b (by simp)
    omega
theorem one_alone (hR : RollOk p o ts) (hc : NoClash ts) (off day : Int) (h : 0 ≤ (heldSpec ts off day).1) : trueIdx 0 (heldSpec ts off day).2 = [(heldSpec ts off day).1] := by
  rcases held_surely hR.ok off day with ⟨e, _⟩ | ⟨i, hs, e⟩
  · omega
  · apply sorted_one (trueIdx_sorted _ 0)
    intro q
    rw [perhaps_mem hR hc, e]
    constructor
    · rintro ⟨j, hm, rfl⟩; rw [sure_alone hR.ok hc hs hm]
    · rintro rfl; exact ⟨i, sure_may hR.ok hc hs, rfl⟩
theorem surely_range (hR : RollOk p o ts) (off day : Int) : (heldSpec ts off day).1 = -1 ∨ 0 ≤ (heldSpec ts off day).1 ∧ (heldSpec ts off day).1 < p := by
  rcases held_surely hR.ok off day with ⟨e, _⟩ | ⟨i, hs, e⟩
  · exact .inl e
  · rw [e]; exact .inr (hR.pers i hs.1)
theorem perhaps_range (hR : RollOk p o ts) (hc : NoClash ts) (off day q : Int) (h : q ∈ trueIdx 0 (heldSpec ts off day).2) : 0 ≤ q ∧ q < p := by
  obtain ⟨i, hm, rfl⟩ := (perhaps_mem hR hc off day q).1 h
  exact hR.pers i hm.1
end
end Go.Proofs.Ythpheknchikodaa.P
