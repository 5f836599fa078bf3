/- Contracts of functions that the laws reach, part Xh4. Conditions: each theorem names its own. -/
import Derived.Test.YthpheknchikodaaXh2
import Derived.Test.YthpheknchikodaaXh3
import Derived.Test.YthpheknchikodaaXb13
/- The walk of the reference's Holds: who surely holds an office on a day, and who perhaps does, by its words. Conditions: at most 45 terms, at most 20 persons. -/
namespace Go.Proofs.Ythpheknchikodaa.P
open Go.RowKit Go.Proofs.YthpheknchikodaaW.PrintWords Go.Proofs.YthpheknchikodaaW.PrintLast
set_option linter.unusedVariables false
set_option linter.unusedSimpArgs false

def hStep (ts : List S54) (off day q : Int) (a : Int × List Int) (j : Nat) : Int × List Int :=
  if (rd_T54 ts j).f0 ≠ q ∨ (rd_T54 ts j).f1 ≠ off then a else
    (if withinB day (rd_T54 ts j).f2.f1 (wrap64 ((rd_T54 ts j).f3.f0 - 1)) = true then q else a.1,
     if (withinB day (rKnownAt ts j).f0.f0 (wrap64 ((rKnownAt ts j).f1.f1 - 1)) && !hasB a.2 q) = true then a.2 ++ [q] else a.2)
def hIn (ts : List S54) (off day q j : Int) (a : Int × List Int) : Int × List Int := (List.range' j.toNat (ts.length - j.toNat)).foldl (hStep ts off day q) a
def hOut (ts : List S54) (off day : Int) : Nat → Int → Int × List Int → Int × List Int
  | 0, _, a => a
  | n + 1, q, a => hOut ts off day n (q + 1) (hIn ts off day q 0 a)
theorem hIn_step (ts : List S54) (off day q j : Int) (hj : 0 ≤ j) (hjl : j.toNat < ts.length) (a : Int × List Int) : hIn ts off day q j a = hIn ts off day q (j + 1) (hStep ts off day q a j.toNat) := by
  unfold hIn
  rw [show ts.length - j.toNat = (ts.length - (j + 1).toNat) + 1 by omega, List.range'_succ, List.foldl_cons, show (j + 1).toNat = j.toNat + 1 by omega]
theorem hIn_end (ts : List S54) (off day q j : Int) (hjl : ts.length ≤ j.toNat) (a : Int × List Int) : hIn ts off day q j a = a := by
  unfold hIn
  rw [show ts.length - j.toNat = 0 by omega]
  rfl
theorem known_rd (ts : List S54) (j : Int) (h0 : 0 ≤ j) (h : j.toNat < ts.length) : rd_T117 (rKnown ts) j = rKnownAt ts j.toNat := by
  unfold rd_T117 rKnown
  simp [h]
set_option maxHeartbeats 8000000 in
set_option maxRecDepth 100000 in
theorem rHolds_calls (p o : Int) (A2 : Option Addr) (c2 : Nat) (ts : List S54) (A3 : Option Addr) (c3 : Nat) (ns : List S88) (off day : Int) (w : World) (hr2 : Kd.C k54 w A2 ts.length ts) (hts : ts.length ≤ 45) (hp : p ≤ 20) :
    Calls Try.prog 22 #[.agg #[.int .i64 p, .int .i64 o, .slice A2 ts.length c2, .slice A3 ns.length c3], .int .i64 off, .int .i64 day] w fun e w' => ∃ (A : Option Addr) (c : Nat), e = .returned (.tuple #[.int .i64 (hOut ts off day p.toNat 0 (-1, [])).1, .slice A (hOut ts off day p.toNat 0 (-1, [])).2.length c]) ∧ (hOut ts off day p.toNat 0 (-1, [])).2.length ≤ c ∧ Kd.C (Kd.int .i64) w' A (hOut ts off day p.toNat 0 (-1, [])).2.length (hOut ts off day p.toNat 0 (-1, [])).2 ∧ Below w.heap.size w w' := by
  have hu25 := Try.underlying25
  have hu54 := Try.underlying54
  have hu52 := Try.underlying52
  have hu117 := Try.underlying117
  have hu96 := Try.underlying96
  have HTS := Aside0.mk hts
  have HP := Aside0.mk hp
  have HB0 := Aside0.mk (below_alloc (Below.refl w.heap.size w) (.cells #[.int .i64 p, .int .i64 o, .slice A2 ts.length c2, .slice A3 ns.length c3] 25))
  have BK0 := Aside0.mk (blk_new w (.cells #[.int .i64 p, .int .i64 o, .slice A2 ts.length c2, .slice A3 ns.length c3] 25))
  have HR0 := Aside0.mk (Kd.C_below hr2 HB0.out)
  obtain ⟨x0, x1, x2, x3⟩ := roll_cells BK0.out
  obtain ⟨R, hR⟩ : ∃ R, hOut ts off day p.toNat 0 (-1, []) = R := ⟨_, rfl⟩
  rw [hR]
  have HR := Aside0.mk hR
  clear hr2 hts hp hR
  go_enter Try.func22, Try.ntmps22
  go_wp2_with fail
  refine (rLearn_calls p o A2 c2 ts A3 c3 ns _ HR0.out HTS.out).mono ?_
  rintro e w1 ⟨AK, cK, rfl, hk, hb⟩
  have HB1 := Aside0.mk (below_then HB0.out HB0.out.size hb)
  have HK1 := Aside0.mk hk
  have HR1 := Aside0.mk (Kd.C_below HR0.out hb)
  have BK1 := Aside0.mk ((hb.block _ (blk_lt BK0.out)).trans BK0.out)
  clear hk hb x0 x1 x2 x3 HB0 BK0 HR0
  obtain ⟨x0, x1, x2, x3⟩ := roll_cells BK1.out
  go_wp2
  clear x0 x1 x2 x3
  go_loopg [9, 10, 11] p.toNat (fun kq v9 v10 v11 w' => ∃ (s : Int) (l : List Int) (q : Int), v9 = .int .i64 s ∧ v11 = .int .i64 q ∧ Aside0 (0 ≤ q ∧ kq = (p - q).toNat) ∧ Aside0 (hOut ts off day (p - q).toNat q (s, l) = R) ∧ Aside0 (l.length ≤ 45 * q.toNat) ∧ Aside0 (Kd.R (Kd.int .i64) 3 w' w1.heap.size (fun _ => True) v10 l) ∧ Aside0 (Below w1.heap.size w1 w'))
  case atStart => exact ⟨-1, [], 0, rfl, rfl, ⟨by simp⟩, ⟨by rw [Int.sub_zero]; exact HR.out⟩, ⟨by simp⟩, ⟨Kd.R_nil _ _ _ _ _⟩, ⟨Below.refl _ _⟩⟩
  case round =>
    clear HR
    obtain ⟨s, l, q, rfl, rfl, HQ, HE, HLE, HO, HB⟩ := hrel
    rename World => W1
    have BKW := Aside0.mk ((HB.out.block _ (blk_lt BK1.out)).trans BK1.out)
    obtain ⟨x0, x1, x2, x3⟩ := roll_cells BKW.out
    by_cases hlt : q < p
    case neg =>
      have t0 : decide (q < p) = false := decide_eq_false hlt
      have he := HE.out
      rw [show (p - q).toNat = 0 by omega] at he
      obtain rfl : (s, l) = R := he
      obtain ⟨A, c, e⟩ := Kd.R_slice HO.out
      subst e
      have HC := Aside0.mk (Kd.R_reads' HO.out).2
      clear hlt HE HO
      go_wp2
      refine bodyPost_ret (results_tmp2 rfl _ _ _) rfl ?_
      exact ⟨A, c, rfl, HC.out.1, HC.out.2, below_then HB1.out HB1.out.size HB.out⟩
    case pos =>
      have t0 : decide (q < p) = true := decide_eq_true hlt
      have q0 : 0 ≤ q := HQ.out.1
      have HLT := Aside0.mk hlt
      have HW := Aside0.mk (show wrap64 (q + 1) = q + 1 by unfold wrap64; have := HP.out; omega)
      obtain ⟨g1, rfl⟩ : ∃ g1, gk = g1 + 1 := ⟨gk - 1, by have := HQ.out; omega⟩
      have HE1 := Aside0.mk (show hOut ts off day (p - (q + 1)).toNat (q + 1) (hIn ts off day q 0 (s, l)) = R by
        rw [← HE.out, show (p - q).toNat = (p - (q + 1)).toNat + 1 by omega, hOut])
      clear hlt q0 HE
      go_wp2
      clear x0 x1 x2 x3
      go_loopg [9, 10, 12] ts.length (fun kq v9 v10 v12 w' => ∃ (s : Int) (l : List Int) (j : Int), v9 = .int .i64 s ∧ v12 = .int .i64 j ∧ Aside0 (0 ≤ j ∧ kq + j.toNat = ts.length) ∧ Aside0 (hOut ts off day (p - (q + 1)).toNat (q + 1) (hIn ts off day q j (s, l)) = R) ∧ Aside0 (l.length ≤ 45 * q.toNat + j.toNat) ∧ Aside0 (Kd.R (Kd.int .i64) 3 w' w1.heap.size (fun _ => True) v10 l) ∧ Aside0 (Below w1.heap.size w1 w'))
      case atStart => exact ⟨s, l, 0, rfl, rfl, ⟨by simp⟩, HE1, ⟨by simpa using HLE.out⟩, HO, HB⟩
      case round =>
        clear HE1 HLE HO HB BKW
        obtain ⟨s, l, j, rfl, rfl, HJ, HE, HLE, HO, HB⟩ := hrel
        rename World => W2
        have BKW := Aside0.mk ((HB.out.block _ (blk_lt BK1.out)).trans BK1.out)
        obtain ⟨x0, x1, x2, x3⟩ := roll_cells BKW.out
        by_cases hjt : j < (ts.length : Int)
        case neg =>
          have t1 : decide (j < (ts.length : Int)) = false := decide_eq_false hjt
          have he := HE.out
          rw [hIn_end ts off day q j (by omega)] at he
          have HE1 := Aside0.mk he
          clear hjt he HE
          go_wp2
          go_roundg g1
          case measure => have := HQ.out; have := HLT.out; omega
          case rel => exact ⟨s, l, q + 1, rfl, by first | rfl | rw [HW.out], ⟨by have := HQ.out; have := HLT.out; omega⟩, HE1, ⟨by have := HLE.out; have := HJ.out; have := HTS.out; have := HQ.out; omega⟩, HO, HB⟩
        case pos =>
          have t1 : decide (j < (ts.length : Int)) = true := decide_eq_true hjt
          have j0 : 0 ≤ j := HJ.out.1
          have HWJ := Aside0.mk (show wrap64 (j + 1) = j + 1 by unfold wrap64; have := HTS.out; omega)
          have HJT := Aside0.mk hjt
          obtain ⟨ad, hA, q0, q1, q2, q3, q4, q5⟩ := at_T54 (Kd.C_below HR1.out HB.out) j j0 hjt
          obtain ⟨t, ht⟩ : ∃ t, rd_T54 ts j = t := ⟨_, rfl⟩
          rw [ht] at q0 q1 q2 q3 q4 q5
          cases hA
          obtain ⟨AL, cL, eL⟩ := Kd.R_slice HO.out
          subst eL
          have he := HE.out
          rw [hIn_step ts off day q j j0 (by omega)] at he
          unfold hStep at he
          rw [show ((j.toNat : Nat) : Int) = j by omega, ht] at he
          have HBd := Aside0.mk (below_alloc HB.out (.cells #[.int .i64 t.f0, .int .i64 t.f1, .int .i64 t.f2.f0, .int .i64 t.f2.f1, .int .i64 t.f3.f0, .int .i64 t.f3.f1] 54))
          have BTd := Aside0.mk (blk_new W2 (.cells #[.int .i64 t.f0, .int .i64 t.f1, .int .i64 t.f2.f0, .int .i64 t.f2.f1, .int .i64 t.f3.f0, .int .i64 t.f3.f1] 54))
          have HOd := Aside0.mk (Kd.R_alloc (o := .cells #[.int .i64 t.f0, .int .i64 t.f1, .int .i64 t.f2.f0, .int .i64 t.f2.f1, .int .i64 t.f3.f0, .int .i64 t.f3.f1] 54) HO.out)
          obtain ⟨z0, z1, z2, z3, z4, z5⟩ := six_cells BTd.out
          clear ht HE
          have j0' := j0
          replace j0 := eq_true j0
          replace hjt := eq_true hjt
          by_cases hq : t.f0 = q
          case neg =>
            have e1 : (t.f0 != q) = true := bne_iff_ne.mpr hq
            rw [if_pos (Or.inl hq)] at he
            have HE1 := Aside0.mk he
            clear he hq
            go_wp2
            go_roundg (gk - 1)
            case measure => have := HJ.out; have := HJT.out; omega
            case rel => exact ⟨s, l, j + 1, rfl, by first | rfl | rw [HWJ.out], ⟨by have := HJ.out; have := HJT.out; omega⟩, HE1, ⟨by have := HLE.out; have := HJ.out; omega⟩, HOd, HBd⟩
          have e1 : (t.f0 != q) = false := by rw [hq]; exact bne_self_eq_false _
          by_cases hof : t.f1 = off
          case neg =>
            have e2 : (t.f1 != off) = true := bne_iff_ne.mpr hof
            rw [if_pos (Or.inr hof)] at he
            have HE1 := Aside0.mk he
            clear he hof hq
            go_wp2
            go_roundg (gk - 1)
            case measure => have := HJ.out; have := HJT.out; omega
            case rel => exact ⟨s, l, j + 1, rfl, by first | rfl | rw [HWJ.out], ⟨by have := HJ.out; have := HJT.out; omega⟩, HE1, ⟨by have := HLE.out; have := HJ.out; omega⟩, HOd, HBd⟩
          have e2 : (t.f1 != off) = false := by rw [hof]; exact bne_self_eq_false _
          rw [if_neg (fun h => h.elim (fun h => h hq) (fun h => h hof))] at he
          simp only at he
          obtain ⟨S2, hS2⟩ : ∃ S2, (if withinB day t.f2.f1 (wrap64 (t.f3.f0 - 1)) = true then q else s) = S2 := ⟨_, rfl⟩
          rw [hS2] at he
          have HS2 := Aside0.mk hS2
          have HE1 := Aside0.mk he
          clear he hq hof hS2
          go_upto_if 52 with (go_at_call 29; (with_reducible refine (In_calls _ _ _ _).mono ?_); rintro e w' ⟨rfl, rfl⟩)
          go_cut [9] (fun v9 wc => v9 = .int .i64 S2 ∧ Aside0 (Below w1.heap.size w1 wc) ∧ Aside0 (Kd.R (Kd.int .i64) 3 wc w1.heap.size (fun _ => True) (.slice AL l.length cL) l))
          case first =>
            cases hin1 : withinB day t.f2.f1 (wrap64 (t.f3.f0 - 1))
            · have h9 := HS2.out
              rw [hin1, if_neg (by decide)] at h9
              subst h9
              clear HE1 HS2
              go_wp2
              go_meet
              case rel => exact ⟨rfl, HBd, HOd⟩
            · have h9 := HS2.out
              rw [hin1, if_pos rfl] at h9
              subst h9
              clear HE1 HS2
              go_wp2
              go_meet
              case rel => exact ⟨rfl, HBd, HOd⟩
          case rest =>
            clear q0 q1 q2 q3 q4 q5 z0 z1 z2 z3 z4 z5 x0 x1 x2 x3 HBd HOd BTd HS2 HB HO
            obtain ⟨rfl, HB, HO⟩ := hcut
            rename World => W3
            obtain ⟨ak, hAK, k0, k1, k2, k3⟩ := at_T117 (Kd.C_below HK1.out HB.out) j j0' HJT.out
            rw [known_rd ts j j0' (by have := HJT.out; omega)] at k0 k3
            obtain ⟨kb, hkb⟩ : ∃ x, (rKnownAt ts j.toNat).f0.f0 = x := ⟨_, rfl⟩
            obtain ⟨ke, hke⟩ : ∃ x, (rKnownAt ts j.toNat).f1.f1 = x := ⟨_, rfl⟩
            have he := HE1.out
            rw [hkb, hke] at he
            rw [hkb] at k0
            rw [hke] at k3
            have HL := Aside0.mk (Kd.R_reads' HO.out).2.2
            have HLL := Aside0.mk (show l.length ≤ 1000000 by have := HLE.out; have := HJ.out; have := HJT.out; have := HTS.out; have := HQ.out; have := HLT.out; have := HP.out; omega)
            cases hAK
            clear hkb hke HE1 k1 k2
            cases hin2 : withinB day kb (wrap64 (ke - 1))
            · rw [hin2, Bool.false_and, if_neg (by decide)] at he
              have HE2 := Aside0.mk he
              clear he
              go_wp2_with fail
              refine start_ (n := 21) (S := fun w' => w'.cell? (ak.add (j.toNat * 4)) = some (.int .i64 kb) ∧ w'.cell? ⟨(ak.add (j.toNat * 4)).block, (ak.add (j.toNat * 4)).off + 3, none⟩ = some (.int .i64 ke)) (ds := []) #[false, false, false, false, false, false, false, false, false, false, false, false, false, false, false, false, false, false, false, false, false] (by kernel_rfl) rfl rfl ⟨k0, k3⟩ (fun hHeld => ?_)
              have HB3 := Aside0.mk (below_drew1 HB.out)
              have HO3 := Aside0.mk (Kd.R_drew HO.out)
              have HL3 := Aside0.mk (show Kd.C (Kd.int .i64) W3.drew AL l.length l from (Kd.R_reads' HO3.out).2.2)
              clear HB HO HL
              have HB := HB3
              have HO := HO3
              have HL := HL3
              clear HB3 HO3 HL3
              generalize W3.drew = wd at HB HL HO hHeld ⊢
              refine pure_ (i := 0) (N := some 54) (v := ?_) (a' := ?_) #[true, false, false, false, false, false, false, false, false, false, false, false, false, false, false, false, false, false, false, false, false] rfl rfl (by kernel_rfl) (fun _ _ _ h => h) (Or.inl ⟨by rfl, ?_⟩) ?_ ?_
              rotate_left
              · intro w'
                go_simp
                with_reducible rfl
              rotate_left
              · simp only [Act.put, List.setIfInBounds_toArray, List.set_cons_zero, List.set_cons_succ, i64_w, i32_w]
                rfl
              refine pure_ (i := 1) (N := some 55) (v := ?_) (a' := ?_) #[true, true, false, false, false, false, false, false, false, false, false, false, false, false, false, false, false, false, false, false, false] rfl rfl (by kernel_rfl) (fun _ _ _ h => h) (Or.inl ⟨by rfl, ?_⟩) ?_ ?_
              rotate_left
              · intro w'
                go_simp
                with_reducible rfl
              rotate_left
              · simp only [Act.put, List.setIfInBounds_toArray, List.set_cons_zero, List.set_cons_succ, i64_w, i32_w]
                rfl
              refine pure_ (i := 2) (N := some 56) (v := ?_) (a' := ?_) #[true, true, true, false, false, false, false, false, false, false, false, false, false, false, false, false, false, false, false, false, false] rfl rfl (by kernel_rfl) (fun _ _ _ h => h) (Or.inl ⟨by rfl, ?_⟩) ?_ ?_
              rotate_left
              · intro w'
                go_simp
                with_reducible rfl
              rotate_left
              · simp only [Act.put, List.setIfInBounds_toArray, List.set_cons_zero, List.set_cons_succ, i64_w, i32_w]
                rfl
              refine pure_ (i := 3) (N := some 57) (v := ?_) (a' := ?_) #[true, true, true, true, false, false, false, false, false, false, false, false, false, false, false, false, false, false, false, false, false] rfl rfl (by kernel_rfl) (fun _ _ _ h => h) (Or.inl ⟨by rfl, ?_⟩) ?_ ?_
              rotate_left
              · intro w'
                go_simp
                with_reducible rfl
              rotate_left
              · simp only [Act.put, List.setIfInBounds_toArray, List.set_cons_zero, List.set_cons_succ, i64_w, i32_w]
                rfl
              refine pure_ (i := 4) (N := some 58) (v := ?_) (a' := ?_) #[true, true, true, true, true, false, false, false, false, false, false, false, false, false, false, false, false, false, false, false, false] rfl rfl (by kernel_rfl) (fun _ _ _ h => h) (Or.inl ⟨by rfl, ?_⟩) ?_ ?_
              rotate_left
              · intro w'
                go_simp
                with_reducible rfl
              rotate_left
              · simp only [Act.put, List.setIfInBounds_toArray, List.set_cons_zero, List.set_cons_succ, i64_w, i32_w]
                rfl
              refine pure_ (i := 5) (N := some 59) (v := ?_) (a' := ?_) #[true, true, true, true, true, true, false, false, false, false, false, false, false, false, false, false, false, false, false, false, false] rfl rfl (by kernel_rfl) (fun _ _ _ h => h) (Or.inl ⟨by rfl, ?_⟩) ?_ ?_
              rotate_left
              · intro w'
                go_simp
                with_reducible rfl
              rotate_left
              · simp only [Act.put, List.setIfInBounds_toArray, List.set_cons_zero, List.set_cons_succ, i64_w, i32_w]
                rfl
              refine pure_ (i := 7) (N := some 61) (v := ?_) (a' := ?_) #[true, true, true, true, true, true, false, true, false, false, false, false, false, false, false, false, false, false, false, false, false] rfl rfl (by kernel_rfl) (fun _ _ _ h => h) (Or.inl ⟨by rfl, ?_⟩) ?_ ?_
              rotate_left
              · intro w'
                go_simp
                with_reducible rfl
              rotate_left
              · simp only [Act.put, List.setIfInBounds_toArray, List.set_cons_zero, List.set_cons_succ, i64_w, i32_w]
                rfl
              refine pure_ (i := 8) (N := some 62) (v := ?_) (a' := ?_) #[true, true, true, true, true, true, false, true, true, false, false, false, false, false, false, false, false, false, false, false, false] rfl rfl (by kernel_rfl) (fun _ _ _ h => h) (Or.inl ⟨by rfl, ?_⟩) ?_ ?_
              rotate_left
              · intro w'
                go_simp
                with_reducible rfl
              rotate_left
              · simp only [Act.put, List.setIfInBounds_toArray, List.set_cons_zero, List.set_cons_succ, i64_w, i32_w]
                rfl
              refine pure_ (i := 9) (N := some 63) (v := ?_) (a' := ?_) #[true, true, true, true, true, true, false, true, true, true, false, false, false, false, false, false, false, false, false, false, false] rfl rfl (by kernel_rfl) (fun _ _ _ h => h) (Or.inl ⟨by rfl, ?_⟩) ?_ ?_
              rotate_left
              · intro w'
                go_simp
                with_reducible rfl
              rotate_left
              · simp only [Act.put, List.setIfInBounds_toArray, List.set_cons_zero, List.set_cons_succ, i64_w, i32_w]
                rfl
              refine pure_ (i := 10) (N := some 64) (v := ?_) (a' := ?_) #[true, true, true, true, true, true, false, true, true, true, true, false, false, false, false, false, false, false, false, false, false] rfl rfl (by kernel_rfl) (fun _ _ _ h => h) (Or.inl ⟨by rfl, ?_⟩) ?_ ?_
              rotate_left
              · intro w'
                go_simp
                with_reducible rfl
              rotate_left
              · simp only [Act.put, List.setIfInBounds_toArray, List.set_cons_zero, List.set_cons_succ, i64_w, i32_w]
                rfl
              refine pure_ (i := 11) (N := some 65) (v := ?_) (a' := ?_) #[true, true, true, true, true, true, false, true, true, true, true, true, false, false, false, false, false, false, false, false, false] rfl rfl (by kernel_rfl) (fun _ _ _ h => h) (Or.inl ⟨by rfl, ?_⟩) ?_ ?_
              rotate_left
              · intro w'
                go_simp
                with_reducible rfl
              rotate_left
              · simp only [Act.put, List.setIfInBounds_toArray, List.set_cons_zero, List.set_cons_succ, i64_w, i32_w]
                rfl
              refine take_ (i := 6) (N := some 60) (v := ?_) (a' := ?_) #[true, true, true, true, true, true, true, true, true, true, true, true, false, false, false, false, false, false, false, false, false] rfl rfl (by kernel_rfl) (fun _ _ _ h => h) (Or.inl ⟨by rfl, ?_⟩) hHeld ?_ ?_
              rotate_left
              · rintro w' ⟨s0, s1⟩
                go_simp
                with_reducible rfl
              rotate_left
              · simp only [Act.put, List.setIfInBounds_toArray, List.set_cons_zero, List.set_cons_succ, i64_w, i32_w]
                rfl
              refine take_ (i := 12) (N := some 66) (v := ?_) (a' := ?_) #[true, true, true, true, true, true, true, true, true, true, true, true, true, false, false, false, false, false, false, false, false] rfl rfl (by kernel_rfl) (fun _ _ _ h => h) (Or.inl ⟨by rfl, ?_⟩) hHeld ?_ ?_
              rotate_left
              · rintro w' ⟨s0, s1⟩
                go_simp
                with_reducible rfl
              rotate_left
              · simp only [Act.put, List.setIfInBounds_toArray, List.set_cons_zero, List.set_cons_succ, i64_w, i32_w]
                rfl
              refine pure_ (i := 13) (N := some 67) (v := ?_) (a' := ?_) #[true, true, true, true, true, true, true, true, true, true, true, true, true, true, false, false, false, false, false, false, false] rfl rfl (by kernel_rfl) (fun _ _ _ h => h) (Or.inl ⟨by rfl, ?_⟩) ?_ ?_
              rotate_left
              · intro w'
                go_simp
                with_reducible rfl
              rotate_left
              · simp only [Act.put, List.setIfInBounds_toArray, List.set_cons_zero, List.set_cons_succ, i64_w, i32_w]
                rfl
              refine one_ (i := 14) (N := some 68) #[true, true, true, true, true, true, true, true, true, true, true, true, true, true, true, false, false, false, false, false, false] rfl rfl (by kernel_rfl) (by decide) (fun K hK => ?_)
              refine goes_ Try.func29 (by kernel_rfl) rfl #[.int .i64 day, .int .i64 kb, .int .i64 (wrap64 (ke - 1))] (by rfl) rfl rfl (by simp only [List.map_toArray, List.map_cons, List.map_nil]; rfl) ?_
              with_reducible refine (In_calls _ _ _ _).mono ?_
              rintro e w3 ⟨rfl, rfl⟩
              refine ⟨_, rfl, ?_⟩
              rw [hin2]
              refine hK.out _ _ ⟨hHeld.1, hHeld.2⟩ (fun hHeld => ?_)
              clear hK K
              refine norm_ (a' := ?_) ?_ ?_
              rotate_left
              · show Act.put _ (some 68) _ = _
                simp only [Act.put, List.setIfInBounds_toArray, List.set_cons_zero, List.set_cons_succ, i64_w, i32_w]
                rfl
              refine pure_ (i := 15) (N := some 69) (v := ?_) (a' := ?_) #[true, true, true, true, true, true, true, true, true, true, true, true, true, true, true, true, false, false, false, false, false] rfl rfl (by kernel_rfl) (fun _ _ _ h => h) (Or.inl ⟨by rfl, ?_⟩) ?_ ?_
              rotate_left
              · intro w'
                go_simp
                with_reducible rfl
              rotate_left
              · simp only [Act.put, List.setIfInBounds_toArray, List.set_cons_zero, List.set_cons_succ, i64_w, i32_w]
                rfl
              refine pure_ (i := 16) (N := some 70) (v := undef) (a' := ?_) #[true, true, true, true, true, true, true, true, true, true, true, true, true, true, true, true, true, false, false, false, false] rfl rfl (by kernel_rfl) (fun _ _ _ h => h) (Or.inr ⟨by rfl, rfl⟩) ?_ ?_
              rotate_left
              · simp only [Act.put, List.setIfInBounds_toArray, List.set_cons_zero, List.set_cons_succ, i64_w, i32_w]
                rfl
              refine pure_ (i := 17) (N := some 71) (v := undef) (a' := ?_) #[true, true, true, true, true, true, true, true, true, true, true, true, true, true, true, true, true, true, false, false, false] rfl rfl (by kernel_rfl) (fun _ _ _ h => h) (Or.inr ⟨by rfl, rfl⟩) ?_ ?_
              rotate_left
              · simp only [Act.put, List.setIfInBounds_toArray, List.set_cons_zero, List.set_cons_succ, i64_w, i32_w]
                rfl
              refine pure_ (i := 18) (N := some 72) (v := undef) (a' := ?_) #[true, true, true, true, true, true, true, true, true, true, true, true, true, true, true, true, true, true, true, false, false] rfl rfl (by kernel_rfl) (fun _ _ _ h => h) (Or.inr ⟨by rfl, rfl⟩) ?_ ?_
              rotate_left
              · simp only [Act.put, List.setIfInBounds_toArray, List.set_cons_zero, List.set_cons_succ, i64_w, i32_w]
                rfl
              refine pure_ (i := 19) (N := some 73) (v := undef) (a' := ?_) #[true, true, true, true, true, true, true, true, true, true, true, true, true, true, true, true, true, true, true, true, false] rfl rfl (by kernel_rfl) (fun _ _ _ h => h) (Or.inr ⟨by rfl, rfl⟩) ?_ ?_
              rotate_left
              · simp only [Act.put, List.setIfInBounds_toArray, List.set_cons_zero, List.set_cons_succ, i64_w, i32_w]
                rfl
              refine pure_ (i := 20) (N := some 74) (v := ?_) (a' := ?_) #[true, true, true, true, true, true, true, true, true, true, true, true, true, true, true, true, true, true, true, true, true] rfl rfl (by kernel_rfl) (fun _ _ _ h => h) (Or.inl ⟨by rfl, ?_⟩) ?_ ?_
              rotate_left
              · intro w'
                go_simp
                with_reducible rfl
              rotate_left
              · simp only [Act.put, List.setIfInBounds_toArray, List.set_cons_zero, List.set_cons_succ, i64_w, i32_w]
                rfl
              refine done_ (by kernel_rfl) ?_
              clear k0 k3 hHeld
              go_wp2
              go_roundg (gk - 1)
              case measure => have := HJ.out; have := HJT.out; omega
              case rel => exact ⟨S2, l, j + 1, rfl, by first | rfl | rw [HWJ.out], ⟨by have := HJ.out; have := HJT.out; omega⟩, HE2, ⟨by have := HLE.out; have := HJ.out; omega⟩, HO, HB⟩
            · cases hhb : hasB l q
              · rw [hin2, hhb, Bool.not_false, Bool.and_true, if_pos rfl] at he
                have HE2 := Aside0.mk he
                clear he
                go_wp2_with fail
                refine start_ (n := 21) (S := fun w' => w'.cell? (ak.add (j.toNat * 4)) = some (.int .i64 kb) ∧ w'.cell? ⟨(ak.add (j.toNat * 4)).block, (ak.add (j.toNat * 4)).off + 3, none⟩ = some (.int .i64 ke)) (ds := [18]) #[false, false, false, false, false, false, false, false, false, false, false, false, false, false, false, false, false, false, false, false, false] (by kernel_rfl) rfl rfl ⟨k0, k3⟩ (fun hHeld => ?_)
                have HB3 := Aside0.mk (below_drew1 HB.out)
                have HO3 := Aside0.mk (Kd.R_drew HO.out)
                have HL3 := Aside0.mk (show Kd.C (Kd.int .i64) W3.drew AL l.length l from (Kd.R_reads' HO3.out).2.2)
                clear HB HO HL
                have HB := HB3
                have HO := HO3
                have HL := HL3
                clear HB3 HO3 HL3
                generalize W3.drew = wd at HB HL HO hHeld ⊢
                refine pure_ (i := 0) (N := some 54) (v := ?_) (a' := ?_) #[true, false, false, false, false, false, false, false, false, false, false, false, false, false, false, false, false, false, false, false, false] rfl rfl (by kernel_rfl) (fun _ _ _ h => h) (Or.inl ⟨by rfl, ?_⟩) ?_ ?_
                rotate_left
                · intro w'
                  go_simp
                  with_reducible rfl
                rotate_left
                · simp only [Act.put, List.setIfInBounds_toArray, List.set_cons_zero, List.set_cons_succ, i64_w, i32_w]
                  rfl
                refine pure_ (i := 1) (N := some 55) (v := ?_) (a' := ?_) #[true, true, false, false, false, false, false, false, false, false, false, false, false, false, false, false, false, false, false, false, false] rfl rfl (by kernel_rfl) (fun _ _ _ h => h) (Or.inl ⟨by rfl, ?_⟩) ?_ ?_
                rotate_left
                · intro w'
                  go_simp
                  with_reducible rfl
                rotate_left
                · simp only [Act.put, List.setIfInBounds_toArray, List.set_cons_zero, List.set_cons_succ, i64_w, i32_w]
                  rfl
                refine pure_ (i := 2) (N := some 56) (v := ?_) (a' := ?_) #[true, true, true, false, false, false, false, false, false, false, false, false, false, false, false, false, false, false, false, false, false] rfl rfl (by kernel_rfl) (fun _ _ _ h => h) (Or.inl ⟨by rfl, ?_⟩) ?_ ?_
                rotate_left
                · intro w'
                  go_simp
                  with_reducible rfl
                rotate_left
                · simp only [Act.put, List.setIfInBounds_toArray, List.set_cons_zero, List.set_cons_succ, i64_w, i32_w]
                  rfl
                refine pure_ (i := 3) (N := some 57) (v := ?_) (a' := ?_) #[true, true, true, true, false, false, false, false, false, false, false, false, false, false, false, false, false, false, false, false, false] rfl rfl (by kernel_rfl) (fun _ _ _ h => h) (Or.inl ⟨by rfl, ?_⟩) ?_ ?_
                rotate_left
                · intro w'
                  go_simp
                  with_reducible rfl
                rotate_left
                · simp only [Act.put, List.setIfInBounds_toArray, List.set_cons_zero, List.set_cons_succ, i64_w, i32_w]
                  rfl
                refine pure_ (i := 4) (N := some 58) (v := ?_) (a' := ?_) #[true, true, true, true, true, false, false, false, false, false, false, false, false, false, false, false, false, false, false, false, false] rfl rfl (by kernel_rfl) (fun _ _ _ h => h) (Or.inl ⟨by rfl, ?_⟩) ?_ ?_
                rotate_left
                · intro w'
                  go_simp
                  with_reducible rfl
                rotate_left
                · simp only [Act.put, List.setIfInBounds_toArray, List.set_cons_zero, List.set_cons_succ, i64_w, i32_w]
                  rfl
                refine pure_ (i := 5) (N := some 59) (v := ?_) (a' := ?_) #[true, true, true, true, true, true, false, false, false, false, false, false, false, false, false, false, false, false, false, false, false] rfl rfl (by kernel_rfl) (fun _ _ _ h => h) (Or.inl ⟨by rfl, ?_⟩) ?_ ?_
                rotate_left
                · intro w'
                  go_simp
                  with_reducible rfl
                rotate_left
                · simp only [Act.put, List.setIfInBounds_toArray, List.set_cons_zero, List.set_cons_succ, i64_w, i32_w]
                  rfl
                refine pure_ (i := 7) (N := some 61) (v := ?_) (a' := ?_) #[true, true, true, true, true, true, false, true, false, false, false, false, false, false, false, false, false, false, false, false, false] rfl rfl (by kernel_rfl) (fun _ _ _ h => h) (Or.inl ⟨by rfl, ?_⟩) ?_ ?_
                rotate_left
                · intro w'
                  go_simp
                  with_reducible rfl
                rotate_left
                · simp only [Act.put, List.setIfInBounds_toArray, List.set_cons_zero, List.set_cons_succ, i64_w, i32_w]
                  rfl
                refine pure_ (i := 8) (N := some 62) (v := ?_) (a' := ?_) #[true, true, true, true, true, true, false, true, true, false, false, false, false, false, false, false, false, false, false, false, false] rfl rfl (by kernel_rfl) (fun _ _ _ h => h) (Or.inl ⟨by rfl, ?_⟩) ?_ ?_
                rotate_left
                · intro w'
                  go_simp
                  with_reducible rfl
                rotate_left
                · simp only [Act.put, List.setIfInBounds_toArray, List.set_cons_zero, List.set_cons_succ, i64_w, i32_w]
                  rfl
                refine pure_ (i := 9) (N := some 63) (v := ?_) (a' := ?_) #[true, true, true, true, true, true, false, true, true, true, false, false, false, false, false, false, false, false, false, false, false] rfl rfl (by kernel_rfl) (fun _ _ _ h => h) (Or.inl ⟨by rfl, ?_⟩) ?_ ?_
                rotate_left
                · intro w'
                  go_simp
                  with_reducible rfl
                rotate_left
                · simp only [Act.put, List.setIfInBounds_toArray, List.set_cons_zero, List.set_cons_succ, i64_w, i32_w]
                  rfl
                refine pure_ (i := 10) (N := some 64) (v := ?_) (a' := ?_) #[true, true, true, true, true, true, false, true, true, true, true, false, false, false, false, false, false, false, false, false, false] rfl rfl (by kernel_rfl) (fun _ _ _ h => h) (Or.inl ⟨by rfl, ?_⟩) ?_ ?_
                rotate_left
                · intro w'
                  go_simp
                  with_reducible rfl
                rotate_left
                · simp only [Act.put, List.setIfInBounds_toArray, List.set_cons_zero, List.set_cons_succ, i64_w, i32_w]
                  rfl
                refine pure_ (i := 11) (N := some 65) (v := ?_) (a' := ?_) #[true, true, true, true, true, true, false, true, true, true, true, true, false, false, false, false, false, false, false, false, false] rfl rfl (by kernel_rfl) (fun _ _ _ h => h) (Or.inl ⟨by rfl, ?_⟩) ?_ ?_
                rotate_left
                · intro w'
                  go_simp
                  with_reducible rfl
                rotate_left
                · simp only [Act.put, List.setIfInBounds_toArray, List.set_cons_zero, List.set_cons_succ, i64_w, i32_w]
                  rfl
                refine take_ (i := 6) (N := some 60) (v := ?_) (a' := ?_) #[true, true, true, true, true, true, true, true, true, true, true, true, false, false, false, false, false, false, false, false, false] rfl rfl (by kernel_rfl) (fun _ _ _ h => h) (Or.inl ⟨by rfl, ?_⟩) hHeld ?_ ?_
                rotate_left
                · rintro w' ⟨s0, s1⟩
                  go_simp
                  with_reducible rfl
                rotate_left
                · simp only [Act.put, List.setIfInBounds_toArray, List.set_cons_zero, List.set_cons_succ, i64_w, i32_w]
                  rfl
                refine take_ (i := 12) (N := some 66) (v := ?_) (a' := ?_) #[true, true, true, true, true, true, true, true, true, true, true, true, true, false, false, false, false, false, false, false, false] rfl rfl (by kernel_rfl) (fun _ _ _ h => h) (Or.inl ⟨by rfl, ?_⟩) hHeld ?_ ?_
                rotate_left
                · rintro w' ⟨s0, s1⟩
                  go_simp
                  with_reducible rfl
                rotate_left
                · simp only [Act.put, List.setIfInBounds_toArray, List.set_cons_zero, List.set_cons_succ, i64_w, i32_w]
                  rfl
                refine pure_ (i := 13) (N := some 67) (v := ?_) (a' := ?_) #[true, true, true, true, true, true, true, true, true, true, true, true, true, true, false, false, false, false, false, false, false] rfl rfl (by kernel_rfl) (fun _ _ _ h => h) (Or.inl ⟨by rfl, ?_⟩) ?_ ?_
                rotate_left
                · intro w'
                  go_simp
                  with_reducible rfl
                rotate_left
                · simp only [Act.put, List.setIfInBounds_toArray, List.set_cons_zero, List.set_cons_succ, i64_w, i32_w]
                  rfl
                refine one_ (i := 14) (N := some 68) #[true, true, true, true, true, true, true, true, true, true, true, true, true, true, true, false, false, false, false, false, false] rfl rfl (by kernel_rfl) (by decide) (fun K hK => ?_)
                refine goes_ Try.func29 (by kernel_rfl) rfl #[.int .i64 day, .int .i64 kb, .int .i64 (wrap64 (ke - 1))] (by rfl) rfl rfl (by simp only [List.map_toArray, List.map_cons, List.map_nil]; rfl) ?_
                with_reducible refine (In_calls _ _ _ _).mono ?_
                rintro e w3 ⟨rfl, rfl⟩
                refine ⟨_, rfl, ?_⟩
                rw [hin2]
                refine hK.out _ _ ⟨hHeld.1, hHeld.2⟩ (fun hHeld => ?_)
                clear hK K
                refine norm_ (a' := ?_) ?_ ?_
                rotate_left
                · show Act.put _ (some 68) _ = _
                  simp only [Act.put, List.setIfInBounds_toArray, List.set_cons_zero, List.set_cons_succ, i64_w, i32_w]
                  rfl
                refine pure_ (i := 15) (N := some 69) (v := ?_) (a' := ?_) #[true, true, true, true, true, true, true, true, true, true, true, true, true, true, true, true, false, false, false, false, false] rfl rfl (by kernel_rfl) (fun _ _ _ h => h) (Or.inl ⟨by rfl, ?_⟩) ?_ ?_
                rotate_left
                · intro w'
                  go_simp
                  with_reducible rfl
                rotate_left
                · simp only [Act.put, List.setIfInBounds_toArray, List.set_cons_zero, List.set_cons_succ, i64_w, i32_w]
                  rfl
                refine pure_ (i := 16) (N := some 70) (v := ?_) (a' := ?_) #[true, true, true, true, true, true, true, true, true, true, true, true, true, true, true, true, true, false, false, false, false] rfl rfl (by kernel_rfl) (fun _ _ _ h => h) (Or.inl ⟨by rfl, ?_⟩) ?_ ?_
                rotate_left
                · intro w'
                  go_simp
                  with_reducible rfl
                rotate_left
                · simp only [Act.put, List.setIfInBounds_toArray, List.set_cons_zero, List.set_cons_succ, i64_w, i32_w]
                  rfl
                refine pure_ (i := 17) (N := some 71) (v := ?_) (a' := ?_) #[true, true, true, true, true, true, true, true, true, true, true, true, true, true, true, true, true, true, false, false, false] rfl rfl (by kernel_rfl) (fun _ _ _ h => h) (Or.inl ⟨by rfl, ?_⟩) ?_ ?_
                rotate_left
                · intro w'
                  go_simp
                  with_reducible rfl
                rotate_left
                · simp only [Act.put, List.setIfInBounds_toArray, List.set_cons_zero, List.set_cons_succ, i64_w, i32_w]
                  rfl
                refine last_ (i := 18) (N := some 72) #[true, true, true, true, true, true, true, true, true, true, true, true, true, true, true, true, true, true, true, false, false] rfl rfl (by kernel_rfl) (by decide) (fun K hK => ?_)
                refine goes_ Try.func53 (by kernel_rfl) rfl #[.slice AL l.length cL, .int .i64 q] (by rfl) rfl rfl (by simp only [List.map_toArray, List.map_cons, List.map_nil]; rfl) ?_
                refine (Has_calls AL cL l q _ HL.out HLL.out).mono ?_
                rintro e w3 ⟨rfl, m9, rfl⟩
                refine ⟨_, rfl, ?_⟩
                refine hK.out _ _ ?_
                clear hK K
                refine norm_ (a' := ?_) ?_ ?_
                rotate_left
                · show Act.put _ (some 72) _ = _
                  simp only [Act.put, List.setIfInBounds_toArray, List.set_cons_zero, List.set_cons_succ, i64_w, i32_w]
                  rfl
                refine pure_ (i := 19) (N := some 73) (v := ?_) (a' := ?_) #[true, true, true, true, true, true, true, true, true, true, true, true, true, true, true, true, true, true, true, true, false] rfl rfl (by kernel_rfl) (fun _ _ _ h => h) (Or.inl ⟨by rfl, ?_⟩) ?_ ?_
                rotate_left
                · intro w'
                  go_simp
                  with_reducible rfl
                rotate_left
                · simp only [Act.put, List.setIfInBounds_toArray, List.set_cons_zero, List.set_cons_succ, i64_w, i32_w]
                  rfl
                refine pure_ (i := 20) (N := some 74) (v := ?_) (a' := ?_) #[true, true, true, true, true, true, true, true, true, true, true, true, true, true, true, true, true, true, true, true, true] rfl rfl (by kernel_rfl) (fun _ _ _ h => h) (Or.inl ⟨by rfl, ?_⟩) ?_ ?_
                rotate_left
                · intro w'
                  go_simp
                  with_reducible rfl
                rotate_left
                · simp only [Act.put, List.setIfInBounds_toArray, List.set_cons_zero, List.set_cons_succ, i64_w, i32_w]
                  rfl
                refine done_ (by kernel_rfl) ?_
                have HB4 := Aside0.mk (pw_below_drewN HB.out m9)
                have HO4 := Aside0.mk (Kd.R_drewN HO.out m9)
                clear HB HO HL k0 k3 hHeld
                generalize wd.drewN m9 = w5 at HB4 HO4 ⊢
                go_wp2_with ((with_reducible refine gate_builtin (b := .append) (xs := #[.tmp 75, .tmp 77]) rfl ?_); at_builtin; refine Kd.R_append (Kd.int .i64) (w0 := w1) w1.heap.size rfl (.tmp 75) (.tmp 77) 28 3 (.int .i64 0) 8 rfl Try.underlying28 info3 rfl (by decide) (by omega) (.slice AL l.length cL) l q [.int .i64 q] (fun _ => True) (fun _ => False) rfl rfl ?aP (fun _ hk => hk.elim) ?aF ?aO ?aB ?aS ?aL ?_; (case aP => exact rfl); (case aB => exact HB4.out); (case aF => exact (fun _ _ => trivial)); (case aO => exact HO4.out); (case aS => exact below_size HB4.out); (case aL => have := HLL.out; omega); intro v6 w6 ho hb hg hat; have HO5 := Aside0.mk ho; have HB5 := Aside0.mk hb; clear ho hb hg hat)
                go_roundg (gk - 1)
                case measure => have := HJ.out; have := HJT.out; omega
                case rel => exact ⟨S2, l ++ [q], j + 1, rfl, by first | rfl | rw [HWJ.out], ⟨by have := HJ.out; have := HJT.out; omega⟩, HE2, ⟨by rw [List.length_append, List.length_singleton]; have := HLE.out; have := HJ.out; omega⟩, HO5, HB5⟩
              · rw [hin2, hhb, Bool.not_true, Bool.and_false, if_neg (by decide)] at he
                have HE2 := Aside0.mk he
                clear he
                go_wp2_with fail
                refine start_ (n := 21) (S := fun w' => w'.cell? (ak.add (j.toNat * 4)) = some (.int .i64 kb) ∧ w'.cell? ⟨(ak.add (j.toNat * 4)).block, (ak.add (j.toNat * 4)).off + 3, none⟩ = some (.int .i64 ke)) (ds := [18]) #[false, false, false, false, false, false, false, false, false, false, false, false, false, false, false, false, false, false, false, false, false] (by kernel_rfl) rfl rfl ⟨k0, k3⟩ (fun hHeld => ?_)
                have HB3 := Aside0.mk (below_drew1 HB.out)
                have HO3 := Aside0.mk (Kd.R_drew HO.out)
                have HL3 := Aside0.mk (show Kd.C (Kd.int .i64) W3.drew AL l.length l from (Kd.R_reads' HO3.out).2.2)
                clear HB HO HL
                have HB := HB3
                have HO := HO3
                have HL := HL3
                clear HB3 HO3 HL3
                generalize W3.drew = wd at HB HL HO hHeld ⊢
                refine pure_ (i := 0) (N := some 54) (v := ?_) (a' := ?_) #[true, false, false, false, false, false, false, false, false, false, false, false, false, false, false, false, false, false, false, false, false] rfl rfl (by kernel_rfl) (fun _ _ _ h => h) (Or.inl ⟨by rfl, ?_⟩) ?_ ?_
                rotate_left
                · intro w'
                  go_simp
                  with_reducible rfl
                rotate_left
                · simp only [Act.put, List.setIfInBounds_toArray, List.set_cons_zero, List.set_cons_succ, i64_w, i32_w]
                  rfl
                refine pure_ (i := 1) (N := some 55) (v := ?_) (a' := ?_) #[true, true, false, false, false, false, false, false, false, false, false, false, false, false, false, false, false, false, false, false, false] rfl rfl (by kernel_rfl) (fun _ _ _ h => h) (Or.inl ⟨by rfl, ?_⟩) ?_ ?_
                rotate_left
                · intro w'
                  go_simp
                  with_reducible rfl
                rotate_left
                · simp only [Act.put, List.setIfInBounds_toArray, List.set_cons_zero, List.set_cons_succ, i64_w, i32_w]
                  rfl
                refine pure_ (i := 2) (N := some 56) (v := ?_) (a' := ?_) #[true, true, true, false, false, false, false, false, false, false, false, false, false, false, false, false, false, false, false, false, false] rfl rfl (by kernel_rfl) (fun _ _ _ h => h) (Or.inl ⟨by rfl, ?_⟩) ?_ ?_
                rotate_left
                · intro w'
                  go_simp
                  with_reducible rfl
                rotate_left
                · simp only [Act.put, List.setIfInBounds_toArray, List.set_cons_zero, List.set_cons_succ, i64_w, i32_w]
                  rfl
                refine pure_ (i := 3) (N := some 57) (v := ?_) (a' := ?_) #[true, true, true, true, false, false, false, false, false, false, false, false, false, false, false, false, false, false, false, false, false] rfl rfl (by kernel_rfl) (fun _ _ _ h => h) (Or.inl ⟨by rfl, ?_⟩) ?_ ?_
                rotate_left
                · intro w'
                  go_simp
                  with_reducible rfl
                rotate_left
                · simp only [Act.put, List.setIfInBounds_toArray, List.set_cons_zero, List.set_cons_succ, i64_w, i32_w]
                  rfl
                refine pure_ (i := 4) (N := some 58) (v := ?_) (a' := ?_) #[true, true, true, true, true, false, false, false, false, false, false, false, false, false, false, false, false, false, false, false, false] rfl rfl (by kernel_rfl) (fun _ _ _ h => h) (Or.inl ⟨by rfl, ?_⟩) ?_ ?_
                rotate_left
                · intro w'
                  go_simp
                  with_reducible rfl
                rotate_left
                · simp only [Act.put, List.setIfInBounds_toArray, List.set_cons_zero, List.set_cons_succ, i64_w, i32_w]
                  rfl
                refine pure_ (i := 5) (N := some 59) (v := ?_) (a' := ?_) #[true, true, true, true, true, true, false, false, false, false, false, false, false, false, false, false, false, false, false, false, false] rfl rfl (by kernel_rfl) (fun _ _ _ h => h) (Or.inl ⟨by rfl, ?_⟩) ?_ ?_
                rotate_left
                · intro w'
                  go_simp
                  with_reducible rfl
                rotate_left
                · simp only [Act.put, List.setIfInBounds_toArray, List.set_cons_zero, List.set_cons_succ, i64_w, i32_w]
                  rfl
                refine pure_ (i := 7) (N := some 61) (v := ?_) (a' := ?_) #[true, true, true, true, true, true, false, true, false, false, false, false, false, false, false, false, false, false, false, false, false] rfl rfl (by kernel_rfl) (fun _ _ _ h => h) (Or.inl ⟨by rfl, ?_⟩) ?_ ?_
                rotate_left
                · intro w'
                  go_simp
                  with_reducible rfl
                rotate_left
                · simp only [Act.put, List.setIfInBounds_toArray, List.set_cons_zero, List.set_cons_succ, i64_w, i32_w]
                  rfl
                refine pure_ (i := 8) (N := some 62) (v := ?_) (a' := ?_) #[true, true, true, true, true, true, false, true, true, false, false, false, false, false, false, false, false, false, false, false, false] rfl rfl (by kernel_rfl) (fun _ _ _ h => h) (Or.inl ⟨by rfl, ?_⟩) ?_ ?_
                rotate_left
                · intro w'
                  go_simp
                  with_reducible rfl
                rotate_left
                · simp only [Act.put, List.setIfInBounds_toArray, List.set_cons_zero, List.set_cons_succ, i64_w, i32_w]
                  rfl
                refine pure_ (i := 9) (N := some 63) (v := ?_) (a' := ?_) #[true, true, true, true, true, true, false, true, true, true, false, false, false, false, false, false, false, false, false, false, false] rfl rfl (by kernel_rfl) (fun _ _ _ h => h) (Or.inl ⟨by rfl, ?_⟩) ?_ ?_
                rotate_left
                · intro w'
                  go_simp
                  with_reducible rfl
                rotate_left
                · simp only [Act.put, List.setIfInBounds_toArray, List.set_cons_zero, List.set_cons_succ, i64_w, i32_w]
                  rfl
                refine pure_ (i := 10) (N := some 64) (v := ?_) (a' := ?_) #[true, true, true, true, true, true, false, true, true, true, true, false, false, false, false, false, false, false, false, false, false] rfl rfl (by kernel_rfl) (fun _ _ _ h => h) (Or.inl ⟨by rfl, ?_⟩) ?_ ?_
                rotate_left
                · intro w'
                  go_simp
                  with_reducible rfl
                rotate_left
                · simp only [Act.put, List.setIfInBounds_toArray, List.set_cons_zero, List.set_cons_succ, i64_w, i32_w]
                  rfl
                refine pure_ (i := 11) (N := some 65) (v := ?_) (a' := ?_) #[true, true, true, true, true, true, false, true, true, true, true, true, false, false, false, false, false, false, false, false, false] rfl rfl (by kernel_rfl) (fun _ _ _ h => h) (Or.inl ⟨by rfl, ?_⟩) ?_ ?_
                rotate_left
                · intro w'
                  go_simp
                  with_reducible rfl
                rotate_left
                · simp only [Act.put, List.setIfInBounds_toArray, List.set_cons_zero, List.set_cons_succ, i64_w, i32_w]
                  rfl
                refine take_ (i := 6) (N := some 60) (v := ?_) (a' := ?_) #[true, true, true, true, true, true, true, true, true, true, true, true, false, false, false, false, false, false, false, false, false] rfl rfl (by kernel_rfl) (fun _ _ _ h => h) (Or.inl ⟨by rfl, ?_⟩) hHeld ?_ ?_
                rotate_left
                · rintro w' ⟨s0, s1⟩
                  go_simp
                  with_reducible rfl
                rotate_left
                · simp only [Act.put, List.setIfInBounds_toArray, List.set_cons_zero, List.set_cons_succ, i64_w, i32_w]
                  rfl
                refine take_ (i := 12) (N := some 66) (v := ?_) (a' := ?_) #[true, true, true, true, true, true, true, true, true, true, true, true, true, false, false, false, false, false, false, false, false] rfl rfl (by kernel_rfl) (fun _ _ _ h => h) (Or.inl ⟨by rfl, ?_⟩) hHeld ?_ ?_
                rotate_left
                · rintro w' ⟨s0, s1⟩
                  go_simp
                  with_reducible rfl
                rotate_left
                · simp only [Act.put, List.setIfInBounds_toArray, List.set_cons_zero, List.set_cons_succ, i64_w, i32_w]
                  rfl
                refine pure_ (i := 13) (N := some 67) (v := ?_) (a' := ?_) #[true, true, true, true, true, true, true, true, true, true, true, true, true, true, false, false, false, false, false, false, false] rfl rfl (by kernel_rfl) (fun _ _ _ h => h) (Or.inl ⟨by rfl, ?_⟩) ?_ ?_
                rotate_left
                · intro w'
                  go_simp
                  with_reducible rfl
                rotate_left
                · simp only [Act.put, List.setIfInBounds_toArray, List.set_cons_zero, List.set_cons_succ, i64_w, i32_w]
                  rfl
                refine one_ (i := 14) (N := some 68) #[true, true, true, true, true, true, true, true, true, true, true, true, true, true, true, false, false, false, false, false, false] rfl rfl (by kernel_rfl) (by decide) (fun K hK => ?_)
                refine goes_ Try.func29 (by kernel_rfl) rfl #[.int .i64 day, .int .i64 kb, .int .i64 (wrap64 (ke - 1))] (by rfl) rfl rfl (by simp only [List.map_toArray, List.map_cons, List.map_nil]; rfl) ?_
                with_reducible refine (In_calls _ _ _ _).mono ?_
                rintro e w3 ⟨rfl, rfl⟩
                refine ⟨_, rfl, ?_⟩
                rw [hin2]
                refine hK.out _ _ ⟨hHeld.1, hHeld.2⟩ (fun hHeld => ?_)
                clear hK K
                refine norm_ (a' := ?_) ?_ ?_
                rotate_left
                · show Act.put _ (some 68) _ = _
                  simp only [Act.put, List.setIfInBounds_toArray, List.set_cons_zero, List.set_cons_succ, i64_w, i32_w]
                  rfl
                refine pure_ (i := 15) (N := some 69) (v := ?_) (a' := ?_) #[true, true, true, true, true, true, true, true, true, true, true, true, true, true, true, true, false, false, false, false, false] rfl rfl (by kernel_rfl) (fun _ _ _ h => h) (Or.inl ⟨by rfl, ?_⟩) ?_ ?_
                rotate_left
                · intro w'
                  go_simp
                  with_reducible rfl
                rotate_left
                · simp only [Act.put, List.setIfInBounds_toArray, List.set_cons_zero, List.set_cons_succ, i64_w, i32_w]
                  rfl
                refine pure_ (i := 16) (N := some 70) (v := ?_) (a' := ?_) #[true, true, true, true, true, true, true, true, true, true, true, true, true, true, true, true, true, false, false, false, false] rfl rfl (by kernel_rfl) (fun _ _ _ h => h) (Or.inl ⟨by rfl, ?_⟩) ?_ ?_
                rotate_left
                · intro w'
                  go_simp
                  with_reducible rfl
                rotate_left
                · simp only [Act.put, List.setIfInBounds_toArray, List.set_cons_zero, List.set_cons_succ, i64_w, i32_w]
                  rfl
                refine pure_ (i := 17) (N := some 71) (v := ?_) (a' := ?_) #[true, true, true, true, true, true, true, true, true, true, true, true, true, true, true, true, true, true, false, false, false] rfl rfl (by kernel_rfl) (fun _ _ _ h => h) (Or.inl ⟨by rfl, ?_⟩) ?_ ?_
                rotate_left
                · intro w'
                  go_simp
                  with_reducible rfl
                rotate_left
                · simp only [Act.put, List.setIfInBounds_toArray, List.set_cons_zero, List.set_cons_succ, i64_w, i32_w]
                  rfl
                refine last_ (i := 18) (N := some 72) #[true, true, true, true, true, true, true, true, true, true, true, true, true, true, true, true, true, true, true, false, false] rfl rfl (by kernel_rfl) (by decide) (fun K hK => ?_)
                refine goes_ Try.func53 (by kernel_rfl) rfl #[.slice AL l.length cL, .int .i64 q] (by rfl) rfl rfl (by simp only [List.map_toArray, List.map_cons, List.map_nil]; rfl) ?_
                refine (Has_calls AL cL l q _ HL.out HLL.out).mono ?_
                rintro e w3 ⟨rfl, m9, rfl⟩
                refine ⟨_, rfl, ?_⟩
                refine hK.out _ _ ?_
                clear hK K
                refine norm_ (a' := ?_) ?_ ?_
                rotate_left
                · show Act.put _ (some 72) _ = _
                  simp only [Act.put, List.setIfInBounds_toArray, List.set_cons_zero, List.set_cons_succ, i64_w, i32_w]
                  rfl
                refine pure_ (i := 19) (N := some 73) (v := ?_) (a' := ?_) #[true, true, true, true, true, true, true, true, true, true, true, true, true, true, true, true, true, true, true, true, false] rfl rfl (by kernel_rfl) (fun _ _ _ h => h) (Or.inl ⟨by rfl, ?_⟩) ?_ ?_
                rotate_left
                · intro w'
                  go_simp
                  with_reducible rfl
                rotate_left
                · simp only [Act.put, List.setIfInBounds_toArray, List.set_cons_zero, List.set_cons_succ, i64_w, i32_w]
                  rfl
                refine pure_ (i := 20) (N := some 74) (v := ?_) (a' := ?_) #[true, true, true, true, true, true, true, true, true, true, true, true, true, true, true, true, true, true, true, true, true] rfl rfl (by kernel_rfl) (fun _ _ _ h => h) (Or.inl ⟨by rfl, ?_⟩) ?_ ?_
                rotate_left
                · intro w'
                  go_simp
                  with_reducible rfl
                rotate_left
                · simp only [Act.put, List.setIfInBounds_toArray, List.set_cons_zero, List.set_cons_succ, i64_w, i32_w]
                  rfl
                refine done_ (by kernel_rfl) ?_
                have HB4 := Aside0.mk (pw_below_drewN HB.out m9)
                have HO4 := Aside0.mk (Kd.R_drewN HO.out m9)
                clear HB HO HL k0 k3 hHeld
                generalize wd.drewN m9 = w5 at HB4 HO4 ⊢
                go_wp2
                go_roundg (gk - 1)
                case measure => have := HJ.out; have := HJT.out; omega
                case rel => exact ⟨S2, l, j + 1, rfl, by first | rfl | rw [HWJ.out], ⟨by have := HJ.out; have := HJT.out; omega⟩, HE2, ⟨by have := HLE.out; have := HJ.out; omega⟩, HO4, HB4⟩
end Go.Proofs.Ythpheknchikodaa.P

/- The reference's Holds and the program's answer the same. Conditions: the roll is as described, no two terms clash. -/
namespace Go.Proofs.Ythpheknchikodaa.P
open Go.RowKit Go.Proofs.YthpheknchikodaaW.PrintWords Go.Proofs.YthpheknchikodaaW.PrintLast
set_option linter.unusedVariables false
set_option linter.unusedSimpArgs false

theorem sorted_same : ∀ {l m : List Int}, l.Pairwise (· < ·) → m.Pairwise (· < ·) → (∀ q, q ∈ l ↔ q ∈ m) → l = m
  | [], [], _, _, _ => rfl
  | [], b :: m, _, _, h => absurd ((h b).2 (by simp)) (by simp)
  | a :: l, [], _, _, h => absurd ((h a).1 (by simp)) (by simp)
  | a :: l, b :: m, hl, hm, h => by
    rw [List.pairwise_cons] at hl hm
    have h1 := (h a).1 (by simp)
    have h2 := (h b).2 (by simp)
    have e : a = b := by
      rcases List.mem_cons.1 h1 with e | h1
      · exact e
      · rcases List.mem_cons.1 h2 with e | h2
        · exact e.symm
        · have := hl.1 b h2; have := hm.1 a h1; omega
    subst e
    rw [sorted_same hl.2 hm.2 (fun q => ?_)]
    constructor
    · intro hq
      rcases List.mem_cons.1 ((h q).1 (List.mem_cons_of_mem _ hq)) with e | h3
      · subst e; have := hl.1 _ hq; omega
      · exact h3
    · intro hq
      rcases List.mem_cons.1 ((h q).2 (List.mem_cons_of_mem _ hq)) with e | h3
      · subst e; have := hm.1 _ hq; omega
      · exact h3
section
variable {p o : Int} {ts : List S54}
theorem tAt_nat (i : Nat) (h : i < ts.length) : tAt (ts.map toT) i = toT (rd_T54 ts i) := by
  have := tAt_rd ts (i : Int) (by simpa using h)
  simpa using this
theorem hasB_iff (l : List Int) (q : Int) : hasB l q = true ↔ q ∈ l := by
  unfold hasB
  simp [List.any_eq_true]
open Classical in
/-- One step, in the plain words. -/
theorem hStep_plain (hR : RollOk p o (ts.map toT)) (hc : NoClash (ts.map toT)) (off day q : Int) (a : Int × List Int) (i : Nat) (hi : i < ts.length) :
    hStep ts off day q a i = ((if Sure (ts.map toT) off day i ∧ (tAt (ts.map toT) i).f0 = q then q else a.1), (if (May (ts.map toT) off day i ∧ (tAt (ts.map toT) i).f0 = q) ∧ q ∉ a.2 then a.2 ++ [q] else a.2)) := by
  have hl : i < (ts.map toT).length := by simpa using hi
  have e := tAt_nat (ts := ts) i hi
  have hok := hR.ok i hl
  have hk := (known_range hR.ok hl).resolve_right (fun h => h hc)
  have f0 : (tAt (ts.map toT) i).f0 = (rd_T54 ts i).f0 := by rw [e]; rfl
  have f1 : (tAt (ts.map toT) i).f1 = (rd_T54 ts i).f1 := by rw [e]; rfl
  have f2 : (tAt (ts.map toT) i).f2.f1 = (rd_T54 ts i).f2.f1 := by rw [e]; rfl
  have f3 : (tAt (ts.map toT) i).f3.f0 = (rd_T54 ts i).f3.f0 := by rw [e]; rfl
  have hkb : (rKnownAt ts i).f0.f0 = (knownAt (ts.map toT) i).f0.f0 := rfl
  have hke : (rKnownAt ts i).f1.f1 = (knownAt (ts.map toT) i).f1.f1 := rfl
  have w1 : wrap64 ((rd_T54 ts i).f3.f0 - 1) = (rd_T54 ts i).f3.f0 - 1 := by unfold wrap64; omega
  have w2 : wrap64 ((rKnownAt ts i).f1.f1 - 1) = (rKnownAt ts i).f1.f1 - 1 := by rw [hke]; unfold wrap64; omega
  unfold hStep
  rw [w1, w2, hkb, hke]
  unfold Sure May
  rw [f0, f1, f2, f3]
  by_cases c : (rd_T54 ts i).f0 = q ∧ (rd_T54 ts i).f1 = off
  · obtain ⟨c1, c2⟩ := c
    rw [if_neg (by simp [c1, c2])]
    congr 1
    · unfold withinB
      by_cases d : (rd_T54 ts i).f2.f1 ≤ day ∧ day < (rd_T54 ts i).f3.f0
      · rw [if_pos (by simp; omega), if_pos ⟨⟨hl, c2, d.1, d.2⟩, c1⟩]
      · rw [if_neg (by simp; omega), if_neg (by rintro ⟨⟨_, _, h1, h2⟩, _⟩; exact d ⟨h1, h2⟩)]
    · have hb : (withinB day (knownAt (ts.map toT) i).f0.f0 ((knownAt (ts.map toT) i).f1.f1 - 1) && !hasB a.2 q) = true ↔ ((i < (ts.map toT).length ∧ (rd_T54 ts i).f1 = off ∧ (knownAt (ts.map toT) i).f0.f0 ≤ day ∧ day < (knownAt (ts.map toT) i).f1.f1) ∧ (rd_T54 ts i).f0 = q) ∧ q ∉ a.2 := by
        rw [Bool.and_eq_true, Bool.not_eq_true', ← Bool.not_eq_true, hasB_iff]
        unfold withinB
        simp only [Bool.and_eq_true, decide_eq_true_eq]
        constructor
        · rintro ⟨h1, h2⟩; exact ⟨⟨⟨hl, c2, by omega, by omega⟩, c1⟩, h2⟩
        · rintro ⟨⟨⟨_, _, h1, h2⟩, _⟩, h3⟩; exact ⟨by omega, h3⟩
      by_cases d : (withinB day (knownAt (ts.map toT) i).f0.f0 ((knownAt (ts.map toT) i).f1.f1 - 1) && !hasB a.2 q) = true
      · rw [if_pos d, if_pos (hb.1 d)]
      · rw [if_neg d, if_neg (fun h => d (hb.2 h))]
  · rw [if_pos (Classical.byCases (fun c1 : (rd_T54 ts i).f0 = q => Or.inr (fun h => c ⟨c1, h⟩)) (fun c1 => Or.inl c1))]
    rw [if_neg (by rintro ⟨⟨_, h, _⟩, h1⟩; exact c ⟨h1, h⟩), if_neg (by rintro ⟨⟨⟨_, h, _⟩, h1⟩, _⟩; exact c ⟨h1, h⟩)]
theorem hIn_plain (hR : RollOk p o (ts.map toT)) (hc : NoClash (ts.map toT)) (off day q : Int) (s : Int) (l : List Int) (hq : q ∉ l) :
    ∀ m, m ≤ ts.length → ∀ b, (List.range m).foldl (hStep ts off day q) (s, l) = b →
      ((b.1 = s ∧ ∀ i, i < m → ¬ (Sure (ts.map toT) off day i ∧ (tAt (ts.map toT) i).f0 = q)) ∨ ∃ i, Sure (ts.map toT) off day i ∧ (tAt (ts.map toT) i).f0 = q ∧ b.1 = q) ∧
      ((b.2 = l ∧ ∀ i, i < m → ¬ (May (ts.map toT) off day i ∧ (tAt (ts.map toT) i).f0 = q)) ∨ (b.2 = l ++ [q] ∧ ∃ i, May (ts.map toT) off day i ∧ (tAt (ts.map toT) i).f0 = q)) := by
  intro m
  induction m with
  | zero => intro _ b hb; subst hb; exact ⟨Or.inl ⟨rfl, fun i h => absurd h (by omega)⟩, Or.inl ⟨rfl, fun i h => absurd h (by omega)⟩⟩
  | succ m ih =>
    intro hm b hb
    obtain ⟨a, ha⟩ : ∃ a, (List.range m).foldl (hStep ts off day q) (s, l) = a := ⟨_, rfl⟩
    obtain ⟨h1, h2⟩ := ih (by omega) a ha
    rw [List.range_succ, List.foldl_append, ha] at hb
    have hb' : hStep ts off day q a m = b := hb
    rw [hStep_plain hR hc off day q a m (by omega)] at hb'
    subst hb'
    constructor
    · by_cases c : Sure (ts.map toT) off day m ∧ (tAt (ts.map toT) m).f0 = q
      · exact Or.inr ⟨m, c.1, c.2, by simp [c]⟩
      · simp only [if_neg c]
        rcases h1 with ⟨h1, h3⟩ | h1
        · refine Or.inl ⟨h1, fun i hi => ?_⟩
          by_cases e : i = m
          · subst e; exact c
          · exact h3 i (by omega)
        · exact Or.inr h1
    · rcases h2 with ⟨h2, h3⟩ | ⟨h2, h3⟩
      · by_cases c : May (ts.map toT) off day m ∧ (tAt (ts.map toT) m).f0 = q
        · refine Or.inr ⟨?_, m, c.1, c.2⟩
          rw [h2]
          simp only [if_pos (show (May (ts.map toT) off day m ∧ (tAt (ts.map toT) m).f0 = q) ∧ q ∉ l from ⟨c, hq⟩)]
        · refine Or.inl ⟨?_, fun i hi => ?_⟩
          · rw [h2]
            simp only [if_neg (show ¬ ((May (ts.map toT) off day m ∧ (tAt (ts.map toT) m).f0 = q) ∧ q ∉ l) from fun h => c h.1)]
          · by_cases e : i = m
            · subst e; exact c
            · exact h3 i (by omega)
      · refine Or.inr ⟨?_, h3⟩
        rw [h2]
        simp only [if_neg (show ¬ ((May (ts.map toT) off day m ∧ (tAt (ts.map toT) m).f0 = q) ∧ q ∉ l ++ [q]) from fun h => h.2 (by simp))]
theorem hIn_range (off day q : Int) (a : Int × List Int) : hIn ts off day q 0 a = (List.range ts.length).foldl (hStep ts off day q) a := by
  unfold hIn
  rw [List.range_eq_range']
  rfl
theorem hOut_plain (hR : RollOk p o (ts.map toT)) (hc : NoClash (ts.map toT)) (off day : Int) : ∀ (n : Nat) (q s : Int) (l : List Int), 0 ≤ q → q + n = p → l.Pairwise (· < ·) →
    (∀ x, x ∈ l ↔ x < q ∧ ∃ i, May (ts.map toT) off day i ∧ (tAt (ts.map toT) i).f0 = x) → ((s = -1 ∧ ∀ i, Sure (ts.map toT) off day i → ¬ (tAt (ts.map toT) i).f0 < q) ∨ ∃ i, Sure (ts.map toT) off day i ∧ s = (tAt (ts.map toT) i).f0) →
    hOut ts off day n q (s, l) = ((heldSpec (ts.map toT) off day).1, trueIdx 0 (heldSpec (ts.map toT) off day).2) := by
  intro n
  induction n with
  | zero =>
    intro q s l hq hqp hl hm hs
    obtain rfl : q = p := by omega
    show (s, l) = _
    congr 1
    · rcases held_surely hR.ok off day with ⟨h1, h2⟩ | ⟨i, h1, h2⟩
      · rcases hs with ⟨h3, h4⟩ | ⟨j, h3, h4⟩
        · rw [h1, h3]
        · exact absurd h3 (h2 j)
      · rcases hs with ⟨h3, h4⟩ | ⟨j, h3, h4⟩
        · exact absurd (hR.pers i h1.1).2 (h4 i h1)
        · obtain rfl := sure_alone hR.ok hc h1 (sure_may hR.ok hc h3)
          rw [h2, h4]
    · refine sorted_same hl (trueIdx_sorted _ 0) (fun x => ?_)
      rw [perhaps_mem hR hc off day x, hm x]
      constructor
      · exact fun h => h.2
      · rintro ⟨i, h1, rfl⟩; exact ⟨(hR.pers i h1.1).2, i, h1, rfl⟩
  | succ n ih =>
    intro q s l hq hqp hl hm hs
    rw [hOut]
    have hql : q ∉ l := fun h => by have := ((hm q).1 h).1; omega
    obtain ⟨b, hb⟩ : ∃ b, hIn ts off day q 0 (s, l) = b := ⟨_, rfl⟩
    rw [hb]
    rw [hIn_range] at hb
    obtain ⟨h1, h2⟩ := hIn_plain hR hc off day q s l hql ts.length (Nat.le_refl _) b hb
    obtain ⟨bs, bl⟩ := b
    simp only at h1 h2
    have hlen : ∀ i, May (ts.map toT) off day i → i < ts.length := fun i h => by simpa using h.1
    have hlen' : ∀ i, Sure (ts.map toT) off day i → i < ts.length := fun i h => by simpa using h.1
    refine ih (q + 1) bs bl (by omega) (by omega) ?_ (fun x => ?_) ?_
    · rcases h2 with ⟨rfl, _⟩ | ⟨rfl, _⟩
      · exact hl
      · rw [List.pairwise_append]
        exact ⟨hl, by simp, fun a ha b hb => by have := ((hm a).1 ha).1; simp at hb; omega⟩
    · rcases h2 with ⟨rfl, h3⟩ | ⟨rfl, j, h3, h4⟩
      · rw [hm x]
        constructor
        · rintro ⟨h5, h6⟩; exact ⟨by omega, h6⟩
        · rintro ⟨h5, i, h6, h7⟩
          refine ⟨?_, i, h6, h7⟩
          by_cases e : x = q
          · subst e; exact absurd ⟨h6, h7⟩ (h3 i (hlen i h6))
          · omega
      · rw [List.mem_append, hm x]
        constructor
        · rintro (⟨h5, h6⟩ | h5)
          · exact ⟨by omega, h6⟩
          · obtain rfl : x = q := by simpa using h5
            exact ⟨by omega, j, h3, h4⟩
        · rintro ⟨h5, h6⟩
          by_cases e : x = q
          · exact Or.inr (by simp [e])
          · exact Or.inl ⟨by omega, h6⟩
    · rcases h1 with ⟨rfl, h3⟩ | ⟨i, h3, h4, h5⟩
      · rcases hs with ⟨h6, h7⟩ | h6
        · refine Or.inl ⟨h6, fun i hi hlt => ?_⟩
          by_cases e : (tAt (ts.map toT) i).f0 = q
          · exact h3 i (hlen' i hi) ⟨hi, e⟩
          · exact h7 i hi (by omega)
        · exact Or.inr h6
      · exact Or.inr ⟨i, h3, by rw [h5, h4]⟩
theorem rHolds_same (hR : RollOk p o (ts.map toT)) (hc : NoClash (ts.map toT)) (off day : Int) : hOut ts off day p.toNat 0 (-1, []) = ((heldSpec (ts.map toT) off day).1, trueIdx 0 (heldSpec (ts.map toT) off day).2) :=
  hOut_plain hR hc off day p.toNat 0 (-1) [] (Int.le_refl _) (by have := hR.p1; omega) List.Pairwise.nil
    (fun x => ⟨fun h => (by simp at h), fun ⟨h, i, h1, h2⟩ => absurd (hR.pers i h1.1).1 (by omega)⟩)
    (Or.inl ⟨rfl, fun i hi h => absurd (hR.pers i hi.1).1 (by omega)⟩)
end
theorem ints_l0 (l : List Int) (hl : l.length ≤ 1000000) : ∀ (n : Nat) (i : Nat), i + n = l.length → palantypelaw05_ints.l0 (n + 1) l l (i : Int) = some true
  | 0, i, h => by
    rw [palantypelaw05_ints.l0, if_neg (by omega)]
  | n + 1, i, h => by
    rw [palantypelaw05_ints.l0, if_pos (by omega), if_pos (by omega), if_pos (by omega), if_pos rfl, w64 i (by omega)]
    exact ints_l0 l hl n (i + 1) (by omega)
theorem ints_self (l : List Int) (hl : l.length ≤ 1000000) : palantypelaw05_ints.f (l.length + 1) l l = some true := by
  unfold palantypelaw05_ints.f
  rw [if_pos rfl]
  exact ints_l0 l hl l.length 0 (by omega)
section
variable {p o : Int} {ts : List S54} {ns : List S88} {off day : Int}
theorem asked_zero {n most : Int} (h : askedOf p o ts ns n most day = 0) : RollOk p o (ts.map toT) ∧ NoClash (ts.map toT) := by
  unfold askedOf brokenOf at h
  by_cases c : faultOf p o ts ns = 0
  · have hR := rollOk_of (show rollFault p o (ts.map toT) (ns.map toN) = 0 from c)
    rw [if_pos c] at h
    split at h
    · split at h
      · cases h
      · rename_i d
        refine ⟨hR, (noClash_iff _).1 ?_⟩
        cases e : firstClash 0 (ts.map toT) with
        | none => rfl
        | some x => exact absurd (show (clashOf ts).isSome = true by unfold clashOf; rw [e]; rfl) d
    · cases h
  · rw [if_neg c] at h; exact absurd h c
theorem holds_asked : holdsSpec p o (ts.map toT) (ns.map toN) off day = if askedOf p o ts ns off o day = 0 then ((heldSpec (ts.map toT) off day).1, trueIdx 0 (heldSpec (ts.map toT) off day).2, (heldSpec (ts.map toT) off day).1 == -1, 0) else (0, [], false, askedOf p o ts ns off o day) := by
  have e1 : soundOf p o (ts.map toT) (ns.map toN) = brokenOf p o ts ns := rfl
  unfold holdsSpec
  rw [e1]
  unfold paskedOf askedOf
  rw [show rollFault p o (ts.map toT) (ns.map toN) = faultOf p o ts ns from rfl]
  by_cases c : faultOf p o ts ns = 0
  · rw [if_pos c, if_pos c]
    by_cases d : (withinB off 0 (wrap64 (o - 1)) && withinB day 0 100000) = true
    · rw [if_pos d, if_pos d, if_pos rfl]
    · rw [if_neg d, if_neg d, if_neg (by decide), if_neg (by decide)]
  · rw [if_neg c, if_neg c, if_neg c, if_neg c]
end
end Go.Proofs.Ythpheknchikodaa.P
