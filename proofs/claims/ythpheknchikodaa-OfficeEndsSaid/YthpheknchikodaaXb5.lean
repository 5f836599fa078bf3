/- Contracts of functions that the laws reach, part Xb5. Conditions: each theorem names its own. -/
import Derived.Test.YthpheknchikodaaXb3
import Derived.Test.YthpheknchikodaaXb4
import Derived.Test.YthpheknchikodaaXb1
import Derived.Test.YthpheknchikodaaXb2
/- The laws' own Thin and Roll, as plain words over lists. Conditions: the lists are no longer than the statements' guards let in. -/
namespace Go.Proofs.Ythpheknchikodaa.P
open Go.RowKit Go.Proofs.YthpheknchikodaaW.PrintWords Go.Proofs.YthpheknchikodaaW.PrintLast
set_option linter.unusedVariables false
set_option linter.unusedSimpArgs false

theorem Thin_l0 (p o : Int) (ts : List S54) (ns : List S88) : ∀ (n i : Nat), i + n = min ns.length 66 → Ev (fun k => palantypelaw05_Thin.l0 k (i : Int) p o ts ns) (((ns.take 66).drop i).all (fun n => decide (n.f2.size ≤ 40)) && (decide (ts.length ≤ 45) && decide (ns.length ≤ 65))) := by
  intro n
  induction n with
  | zero =>
    intro i hi
    refine Ev.step (f := fun k => palantypelaw05_Thin.j1 k (i : Int) false p o ts ns) (fun k => ?_) ?_
    · rw [palantypelaw05_Thin.l0]
      by_cases h : (i : Int) < (ns.length : Int)
      · rw [if_pos h, decide_eq_false (show ¬ (i : Int) < 66 by omega)]
      · rw [if_neg h]
    · refine Ev.step (fun k => palantypelaw05_Thin.j1.eq_2 ..) ?_
      rw [List.drop_eq_nil_of_le (by rw [List.length_take]; omega)]
      simp only [Bool.false_eq_true, if_false, List.all_nil, Bool.true_and]
      by_cases h : (ts.length : Int) ≤ 45
      · simp only [if_pos h, decide_eq_true (show ts.length ≤ 45 by omega), Bool.true_and]
        have e : decide ((ns.length : Int) ≤ 65) = decide (ns.length ≤ 65) := by rw [Bool.eq_iff_iff]; simp; omega
        rw [e]
        exact Ev.now _
      · simp only [if_neg h, decide_eq_false (show ¬ ts.length ≤ 45 by omega), Bool.false_and]
        exact Ev.now _
  | succ n ih =>
    intro i hi
    have hi' : i < ns.length := by omega
    have h1 : (i : Int) < (ns.length : Int) := by omega
    have h2 : (0 : Int) ≤ (i : Int) := by omega
    refine Ev.step (fun k => palantypelaw05_Thin.l0.eq_2 ..) ?_
    simp only [if_pos h1, decide_eq_true (show (i : Int) < 66 by omega)]
    refine Ev.step (fun k => palantypelaw05_Thin.j1.eq_2 ..) ?_
    have hl : i < (ns.take 66).length := by rw [List.length_take]; omega
    rw [List.drop_eq_getElem_cons hl, List.all_cons, List.getElem_take]
    have ih' := ih (i + 1) (by omega)
    simp only [if_true, if_pos h1, if_pos h2, rd88_get ns i hi', w64 i (by omega)]
    by_cases h3 : ((ns[i]).f2.size : Int) > 40
    · simp only [if_pos h3, decide_eq_false (show ¬ (ns[i]).f2.size ≤ 40 by omega), Bool.false_and]; exact Ev.now _
    · simp only [if_neg h3, decide_eq_true (show (ns[i]).f2.size ≤ 40 by omega), Bool.true_and]; exact ih'
theorem Thin_f (p o : Int) (ts : List S54) (ns : List S88) : Ev (fun k => palantypelaw05_Thin.f k p o ts ns) (thinB ts ns) :=
  Thin_l0 p o ts ns (min ns.length 66) 0 (by omega)
theorem Roll_l1 (p o : Int) (ts : List S54) (ns : List S88) (hns : ns.length ≤ 65) (P O : Int) (T : List S59) : ∀ (n i : Nat) (N : List S109), i + n = ns.length → N.length ≤ i → Ev (fun k => palantypelaw05_Roll.l1 k (i : Int) p o ts ns P O T N) (P, O, T, N ++ (ns.drop i).map toN) := by
  intro n
  induction n with
  | zero =>
    intro i N hi hN
    refine Ev.step (fun k => palantypelaw05_Roll.l1.eq_2 ..) ?_
    have h1 : ¬ ((i : Int) < (ns.length : Int)) := by omega
    rw [List.drop_eq_nil_of_le (by omega)]
    simp only [if_neg h1, List.map_nil, List.append_nil]
    exact Ev.now _
  | succ n ih =>
    intro i N hi hN
    refine Ev.step (fun k => palantypelaw05_Roll.l1.eq_2 ..) ?_
    have hi' : i < ns.length := by omega
    have h1 : (i : Int) < (ns.length : Int) := by omega
    have h2 : (0 : Int) ≤ (i : Int) := by omega
    have h3 : N.length < 4398046511104 := by omega
    rw [List.drop_eq_getElem_cons hi', List.map_cons]
    have ih' := ih (i + 1) (N ++ [toN ns[i]]) (by omega) (by simp; omega)
    rw [List.append_assoc, List.singleton_append] at ih'
    simp only [if_pos h1, if_pos h2, if_pos h3, rd88_get ns i hi', w64 i (by omega)]
    exact ih'
theorem Roll_l0 (p o : Int) (ts : List S54) (ns : List S88) (hts : ts.length ≤ 45) (hns : ns.length ≤ 65) (P O : Int) : ∀ (n i : Nat) (T : List S59), i + n = ts.length → T.length ≤ i → Ev (fun k => palantypelaw05_Roll.l0 k (i : Int) p o ts ns P O T) (P, O, T ++ (ts.drop i).map toT, ns.map toN) := by
  intro n
  induction n with
  | zero =>
    intro i T hi hT
    refine Ev.step (fun k => palantypelaw05_Roll.l0.eq_2 ..) ?_
    have h1 : ¬ ((i : Int) < (ts.length : Int)) := by omega
    rw [List.drop_eq_nil_of_le (by omega)]
    simp only [if_neg h1, List.map_nil, List.append_nil]
    have h := Roll_l1 p o ts ns hns P O T ns.length 0 [] (by omega) (by simp)
    rw [List.drop_zero, List.nil_append] at h
    exact h
  | succ n ih =>
    intro i T hi hT
    refine Ev.step (fun k => palantypelaw05_Roll.l0.eq_2 ..) ?_
    have hi' : i < ts.length := by omega
    have h1 : (i : Int) < (ts.length : Int) := by omega
    have h2 : (0 : Int) ≤ (i : Int) := by omega
    have h3 : T.length < 2932031007402 := by omega
    rw [List.drop_eq_getElem_cons hi', List.map_cons]
    have ih' := ih (i + 1) (T ++ [toT ts[i]]) (by omega) (by simp; omega)
    rw [List.append_assoc, List.singleton_append] at ih'
    simp only [if_pos h1, if_pos h2, if_pos h3, rd54_get ts i hi', w64 i (by omega), palantypelaw05_to.f, Option.bind_some]
    exact ih'
theorem Roll_f (p o : Int) (ts : List S54) (ns : List S88) (hts : ts.length ≤ 45) (hns : ns.length ≤ 65) : Ev (fun k => palantypelaw05_Roll.f k p o ts ns) (p, o, ts.map toT, ns.map toN) :=
  Roll_l0 p o ts ns hts hns p o ts.length 0 [] (by omega) (by simp)
end Go.Proofs.Ythpheknchikodaa.P

/- The walk of the reference's Fault: the error of a roll, by its words. Conditions: the lists are no longer than the statements' guards let in. -/
namespace Go.Proofs.Ythpheknchikodaa.P
open Go.RowKit Go.Proofs.YthpheknchikodaaW.PrintWords Go.Proofs.YthpheknchikodaaW.PrintLast
set_option linter.unusedVariables false
set_option linter.unusedSimpArgs false

theorem In_calls (n lo hi : Int) (w : World) : Calls Try.prog 29 #[.int .i64 n, .int .i64 lo, .int .i64 hi] w fun e w' => e = .returned (.bool (withinB n lo hi)) ∧ w = w' := by
  by_cases h : lo ≤ n
  · have h1 : decide (lo ≤ n) = true := decide_eq_true h
    have HE := Aside0.mk (show withinB n lo hi = decide (n ≤ hi) by unfold withinB; rw [h1, Bool.true_and])
    clear h
    go_enter Try.func29, Try.ntmps29
    go_wp2
    go_ret
    exact ⟨by rw [HE.out]; rfl, rfl⟩
  · have h1 : decide (lo ≤ n) = false := decide_eq_false h
    have HE := Aside0.mk (show withinB n lo hi = false by unfold withinB; rw [h1, Bool.false_and])
    clear h
    go_enter Try.func29, Try.ntmps29
    go_wp2
    go_ret
    exact ⟨by rw [HE.out]; rfl, rfl⟩
theorem Text_calls (s : ByteArray) (low : Int) (hs : s.size ≤ 1000000) (w : World) : Calls Try.prog 60 #[.string s, .int .u8 low] w fun e w' => e = .returned (.bool (textOk low s)) ∧ Below w.heap.size w w' := by
  obtain ⟨k, hk⟩ := (Text_f s low hs).rounds
  exact (palantyperef05_Text.calls k s low _ w hk).mono fun e w' h => ⟨h.1, h.2.below⟩
set_option maxHeartbeats 4000000 in
set_option maxRecDepth 100000 in
theorem Fault_calls (p o : Int) (A2 : Option Addr) (c2 : Nat) (ts : List S54) (A3 : Option Addr) (c3 : Nat) (ns : List S88) (w : World) (hr2 : Kd.C k54 w A2 ts.length ts) (hr3 : Kd.C k88 w A3 ns.length ns)
    (hts : ts.length ≤ 45) (hns : ns.length ≤ 65) (hsz : ∀ n ∈ ns, n.f2.size ≤ 1000000) :
    Calls Try.prog 30 #[.agg #[.int .i64 p, .int .i64 o, .slice A2 ts.length c2, .slice A3 ns.length c3]] w fun e w' => e = .returned (.int .i64 (faultOf p o ts ns)) ∧ Below w.heap.size w w' := by
  have HR2 := Aside0.mk hr2
  have HR3 := Aside0.mk hr3
  have HTS := Aside0.mk hts
  have HNS := Aside0.mk hns
  have HSZ := Aside0.mk hsz
  clear hr2 hr3 hts hns hsz
  have hu25 := Try.underlying25
  have hu54 := Try.underlying54
  have hu88 := Try.underlying88
  have hu52 := Try.underlying52
  have HB0 := fun O => Aside0.mk ((Below.refl w.heap.size w).alloc (Nat.le_refl _) O)
  obtain ⟨R, hR⟩ : ∃ R, R = faultOf p o ts ns := ⟨_, rfl⟩
  rw [← hR]
  unfold faultOf rollFault at hR
  rw [List.length_map, List.length_map] at hR
  cases h1 : withinB p 1 20
  · rw [h1] at hR
    have HE := Aside0.mk (show R = 1 from hR)
    clear hR
    go_enter Try.func30, Try.ntmps30
    go_wp2_with (go_at_call 29; (with_reducible refine (In_calls _ _ _ _).mono ?_); rintro e w' ⟨rfl, rfl⟩; (first | rw [h1]))
    go_ret
    exact ⟨by rw [HE.out]; rfl, (HB0 _).out⟩
  cases h2 : withinB o 1 10
  · rw [h1, h2] at hR
    have HE := Aside0.mk (show R = 1 from hR)
    clear hR
    go_enter Try.func30, Try.ntmps30
    go_wp2_with (go_at_call 29; (with_reducible refine (In_calls _ _ _ _).mono ?_); rintro e w' ⟨rfl, rfl⟩; (first | rw [h1] | rw [h2]))
    go_ret
    exact ⟨by rw [HE.out]; rfl, (HB0 _).out⟩
  rw [h1, h2] at hR
  by_cases h3 : ts.length ≤ 40
  case neg =>
    rw [decide_eq_false h3] at hR
    have HE := Aside0.mk (show R = 1 from hR)
    have h3' : decide (40 < ts.length) = true := decide_eq_true (by omega)
    have h3'' : decide ((40 : Int) < (ts.length : Int)) = true := decide_eq_true (by omega)
    clear h3 hR
    go_enter Try.func30, Try.ntmps30
    go_wp2_with (go_at_call 29; (with_reducible refine (In_calls _ _ _ _).mono ?_); rintro e w' ⟨rfl, rfl⟩; (first | rw [h1] | rw [h2]))
    go_ret
    exact ⟨by rw [HE.out]; rfl, (HB0 _).out⟩
  rw [decide_eq_true h3, Bool.true_and, Bool.true_and, Bool.true_and] at hR
  have HL40 := Aside0.mk h3
  have h3' : decide (40 < ts.length) = false := decide_eq_false (by omega)
  have h3'' : decide ((40 : Int) < (ts.length : Int)) = false := decide_eq_false (by omega)
  have HP := Aside0.mk (show 1 ≤ p ∧ p ≤ 20 by unfold withinB at h1; simp at h1; omega)
  have HO := Aside0.mk (show 1 ≤ o ∧ o ≤ 10 by unfold withinB at h2; simp at h2; omega)
  obtain ⟨X, hX⟩ : ∃ X : Int, X = if ns.length ≤ 60 then (if (ns.map toN).all (nameOk p) then (if dupFrom [] (ns.map toN) then 6 else 0) else 1) else 3 := ⟨_, rfl⟩
  rw [← hX] at hR
  have HX := Aside0.mk hX
  have HRR := Aside0.mk hR
  have hbk : ∀ O, (w.alloc O).heap[w.heap.size]? = some O := fun O => blk_new w O
  have HBK := fun O => Aside0.mk (hbk O)
  clear hX hR hbk h3
  have hp1 : 1 ≤ p := HP.out.1
  have hp2 : p ≤ 20 := HP.out.2
  have ho1 : 1 ≤ o := HO.out.1
  have ho2 : o ≤ 10 := HO.out.2
  go_enter Try.func30, Try.ntmps30
  go_wp2_with (go_at_call 29; (with_reducible refine (In_calls _ _ _ _).mono ?_); rintro e w' ⟨rfl, rfl⟩; (first | rw [h1] | rw [h2]))
  go_loopg [3] ts.length (fun kq v3 w' => ∃ i : Int, v3 = .int .i64 i ∧ Aside0 (0 ≤ i ∧ kq + i.toNat = ts.length) ∧ Aside0 (R = if ((ts.drop i.toNat).map toT).all (termOk p o) then X else 1) ∧ Aside0 (w'.heap[w.heap.size]? = some (.cells #[.int .i64 p, .int .i64 o, .slice A2 ts.length c2, .slice A3 ns.length c3] 25 (0, 0))) ∧ Aside0 (Below w.heap.size w w'))
  case atStart => exact ⟨0, rfl, ⟨by simp⟩, HRR, HBK _, HB0 _⟩
  case round =>
    obtain ⟨i, rfl, HI, HE, BK, HB⟩ := hrel
    obtain ⟨x0, x1, x2, x3⟩ := roll_cells BK.out
    clear HRR HBK HB0 h1 h2
    by_cases hlt : i < (ts.length : Int)
    case neg =>
      have t0 : decide (i < (ts.length : Int)) = false := decide_eq_false hlt
      have HE1 := Aside0.mk (show R = X by rw [HE.out, List.drop_eq_nil_of_le (by have := HI.out; omega)]; rfl)
      clear hlt
      by_cases h6 : ns.length ≤ 60
      case neg =>
        have HE2 := Aside0.mk (show R = 3 by rw [HE1.out, HX.out, if_neg h6])
        have k1 : decide (60 < ns.length) = true := decide_eq_true (by omega)
        have k2 : decide ((60 : Int) < (ns.length : Int)) = true := decide_eq_true (by omega)
        clear h6
        go_wp2
        go_ret
        exact ⟨by rw [HE2.out]; rfl, HB.out⟩
      have HE2 := Aside0.mk (show R = if ((ns.drop 0).map toN).all (nameOk p) then (if dupFrom [] (ns.map toN) then 6 else 0) else 1 by rw [HE1.out, HX.out, if_pos h6, List.drop_zero])
      have k1 : decide (60 < ns.length) = false := decide_eq_false (by omega)
      have k2 : decide ((60 : Int) < (ns.length : Int)) = false := decide_eq_false (by omega)
      clear h6
      go_wp2
      go_loopg [5] ns.length (fun kq v5 w' => ∃ i : Int, v5 = .int .i64 i ∧ Aside0 (0 ≤ i ∧ kq + i.toNat = ns.length) ∧ Aside0 (R = if ((ns.drop i.toNat).map toN).all (nameOk p) then (if dupFrom [] (ns.map toN) then 6 else 0) else 1) ∧ Aside0 (w'.heap[w.heap.size]? = some (.cells #[.int .i64 p, .int .i64 o, .slice A2 ts.length c2, .slice A3 ns.length c3] 25 (0, 0))) ∧ Aside0 (Below w.heap.size w w'))
      case atStart => exact ⟨0, rfl, ⟨by simp⟩, HE2, BK, HB⟩
      case round =>
        clear x0 x1 x2 x3 BK HB HI HE HE1 HE2 t0 k1 k2
        obtain ⟨i, rfl, HI, HE, BK, HB⟩ := hrel
        obtain ⟨x0, x1, x2, x3⟩ := roll_cells BK.out
        by_cases hlt : i < (ns.length : Int)
        case neg =>
          have t0 : decide (i < (ns.length : Int)) = false := decide_eq_false hlt
          have HE1 := Aside0.mk (show R = if dupFrom (keysOf (ns.take 0)) ((ns.drop 0).map toN) then 6 else 0 by rw [HE.out, List.drop_eq_nil_of_le (by have := HI.out; omega)]; rfl)
          clear hlt
          go_wp2
          go_loopg [7] ns.length (fun kq v7 w' => ∃ i : Int, v7 = .int .i64 i ∧ Aside0 (0 ≤ i ∧ kq + i.toNat = ns.length) ∧ Aside0 (R = if dupFrom (keysOf (ns.take i.toNat)) ((ns.drop i.toNat).map toN) then 6 else 0) ∧ Aside0 (w'.heap[w.heap.size]? = some (.cells #[.int .i64 p, .int .i64 o, .slice A2 ts.length c2, .slice A3 ns.length c3] 25 (0, 0))) ∧ Aside0 (Below w.heap.size w w'))
          case atStart => exact ⟨0, rfl, ⟨by simp⟩, HE1, BK, HB⟩
          case round =>
            clear x0 x1 x2 x3 BK HB HI HE HE1 t0
            obtain ⟨i, rfl, HI, HE, BK, HB⟩ := hrel
            obtain ⟨x0, x1, x2, x3⟩ := roll_cells BK.out
            by_cases hlt : i < (ns.length : Int)
            case neg =>
              have t0 : decide (i < (ns.length : Int)) = false := decide_eq_false hlt
              have HF := Aside0.mk (show R = 0 by rw [HE.out, List.drop_eq_nil_of_le (by have := HI.out; omega)]; rfl)
              clear hlt
              go_wp2
              go_ret
              exact ⟨by rw [HF.out]; rfl, HB.out⟩
            case pos =>
              have t0 : decide (i < (ns.length : Int)) = true := decide_eq_true hlt
              have i0 : 0 ≤ i := HI.out.1
              have hw : wrap64 (i + 1) = i + 1 := by unfold wrap64; have := HNS.out; omega
              have h' : i.toNat < ns.length := by omega
              obtain ⟨g1, rfl⟩ : ∃ g1, gk = g1 + 1 := ⟨gk - 1, by have := HI.out; omega⟩
              have HLT := Aside0.mk hlt
              obtain ⟨t, ht⟩ : ∃ t, rd_T88 ns i = t := ⟨_, rfl⟩
              have hget : ns[i.toNat] = t := by rw [← ht]; simp [rd_T88, h']
              have HT := Aside0.mk ht
              have HE1 := Aside0.mk (show R = if (t.f0, t.f1) ∈ (keysOf (ns.take i.toNat)).drop (0 : Int).toNat then 6 else (if dupFrom (keysOf (ns.take (i + 1).toNat)) ((ns.drop (i + 1).toNat).map toN) then 6 else 0) by
                rw [HE.out, List.drop_eq_getElem_cons h', List.map_cons, dupFrom_step, show (i + 1).toNat = i.toNat + 1 by omega, List.take_succ_eq_append_getElem h', hget]
                rw [show keysOf (ns.take i.toNat ++ [t]) = keysOf (ns.take i.toNat) ++ [((toN t).f0, (toN t).f1)] by unfold keysOf; rw [List.map_append]; rfl]
                by_cases c : (t.f0, t.f1) ∈ keysOf (ns.take i.toNat) <;> simp [c, toN])
              have HH := Aside0.mk h'
              clear ht hget h'
              replace i0 := eq_true i0
              replace hlt := eq_true hlt
              go_wp2
              go_loopg [8] i.toNat (fun kq v8 w' => ∃ j : Int, v8 = .int .i64 j ∧ Aside0 (0 ≤ j ∧ kq + j.toNat = i.toNat) ∧ Aside0 (R = if (t.f0, t.f1) ∈ (keysOf (ns.take i.toNat)).drop j.toNat then 6 else (if dupFrom (keysOf (ns.take (i + 1).toNat)) ((ns.drop (i + 1).toNat).map toN) then 6 else 0)) ∧ Aside0 (w'.heap[w.heap.size]? = some (.cells #[.int .i64 p, .int .i64 o, .slice A2 ts.length c2, .slice A3 ns.length c3] 25 (0, 0))) ∧ Aside0 (Below w.heap.size w w'))
              case atStart => exact ⟨0, rfl, ⟨by simp⟩, HE1, BK, HB⟩
              case round =>
                clear x0 x1 x2 x3 BK HB HE HE1 t0
                obtain ⟨j, rfl, HJ, HE, BK, HB⟩ := hrel
                obtain ⟨x0, x1, x2, x3⟩ := roll_cells BK.out
                by_cases hjt : j < i
                case neg =>
                  have t0 : decide (j < i) = false := decide_eq_false hjt
                  have HF := Aside0.mk (show R = if dupFrom (keysOf (ns.take (i + 1).toNat)) ((ns.drop (i + 1).toNat).map toN) then 6 else 0 by
                    rw [HE.out, List.drop_eq_nil_of_le (by simp [keysOf]; have := HJ.out; omega)]; simp)
                  clear hjt
                  go_wp2
                  go_roundg g1
                  case measure => omega
                  case rel => exact ⟨i + 1, by first | rfl | rw [hw], ⟨by have := HI.out; have := HLT.out; omega⟩, HF, BK, HB⟩
                case pos =>
                  have t0 : decide (j < i) = true := decide_eq_true hjt
                  have j0 : 0 ≤ j := HJ.out.1
                  have jn : j < (ns.length : Int) := by have := HLT.out; omega
                  have hwj : wrap64 (j + 1) = j + 1 := by unfold wrap64; have := HNS.out; omega
                  have hj' : j.toNat < i.toNat := by omega
                  have hjn : j.toNat < ns.length := by omega
                  obtain ⟨u, hu⟩ : ∃ u, rd_T88 ns j = u := ⟨_, rfl⟩
                  have hget : ns[j.toNat] = u := by rw [← hu]; simp [rd_T88, hjn]
                  have HJT := Aside0.mk hjt
                  have HE1 := Aside0.mk (show R = if (t.f0, t.f1) = (u.f0, u.f1) ∨ (t.f0, t.f1) ∈ (keysOf (ns.take i.toNat)).drop (j + 1).toNat then 6 else (if dupFrom (keysOf (ns.take (i + 1).toNat)) ((ns.drop (i + 1).toNat).map toN) then 6 else 0) by
                    have hl : j.toNat < (keysOf (ns.take i.toNat)).length := by simp [keysOf]; omega
                    rw [HE.out, List.drop_eq_getElem_cons hl, show (j + 1).toNat = j.toNat + 1 by omega]
                    simp only [List.mem_cons]
                    rw [show (keysOf (ns.take i.toNat))[j.toNat] = (u.f0, u.f1) by simp [keysOf, hget]])
                  obtain ⟨ad, hA, y0, y1, y2⟩ := at_T88 (Kd.C_below HR3.out HB.out) i (by have := HI.out; omega) HLT.out
                  obtain ⟨ad', hA', q0, q1, q2⟩ := at_T88 (Kd.C_below HR3.out HB.out) j j0 jn
                  rw [HT.out] at y0 y1 y2
                  rw [hu] at q0 q1 q2
                  cases hA
                  obtain rfl : ad = ad' := by injection hA'
                  clear hu hget hj' hjn hA'
                  replace j0 := eq_true j0
                  replace jn := eq_true jn
                  replace hjt := eq_true hjt
                  by_cases e0 : t.f0 = u.f0
                  · have e0b : (t.f0 == u.f0) = true := by simpa using e0
                    by_cases e1 : t.f1 = u.f1
                    · have e1b : (t.f1 == u.f1) = true := by simpa using e1
                      have HF := Aside0.mk (show R = 6 by rw [HE1.out, if_pos (.inl (by rw [e0, e1]))])
                      clear e0 e1
                      go_wp2
                      go_quiet (fail)
                      go_wp2
                      go_ret
                      exact ⟨by rw [HF.out]; rfl, pw_below_drewN HB.out _⟩
                    · have e1b : (t.f1 == u.f1) = false := by simpa using e1
                      have HF := Aside0.mk (show R = if (t.f0, t.f1) ∈ (keysOf (ns.take i.toNat)).drop (j + 1).toNat then 6 else (if dupFrom (keysOf (ns.take (i + 1).toNat)) ((ns.drop (i + 1).toNat).map toN) then 6 else 0) by
                        rw [HE1.out]; simp [e1])
                      clear e0 e1
                      go_wp2
                      go_quiet (fail)
                      go_wp2
                      go_roundg (gk - 1)
                      case measure => have := HJ.out; have := HJT.out; omega
                      case rel => exact ⟨j + 1, by first | rfl | rw [hwj], ⟨by have := HJ.out; have := HJT.out; omega⟩, HF, BK, ⟨pw_below_drewN HB.out _⟩⟩
                  · have e0b : (t.f0 == u.f0) = false := by simpa using e0
                    have HF := Aside0.mk (show R = if (t.f0, t.f1) ∈ (keysOf (ns.take i.toNat)).drop (j + 1).toNat then 6 else (if dupFrom (keysOf (ns.take (i + 1).toNat)) ((ns.drop (i + 1).toNat).map toN) then 6 else 0) by
                      rw [HE1.out]; simp [e0])
                    clear e0
                    go_wp2
                    go_quiet (fail)
                    go_wp2
                    go_roundg (gk - 1)
                    case measure => have := HJ.out; have := HJT.out; omega
                    case rel => exact ⟨j + 1, by first | rfl | rw [hwj], ⟨by have := HJ.out; have := HJT.out; omega⟩, HF, BK, ⟨pw_below_drewN HB.out _⟩⟩
        case pos =>
          have t0 : decide (i < (ns.length : Int)) = true := decide_eq_true hlt
          have i0 : 0 ≤ i := HI.out.1
          have hw : wrap64 (i + 1) = i + 1 := by unfold wrap64; have := HNS.out; omega
          have HLT := Aside0.mk hlt
          obtain ⟨ad, hA, y0, y1, y2⟩ := at_T88 (Kd.C_below HR3.out HB.out) i i0 hlt
          have HB1 := fun O => Aside0.mk (below_alloc HB.out O)
          have HBK1 := fun O => Aside0.mk ((((Below.refl wr.heap.size wr).alloc (Nat.le_refl _) O).block _ (blk_lt BK.out)).trans BK.out)
          have z0 := fun O => pw_cell_below (((Below.refl wr.heap.size wr).alloc (Nat.le_refl _) O)) x0
          have h' : i.toNat < ns.length := by omega
          have hget : rd_T88 ns i = ns[i.toNat] := by simp [rd_T88, h']
          have HD := Aside0.mk (show ns.drop i.toNat = rd_T88 ns i :: ns.drop (i + 1).toNat by
            rw [List.drop_eq_getElem_cons h', show (i + 1).toNat = i.toNat + 1 by omega, hget])
          have HSI := Aside0.mk (show (rd_T88 ns i).f2.size ≤ 1000000 by rw [hget]; exact HSZ.out _ (List.getElem_mem h'))
          obtain ⟨t, ht⟩ : ∃ t, rd_T88 ns i = t := ⟨_, rfl⟩
          rw [ht] at y0 y1 y2 HSI
          have HE1 := Aside0.mk (show R = if (nameOk p (toN t) && ((ns.drop (i + 1).toNat).map toN).all (nameOk p)) then (if dupFrom [] (ns.map toN) then 6 else 0) else 1 by rw [HE.out, HD.out, ht]; rfl)
          have hnk : nameOk p (toN t) = (withinB t.f0 0 (p - 1) && (withinB t.f1 0 100000 && textOk 32 t.f2)) := rfl
          have HNK := Aside0.mk hnk
          cases hA
          clear ht hget h' hnk
          replace i0 := eq_true i0
          replace hlt := eq_true hlt
          cases j0 : withinB t.f0 0 (p - 1)
          · have HF := Aside0.mk (show R = 1 by rw [HE1.out, HNK.out, j0]; rfl)
            go_wp2_with (go_at_call 29; (with_reducible refine (In_calls _ _ _ _).mono ?_); rintro e w' ⟨rfl, rfl⟩; (first | rw [j0]))
            go_ret
            exact ⟨by rw [HF.out]; rfl, (HB1 _).out⟩
          cases j1 : withinB t.f1 0 100000
          · have HF := Aside0.mk (show R = 1 by rw [HE1.out, HNK.out, j0, j1]; rfl)
            go_wp2_with (go_at_call 29; (with_reducible refine (In_calls _ _ _ _).mono ?_); rintro e w' ⟨rfl, rfl⟩; (first | rw [j0] | rw [j1]))
            go_ret
            exact ⟨by rw [HF.out]; rfl, (HB1 _).out⟩
          cases j2 : textOk 32 t.f2
          · have HF := Aside0.mk (show R = 1 by rw [HE1.out, HNK.out, j0, j1, j2]; rfl)
            go_wp2_with (first | (go_at_call 29; (with_reducible refine (In_calls _ _ _ _).mono ?_); rintro e w' ⟨rfl, rfl⟩; (first | rw [j0] | rw [j1])) | (go_at_call 60; (with_reducible refine (Text_calls _ 32 HSI.out _).mono ?_); rintro e w3 ⟨rfl, hb⟩; have HB2 := Aside0.mk (below_then (HB1 _).out (HB1 _).out.size hb); have HBK2 := Aside0.mk ((hb.block _ (blk_lt (HBK1 _).out)).trans (HBK1 _).out); clear hb; rw [j2]))
            go_ret
            exact ⟨by rw [HF.out]; rfl, HB2.out⟩
          · have HF := Aside0.mk (show R = if ((ns.drop (i + 1).toNat).map toN).all (nameOk p) then (if dupFrom [] (ns.map toN) then 6 else 0) else 1 by rw [HE1.out, HNK.out, j0, j1, j2]; rfl)
            go_wp2_with (first | (go_at_call 29; (with_reducible refine (In_calls _ _ _ _).mono ?_); rintro e w' ⟨rfl, rfl⟩; (first | rw [j0] | rw [j1])) | (go_at_call 60; (with_reducible refine (Text_calls _ 32 HSI.out _).mono ?_); rintro e w3 ⟨rfl, hb⟩; have HB2 := Aside0.mk (below_then (HB1 _).out (HB1 _).out.size hb); have HBK2 := Aside0.mk ((hb.block _ (blk_lt (HBK1 _).out)).trans (HBK1 _).out); clear hb; rw [j2]))
            go_roundg (gk - 1)
            case measure => have := HI.out; have := HLT.out; omega
            case rel => exact ⟨i + 1, by first | rfl | rw [hw], ⟨by have := HI.out; have := HLT.out; omega⟩, HF, HBK2, HB2⟩
    case pos =>
      have t0 : decide (i < (ts.length : Int)) = true := decide_eq_true hlt
      have i0 : 0 ≤ i := HI.out.1
      have hw : wrap64 (i + 1) = i + 1 := by unfold wrap64; have := HTS.out; omega
      have HLT := Aside0.mk hlt
      obtain ⟨ad, hA, y0, y1, y2, y3, y4, y5⟩ := at_T54 (Kd.C_below HR2.out HB.out) i i0 hlt
      have HB1 := fun O => Aside0.mk (below_alloc HB.out O)
      have HBK1 := fun O => Aside0.mk ((((Below.refl wr.heap.size wr).alloc (Nat.le_refl _) O).block _ (blk_lt BK.out)).trans BK.out)
      have z0 := fun O => pw_cell_below (((Below.refl wr.heap.size wr).alloc (Nat.le_refl _) O)) x0
      have z1 := fun O => pw_cell_below (((Below.refl wr.heap.size wr).alloc (Nat.le_refl _) O)) x1
      have HD := Aside0.mk (show ts.drop i.toNat = rd_T54 ts i :: ts.drop (i + 1).toNat by
        have h' : i.toNat < ts.length := by omega
        rw [List.drop_eq_getElem_cons h', show (i + 1).toNat = i.toNat + 1 by omega]
        simp [rd_T54, h'])
      obtain ⟨t, ht⟩ : ∃ t, rd_T54 ts i = t := ⟨_, rfl⟩
      rw [ht] at y0 y1 y2 y3 y4 y5
      have HE1 := Aside0.mk (show R = if (termOk p o (toT t) && ((ts.drop (i + 1).toNat).map toT).all (termOk p o)) then X else 1 by rw [HE.out, HD.out, ht]; rfl)
      cases hA
      clear ht
      replace i0 := eq_true i0
      replace hlt := eq_true hlt
      cases j0 : withinB t.f0 0 (p - 1)
      · have HF := Aside0.mk (show R = 1 by rw [HE1.out, show termOk p o (toT t) = false by unfold termOk rangeOk toT; simp only [j0, Bool.false_and, Bool.true_and]]; rfl)
        go_wp2_with (go_at_call 29; (with_reducible refine (In_calls _ _ _ _).mono ?_); rintro e w' ⟨rfl, rfl⟩; (first | rw [j0]))
        go_ret
        exact ⟨by rw [HF.out]; rfl, (HB1 _).out⟩
      cases j1 : withinB t.f1 0 (o - 1)
      · have HF := Aside0.mk (show R = 1 by rw [HE1.out, show termOk p o (toT t) = false by unfold termOk rangeOk toT; simp only [j0, j1, Bool.false_and, Bool.true_and]]; rfl)
        go_wp2_with (go_at_call 29; (with_reducible refine (In_calls _ _ _ _).mono ?_); rintro e w' ⟨rfl, rfl⟩; (first | rw [j0] | rw [j1]))
        go_ret
        exact ⟨by rw [HF.out]; rfl, (HB1 _).out⟩
      cases j2 : decide (t.f2.f0 < 0)
      rotate_left
      · have HF := Aside0.mk (show R = 1 by rw [HE1.out, show termOk p o (toT t) = false by unfold termOk rangeOk toT; have h := of_decide_eq_true j2; rw [Bool.eq_false_iff]; intro hh; simp at hh; omega]; rfl)
        go_wp2_with (go_at_call 29; (with_reducible refine (In_calls _ _ _ _).mono ?_); rintro e w' ⟨rfl, rfl⟩; (first | rw [j0] | rw [j1]))
        go_ret
        exact ⟨by rw [HF.out]; rfl, (HB1 _).out⟩
      cases j3 : decide (t.f2.f1 < t.f2.f0)
      rotate_left
      · have HF := Aside0.mk (show R = 1 by rw [HE1.out, show termOk p o (toT t) = false by unfold termOk rangeOk toT; have h := of_decide_eq_true j3; rw [Bool.eq_false_iff]; intro hh; simp at hh; omega]; rfl)
        go_wp2_with (go_at_call 29; (with_reducible refine (In_calls _ _ _ _).mono ?_); rintro e w' ⟨rfl, rfl⟩; (first | rw [j0] | rw [j1]))
        go_ret
        exact ⟨by rw [HF.out]; rfl, (HB1 _).out⟩
      cases j4 : decide (t.f3.f0 ≤ t.f2.f1)
      rotate_left
      · have HF := Aside0.mk (show R = 1 by rw [HE1.out, show termOk p o (toT t) = false by unfold termOk rangeOk toT; have h := of_decide_eq_true j4; rw [Bool.eq_false_iff]; intro hh; simp at hh; omega]; rfl)
        go_wp2_with (go_at_call 29; (with_reducible refine (In_calls _ _ _ _).mono ?_); rintro e w' ⟨rfl, rfl⟩; (first | rw [j0] | rw [j1]))
        go_ret
        exact ⟨by rw [HF.out]; rfl, (HB1 _).out⟩
      cases j5 : decide (t.f3.f1 < t.f3.f0)
      rotate_left
      · have HF := Aside0.mk (show R = 1 by rw [HE1.out, show termOk p o (toT t) = false by unfold termOk rangeOk toT; have h := of_decide_eq_true j5; rw [Bool.eq_false_iff]; intro hh; simp at hh; omega]; rfl)
        go_wp2_with (go_at_call 29; (with_reducible refine (In_calls _ _ _ _).mono ?_); rintro e w' ⟨rfl, rfl⟩; (first | rw [j0] | rw [j1]))
        go_ret
        exact ⟨by rw [HF.out]; rfl, (HB1 _).out⟩
      cases j6 : decide (100000 < t.f3.f1)
      rotate_left
      · have HF := Aside0.mk (show R = 1 by rw [HE1.out, show termOk p o (toT t) = false by unfold termOk rangeOk toT; have h := of_decide_eq_true j6; rw [Bool.eq_false_iff]; intro hh; simp at hh; omega]; rfl)
        go_wp2_with (go_at_call 29; (with_reducible refine (In_calls _ _ _ _).mono ?_); rintro e w' ⟨rfl, rfl⟩; (first | rw [j0] | rw [j1]))
        go_ret
        exact ⟨by rw [HF.out]; rfl, (HB1 _).out⟩
      have HF := Aside0.mk (show R = if ((ts.drop (i + 1).toNat).map toT).all (termOk p o) then X else 1 by
        rw [HE1.out, show termOk p o (toT t) = true by unfold termOk rangeOk toT; have g2 := of_decide_eq_false j2; have g3 := of_decide_eq_false j3; have g4 := of_decide_eq_false j4; have g5 := of_decide_eq_false j5; have g6 := of_decide_eq_false j6; simp [j0, j1]; omega, Bool.true_and])
      go_wp2_with (go_at_call 29; (with_reducible refine (In_calls _ _ _ _).mono ?_); rintro e w' ⟨rfl, rfl⟩; (first | rw [j0] | rw [j1]))
      go_roundg (gk - 1)
      case measure => have := HI.out; have := HLT.out; omega
      case rel => exact ⟨i + 1, by first | rfl | rw [hw], ⟨by have := HI.out; have := HLT.out; omega⟩, HF, HBK1 _, HB1 _⟩
end Go.Proofs.Ythpheknchikodaa.P

/- The walks of remark, slices.Index, slices.Contains at texts: each answers what its plain word says. Conditions: none. -/
namespace Go.Proofs.Ythpheknchikodaa.P
open Go.RowKit Go.Proofs.YthpheknchikodaaW.PrintWords Go.Proofs.YthpheknchikodaaW.PrintLast
set_option linter.unusedVariables false
set_option linter.unusedSimpArgs false

/-- Is a text a remark? -/
def isRemark (s : ByteArray) : Bool := decide (3 ≤ s.size) && ((bt s 0 == 91) && (bt s ((s.size : Int) - 1) == 93))
set_option maxHeartbeats 1000000 in
set_option maxRecDepth 100000 in
theorem remark_calls (s : ByteArray) (w : World) (hs : s.size ≤ 9223372036854775807) :
    Calls Try.prog 92 #[.string s] w fun e w' => e = .returned (.bool (isRemark s)) ∧ w = w' := by
  by_cases h : 3 ≤ s.size
  case neg =>
    have h1 : decide ((3 : Int) ≤ (s.size : Int)) = false := decide_eq_false (by omega)
    have h2 : decide (3 ≤ s.size) = false := decide_eq_false h
    have HE := Aside0.mk (show isRemark s = false by unfold isRemark; rw [h2, Bool.false_and])
    clear h
    go_enter Try.func92, Try.ntmps92
    go_wp2
    go_ret
    exact ⟨by rw [HE.out]; rfl, rfl⟩
  case pos =>
    have h1 : decide ((3 : Int) ≤ (s.size : Int)) = true := decide_eq_true (by omega)
    have h2 : decide (3 ≤ s.size) = true := decide_eq_true h
    have hb0 : ∀ h : 0 < s.size, ((s[0]'h).toNat : Int) = bt s 0 := fun h => bt_at s 0 h
    have hb1 : ∀ h : s.size - 1 < s.size, ((s[s.size - 1]'h).toNat : Int) = bt s ((s.size : Int) - 1) := fun h => by
      have h2 : ((s.size : Int) - 1).toNat = s.size - 1 := by omega
      rw [← bt_at s ((s.size : Int) - 1) (by omega)]
      simp only [h2]
    have p0 : (0 : Int) < (s.size : Int) := by omega
    have p1 : 0 ≤ (s.size : Int) - 1 := by omega
    have p2 : (s.size : Int) - 1 < (s.size : Int) := by omega
    have p3 : 0 < s.size := by omega
    cases h3 : bt s 0 == 91
    · have HE := Aside0.mk (show isRemark s = false by unfold isRemark; rw [h3]; simp)
      clear h
      go_enter Try.func92, Try.ntmps92
      go_wp2
      go_ret
      exact ⟨by rw [HE.out]; rfl, rfl⟩
    · have HE := Aside0.mk (show isRemark s = (bt s ((s.size : Int) - 1) == 93) by unfold isRemark; rw [h3, h2]; simp)
      clear h
      go_enter Try.func92, Try.ntmps92
      go_wp2
      go_ret
      exact ⟨by rw [HE.out]; rfl, rfl⟩
/-- Is a text in a list? -/
def hasText (l : List ByteArray) (s : ByteArray) : Bool := l.any fun x => s.toList == x.toList
set_option maxHeartbeats 1000000 in
set_option maxRecDepth 100000 in
theorem index_calls (s : ByteArray) (A : Option Addr) (c : Nat) (l : List ByteArray) (w : World) (hr : Kd.C Kd.string w A l.length l) (hm : l.length ≤ 9223372036854775806) :
    Calls Try.prog 110 #[.slice A l.length c, .string s] w fun e w' => e = .returned (.int .i64 (idxFrom (fun x => s.toList == x.toList) l 0)) ∧ w = w' := by
  have HR := Aside0.mk hr
  clear hr
  go_enter Try.func110, Try.ntmps110
  go_wp2
  go_loopg [8] l.length (fun kq v8 w' => ∃ i : Int, v8 = .int .i64 i ∧ Aside0 (0 ≤ i ∧ kq + i.toNat = l.length) ∧ Aside0 (idxFrom (fun x => s.toList == x.toList) l 0 = idxFrom (fun x => s.toList == x.toList) (l.drop i.toNat) i) ∧ w = w')
  case atStart => exact ⟨0, rfl, ⟨by omega⟩, ⟨rfl⟩, rfl⟩
  case round =>
    obtain ⟨i, rfl, HK, HI, rfl⟩ := hrel
    by_cases hlt : i < (l.length : Int)
    · have c0 : decide (i < (l.length : Int)) = true := decide_eq_true hlt
      have p1 : 0 ≤ i := HK.out.1
      obtain ⟨ad, hA, h0⟩ := Kd.at_string HR.out i p1 hlt
      cases hA
      have hst := Aside0.mk (show idxFrom (fun x => s.toList == x.toList) (l.drop i.toNat) i = if (s.toList == (rdOf ByteArray.empty l i).toList) = true then i else idxFrom (fun x => s.toList == x.toList) (l.drop (i + 1).toNat) (i + 1) by
        have h' : i.toNat < l.length := by omega
        rw [List.drop_eq_getElem_cons h', show (i + 1).toNat = i.toNat + 1 by omega]
        simp only [idxFrom, rdOf, List.getD_eq_getElem?_getD, List.getElem?_eq_getElem h', Option.getD_some])
      replace p1 := eq_true p1
      replace hlt := eq_true hlt
      cases hp : s.toList == (rdOf ByteArray.empty l i).toList
      · have HE := Aside0.mk (HI.out.trans (hst.out.trans (if_neg (by rw [hp]; exact Bool.false_ne_true))))
        clear hst
        have hp2 : (s.toList = (rdOf ByteArray.empty l i).toList) = False := by simpa using hp
        have hw : wrap64 (i + 1) = i + 1 := by unfold wrap64; have := HK.out; have := of_eq_true hlt; omega
        go_wp2
        go_roundg (gk - 1)
        case measure => have := HK.out; have := of_eq_true hlt; omega
        case rel => exact ⟨i + 1, by first | rfl | rw [hw], ⟨by have := HK.out; have := of_eq_true hlt; omega⟩, HE, rfl⟩
      · have HE := Aside0.mk (HI.out.trans (hst.out.trans (if_pos hp)))
        clear hst
        have hp2 : (s.toList = (rdOf ByteArray.empty l i).toList) = True := by simpa using hp
        go_wp2
        go_ret
        exact ⟨by rw [HE.out]; rfl, rfl⟩
    · have c0 : decide (i < (l.length : Int)) = false := decide_eq_false hlt
      have HE := Aside0.mk (HI.out.trans (by rw [List.drop_eq_nil_of_le (by have := HK.out; omega)]))
      clear hlt
      go_wp2
      go_ret
      exact ⟨by rw [HE.out]; rfl, rfl⟩
set_option maxHeartbeats 1000000 in
set_option maxRecDepth 100000 in
theorem contains_calls (s : ByteArray) (A : Option Addr) (c : Nat) (l : List ByteArray) (w : World) (hr : Kd.C Kd.string w A l.length l) (hm : l.length ≤ 9223372036854775806) :
    Calls Try.prog 94 #[.slice A l.length c, .string s] w fun e w' => e = .returned (.bool (hasText l s)) ∧ w = w' := by
  have HR := Aside0.mk hr
  clear hr
  have HE := Aside0.mk (idxFrom_any (fun x => s.toList == x.toList) l)
  go_enter Try.func94, Try.ntmps94
  go_wp2_with fail
  refine (index_calls s A c l w HR.out hm).mono ?_
  rintro e w1 ⟨rfl, rfl⟩
  go_wp2
  go_ret
  exact ⟨by unfold hasText; rw [← HE.out]; rfl, rfl⟩
end Go.Proofs.Ythpheknchikodaa.P

/- The walk of 'all' at elements of type 9: it reports whether each element of a list is right, whatever closure says so. Conditions: none beyond the list's being readable. -/
namespace Go.Proofs.Ythpheknchikodaa.P
open Go.RowKit Go.Proofs.YthpheknchikodaaW.PrintWords Go.Proofs.YthpheknchikodaaW.PrintLast
set_option linter.unusedVariables false
set_option linter.unusedSimpArgs false

theorem idx_stepStr (p : ByteArray → Bool) (l : List ByteArray) (i : Int) (h0 : 0 ≤ i) (h : i < (l.length : Int)) : idxFrom p (l.drop i.toNat) i = if p (rdOf ByteArray.empty l i) = true then i else idxFrom p (l.drop (i + 1).toNat) (i + 1) := by
  have h' : i.toNat < l.length := by omega
  rw [List.drop_eq_getElem_cons h', show (i + 1).toNat = i.toNat + 1 by omega]
  simp only [idxFrom, rdOf, List.getD_eq_getElem?_getD, List.getElem?_eq_getElem h', Option.getD_some]
set_option maxHeartbeats 1000000 in
set_option maxRecDepth 100000 in
theorem indexFuncStr (g : Nat) (caps : Array Value) (p : ByteArray → Bool) (A : Option Addr) (c : Nat) (l : List ByteArray) (w : World) (hr : Kd.C Kd.string w A l.length l) (hm : l.length ≤ 9223372036854775806)
    (heg : ∀ (args : Array Value) (W : World), Sem.run Try.prog (callFunc g args) W = .ok (.enter g args) W)
    (hF : ∀ x W, Below w.heap.size w W → Calls Try.prog g (#[.string x] ++ caps) W fun e W' => e = .returned (.bool (p x)) ∧ Below W.heap.size W W') :
    Calls Try.prog 125 #[.slice A l.length c, .func (.func g) #[] caps] w fun e w' => e = .returned (.int .i64 (idxFrom p l 0)) ∧ Below w.heap.size w w' := by
  have HR := Aside0.mk hr
  have HF := Aside0.mk hF
  clear hr hF
  skip
  go_enter Try.func125, Try.ntmps125
  go_wp2
  go_loopg [8] l.length (fun kq v8 w' => ∃ i : Int, v8 = .int .i64 i ∧ Aside0 (0 ≤ i ∧ kq + i.toNat = l.length) ∧ Aside0 (idxFrom p l 0 = idxFrom p (l.drop i.toNat) i) ∧ Aside0 (Below w.heap.size w w'))
  case atStart => exact ⟨0, rfl, ⟨by omega⟩, ⟨rfl⟩, ⟨Below.refl _ _⟩⟩
  case round =>
    obtain ⟨i, rfl, HK, HI, HB⟩ := hrel
    by_cases hlt : i < (l.length : Int)
    · have c0 : decide (i < (l.length : Int)) = true := decide_eq_true hlt
      have p1 : 0 ≤ i := HK.out.1
      obtain ⟨ad, hA, h0⟩ := Kd.at_string (Kd.C_below HR.out HB.out) i p1 hlt
      cases hA
      replace p1 := eq_true p1
      replace hlt := eq_true hlt
      go_wp2_with fail
      refine (HF.out (rdOf ByteArray.empty l i) _ HB.out).mono ?_
      rintro e w1 ⟨rfl, hb1⟩
      have HB1 := Aside0.mk (below_then HB.out HB.out.size hb1)
      clear hb1
      have hst := idx_stepStr p l i HK.out.1 (of_eq_true hlt)
      by_cases hp : p (rdOf ByteArray.empty l i) = true
      · have HE := Aside0.mk (HI.out.trans (hst.trans (if_pos hp)))
        clear hst
        go_wp2
        go_ret
        exact ⟨by rw [HE.out]; rfl, HB1.out⟩
      · have HE := Aside0.mk (HI.out.trans (hst.trans (if_neg hp)))
        replace hp := Bool.eq_false_iff.mpr hp
        clear hst
        have hw : wrap64 (i + 1) = i + 1 := by unfold wrap64; have := HK.out; have := of_eq_true hlt; omega
        go_wp2
        go_roundg (gk - 1)
        case measure => have := HK.out; have := of_eq_true hlt; omega
        case rel => exact ⟨i + 1, by first | rfl | rw [hw], ⟨by have := HK.out; have := of_eq_true hlt; omega⟩, HE, HB1⟩
    · have c0 : decide (i < (l.length : Int)) = false := decide_eq_false hlt
      have HE := Aside0.mk (HI.out.trans (by rw [List.drop_eq_nil_of_le (by have := HK.out; omega)]))
      clear hlt
      go_wp2
      go_ret
      exact ⟨by rw [HE.out]; rfl, HB.out⟩
set_option maxHeartbeats 1000000 in
set_option maxRecDepth 100000 in
theorem containsFuncStr (g : Nat) (caps : Array Value) (p : ByteArray → Bool) (A : Option Addr) (c : Nat) (l : List ByteArray) (w : World) (hr : Kd.C Kd.string w A l.length l) (hm : l.length ≤ 9223372036854775806)
    (heg : ∀ (args : Array Value) (W : World), Sem.run Try.prog (callFunc g args) W = .ok (.enter g args) W)
    (hF : ∀ x W, Below w.heap.size w W → Calls Try.prog g (#[.string x] ++ caps) W fun e W' => e = .returned (.bool (p x)) ∧ Below W.heap.size W W') :
    Calls Try.prog 108 #[.slice A l.length c, .func (.func g) #[] caps] w fun e w' => e = .returned (.bool (l.any p)) ∧ Below w.heap.size w w' := by
  have HR := Aside0.mk hr
  have HF := Aside0.mk hF
  have HG := Aside0.mk heg
  clear hr hF heg
  have HE := Aside0.mk (idxFrom_any p l)
  go_enter Try.func108, Try.ntmps108
  go_wp2_with fail
  refine (indexFuncStr g caps p A c l w HR.out hm HG.out HF.out).mono ?_
  rintro e w1 ⟨rfl, hb1⟩
  have HB1 := Aside0.mk hb1
  clear hb1
  go_wp2
  go_ret
  exact ⟨by rw [HE.out]; rfl, HB1.out⟩
set_option maxHeartbeats 1000000 in
set_option maxRecDepth 100000 in
theorem notRightStr (g b : Nat) (caps : Array Value) (p : ByteArray → Bool) (x : ByteArray) (w : World) (hc : w.cell? ⟨b, 0, none⟩ = some (.func (.func g) #[] caps))
    (heg : ∀ (args : Array Value) (W : World), Sem.run Try.prog (callFunc g args) W = .ok (.enter g args) W)
    (hF : ∀ W, Below w.heap.size w W → Calls Try.prog g (#[.string x] ++ caps) W fun e W' => e = .returned (.bool (p x)) ∧ Below W.heap.size W W') :
    Calls Try.prog 109 #[.string x, .pointer (some ⟨b, 0, none⟩)] w fun e w' => e = .returned (.bool (!p x)) ∧ Below w.heap.size w w' := by
  have HF := Aside0.mk hF
  clear hF
  skip
  skip
  go_enter Try.func109, Try.ntmps109
  go_wp2_with fail
  refine (HF.out _ (Below.refl _ _)).mono ?_
  rintro e w1 ⟨rfl, hb1⟩
  have HB1 := Aside0.mk (hb1)
  clear hb1
  go_wp2
  go_ret
  exact ⟨rfl, HB1.out⟩
set_option maxHeartbeats 1000000 in
set_option maxRecDepth 100000 in
theorem allStr (g : Nat) (caps : Array Value) (p : ByteArray → Bool) (A : Option Addr) (c : Nat) (l : List ByteArray) (w : World) (hr : Kd.C Kd.string w A l.length l) (hm : l.length ≤ 9223372036854775806)
    (heg : ∀ (args : Array Value) (W : World), Sem.run Try.prog (callFunc g args) W = .ok (.enter g args) W)
    (hF : ∀ x W, Below w.heap.size w W → Calls Try.prog g (#[.string x] ++ caps) W fun e W' => e = .returned (.bool (p x)) ∧ Below W.heap.size W W') :
    Calls Try.prog 91 #[.slice A l.length c, .func (.func g) #[] caps] w fun e w' => e = .returned (.bool (l.all p)) ∧ Below w.heap.size w w' := by
  have HR := Aside0.mk hr
  have HF := Aside0.mk hF
  have HG := Aside0.mk heg
  clear hr hF heg
  have HE := Aside0.mk (any_not_all p l)
  go_enter Try.func91, Try.ntmps91
  go_wp2_with fail
  have HB0 := Aside0.mk ((Below.refl w.heap.size w).alloc (Nat.le_refl _) (.cells #[.func (.func g) #[] caps] 81 (0, 0)))
  refine (containsFuncStr 109 #[.pointer (some ⟨w.heap.size, 0, none⟩)] (fun x => !p x) A c l _ (Kd.C_below HR.out HB0.out) hm (enters_ Try.func109 (by kernel_rfl) rfl) ?_).mono ?_
  · intro x W hb
    refine notRightStr g w.heap.size caps p x W ((hb.cell (p := ⟨w.heap.size, 0, none⟩) (by simp)).trans (by simp)) HG.out (fun W' hb' => HF.out x W' ?_)
    exact below_then (below_then HB0.out HB0.out.size hb) (below_then HB0.out HB0.out.size hb).size hb'
  rintro e w1 ⟨rfl, hb1⟩
  have HB1 := Aside0.mk (below_then HB0.out HB0.out.size hb1)
  clear hb1
  go_wp2
  go_ret
  exact ⟨by rw [HE.out]; rfl, HB1.out⟩
end Go.Proofs.Ythpheknchikodaa.P

/- The walk of (*quoting).may: may a piece have a place behind that of the piece before it. Conditions: the piece's number is one of a piece; the place before is -1 at the least. -/
namespace Go.Proofs.Ythpheknchikodaa.P
open Go.RowKit Go.Proofs.YthpheknchikodaaW.PrintWords Go.Proofs.YthpheknchikodaaW.PrintLast
set_option linter.unusedVariables false
set_option linter.unusedSimpArgs false

set_option maxHeartbeats 1000000 in
set_option maxRecDepth 100000 in
theorem may1_calls (s : ByteArray) (b qb : Nat) (pv xv : Value) (A : Option Addr) (c : Nat) (l : List ByteArray) (w : World) (hb : w.cell? ⟨b, 0, none⟩ = some (.pointer (some ⟨qb, 0, none⟩)))
    (hq : w.cell? ⟨qb, 1, none⟩ = some (.slice A l.length c)) (hr : Kd.C Kd.string w A l.length l) (hm : l.length ≤ 9223372036854775806) :
    Calls Try.prog 93 #[.string s, .pointer (some ⟨b, 0, none⟩)] w fun e w' => e = .returned (.bool (!hasText l s)) ∧ Below w.heap.size w w' := by
  have HR := Aside0.mk hr
  clear hr
  go_enter Try.func93, Try.ntmps93
  go_wp2_with fail
  refine (contains_calls s A c l w HR.out hm).mono ?_
  rintro e w1 ⟨rfl, rfl⟩
  go_wp2
  go_ret
  exact ⟨rfl, Below.refl _ _⟩

/-- A part of a list of texts. -/
theorem Kd_mid (A : Option Addr) (c : Nat) (xs : List ByteArray) (a b : Int) (w : World) (h0 : 0 ≤ a) (h1 : a ≤ b) (hm : b ≤ xs.length) (hc : xs.length ≤ c) (h : Kd.C Kd.string w A xs.length xs) :
    ∃ (A' : Option Addr) (L : List ByteArray), Aside0 (L = (xs.take b.toNat).drop a.toNat) ∧ (∀ W : World, (Instr.slice 73 (.slice A xs.length c) (some (.int .i64 a)) (some (.int .i64 b)) none).run Try.prog W = .ok (.slice A' L.length (c - a.toNat)) W) ∧
      Kd.C Kd.string w A' L.length L ∧ L.length ≤ xs.length := by
  obtain ⟨i0, hi, _, hz1, _⟩ := info_parts info9
  obtain ⟨A', h2, h3, _⟩ := print_mid_of (P := Try.prog) Value.string ByteArray.empty 73 9 .i64 .i64 Try.underlying73 hi hz1 A c xs a b h0 h1 hm hc
  exact ⟨A', _, ⟨rfl⟩, h2, Kd.C_of_reads (h1 := fun _ => rfl) (h3 w (Kd.reads_of_C h)), by simp; omega⟩
/-- May piece n have a place, behind that of the piece before it? -/
def mayB (paper kept : List ByteArray) (pieces : List S157) (n last at_ : Int) : Bool :=
  withinB at_ 0 ((paper.length : Int) - 1) && ((isRemark (rd_T157 pieces n).f0 || ((rd_T157 pieces n).f0.toList == (rdOf ByteArray.empty paper at_).toList)) &&
    ((n == 0) || (decide (last < at_) && (((rd_T157 pieces n).f1 || (at_ == last + 1)) && ((paper.take at_.toNat).drop (last + 1).toNat).all fun s => !hasText kept s))))
set_option maxHeartbeats 4000000 in
set_option maxRecDepth 100000 in
theorem may_calls (qb : Nat) (Ap : Option Addr) (cp : Nat) (paper : List ByteArray) (Ak : Option Addr) (ck : Nat) (kept : List ByteArray) (Aq : Option Addr) (cq : Nat) (pieces : List S157) (n last at_ : Int) (w : World)
    (hq : w.heap[qb]? = some (.cells #[.slice Ap paper.length cp, .slice Ak kept.length ck, .slice Aq pieces.length cq] 134 (0, 0)))
    (hp : Kd.C Kd.string w Ap paper.length paper) (hcp : paper.length ≤ cp) (hk : Kd.C Kd.string w Ak kept.length kept) (hpp : Kd.C k157 w Aq pieces.length pieces)
    (hn0 : 0 ≤ n) (hn1 : n < (pieces.length : Int)) (hl : -1 ≤ last) (hs : (rd_T157 pieces n).f0.size ≤ 9223372036854775807) (hlp : paper.length ≤ 1000000) (hlk : kept.length ≤ 1000000) :
    Calls Try.prog 66 #[.pointer (some ⟨qb, 0, none⟩), .int .i64 n, .int .i64 last, .int .i64 at_] w fun e w' => e = .returned (.bool (mayB paper kept pieces n last at_)) ∧ Below w.heap.size w w' := by
  have HP := Aside0.mk hp
  have HK := Aside0.mk hk
  have HC := Aside0.mk hcp
  have HQ := Aside0.mk hq
  have HS := Aside0.mk hs
  obtain ⟨ad, hA, g0, g1⟩ := at_T157 hpp n hn0 hn1
  cases hA
  have hu157 := Try.underlying157
  have hB2 := fun O O' => ((Below.refl w.heap.size w).alloc (Nat.le_refl _) O).alloc (by simp) O'
  have hB1 := fun O => ((Below.refl w.heap.size w).alloc (Nat.le_refl _) O)
  have g01 := fun O => pw_cell_below (hB1 O) g0
  have g11 := fun O => pw_cell_below (hB1 O) g1
  have q0 := fun O O' => pw_cell_below (hB2 O O') ((blk_cell hq 0).trans rfl)
  have q21 := fun O => pw_cell_below (hB1 O) ((blk_cell hq 2).trans rfl)
  have HB2 := fun O O' => Aside0.mk (hB2 O O')
  clear hp hk hcp hq hpp hs hB1 hB2 g0 g1
  replace hn0 := eq_true hn0
  replace hn1 := eq_true hn1
  cases h1 : withinB at_ 0 ((paper.length : Int) - 1)
  · have HE := Aside0.mk (show mayB paper kept pieces n last at_ = false by unfold mayB; rw [h1]; rfl)
    go_enter Try.func66, Try.ntmps66
    go_wp2
    go_quiet ((first | (go_at_call 73; exact Calls.quiet_of_same ((within_calls _ _ _ _).mono (fun e w' h => ⟨h.1, h.2.symm⟩))) | (go_at_call 92; exact Calls.quiet_of_same ((remark_calls _ _ HS.out).mono (fun e w' h => ⟨h.1, h.2.symm⟩)))))
    go_wp2
    go_ret
    exact ⟨by rw [HE.out]; rfl, pw_below_drewN (HB2 _ _).out _⟩
  have hr1 : 0 ≤ at_ ∧ at_ < (paper.length : Int) := by unfold withinB at h1; simp at h1; omega
  have HR1 := Aside0.mk (show 0 ≤ at_ ∧ at_ < (paper.length : Int) ∧ paper.length ≤ 1000000 from ⟨hr1.1, hr1.2, hlp⟩)
  have HL := Aside0.mk hl
  have HLP := Aside0.mk hlp
  have HLK := Aside0.mk hlk
  obtain ⟨a0, a1⟩ := hr1
  obtain ⟨ad2, hA2, gx⟩ := Kd.at_string HP.out at_ a0 a1
  have gx2 := fun O O' => pw_cell_below (HB2 O O').out gx
  cases hA2
  clear gx
  replace a0 := eq_true a0
  replace a1 := eq_true a1
  cases h2 : isRemark (rd_T157 pieces n).f0
  · cases h3 : (rd_T157 pieces n).f0.toList == (rdOf ByteArray.empty paper at_).toList
    · have HE := Aside0.mk (show mayB paper kept pieces n last at_ = false by unfold mayB; rw [h1, h2, h3]; rfl)
      have h3a : ((rd_T157 pieces n).f0.toList = (rdOf ByteArray.empty paper at_).toList) = False := by simpa using h3
      go_enter Try.func66, Try.ntmps66
      go_wp2
      go_quiet ((first | (go_at_call 73; exact Calls.quiet_of_same ((within_calls _ _ _ _).mono (fun e w' h => ⟨h.1, h.2.symm⟩))) | (go_at_call 92; exact Calls.quiet_of_same ((remark_calls _ _ HS.out).mono (fun e w' h => ⟨h.1, h.2.symm⟩)))))
      go_wp2
      go_ret
      exact ⟨by rw [HE.out]; rfl, pw_below_drewN (HB2 _ _).out _⟩
    have h3a : ((rd_T157 pieces n).f0.toList = (rdOf ByteArray.empty paper at_).toList) = True := by simpa using h3
    by_cases h5 : n = 0
    · have HE := Aside0.mk (show mayB paper kept pieces n last at_ = true by unfold mayB; rw [h1, h2, h3]; rw [beq_iff_eq.mpr h5]; rfl)
      have h5a : (n == 0) = true := by rw [h5]; rfl
      clear h5
      go_enter Try.func66, Try.ntmps66
      go_wp2
      go_quiet ((first | (go_at_call 73; exact Calls.quiet_of_same ((within_calls _ _ _ _).mono (fun e w' h => ⟨h.1, h.2.symm⟩))) | (go_at_call 92; exact Calls.quiet_of_same ((remark_calls _ _ HS.out).mono (fun e w' h => ⟨h.1, h.2.symm⟩)))))
      go_wp2
      go_ret
      exact ⟨by rw [HE.out]; rfl, pw_below_drewN (HB2 _ _).out _⟩
    have h5a : (n == 0) = false := beq_eq_false_iff_ne.mpr h5
    clear h5
    by_cases h6 : at_ ≤ last
    · have HE := Aside0.mk (show mayB paper kept pieces n last at_ = false by unfold mayB; rw [h1, h2, h3, h5a, decide_eq_false (show ¬ last < at_ by omega)]; rfl)
      have h6a : decide (at_ ≤ last) = true := decide_eq_true h6
      clear h6
      go_enter Try.func66, Try.ntmps66
      go_wp2
      go_quiet ((first | (go_at_call 73; exact Calls.quiet_of_same ((within_calls _ _ _ _).mono (fun e w' h => ⟨h.1, h.2.symm⟩))) | (go_at_call 92; exact Calls.quiet_of_same ((remark_calls _ _ HS.out).mono (fun e w' h => ⟨h.1, h.2.symm⟩)))))
      go_wp2
      go_ret
      exact ⟨by rw [HE.out]; rfl, pw_below_drewN (HB2 _ _).out _⟩
    have h6b : decide (at_ ≤ last) = false := decide_eq_false h6
    have h6c : decide (last < at_) = true := decide_eq_true (by omega)
    have hw : wrap64 (last + 1) = last + 1 := by unfold wrap64; have := HR1.out; omega
    cases h7 : (rd_T157 pieces n).f1
    · by_cases h8 : ¬ at_ = last + 1
      · have HE := Aside0.mk (show mayB paper kept pieces n last at_ = false by unfold mayB; rw [h1, h2, h3, h5a, h6c, h7, beq_eq_false_iff_ne.mpr h8]; rfl)
        have h8a : (at_ == last + 1) = false := beq_eq_false_iff_ne.mpr h8
        have h8b : (at_ != last + 1) = true := bne_iff_ne.mpr h8
        clear h8 h6
        go_enter Try.func66, Try.ntmps66
        go_wp2
        go_quiet ((first | (go_at_call 73; exact Calls.quiet_of_same ((within_calls _ _ _ _).mono (fun e w' h => ⟨h.1, h.2.symm⟩))) | (go_at_call 92; exact Calls.quiet_of_same ((remark_calls _ _ HS.out).mono (fun e w' h => ⟨h.1, h.2.symm⟩)))))
        go_wp2
        go_ret
        exact ⟨by rw [HE.out]; rfl, pw_below_drewN (HB2 _ _).out _⟩
      replace h8 := Decidable.of_not_not h8
      have HE := Aside0.mk (show mayB paper kept pieces n last at_ = ((paper.take at_.toNat).drop (last + 1).toNat).all fun s => !hasText kept s by unfold mayB; rw [h1, h2, h3, h5a, h6c, h7, beq_iff_eq.mpr h8]; rfl)
      have h8a : (at_ == last + 1) = true := beq_iff_eq.mpr h8
      have h8b : (at_ != last + 1) = false := bne_eq_false_iff_eq.mpr h8
      clear h8
      have hsl := Kd_mid _ cp paper (last + 1) at_ w (by have := HL.out; omega) (by omega) (by have := HR1.out; omega) HC.out HP.out
      obtain ⟨A', L, HLL, hs1, hs2, hs3⟩ := hsl
      have HS2 := Aside0.mk hs2
      have HS3 := Aside0.mk hs3
      rw [← HLL.out] at HE
      clear hs2 hs3 h6
      go_enter Try.func66, Try.ntmps66
      go_wp2
      go_quiet ((first | (go_at_call 73; exact Calls.quiet_of_same ((within_calls _ _ _ _).mono (fun e w' h => ⟨h.1, h.2.symm⟩))) | (go_at_call 92; exact Calls.quiet_of_same ((remark_calls _ _ HS.out).mono (fun e w' h => ⟨h.1, h.2.symm⟩)))))
      go_wp2_with fail
      refine (allStr 93 #[.pointer (some ⟨w.heap.size, 0, none⟩)] (fun s => !hasText kept s) A' _ L _ (Kd.C_below HS2.out (pw_below_drewN (HB2 _ _).out _)) (by have := HLP.out; have := HS3.out; omega) (enters_ Try.func93 (by kernel_rfl) rfl) (fun x W hb => may1_calls x w.heap.size qb .nilIface .nilIface Ak ck kept W ((hb.cell (p := ⟨w.heap.size, 0, none⟩) (by first | (simp; done) | (simp; omega))).trans (by simp)) ((pw_cell_below (below_then (pw_below_drewN (HB2 _ _).out _) (pw_below_drewN (HB2 _ _).out _).size hb) ((blk_cell HQ.out 1).trans rfl))) (Kd.C_below HK.out (below_then (pw_below_drewN (HB2 _ _).out _) (pw_below_drewN (HB2 _ _).out _).size hb)) (by have := HLK.out; omega))).mono ?_
      rintro e w1 ⟨rfl, hb1⟩
      have HB3 := Aside0.mk (below_then (pw_below_drewN (HB2 _ _).out _) (pw_below_drewN (HB2 _ _).out _).size hb1)
      clear hb1
      go_wp2
      go_ret
      exact ⟨by rw [HE.out]; rfl, HB3.out⟩
    · have HE := Aside0.mk (show mayB paper kept pieces n last at_ = ((paper.take at_.toNat).drop (last + 1).toNat).all fun s => !hasText kept s by unfold mayB; rw [h1, h2, h3, h5a, h6c, h7]; rfl)
      have hsl := Kd_mid _ cp paper (last + 1) at_ w (by have := HL.out; omega) (by omega) (by have := HR1.out; omega) HC.out HP.out
      obtain ⟨A', L, HLL, hs1, hs2, hs3⟩ := hsl
      have HS2 := Aside0.mk hs2
      have HS3 := Aside0.mk hs3
      rw [← HLL.out] at HE
      clear hs2 hs3 h6
      go_enter Try.func66, Try.ntmps66
      go_wp2
      go_quiet ((first | (go_at_call 73; exact Calls.quiet_of_same ((within_calls _ _ _ _).mono (fun e w' h => ⟨h.1, h.2.symm⟩))) | (go_at_call 92; exact Calls.quiet_of_same ((remark_calls _ _ HS.out).mono (fun e w' h => ⟨h.1, h.2.symm⟩)))))
      go_wp2_with fail
      refine (allStr 93 #[.pointer (some ⟨w.heap.size, 0, none⟩)] (fun s => !hasText kept s) A' _ L _ (Kd.C_below HS2.out (pw_below_drewN (HB2 _ _).out _)) (by have := HLP.out; have := HS3.out; omega) (enters_ Try.func93 (by kernel_rfl) rfl) (fun x W hb => may1_calls x w.heap.size qb .nilIface .nilIface Ak ck kept W ((hb.cell (p := ⟨w.heap.size, 0, none⟩) (by first | (simp; done) | (simp; omega))).trans (by simp)) ((pw_cell_below (below_then (pw_below_drewN (HB2 _ _).out _) (pw_below_drewN (HB2 _ _).out _).size hb) ((blk_cell HQ.out 1).trans rfl))) (Kd.C_below HK.out (below_then (pw_below_drewN (HB2 _ _).out _) (pw_below_drewN (HB2 _ _).out _).size hb)) (by have := HLK.out; omega))).mono ?_
      rintro e w1 ⟨rfl, hb1⟩
      have HB3 := Aside0.mk (below_then (pw_below_drewN (HB2 _ _).out _) (pw_below_drewN (HB2 _ _).out _).size hb1)
      clear hb1
      go_wp2
      go_ret
      exact ⟨by rw [HE.out]; rfl, HB3.out⟩
  by_cases h5 : n = 0
  · have HE := Aside0.mk (show mayB paper kept pieces n last at_ = true by unfold mayB; rw [h1, h2]; rw [beq_iff_eq.mpr h5]; rfl)
    have h5a : (n == 0) = true := by rw [h5]; rfl
    clear h5
    go_enter Try.func66, Try.ntmps66
    go_wp2
    go_quiet ((first | (go_at_call 73; exact Calls.quiet_of_same ((within_calls _ _ _ _).mono (fun e w' h => ⟨h.1, h.2.symm⟩))) | (go_at_call 92; exact Calls.quiet_of_same ((remark_calls _ _ HS.out).mono (fun e w' h => ⟨h.1, h.2.symm⟩)))))
    go_wp2
    go_ret
    exact ⟨by rw [HE.out]; rfl, pw_below_drewN (HB2 _ _).out _⟩
  have h5a : (n == 0) = false := beq_eq_false_iff_ne.mpr h5
  clear h5
  by_cases h6 : at_ ≤ last
  · have HE := Aside0.mk (show mayB paper kept pieces n last at_ = false by unfold mayB; rw [h1, h2, h5a, decide_eq_false (show ¬ last < at_ by omega)]; rfl)
    have h6a : decide (at_ ≤ last) = true := decide_eq_true h6
    clear h6
    go_enter Try.func66, Try.ntmps66
    go_wp2
    go_quiet ((first | (go_at_call 73; exact Calls.quiet_of_same ((within_calls _ _ _ _).mono (fun e w' h => ⟨h.1, h.2.symm⟩))) | (go_at_call 92; exact Calls.quiet_of_same ((remark_calls _ _ HS.out).mono (fun e w' h => ⟨h.1, h.2.symm⟩)))))
    go_wp2
    go_ret
    exact ⟨by rw [HE.out]; rfl, pw_below_drewN (HB2 _ _).out _⟩
  have h6b : decide (at_ ≤ last) = false := decide_eq_false h6
  have h6c : decide (last < at_) = true := decide_eq_true (by omega)
  have hw : wrap64 (last + 1) = last + 1 := by unfold wrap64; have := HR1.out; omega
  cases h7 : (rd_T157 pieces n).f1
  · by_cases h8 : ¬ at_ = last + 1
    · have HE := Aside0.mk (show mayB paper kept pieces n last at_ = false by unfold mayB; rw [h1, h2, h5a, h6c, h7, beq_eq_false_iff_ne.mpr h8]; rfl)
      have h8a : (at_ == last + 1) = false := beq_eq_false_iff_ne.mpr h8
      have h8b : (at_ != last + 1) = true := bne_iff_ne.mpr h8
      clear h8 h6
      go_enter Try.func66, Try.ntmps66
      go_wp2
      go_quiet ((first | (go_at_call 73; exact Calls.quiet_of_same ((within_calls _ _ _ _).mono (fun e w' h => ⟨h.1, h.2.symm⟩))) | (go_at_call 92; exact Calls.quiet_of_same ((remark_calls _ _ HS.out).mono (fun e w' h => ⟨h.1, h.2.symm⟩)))))
      go_wp2
      go_ret
      exact ⟨by rw [HE.out]; rfl, pw_below_drewN (HB2 _ _).out _⟩
    replace h8 := Decidable.of_not_not h8
    have HE := Aside0.mk (show mayB paper kept pieces n last at_ = ((paper.take at_.toNat).drop (last + 1).toNat).all fun s => !hasText kept s by unfold mayB; rw [h1, h2, h5a, h6c, h7, beq_iff_eq.mpr h8]; rfl)
    have h8a : (at_ == last + 1) = true := beq_iff_eq.mpr h8
    have h8b : (at_ != last + 1) = false := bne_eq_false_iff_eq.mpr h8
    clear h8
    have hsl := Kd_mid _ cp paper (last + 1) at_ w (by have := HL.out; omega) (by omega) (by have := HR1.out; omega) HC.out HP.out
    obtain ⟨A', L, HLL, hs1, hs2, hs3⟩ := hsl
    have HS2 := Aside0.mk hs2
    have HS3 := Aside0.mk hs3
    rw [← HLL.out] at HE
    clear hs2 hs3 h6
    go_enter Try.func66, Try.ntmps66
    go_wp2
    go_quiet ((first | (go_at_call 73; exact Calls.quiet_of_same ((within_calls _ _ _ _).mono (fun e w' h => ⟨h.1, h.2.symm⟩))) | (go_at_call 92; exact Calls.quiet_of_same ((remark_calls _ _ HS.out).mono (fun e w' h => ⟨h.1, h.2.symm⟩)))))
    go_wp2_with fail
    refine (allStr 93 #[.pointer (some ⟨w.heap.size, 0, none⟩)] (fun s => !hasText kept s) A' _ L _ (Kd.C_below HS2.out (pw_below_drewN (HB2 _ _).out _)) (by have := HLP.out; have := HS3.out; omega) (enters_ Try.func93 (by kernel_rfl) rfl) (fun x W hb => may1_calls x w.heap.size qb .nilIface .nilIface Ak ck kept W ((hb.cell (p := ⟨w.heap.size, 0, none⟩) (by first | (simp; done) | (simp; omega))).trans (by simp)) ((pw_cell_below (below_then (pw_below_drewN (HB2 _ _).out _) (pw_below_drewN (HB2 _ _).out _).size hb) ((blk_cell HQ.out 1).trans rfl))) (Kd.C_below HK.out (below_then (pw_below_drewN (HB2 _ _).out _) (pw_below_drewN (HB2 _ _).out _).size hb)) (by have := HLK.out; omega))).mono ?_
    rintro e w1 ⟨rfl, hb1⟩
    have HB3 := Aside0.mk (below_then (pw_below_drewN (HB2 _ _).out _) (pw_below_drewN (HB2 _ _).out _).size hb1)
    clear hb1
    go_wp2
    go_ret
    exact ⟨by rw [HE.out]; rfl, HB3.out⟩
  · have HE := Aside0.mk (show mayB paper kept pieces n last at_ = ((paper.take at_.toNat).drop (last + 1).toNat).all fun s => !hasText kept s by unfold mayB; rw [h1, h2, h5a, h6c, h7]; rfl)
    have hsl := Kd_mid _ cp paper (last + 1) at_ w (by have := HL.out; omega) (by omega) (by have := HR1.out; omega) HC.out HP.out
    obtain ⟨A', L, HLL, hs1, hs2, hs3⟩ := hsl
    have HS2 := Aside0.mk hs2
    have HS3 := Aside0.mk hs3
    rw [← HLL.out] at HE
    clear hs2 hs3 h6
    go_enter Try.func66, Try.ntmps66
    go_wp2
    go_quiet ((first | (go_at_call 73; exact Calls.quiet_of_same ((within_calls _ _ _ _).mono (fun e w' h => ⟨h.1, h.2.symm⟩))) | (go_at_call 92; exact Calls.quiet_of_same ((remark_calls _ _ HS.out).mono (fun e w' h => ⟨h.1, h.2.symm⟩)))))
    go_wp2_with fail
    refine (allStr 93 #[.pointer (some ⟨w.heap.size, 0, none⟩)] (fun s => !hasText kept s) A' _ L _ (Kd.C_below HS2.out (pw_below_drewN (HB2 _ _).out _)) (by have := HLP.out; have := HS3.out; omega) (enters_ Try.func93 (by kernel_rfl) rfl) (fun x W hb => may1_calls x w.heap.size qb .nilIface .nilIface Ak ck kept W ((hb.cell (p := ⟨w.heap.size, 0, none⟩) (by first | (simp; done) | (simp; omega))).trans (by simp)) ((pw_cell_below (below_then (pw_below_drewN (HB2 _ _).out _) (pw_below_drewN (HB2 _ _).out _).size hb) ((blk_cell HQ.out 1).trans rfl))) (Kd.C_below HK.out (below_then (pw_below_drewN (HB2 _ _).out _) (pw_below_drewN (HB2 _ _).out _).size hb)) (by have := HLK.out; omega))).mono ?_
    rintro e w1 ⟨rfl, hb1⟩
    have HB3 := Aside0.mk (below_then (pw_below_drewN (HB2 _ _).out _) (pw_below_drewN (HB2 _ _).out _).size hb1)
    clear hb1
    go_wp2
    go_ret
    exact ⟨by rw [HE.out]; rfl, HB3.out⟩
end Go.Proofs.Ythpheknchikodaa.P
