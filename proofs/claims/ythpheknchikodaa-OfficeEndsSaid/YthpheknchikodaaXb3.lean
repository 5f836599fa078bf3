/- Contracts of functions that the laws reach, part Xb3. Conditions: each theorem names its own. -/
import Derived.Laws.EntriesVeiled
import Derived.Test.YthpheknchikodaaXb2
import Derived.Test.YthpheknchikodaaXb1
/- The walk of (Roll).check: it answers the roll's error in the document's order. Conditions: none beyond the lists' being readable. -/
namespace Go.Proofs.Ythpheknchikodaa.P
open Go.RowKit Go.Proofs.YthpheknchikodaaW.PrintWords Go.Proofs.YthpheknchikodaaW.PrintLast
set_option linter.unusedVariables false
set_option linter.unusedSimpArgs false

theorem kfind_keys {κ : Type} [DecidableEq κ] (x : κ) (v : Value) : ∀ (ks : List κ) (i : Nat), ((kfind x (ks.map fun q => (q, v)) i).map (·.2)) = if x ∈ ks then some v else none
  | [], i => by simp [kfind]
  | k :: ks, i => by
    have ih := kfind_keys x v ks (i + 1)
    simp only [List.map_cons, kfind]
    by_cases h : x = k
    · simp [h]
    · rw [if_neg h, ih]
      simp [h]
theorem kget_keys {κ : Type} [DecidableEq κ] (x : κ) (ks : List κ) : kget x (.bool false) (ks.map fun q => (q, Value.bool true)) = .bool (decide (x ∈ ks)) := by
  unfold kget
  rw [kfind_keys]
  by_cases h : x ∈ ks <;> simp [h]
theorem kput_keys {κ : Type} [DecidableEq κ] (x : κ) (v : Value) (ks : List κ) (h : ¬ x ∈ ks) : kput x v (ks.map fun q => (q, v)) = (ks ++ [x]).map fun q => (q, v) := by
  have h1 := kfind_keys x v ks 0
  rw [if_neg h] at h1
  rw [kput_none x v _ 0 (Option.map_eq_none_iff.1 h1)]
  simp
theorem fit136 : KeyFit Try.prog 136 of2 where
  find := fun x es l W h => by
    have heq : ∀ (x y : Int × Int) (W : World), (Op.equal 136 (of2 x) (of2 y)).run Try.prog W = .ok (decide (x = y)) W := fun x y W => by
      have h1 : (Op.equalIn (9998 + 2) 136 (of2 x) (of2 y)).run Try.prog W = .ok (x.1 == y.1 && (x.2 == y.2)) W := by
        refine eqA_of Try.underlying136 (by kernel_rfl) ?_
        refine eqf_cons (by rfl) (by go_simp; rfl) (by go_simp; rfl) (by go_simp) ?_
        exact eqf_last (by rfl) (by go_simp; rfl) (by go_simp; rfl) (by go_simp)
      have h2 : (x.1 == y.1 && (x.2 == y.2)) = decide (x = y) := by
        rw [Bool.eq_iff_iff]
        simp [Prod.ext_iff]
      rw [← h2]
      exact h1
    have hf := findAsking_of heq x W es l 0 h
    cases es with
    | nil => cases l with
      | nil => simp [Instr.findKey, Instr.findNow, run_underlying Try.underlying136, kfind]
      | cons p l => simp at h
    | cons e es => cases l with
      | nil => simp at h
      | cons p l =>
        obtain ⟨⟨h1, _⟩, _⟩ := (by simpa using h : (e.key = of2 p.1 ∧ e.val = p.2) ∧ es.map (fun e => (e.key, e.val)) = l.map (fun p => (of2 p.1, p.2)))
        have h2 : Instr.findNow (TypeDesc.struct #[{ name := "person", type := 3, offset := 0, embedded := false, tag := "", pkgPath := "palantype/office", byteOffset := 0 }, { name := "day", type := 3, offset := 1, embedded := false, tag := "", pkgPath := "palantype/office", byteOffset := 8 }]) (of2 x) (e :: es) 0 = none := by simp [Instr.findNow, Instr.sameNow, h1, of2]
        simp [Instr.findKey, run_underlying Try.underlying136, Result.andThen, h2]
        exact hf
  check := fun x e W => by
    unfold of2
    have p0 : ∀ W : World, Sem.run Try.prog (part 3 #[.int .i64 x.1, .int .i64 x.2] 0) W = .ok (.int .i64 x.1) W := fun W => by go_simp
    have p1 : ∀ W : World, Sem.run Try.prog (part 3 #[.int .i64 x.1, .int .i64 x.2] 1) W = .ok (.int .i64 x.2) W := fun W => by go_simp
    have hc : ∀ (n : Int) (W : World), Sem.run Try.prog (Instr.checkKey e 9999 3 (.int .i64 n)) W = .ok () W := fun n W => MapKept.run_checkKey Try.underlying3 (by trivial) e 9998
    rw [Instr.checkKey]
    simp [run_underlying Try.underlying136, Result.andThen, p0, p1, hc]
  same := fun x => by simp [Instr.sameBits, of2]

/-- Is somebody's name told twice for a day? -/
def dupFrom : List (Int × Int) → List S109 → Bool
  | _, [] => false
  | ks, n :: l => if (n.f0, n.f1) ∈ ks then true else dupFrom (ks ++ [(n.f0, n.f1)]) l
/-- The error of a roll. -/
def rollFault (p o : Int) (ts : List S59) (ns : List S109) : Int :=
  if withinB p 1 20 && (withinB o 1 10 && (decide (ts.length ≤ 40) && ts.all (termOk p o))) then
    if ns.length ≤ 60 then if ns.all (nameOk p) then if dupFrom [] ns then 6 else 0 else 1 else 3
  else 1
def office_Roll_check.f (a0_0 : Int) (a0_1 : Int) (l0_2 : List (S59)) (l0_3 : List (S109)) : Option (Int) := some (rollFault a0_0 a0_1 l0_2 l0_3)
set_option maxHeartbeats 4000000 in
set_option maxRecDepth 100000 in
theorem check_calls (p o : Int) (A2 : Option Addr) (c2 : Nat) (ts : List S59) (A3 : Option Addr) (c3 : Nat) (ns : List S109) (w : World)
    (hr2 : Kd.C k59 w A2 ts.length ts) (hr3 : Kd.C k109 w A3 ns.length ns) :
    Calls Try.prog 61 #[.agg #[.int .i64 p, .int .i64 o, .slice A2 ts.length c2, .slice A3 ns.length c3]] w fun e w' => e = .returned (.int .i64 (rollFault p o ts ns)) ∧ Below w.heap.size w w' := by
  have HR2 := Aside0.mk hr2
  have HR3 := Aside0.mk hr3
  clear hr2 hr3
  have hu35 := Try.underlying35
  have HB0 := fun O O' => Aside0.mk (((Below.refl w.heap.size w).alloc (Nat.le_refl _) O).alloc (by simp) O')
  cases h1 : withinB p 1 20
  · have HE := Aside0.mk (show rollFault p o ts ns = 1 by unfold rollFault; rw [h1]; rfl)
    go_enter Try.func61, Try.ntmps61
    go_wp2_with (first | (go_at_call 73; (with_reducible refine (within_calls _ _ _ _).mono ?_); rintro e w' ⟨rfl, rfl⟩))
    go_ret
    exact ⟨by rw [HE.out]; rfl, (HB0 _ _).out⟩
  cases h2 : withinB o 1 10
  · have HE := Aside0.mk (show rollFault p o ts ns = 1 by unfold rollFault; rw [h1, h2]; rfl)
    go_enter Try.func61, Try.ntmps61
    go_wp2_with (first | (go_at_call 73; (with_reducible refine (within_calls _ _ _ _).mono ?_); rintro e w' ⟨rfl, rfl⟩))
    go_ret
    exact ⟨by rw [HE.out]; rfl, (HB0 _ _).out⟩
  by_cases h3 : ts.length ≤ 40
  case neg =>
    have HE := Aside0.mk (show rollFault p o ts ns = 1 by unfold rollFault; rw [h1, h2, decide_eq_false h3]; rfl)
    have h3' : decide (40 < ts.length) = true := decide_eq_true (by omega)
    have h3'' : decide ((40 : Int) < (ts.length : Int)) = true := decide_eq_true (by omega)
    clear h3
    go_enter Try.func61, Try.ntmps61
    go_wp2_with (first | (go_at_call 73; (with_reducible refine (within_calls _ _ _ _).mono ?_); rintro e w' ⟨rfl, rfl⟩))
    go_ret
    exact ⟨by rw [HE.out]; rfl, (HB0 _ _).out⟩
  case pos =>
    have H3 := Aside0.mk h3
    have h3' : decide (40 < ts.length) = false := decide_eq_false (by omega)
    have h3'' : decide ((40 : Int) < (ts.length : Int)) = false := decide_eq_false (by omega)
    clear h3
    have hp : 1 ≤ p ∧ p ≤ 20 := by unfold withinB at h1; simp at h1; omega
    have ho : 1 ≤ o ∧ o ≤ 10 := by unfold withinB at h2; simp at h2; omega
    have HP := Aside0.mk hp
    have HO := Aside0.mk ho
    clear hp ho
    cases h4 : ts.all (termOk p o)
    · have HE := Aside0.mk (show rollFault p o ts ns = 1 by unfold rollFault; rw [h1, h2, decide_eq_true H3.out, h4]; rfl)
      go_enter Try.func61, Try.ntmps61
      go_wp2_with (first | (go_at_call 73; (with_reducible refine (within_calls _ _ _ _).mono ?_); rintro e w' ⟨rfl, rfl⟩))
      refine (allTerm 83 #[.pointer (some ⟨w.heap.size + 1, 0, none⟩), .pointer (some ⟨w.heap.size, 0, none⟩)] (termOk p o) A2 c2 ts _ (Kd.C_below HR2.out (HB0 _ _).out) (by have := H3.out; omega) (enters_ Try.func83 (by kernel_rfl) rfl) (fun x W hb => check2_calls x p o (w.heap.size + 1) w.heap.size W HP.out HO.out ((hb.cell (p := ⟨w.heap.size + 1, 0, none⟩) (by first | (simp; done) | (simp; omega))).trans (by simp)) ((hb.cell (p := ⟨w.heap.size, 0, none⟩) (by first | (simp; done) | (simp; omega))).trans (by simp)) ((hb.cell (p := ⟨w.heap.size, 1, none⟩) (by first | (simp; done) | (simp; omega))).trans (by simp)))).mono ?_
      rintro e w1 ⟨rfl, hb1⟩
      have HB1 := Aside0.mk (below_then (HB0 _ _).out (HB0 _ _).out.size hb1)
      have hz1 : w.heap.size + 1 < w1.heap.size := by have := hb1.size; simp at this; omega
      have hk3 : w1.cell? ⟨w.heap.size, 3, none⟩ = some (.slice A3 ns.length c3) := (hb1.cell (p := ⟨w.heap.size, 3, none⟩) (by first | (simp; done) | (simp; omega))).trans (by simp)
      have hk0 : w1.cell? ⟨w.heap.size, 0, none⟩ = some (.int .i64 p) := (hb1.cell (p := ⟨w.heap.size, 0, none⟩) (by first | (simp; done) | (simp; omega))).trans (by simp)
      have hq1 : w1.cell? ⟨w.heap.size + 1, 0, none⟩ = some (.func (.func 82) #[] #[.pointer (some ⟨w.heap.size, 0, none⟩)]) := (hb1.cell (p := ⟨w.heap.size + 1, 0, none⟩) (by first | (simp; done) | (simp; omega))).trans (by simp)
      clear hb1
      go_wp2
      go_ret
      exact ⟨by rw [HE.out]; rfl, HB1.out⟩
    have HV := Aside0.mk (show (withinB p 1 20 && (withinB o 1 10 && (decide (ts.length ≤ 40) && ts.all (termOk p o)))) = true by rw [h1, h2, decide_eq_true H3.out, h4]; rfl)
    by_cases h5 : ns.length ≤ 60
    case neg =>
      have HE := Aside0.mk (show rollFault p o ts ns = 3 by unfold rollFault; rw [if_pos HV.out, if_neg h5])
      have h5' : decide (60 < ns.length) = true := decide_eq_true (by omega)
      have h5'' : decide ((60 : Int) < (ns.length : Int)) = true := decide_eq_true (by omega)
      clear h5
      go_enter Try.func61, Try.ntmps61
      go_wp2_with (first | (go_at_call 73; (with_reducible refine (within_calls _ _ _ _).mono ?_); rintro e w' ⟨rfl, rfl⟩))
      refine (allTerm 83 #[.pointer (some ⟨w.heap.size + 1, 0, none⟩), .pointer (some ⟨w.heap.size, 0, none⟩)] (termOk p o) A2 c2 ts _ (Kd.C_below HR2.out (HB0 _ _).out) (by have := H3.out; omega) (enters_ Try.func83 (by kernel_rfl) rfl) (fun x W hb => check2_calls x p o (w.heap.size + 1) w.heap.size W HP.out HO.out ((hb.cell (p := ⟨w.heap.size + 1, 0, none⟩) (by first | (simp; done) | (simp; omega))).trans (by simp)) ((hb.cell (p := ⟨w.heap.size, 0, none⟩) (by first | (simp; done) | (simp; omega))).trans (by simp)) ((hb.cell (p := ⟨w.heap.size, 1, none⟩) (by first | (simp; done) | (simp; omega))).trans (by simp)))).mono ?_
      rintro e w1 ⟨rfl, hb1⟩
      have HB1 := Aside0.mk (below_then (HB0 _ _).out (HB0 _ _).out.size hb1)
      have hz1 : w.heap.size + 1 < w1.heap.size := by have := hb1.size; simp at this; omega
      have hk3 : w1.cell? ⟨w.heap.size, 3, none⟩ = some (.slice A3 ns.length c3) := (hb1.cell (p := ⟨w.heap.size, 3, none⟩) (by first | (simp; done) | (simp; omega))).trans (by simp)
      have hk0 : w1.cell? ⟨w.heap.size, 0, none⟩ = some (.int .i64 p) := (hb1.cell (p := ⟨w.heap.size, 0, none⟩) (by first | (simp; done) | (simp; omega))).trans (by simp)
      have hq1 : w1.cell? ⟨w.heap.size + 1, 0, none⟩ = some (.func (.func 82) #[] #[.pointer (some ⟨w.heap.size, 0, none⟩)]) := (hb1.cell (p := ⟨w.heap.size + 1, 0, none⟩) (by first | (simp; done) | (simp; omega))).trans (by simp)
      clear hb1
      go_wp2
      go_ret
      exact ⟨by rw [HE.out]; rfl, HB1.out⟩
    case pos =>
      have H5 := Aside0.mk h5
      have h5' : decide (60 < ns.length) = false := decide_eq_false (by omega)
      have h5'' : decide ((60 : Int) < (ns.length : Int)) = false := decide_eq_false (by omega)
      clear h5
      cases h6 : ns.all (nameOk p)
      · have HE := Aside0.mk (show rollFault p o ts ns = 1 by unfold rollFault; rw [if_pos HV.out, if_pos H5.out, h6]; rfl)
        go_enter Try.func61, Try.ntmps61
        go_wp2_with (first | (go_at_call 73; (with_reducible refine (within_calls _ _ _ _).mono ?_); rintro e w' ⟨rfl, rfl⟩))
        refine (allTerm 83 #[.pointer (some ⟨w.heap.size + 1, 0, none⟩), .pointer (some ⟨w.heap.size, 0, none⟩)] (termOk p o) A2 c2 ts _ (Kd.C_below HR2.out (HB0 _ _).out) (by have := H3.out; omega) (enters_ Try.func83 (by kernel_rfl) rfl) (fun x W hb => check2_calls x p o (w.heap.size + 1) w.heap.size W HP.out HO.out ((hb.cell (p := ⟨w.heap.size + 1, 0, none⟩) (by first | (simp; done) | (simp; omega))).trans (by simp)) ((hb.cell (p := ⟨w.heap.size, 0, none⟩) (by first | (simp; done) | (simp; omega))).trans (by simp)) ((hb.cell (p := ⟨w.heap.size, 1, none⟩) (by first | (simp; done) | (simp; omega))).trans (by simp)))).mono ?_
        rintro e w1 ⟨rfl, hb1⟩
        have HB1 := Aside0.mk (below_then (HB0 _ _).out (HB0 _ _).out.size hb1)
        have hz1 : w.heap.size + 1 < w1.heap.size := by have := hb1.size; simp at this; omega
        have hk3 : w1.cell? ⟨w.heap.size, 3, none⟩ = some (.slice A3 ns.length c3) := (hb1.cell (p := ⟨w.heap.size, 3, none⟩) (by first | (simp; done) | (simp; omega))).trans (by simp)
        have hk0 : w1.cell? ⟨w.heap.size, 0, none⟩ = some (.int .i64 p) := (hb1.cell (p := ⟨w.heap.size, 0, none⟩) (by first | (simp; done) | (simp; omega))).trans (by simp)
        have hq1 : w1.cell? ⟨w.heap.size + 1, 0, none⟩ = some (.func (.func 82) #[] #[.pointer (some ⟨w.heap.size, 0, none⟩)]) := (hb1.cell (p := ⟨w.heap.size + 1, 0, none⟩) (by first | (simp; done) | (simp; omega))).trans (by simp)
        clear hb1
        go_wp2_with fail
        refine (allCalled 85 #[.pointer (some ⟨w.heap.size + 1, 0, none⟩)] (nameOk p) A3 c3 ns _ (Kd.C_below HR3.out HB1.out) (by have := H5.out; omega) (enters_ Try.func85 (by kernel_rfl) rfl) (fun x W hb => check3_calls x p (w.heap.size + 1) w.heap.size W HP.out ((hb.cell (p := ⟨w.heap.size + 1, 0, none⟩) hz1).trans hq1) ((hb.cell (p := ⟨w.heap.size, 0, none⟩) (by simp; omega)).trans hk0))).mono ?_
        rintro e w2 ⟨rfl, hb2⟩
        have HB2 := Aside0.mk (below_then HB1.out HB1.out.size hb2)
        have hz2 : w.heap.size + 1 < w2.heap.size := by have := hb2.size; omega
        have hm3 : w2.cell? ⟨w.heap.size, 3, none⟩ = some (.slice A3 ns.length c3) := (hb2.cell (p := ⟨w.heap.size, 3, none⟩) (by simp; omega)).trans hk3
        clear hb2 hk0 hq1 hk3
        go_wp2
        go_ret
        exact ⟨by rw [HE.out]; rfl, HB2.out⟩
      · have HE := Aside0.mk (show rollFault p o ts ns = if dupFrom [] ns then 6 else 0 by unfold rollFault; rw [if_pos HV.out, if_pos H5.out, h6]; rfl)
        have hmm := @run_makeMap Try.prog
        have hu109 := Try.underlying109
        have hu136 := Try.underlying136
        go_enter Try.func61, Try.ntmps61
        go_wp2_with (first | (go_at_call 73; (with_reducible refine (within_calls _ _ _ _).mono ?_); rintro e w' ⟨rfl, rfl⟩))
        refine (allTerm 83 #[.pointer (some ⟨w.heap.size + 1, 0, none⟩), .pointer (some ⟨w.heap.size, 0, none⟩)] (termOk p o) A2 c2 ts _ (Kd.C_below HR2.out (HB0 _ _).out) (by have := H3.out; omega) (enters_ Try.func83 (by kernel_rfl) rfl) (fun x W hb => check2_calls x p o (w.heap.size + 1) w.heap.size W HP.out HO.out ((hb.cell (p := ⟨w.heap.size + 1, 0, none⟩) (by first | (simp; done) | (simp; omega))).trans (by simp)) ((hb.cell (p := ⟨w.heap.size, 0, none⟩) (by first | (simp; done) | (simp; omega))).trans (by simp)) ((hb.cell (p := ⟨w.heap.size, 1, none⟩) (by first | (simp; done) | (simp; omega))).trans (by simp)))).mono ?_
        rintro e w1 ⟨rfl, hb1⟩
        have HB1 := Aside0.mk (below_then (HB0 _ _).out (HB0 _ _).out.size hb1)
        have hz1 : w.heap.size + 1 < w1.heap.size := by have := hb1.size; simp at this; omega
        have hk3 : w1.cell? ⟨w.heap.size, 3, none⟩ = some (.slice A3 ns.length c3) := (hb1.cell (p := ⟨w.heap.size, 3, none⟩) (by first | (simp; done) | (simp; omega))).trans (by simp)
        have hk0 : w1.cell? ⟨w.heap.size, 0, none⟩ = some (.int .i64 p) := (hb1.cell (p := ⟨w.heap.size, 0, none⟩) (by first | (simp; done) | (simp; omega))).trans (by simp)
        have hq1 : w1.cell? ⟨w.heap.size + 1, 0, none⟩ = some (.func (.func 82) #[] #[.pointer (some ⟨w.heap.size, 0, none⟩)]) := (hb1.cell (p := ⟨w.heap.size + 1, 0, none⟩) (by first | (simp; done) | (simp; omega))).trans (by simp)
        clear hb1
        go_wp2_with fail
        refine (allCalled 85 #[.pointer (some ⟨w.heap.size + 1, 0, none⟩)] (nameOk p) A3 c3 ns _ (Kd.C_below HR3.out HB1.out) (by have := H5.out; omega) (enters_ Try.func85 (by kernel_rfl) rfl) (fun x W hb => check3_calls x p (w.heap.size + 1) w.heap.size W HP.out ((hb.cell (p := ⟨w.heap.size + 1, 0, none⟩) hz1).trans hq1) ((hb.cell (p := ⟨w.heap.size, 0, none⟩) (by simp; omega)).trans hk0))).mono ?_
        rintro e w2 ⟨rfl, hb2⟩
        have HB2 := Aside0.mk (below_then HB1.out HB1.out.size hb2)
        have hz2 : w.heap.size + 1 < w2.heap.size := by have := hb2.size; omega
        have hm3 : w2.cell? ⟨w.heap.size, 3, none⟩ = some (.slice A3 ns.length c3) := (hb2.cell (p := ⟨w.heap.size, 3, none⟩) (by simp; omega)).trans hk3
        clear hb2 hk0 hq1 hk3
        have hm4 := fun O => pw_cell_below ((Below.refl w2.heap.size w2).alloc (Nat.le_refl _) O) hm3
        have HM := Aside0.mk (MapIs.made w2 of2)
        have HB3 := fun O => Aside0.mk (HB2.out.alloc HB2.out.size O)
        go_wp2
        go_loopg [52] ns.length (fun kq v52 w' => ∃ i : Int, v52 = .int .i64 i ∧ Aside0 (0 ≤ i ∧ kq + i.toNat = ns.length) ∧ Aside0 (∃ ks, MapIs w' w2.heap.size of2 (ks.map fun q => (q, Value.bool true)) ∧ dupFrom [] ns = dupFrom ks (ns.drop i.toNat)) ∧ Aside0 (Below w.heap.size w w'))
        case atStart => exact ⟨0, rfl, ⟨by omega⟩, ⟨[], HM.out, rfl⟩, HB3 _⟩
        case round =>
          obtain ⟨i, rfl, HK, HI, HB⟩ := hrel
          by_cases hlt : i < (ns.length : Int)
          case neg =>
            have c0 : decide (i < (ns.length : Int)) = false := decide_eq_false hlt
            have HF := Aside0.mk (show rollFault p o ts ns = 0 by
              obtain ⟨ks, _, hd⟩ := HI.out
              rw [HE.out, hd, List.drop_eq_nil_of_le (by have := HK.out; omega)]
              rfl)
            clear hlt
            go_wp2
            go_ret
            exact ⟨by rw [HF.out]; rfl, HB.out⟩
          case pos =>
            have c0 : decide (i < (ns.length : Int)) = true := decide_eq_true hlt
            have p1 : 0 ≤ i := HK.out.1
            obtain ⟨ks, HI1, HI2⟩ := HI.out
            have HS := Aside0.mk (HI2.trans (show dupFrom ks (ns.drop i.toNat) = if ((rd_T109 ns i).f0, (rd_T109 ns i).f1) ∈ ks then true else dupFrom (ks ++ [((rd_T109 ns i).f0, (rd_T109 ns i).f1)]) (ns.drop (i + 1).toNat) by
              have h' : i.toNat < ns.length := by omega
              rw [List.drop_eq_getElem_cons h', show (i + 1).toNat = i.toNat + 1 by omega]
              simp only [dupFrom, rd_T109, List.getD_eq_getElem?_getD, List.getElem?_eq_getElem h', Option.getD_some]))
            have HM1 := Aside0.mk HI1
            clear HI HI1 HI2
            obtain ⟨ad, hA, g0, g1, g2⟩ := at_T109 (Kd.C_below HR3.out HB.out) i p1 hlt
            cases hA
            have HBW := fun O O' => Aside0.mk (((Below.refl wr.heap.size wr).alloc (Nat.le_refl _) O).alloc (by simp) O')
            replace p1 := eq_true p1
            replace hlt := eq_true hlt
            by_cases hin : ((rd_T109 ns i).f0, (rd_T109 ns i).f1) ∈ ks
            · have HF := Aside0.mk (show rollFault p o ts ns = 6 by rw [HE.out, HS.out, if_pos hin]; rfl)
              have HG := Aside0.mk (show kget ((rd_T109 ns i).f0, (rd_T109 ns i).f1) (.bool false) (ks.map fun q => (q, Value.bool true)) = .bool true by rw [kget_keys]; simp [hin])
              clear hin
              go_wp2_with (at_lookup; refine map_lookup _ rfl _ _ 130 136 4 rfl of2 w2.heap.size _ ((rd_T109 ns i).f0, (rd_T109 ns i).f1) (.bool false) rfl rfl Try.underlying130 (Try.zeroValue4 _) fit136 (HM1.out.below (HBW _ _).out) ?_; rw [HG.out])
              go_ret
              exact ⟨by rw [HF.out]; rfl, below_then HB.out HB.out.size (HBW _ _).out⟩
            · have HN := Aside0.mk (HS.out.trans (if_neg hin))
              have HG := Aside0.mk (show kget ((rd_T109 ns i).f0, (rd_T109 ns i).f1) (.bool false) (ks.map fun q => (q, Value.bool true)) = .bool false by rw [kget_keys]; simp [hin])
              have HP1 := Aside0.mk (kput_keys ((rd_T109 ns i).f0, (rd_T109 ns i).f1) (.bool true) ks hin)
              clear hin
              have hw : wrap64 (i + 1) = i + 1 := by unfold wrap64; have := HK.out; have := H5.out; omega
              go_wp2_with (first | (at_lookup; refine map_lookup _ rfl _ _ 130 136 4 rfl of2 w2.heap.size _ ((rd_T109 ns i).f0, (rd_T109 ns i).f1) (.bool false) rfl rfl Try.underlying130 (Try.zeroValue4 _) fit136 (HM1.out.below (HBW _ _).out) ?_; rw [HG.out]) | (at_mapUpdate; refine map_store _ rfl _ _ _ 130 136 4 rfl of2 w2.heap.size _ ((rd_T109 ns i).f0, (rd_T109 ns i).f1) (.bool true) rfl rfl rfl Try.underlying130 fit136 (HM1.out.below (HBW _ _).out) ?_; intro w3 hm hg; rw [HP1.out] at hm; have HM2 := Aside0.mk hm; have HB4 := Aside0.mk (pw_below_grown (below_then HB.out HB.out.size (HBW _ _).out) (some w2.heap.size) (by have := HB.out.size; simp; omega) hg (by rintro k h; cases h; exact HB2.out.size)); clear hm hg))
              go_roundg (gk - 1)
              case measure => have := HK.out; have := of_eq_true hlt; omega
              case rel => exact ⟨i + 1, by first | rfl | rw [hw], ⟨by have := HK.out; have := of_eq_true hlt; omega⟩, ⟨_, HM2.out, HN.out⟩, HB4⟩
theorem office_Roll_check.calls (a0_0 : Int) (a0_1 : Int) (A0_2 : Option Addr) (c0_2 : Nat) (l0_2 : List (S59)) (A0_3 : Option Addr) (c0_3 : Nat) (l0_3 : List (S109)) (r : Int) (w : World) (hr0_2 : Kd.C k59 w A0_2 l0_2.length l0_2) (hc0_2 : l0_2.length ≤ c0_2) (hr0_3 : Kd.C k109 w A0_3 l0_3.length l0_3) (hc0_3 : l0_3.length ≤ c0_3) (h : office_Roll_check.f a0_0 a0_1 l0_2 l0_3 = some r) :
    Calls Try.prog 61 #[.agg #[.int .i64 a0_0, .int .i64 a0_1, .slice A0_2 l0_2.length c0_2, .slice A0_3 l0_3.length c0_3]] w fun e w' => e = .returned (.int .i64 r) ∧ Below w.heap.size w w' := by
  obtain rfl := Option.some.inj h
  exact check_calls a0_0 a0_1 A0_2 c0_2 l0_2 A0_3 c0_3 l0_3 w hr0_2 hr0_3
end Go.Proofs.Ythpheknchikodaa.P

/- Plain words for the document's answer: texts, terms, clashes. Conditions: the lists are no longer than the statements' guards let in. -/
namespace Go.Proofs.Ythpheknchikodaa.P
open Go.RowKit Go.Proofs.YthpheknchikodaaW.PrintWords Go.Proofs.YthpheknchikodaaW.PrintLast
set_option linter.unusedVariables false
set_option linter.unusedSimpArgs false

theorem w64 (n : Nat) (h : n < 1000000000000000000) : wrap64 ((n : Int) + 1) = ((n + 1 : Nat) : Int) := by unfold wrap64; push_cast; omega
theorem w64m {p : Int} (h : -1000000000 ≤ p) (h2 : p ≤ 1000000000) : wrap64 (p - 1) = p - 1 := by unfold wrap64; omega
def toT (t : S54) : S59 := ⟨t.f0, t.f1, ⟨t.f2.f0, t.f2.f1⟩, ⟨t.f3.f0, t.f3.f1⟩⟩
def toN (n : S88) : S109 := ⟨n.f0, n.f1, n.f2⟩
theorem rd54_get (ts : List S54) (i : Nat) (h : i < ts.length) : rd_T54 ts (i : Int) = ts[i] := by simp [rd_T54, h]
theorem rd88_get (ns : List S88) (i : Nat) (h : i < ns.length) : rd_T88 ns (i : Int) = ns[i] := by simp [rd_T88, h]
theorem In_f (a b c : Int) : palantyperef05_In.f a b c = some (withinB a b c) := by
  unfold palantyperef05_In.f withinB
  by_cases h : a ≥ b
  · rw [if_pos h, decide_eq_true (show b ≤ a from h), Bool.true_and]
  · rw [if_neg h, decide_eq_false (show ¬ b ≤ a from h), Bool.false_and]
theorem Ev.now' {α : Type} {g : Nat → Option α} {r : α} (h : ∀ k, g k = some r) : Ev g r := ⟨0, fun k _ => h k⟩

/-! ### Text -/
theorem bytesOf_drop (s : ByteArray) (i : Nat) (h : i < s.size) : (bytesOf s).drop i = bt s i :: (bytesOf s).drop (i + 1) := by
  have hl : i < (bytesOf s).length := by rw [bytesOf_length]; exact h
  rw [List.drop_eq_getElem_cons hl]
  congr 1
  have hb : bt s (i : Int) = ((s[i]'h).toNat : Int) := by unfold bt; rw [dif_pos (by simpa using h)]; rfl
  rw [hb]
  simp [bytesOf]
  rfl
theorem Text_l0 (s : ByteArray) (low : Int) (hs : s.size ≤ 1000000) : ∀ (n i : Nat), i + n = s.size → Ev (fun k => palantyperef05_Text.l0 k s low (i : Int)) (((bytesOf s).drop i).all (byteOk low) && withinB s.size 1 32) := by
  intro n
  induction n with
  | zero =>
    intro i hi
    refine Ev.step (fun k => palantyperef05_Text.l0.eq_2 ..) ?_
    rw [List.drop_eq_nil_of_le (by rw [bytesOf_length]; omega)]
    have h1 : ¬ ((i : Int) < (s.size : Int)) := by omega
    simp only [if_neg h1, In_f, Option.bind_some, List.all_nil, Bool.true_and]
    exact Ev.now _
  | succ n ih =>
    intro i hi
    refine Ev.step (fun k => palantyperef05_Text.l0.eq_2 ..) ?_
    rw [bytesOf_drop s i (by omega)]
    have h1 : (i : Int) < (s.size : Int) := by omega
    have h2 : (0 : Int) ≤ (i : Int) := by omega
    simp only [if_pos h1, if_pos h2, w64 i (by omega), List.all_cons, byteOk]
    by_cases h3 : bt s (i : Int) < low
    · simp only [if_pos h3, decide_eq_false (show ¬ low ≤ bt s i by omega), Bool.false_and]
      exact Ev.now _
    · simp only [if_neg h3, decide_eq_true (show low ≤ bt s i by omega), Bool.true_and]
      by_cases h4 : bt s (i : Int) > 126
      · simp only [if_pos h4, decide_eq_false (show ¬ bt s i ≤ 126 by omega), Bool.false_and]
        exact Ev.now _
      · simp only [if_neg h4, decide_eq_true (show bt s i ≤ 126 by omega), Bool.true_and]
        exact ih (i + 1) (by omega)
theorem Text_f (s : ByteArray) (low : Int) (hs : s.size ≤ 1000000) : Ev (fun k => palantyperef05_Text.f k s low) (textOk low s) := by
  have h := Text_l0 s low hs s.size 0 (by omega)
  rw [List.drop_zero, Bool.and_comm] at h
  exact h

/-! ### Fault -/
theorem dupFrom_step (ks : List (Int × Int)) (n : S109) (l : List S109) : dupFrom ks (n :: l) = (decide ((n.f0, n.f1) ∈ ks) || dupFrom (ks ++ [(n.f0, n.f1)]) l) := by
  rw [dupFrom]
  by_cases h : (n.f0, n.f1) ∈ ks <;> simp [h]
def keysOf (ns : List S88) : List (Int × Int) := ns.map fun n => (n.f0, n.f1)
def faultOf (p o : Int) (ts : List S54) (ns : List S88) : Int := rollFault p o (ts.map toT) (ns.map toN)
/-! ### Clashes -/
def befB (a b : S59) : Bool := decide (a.f3.f0 ≤ b.f2.f1)
def clashB (a b : S59) : Bool := decide (a.f1 = b.f1) && (!befB a b && !befB b a)
/-- The first term from k on that clashes with one. -/
def findClash (t : S59) : Int → List S59 → Option Int
  | _, [] => none
  | k, o :: l => if clashB t o then some k else findClash t (k + 1) l
/-- The first two terms that clash. -/
def firstClash : Int → List S59 → Option (Int × Int)
  | _, [] => none
  | i, t :: l => match findClash t (i + 1) l with | some k => some (i, k) | none => firstClash (i + 1) l
def pairOf : Option (Int × Int) → Int × Int
  | some x => x
  | none => (-1, -1)
def clashOf (ts : List S54) : Option (Int × Int) := firstClash 0 (ts.map toT)
theorem findClash_ge (t : S59) : ∀ (l : List S59) (k r : Int), findClash t k l = some r → k ≤ r
  | [], _, _, h => by cases h
  | o :: l, k, r, h => by
    rw [findClash] at h
    split at h
    · cases h; omega
    · have := findClash_ge t l (k + 1) r h; omega
theorem firstClash_ge : ∀ (l : List S59) (i : Int) (r : Int × Int), firstClash i l = some r → i ≤ r.1 ∧ r.1 < r.2
  | [], _, _, h => by cases h
  | t :: l, i, r, h => by
    rw [firstClash] at h
    cases c : findClash t (i + 1) l with
    | some k =>
      rw [c] at h
      cases h
      have := findClash_ge t l _ _ c
      exact ⟨Int.le_refl _, by show i < k; omega⟩
    | none =>
      rw [c] at h
      have := firstClash_ge l _ _ h
      omega

def brokenOf (p o : Int) (ts : List S54) (ns : List S88) : Int := if faultOf p o ts ns = 0 then (if (clashOf ts).isSome then 9 else 0) else faultOf p o ts ns
def askedOf (p o : Int) (ts : List S54) (ns : List S88) (n most day : Int) : Int :=
  if faultOf p o ts ns = 0 then (if (withinB n 0 (wrap64 (most - 1)) && withinB day 0 100000) = true then brokenOf p o ts ns else 2) else faultOf p o ts ns
/-! ### Thin, Roll -/
def thinB (ts : List S54) (ns : List S88) : Bool := ((ns.take 66).all fun n => decide (n.f2.size ≤ 40)) && (decide (ts.length ≤ 45) && decide (ns.length ≤ 65))
theorem thin_facts {ts : List S54} {ns : List S88} (h : thinB ts ns = true) : ts.length ≤ 45 ∧ ns.length ≤ 65 ∧ ∀ n ∈ ns, n.f2.size ≤ 1000000 := by
  unfold thinB at h
  simp only [Bool.and_eq_true, decide_eq_true_eq] at h
  obtain ⟨h1, h2, h3⟩ := h
  refine ⟨h2, h3, fun n hn => ?_⟩
  rw [List.take_of_length_le (by omega)] at h1
  have := List.all_eq_true.1 h1 n hn
  simp at this
  omega
/-- The cells of a roll, in a block. -/
theorem roll_cells {w : World} {g : Nat} {t : TypeId} {a b c d : Value} (h : w.heap[g]? = some (.cells #[a, b, c, d] t (0, 0))) :
    w.cell? ⟨g, 0, none⟩ = some a ∧ w.cell? ⟨g, 1, none⟩ = some b ∧ w.cell? ⟨g, 2, none⟩ = some c ∧ w.cell? ⟨g, 3, none⟩ = some d :=
  ⟨blk_cell h 0, blk_cell h 1, blk_cell h 2, blk_cell h 3⟩
end Go.Proofs.Ythpheknchikodaa.P

-- Written for this claim by a program of this session (over the kit's print). Lean checks it.
namespace Go.Proofs.Ythpheknchikodaa.P
open Go.RowKit Go.Proofs.YthpheknchikodaaW.PrintWords Go.Proofs.YthpheknchikodaaW.PrintLast
set_option linter.unusedVariables false
set_option linter.unusedSimpArgs false

/-! ### palantypelaw05_Thin: function 17 -/
mutual
def palantypelaw05_Thin.l0 : Nat → Int → Int → Int → List (S54) → List (S88) → Option (Bool)
  | 0, _, _, _, _, _ => none
  | k + 1, x3, x102000, x102001, x102002, x102003 => if x3 < (x102003.length : Int) then (palantypelaw05_Thin.j1 k x3 (decide (x3 < 66)) x102000 x102001 x102002 x102003) else (palantypelaw05_Thin.j1 k x3 false x102000 x102001 x102002 x102003)
def palantypelaw05_Thin.j1 : Nat → Int → Bool → Int → Int → List (S54) → List (S88) → Option (Bool)
  | 0, _, _, _, _, _, _ => none
  | k + 1, x3, x12, x102000, x102001, x102002, x102003 => if x12 = true then (if 0 ≤ x3 then (if x3 < (x102003.length : Int) then (if (((rd_T88 x102003 x3).f2).size : Int) > 40 then (some false) else (palantypelaw05_Thin.l0 k (wrap64 (x3 + 1)) x102000 x102001 x102002 x102003)) else (none)) else (none)) else (if (x102002.length : Int) ≤ 45 then (some (decide ((x102003.length : Int) ≤ 65))) else (some false))
end
def palantypelaw05_Thin.f (k : Nat) (a0_0 : Int) (a0_1 : Int) (l0_2 : List (S54)) (l0_3 : List (S88)) : Option (Bool) := palantypelaw05_Thin.l0 k 0 a0_0 a0_1 l0_2 l0_3
theorem palantypelaw05_Thin.mono_l : ∀ k, (∀ y0 y1 y2 y3 y4, LeO (palantypelaw05_Thin.l0 k y0 y1 y2 y3 y4) (palantypelaw05_Thin.l0 (k + 1) y0 y1 y2 y3 y4)) ∧ (∀ y0 y1 y2 y3 y4 y5, LeO (palantypelaw05_Thin.j1 k y0 y1 y2 y3 y4 y5) (palantypelaw05_Thin.j1 (k + 1) y0 y1 y2 y3 y4 y5))
  | 0 => ⟨fun _ _ _ _ _ r h => by simp [palantypelaw05_Thin.l0] at h, fun _ _ _ _ _ _ r h => by simp [palantypelaw05_Thin.j1] at h⟩
  | k + 1 => by
    obtain ⟨ih0, ih1⟩ := palantypelaw05_Thin.mono_l k
    refine ⟨?_, ?_⟩
    · intro y0 y1 y2 y3 y4
      unfold palantypelaw05_Thin.l0
      repeat' first
      | (with_reducible exact ih0 _ _ _ _ _)
      | (with_reducible exact ih1 _ _ _ _ _ _)
      | (with_reducible exact LeO.refl _)
      | (with_reducible exact LeO.none _)
      | (with_reducible refine LeO.ite ?_ ?_)
      | (with_reducible refine LeO.bind ?_ (fun _ => ?_))
      | exact ih0 _ _ _ _ _
      | exact ih1 _ _ _ _ _ _
      | exact LeO.none _
      | refine LeO.ite ?_ ?_
      | refine LeO.bind ?_ (fun _ => ?_)
    · intro y0 y1 y2 y3 y4 y5
      unfold palantypelaw05_Thin.j1
      repeat' first
      | (with_reducible exact ih0 _ _ _ _ _)
      | (with_reducible exact ih1 _ _ _ _ _ _)
      | (with_reducible exact LeO.refl _)
      | (with_reducible exact LeO.none _)
      | (with_reducible refine LeO.ite ?_ ?_)
      | (with_reducible refine LeO.bind ?_ (fun _ => ?_))
      | exact ih0 _ _ _ _ _
      | exact ih1 _ _ _ _ _ _
      | exact LeO.none _
      | refine LeO.ite ?_ ?_
      | refine LeO.bind ?_ (fun _ => ?_)
theorem palantypelaw05_Thin.mono : ∀ a0 a1 a2 a3 k, LeO (palantypelaw05_Thin.f k a0 a1 a2 a3) (palantypelaw05_Thin.f (k + 1) a0 a1 a2 a3) := by
  intro a0 a1 a2 a3 k
  obtain ⟨ih0, ih1⟩ := palantypelaw05_Thin.mono_l k
  unfold palantypelaw05_Thin.f
  repeat' first
      | (with_reducible exact ih0 _ _ _ _ _)
      | (with_reducible exact ih1 _ _ _ _ _ _)
      | (with_reducible exact LeO.refl _)
      | (with_reducible exact LeO.none _)
      | (with_reducible refine LeO.ite ?_ ?_)
      | (with_reducible refine LeO.bind ?_ (fun _ => ?_))
      | exact ih0 _ _ _ _ _
      | exact ih1 _ _ _ _ _ _
      | exact LeO.none _
      | refine LeO.ite ?_ ?_
      | refine LeO.bind ?_ (fun _ => ?_)
set_option maxHeartbeats 8000000 in
set_option maxRecDepth 100000 in
theorem palantypelaw05_Thin.calls (k : Nat) (a0_0 : Int) (a0_1 : Int) (A0_2 : Option Addr) (c0_2 : Nat) (l0_2 : List (S54)) (A0_3 : Option Addr) (c0_3 : Nat) (l0_3 : List (S88)) (r : Bool) (w : World) (hr0_2 : Kd.C k54 w A0_2 l0_2.length l0_2) (hc0_2 : l0_2.length ≤ c0_2) (hr0_3 : Kd.C k88 w A0_3 l0_3.length l0_3) (hc0_3 : l0_3.length ≤ c0_3) (h : palantypelaw05_Thin.f k a0_0 a0_1 l0_2 l0_3 = some r) :
    Calls Try.prog 17 #[.agg #[.int .i64 a0_0, .int .i64 a0_1, .slice A0_2 l0_2.length c0_2, .slice A0_3 l0_3.length c0_3]] w fun e w' => e = .returned (.bool r) ∧ Below w.heap.size w w' := by
  have hu25 := Try.underlying25
  have HR0_2 := Aside0.mk hr0_2
  have HC0_2 := Aside0.mk hc0_2
  clear hr0_2 hc0_2
  have HR0_3 := Aside0.mk hr0_3
  have HC0_3 := Aside0.mk hc0_3
  clear hr0_3 hc0_3
  have HB := Aside0.mk (Below.refl w.heap.size w)
  have H : (palantypelaw05_Thin.l0 k 0 a0_0 a0_1 l0_2 l0_3) = some r := h
  clear h
  have H' := Aside0.mk H
  clear H
  go_enter Try.func17, Try.ntmps17
  go_wp2_with (first | ((with_reducible refine gate_dst (N := 1) rfl ?_); (try (refine gate_guard (by rfl) ?_; dsimp only)); refine box_event ?hg (N := 1) ?hd (cs := #[.int .i64 a0_0, .int .i64 a0_1, .slice A0_2 l0_2.length c0_2, .slice A0_3 l0_3.length c0_3]) (t := 25) ?hr ?_; (case hd => rfl); (case hg => rfl); (case hr => first | (go_simp; done) | (go_simp; rfl)); intro gb101 hg w2 hbox hb; have n0_ := Aside0.mk (below_step (by repeat (first | (with_reducible first | exact HB.out | apply below_alloc | apply pw_below_drewN | apply below_drew1) | exact HB.out)) hb); have n1_ := Aside0.mk (hbox); have n2_ := Aside0.mk ((by rw [hg]; exact (below_size (by repeat (first | (with_reducible first | exact HB.out | apply below_alloc | apply pw_below_drewN | apply below_drew1) | exact HB.out))) : w.heap.size ≤ gb101)); have n3_ := Aside0.mk ((by rw [hg]; exact (below_size (by repeat (first | (with_reducible first | exact HB.out | apply below_alloc | apply pw_below_drewN | apply below_drew1) | exact HB.out))) : w.heap.size ≤ gb101)); clear HB; have HB := n0_; have BK101 := n1_; have GW101 := n2_; have GE101 := n3_; clear n0_ n1_ n2_ n3_; clear hb hbox hg))
  go_loopg [3] k (fun kq v3 w' => ∃ (x3_1 : Int), v3 = .int .i64 x3_1 ∧ Aside0 (palantypelaw05_Thin.l0 kq x3_1 a0_0 a0_1 l0_2 l0_3 = some r) ∧ Aside0 (kq ≤ k) ∧ Aside0 (w'.heap[gb101]? = some (.cells #[.int .i64 a0_0, .int .i64 a0_1, (.slice A0_2 l0_2.length c0_2), (.slice A0_3 l0_3.length c0_3)] 25 (0, 0))) ∧ Aside0 (Below w.heap.size w w'))
  case atStart => exact ⟨(0), (by first | rfl | (simp; done) | (simp [*]; done)), H', ⟨Nat.le_refl _⟩, ⟨by (with_reducible repeat (first | refine blk_drewN ?_ _ | refine blk_drew ?_ | refine blk_alloc ?_ _)); exact BK101.out⟩, ⟨by repeat (first | (with_reducible first | exact HB.out | apply below_alloc | apply pw_below_drewN | apply below_drew1 | refine below_set ?_ GE101.out) | exact HB.out)⟩⟩
  case round =>
    clear H'
    try clear c1
    try clear p2
    obtain ⟨x3_1, rfl, HA, HK1, BK101, HB⟩ := hrel
    cases gk with
    | zero => exact absurd HA.out (by simp [palantypelaw05_Thin.l0])
    | succ k1 =>
      have H := HA.out
      clear HA
      simp only [palantypelaw05_Thin.l0] at H
      have HC3 := Aside0.mk H
      clear H
      go_upto_region 2 with (fail)
      go_cut [12] (fun v12 wc => ∃ (kq : Nat) (x12_2 : Bool), v12 = .bool x12_2 ∧ Aside0 (palantypelaw05_Thin.j1 kq x3_1 x12_2 a0_0 a0_1 l0_2 l0_3 = some r) ∧ Aside0 (kq ≤ k1) ∧ Aside0 (wc.heap[gb101]? = some (.cells #[.int .i64 a0_0, .int .i64 a0_1, (.slice A0_2 l0_2.length c0_2), (.slice A0_3 l0_3.length c0_3)] 25 (0, 0))) ∧ Aside0 (Below w.heap.size w wc))
      case first =>
        have H := HC3.out
        clear HC3
        by_cases c4 : x3_1 < (l0_3.length : Int)
        · rw [if_pos c4] at H
          have c4b0 : decide (x3_1 < (l0_3.length : Int)) = true := decide_eq_true c4
          clear c4
          (first | rw [c4b0] | (simp only [i64_w, i32_w]; rw [c4b0]) | skip)
          have H' := Aside0.mk H
          clear H
          have hcz5_0 : wr.cell? ⟨gb101, 0, none⟩ = some (.int .i64 a0_0) := (blk_cell BK101.out 0).trans rfl
          have hcz5_1 : wr.cell? ⟨gb101, 1, none⟩ = some (.int .i64 a0_1) := (blk_cell BK101.out 1).trans rfl
          have hcz5_2 : wr.cell? ⟨gb101, 2, none⟩ = some (.slice A0_2 l0_2.length c0_2) := (blk_cell BK101.out 2).trans rfl
          have hcz5_3 : wr.cell? ⟨gb101, 3, none⟩ = some (.slice A0_3 l0_3.length c0_3) := (blk_cell BK101.out 3).trans rfl
          have hfz5_0 := blk_frozen BK101.out 0
          have hfz5_1 := blk_frozen BK101.out 1
          have hfz5_2 := blk_frozen BK101.out 2
          have hfz5_3 := blk_frozen BK101.out 3
          go_wp2
          go_meet
          case rel => exact ⟨_, (decide (x3_1 < 66)), (by first | rfl | (simp; done) | (simp [*]; done)), H', ⟨by have := HK1.out; first | omega | exact Nat.le_refl _⟩, ⟨by (with_reducible repeat (first | refine blk_drewN ?_ _ | refine blk_drew ?_ | refine blk_alloc ?_ _)); exact BK101.out⟩, ⟨by repeat (first | (with_reducible first | exact HB.out | apply below_alloc | apply pw_below_drewN | apply below_drew1 | refine below_set ?_ GE101.out) | exact HB.out)⟩⟩
        · rw [if_neg c4] at H
          have c4b0 : decide (x3_1 < (l0_3.length : Int)) = false := decide_eq_false c4
          clear c4
          (first | rw [c4b0] | (simp only [i64_w, i32_w]; rw [c4b0]) | skip)
          have H' := Aside0.mk H
          clear H
          have hcz6_0 : wr.cell? ⟨gb101, 0, none⟩ = some (.int .i64 a0_0) := (blk_cell BK101.out 0).trans rfl
          have hcz6_1 : wr.cell? ⟨gb101, 1, none⟩ = some (.int .i64 a0_1) := (blk_cell BK101.out 1).trans rfl
          have hcz6_2 : wr.cell? ⟨gb101, 2, none⟩ = some (.slice A0_2 l0_2.length c0_2) := (blk_cell BK101.out 2).trans rfl
          have hcz6_3 : wr.cell? ⟨gb101, 3, none⟩ = some (.slice A0_3 l0_3.length c0_3) := (blk_cell BK101.out 3).trans rfl
          have hfz6_0 := blk_frozen BK101.out 0
          have hfz6_1 := blk_frozen BK101.out 1
          have hfz6_2 := blk_frozen BK101.out 2
          have hfz6_3 := blk_frozen BK101.out 3
          go_wp2
          go_meet
          case rel => exact ⟨_, (false), (by first | rfl | (simp; done) | (simp [*]; done)), H', ⟨by have := HK1.out; first | omega | exact Nat.le_refl _⟩, ⟨by (with_reducible repeat (first | refine blk_drewN ?_ _ | refine blk_drew ?_ | refine blk_alloc ?_ _)); exact BK101.out⟩, ⟨by repeat (first | (with_reducible first | exact HB.out | apply below_alloc | apply pw_below_drewN | apply below_drew1 | refine below_set ?_ GE101.out) | exact HB.out)⟩⟩
      case rest =>
        clear HC3
        try clear c1
        try clear p2
        try clear c4
        try clear c4b0
        try clear hcz5_0
        try clear hcz5_1
        try clear hcz5_2
        try clear hcz5_3
        try clear hcz6_0
        try clear hcz6_1
        try clear hcz6_2
        try clear hcz6_3
        try clear hfz5_0
        try clear hfz5_1
        try clear hfz5_2
        try clear hfz5_3
        try clear hfz6_0
        try clear hfz6_1
        try clear hfz6_2
        try clear hfz6_3
        try clear p2
        obtain ⟨kq, x12_2, rfl, HA, HJ2, BK101, HB⟩ := hcut
        cases kq with
        | zero => exact absurd HA.out (by simp [palantypelaw05_Thin.j1])
        | succ kj2 =>
          have H := HA.out
          clear HA
          simp only [palantypelaw05_Thin.j1] at H
          by_cases c7 : x12_2 = true
          · subst c7
            have H1 : (if 0 ≤ x3_1 then (if x3_1 < (l0_3.length : Int) then (if (((rd_T88 l0_3 x3_1).f2).size : Int) > 40 then (some false) else (palantypelaw05_Thin.l0 kj2 (wrap64 (x3_1 + 1)) a0_0 a0_1 l0_2 l0_3)) else (none)) else (none)) = some r := by rw [if_pos rfl] at H; exact H
            clear H
            have H := H1
            clear H1
            by_cases c8 : 0 ≤ x3_1
            · rw [if_pos c8] at H
              have c8b0 : decide (0 ≤ x3_1) = true := decide_eq_true c8
              clear c8
              by_cases c9 : x3_1 < (l0_3.length : Int)
              · rw [if_pos c9] at H
                have c9b0 : decide (x3_1 < (l0_3.length : Int)) = true := decide_eq_true c9
                clear c9
                by_cases c10 : (((rd_T88 l0_3 x3_1).f2).size : Int) > 40
                · rw [if_pos c10] at H
                  have c10b0 : decide (40 < (((rd_T88 l0_3 x3_1).f2).size : Int)) = true := decide_eq_true c10
                  have c10b1 : decide (40 < ((rd_T88 l0_3 x3_1).f2).size) = true := decide_eq_true (by omega)
                  clear c10
                  obtain rfl := Option.some.inj H
                  have hcz11_0 : wc.cell? ⟨gb101, 0, none⟩ = some (.int .i64 a0_0) := (blk_cell BK101.out 0).trans rfl
                  have hcz11_1 : wc.cell? ⟨gb101, 1, none⟩ = some (.int .i64 a0_1) := (blk_cell BK101.out 1).trans rfl
                  have hcz11_2 : wc.cell? ⟨gb101, 2, none⟩ = some (.slice A0_2 l0_2.length c0_2) := (blk_cell BK101.out 2).trans rfl
                  have hcz11_3 : wc.cell? ⟨gb101, 3, none⟩ = some (.slice A0_3 l0_3.length c0_3) := (blk_cell BK101.out 3).trans rfl
                  have hfz11_0 := blk_frozen BK101.out 0
                  have hfz11_1 := blk_frozen BK101.out 1
                  have hfz11_2 := blk_frozen BK101.out 2
                  have hfz11_3 := blk_frozen BK101.out 3
                  have p102 : 0 ≤ (x3_1 : Int) := of_decide_eq_true (by first | (with_reducible assumption) | assumption)
                  have q102 : x3_1 < (l0_3.length : Int) := of_decide_eq_true (by first | (with_reducible assumption) | assumption)
                  obtain ⟨ad102, e102, hx102_0, hx102_1, hx102_2⟩ := at_T88 HR0_3.out x3_1 p102 q102
                  cases e102
                  replace hx102_0 := (HB.out.cell (World.block_lt_of_cell? w _ hx102_0)).trans hx102_0
                  replace hx102_1 := (HB.out.cell (World.block_lt_of_cell? w _ hx102_1)).trans hx102_1
                  replace hx102_2 := (HB.out.cell (World.block_lt_of_cell? w _ hx102_2)).trans hx102_2
                  replace p102 := eq_true p102
                  replace q102 := eq_true q102
                  go_wp2
                  go_ret
                  exact ⟨by first | rfl | (simp [errW_none, errW_some] <;> rfl) | (simp [*, errW_none, errW_some] <;> rfl), by repeat (first | (with_reducible first | exact HB.out | apply below_alloc | apply pw_below_drewN | apply below_drew1 | refine below_set ?_ GE101.out) | exact HB.out)⟩
                · rw [if_neg c10] at H
                  have c10b0 : decide (40 < (((rd_T88 l0_3 x3_1).f2).size : Int)) = false := decide_eq_false c10
                  have c10b1 : decide (40 < ((rd_T88 l0_3 x3_1).f2).size) = false := decide_eq_false (by omega)
                  clear c10
                  have H' := Aside0.mk H
                  clear H
                  have hcz12_0 : wc.cell? ⟨gb101, 0, none⟩ = some (.int .i64 a0_0) := (blk_cell BK101.out 0).trans rfl
                  have hcz12_1 : wc.cell? ⟨gb101, 1, none⟩ = some (.int .i64 a0_1) := (blk_cell BK101.out 1).trans rfl
                  have hcz12_2 : wc.cell? ⟨gb101, 2, none⟩ = some (.slice A0_2 l0_2.length c0_2) := (blk_cell BK101.out 2).trans rfl
                  have hcz12_3 : wc.cell? ⟨gb101, 3, none⟩ = some (.slice A0_3 l0_3.length c0_3) := (blk_cell BK101.out 3).trans rfl
                  have hfz12_0 := blk_frozen BK101.out 0
                  have hfz12_1 := blk_frozen BK101.out 1
                  have hfz12_2 := blk_frozen BK101.out 2
                  have hfz12_3 := blk_frozen BK101.out 3
                  have p102 : 0 ≤ (x3_1 : Int) := of_decide_eq_true (by first | (with_reducible assumption) | assumption)
                  have q102 : x3_1 < (l0_3.length : Int) := of_decide_eq_true (by first | (with_reducible assumption) | assumption)
                  obtain ⟨ad102, e102, hx102_0, hx102_1, hx102_2⟩ := at_T88 HR0_3.out x3_1 p102 q102
                  cases e102
                  replace hx102_0 := (HB.out.cell (World.block_lt_of_cell? w _ hx102_0)).trans hx102_0
                  replace hx102_1 := (HB.out.cell (World.block_lt_of_cell? w _ hx102_1)).trans hx102_1
                  replace hx102_2 := (HB.out.cell (World.block_lt_of_cell? w _ hx102_2)).trans hx102_2
                  replace p102 := eq_true p102
                  replace q102 := eq_true q102
                  go_wp2
                  go_roundg kj2
                  case measure => have := HK1.out; have := HJ2.out; omega
                  case rel => exact ⟨(wrap64 (x3_1 + 1)), (by first | rfl | (simp; done) | (simp [*]; done)), H', ⟨by have := HK1.out; have := HJ2.out; omega⟩, ⟨by (with_reducible repeat (first | refine blk_drewN ?_ _ | refine blk_drew ?_ | refine blk_alloc ?_ _)); exact BK101.out⟩, ⟨by repeat (first | (with_reducible first | exact HB.out | apply below_alloc | apply pw_below_drewN | apply below_drew1 | refine below_set ?_ GE101.out) | exact HB.out)⟩⟩
              · rw [if_neg c9] at H
                exact absurd H (by simp)
            · rw [if_neg c8] at H
              exact absurd H (by simp)
          · replace c7 := Bool.eq_false_iff.mpr c7
            subst c7
            have H1 : (if (l0_2.length : Int) ≤ 45 then (some (decide ((l0_3.length : Int) ≤ 65))) else (some false)) = some r := by rw [if_neg (show ¬ (false = true) by decide)] at H; exact H
            clear H
            have H := H1
            clear H1
            by_cases c13 : (l0_2.length : Int) ≤ 45
            · rw [if_pos c13] at H
              have c13b0 : decide ((l0_2.length : Int) ≤ 45) = true := decide_eq_true c13
              have c13b1 : decide (l0_2.length ≤ 45) = true := decide_eq_true (by omega)
              clear c13
              obtain rfl := Option.some.inj H
              have hcz14_0 : wc.cell? ⟨gb101, 0, none⟩ = some (.int .i64 a0_0) := (blk_cell BK101.out 0).trans rfl
              have hcz14_1 : wc.cell? ⟨gb101, 1, none⟩ = some (.int .i64 a0_1) := (blk_cell BK101.out 1).trans rfl
              have hcz14_2 : wc.cell? ⟨gb101, 2, none⟩ = some (.slice A0_2 l0_2.length c0_2) := (blk_cell BK101.out 2).trans rfl
              have hcz14_3 : wc.cell? ⟨gb101, 3, none⟩ = some (.slice A0_3 l0_3.length c0_3) := (blk_cell BK101.out 3).trans rfl
              have hfz14_0 := blk_frozen BK101.out 0
              have hfz14_1 := blk_frozen BK101.out 1
              have hfz14_2 := blk_frozen BK101.out 2
              have hfz14_3 := blk_frozen BK101.out 3
              go_wp2
              go_ret
              exact ⟨by first | rfl | (simp [errW_none, errW_some] <;> rfl) | (simp [*, errW_none, errW_some] <;> rfl), by repeat (first | (with_reducible first | exact HB.out | apply below_alloc | apply pw_below_drewN | apply below_drew1 | refine below_set ?_ GE101.out) | exact HB.out)⟩
            · rw [if_neg c13] at H
              have c13b0 : decide ((l0_2.length : Int) ≤ 45) = false := decide_eq_false c13
              have c13b1 : decide (l0_2.length ≤ 45) = false := decide_eq_false (by omega)
              clear c13
              obtain rfl := Option.some.inj H
              have hcz15_0 : wc.cell? ⟨gb101, 0, none⟩ = some (.int .i64 a0_0) := (blk_cell BK101.out 0).trans rfl
              have hcz15_1 : wc.cell? ⟨gb101, 1, none⟩ = some (.int .i64 a0_1) := (blk_cell BK101.out 1).trans rfl
              have hcz15_2 : wc.cell? ⟨gb101, 2, none⟩ = some (.slice A0_2 l0_2.length c0_2) := (blk_cell BK101.out 2).trans rfl
              have hcz15_3 : wc.cell? ⟨gb101, 3, none⟩ = some (.slice A0_3 l0_3.length c0_3) := (blk_cell BK101.out 3).trans rfl
              have hfz15_0 := blk_frozen BK101.out 0
              have hfz15_1 := blk_frozen BK101.out 1
              have hfz15_2 := blk_frozen BK101.out 2
              have hfz15_3 := blk_frozen BK101.out 3
              go_wp2
              go_ret
              exact ⟨by first | rfl | (simp [errW_none, errW_some] <;> rfl) | (simp [*, errW_none, errW_some] <;> rfl), by repeat (first | (with_reducible first | exact HB.out | apply below_alloc | apply pw_below_drewN | apply below_drew1 | refine below_set ?_ GE101.out) | exact HB.out)⟩

end Go.Proofs.Ythpheknchikodaa.P

-- Written for this claim by a program of this session (over the kit's print). Lean checks it.
namespace Go.Proofs.Ythpheknchikodaa.P
open Go.RowKit Go.Proofs.YthpheknchikodaaW.PrintWords Go.Proofs.YthpheknchikodaaW.PrintLast
set_option linter.unusedVariables false
set_option linter.unusedSimpArgs false

/-! ### palantypelaw05_to: function 28 -/
def palantypelaw05_to.f (a0_0 : Int) (a0_1 : Int) : Option (Int × Int) := some (a0_0, a0_1)
set_option maxHeartbeats 8000000 in
set_option maxRecDepth 100000 in
theorem palantypelaw05_to.calls (a0_0 : Int) (a0_1 : Int) (r1 : Int) (r2 : Int) (w : World) (h : palantypelaw05_to.f a0_0 a0_1 = some (r1, r2)) :
    Calls Try.prog 28 #[.agg #[.int .i64 a0_0, .int .i64 a0_1]] w fun e w' => e = .returned (.agg #[.int .i64 r1, .int .i64 r2]) ∧ Below w.heap.size w w' := by
  have hu52 := Try.underlying52
  have hu49 := Try.underlying49
  have HB := Aside0.mk (Below.refl w.heap.size w)
  have H : (some (a0_0, a0_1)) = some (r1, r2) := h
  clear h
  simp only [Option.some.injEq, Prod.mk.injEq] at H
  obtain ⟨rfl, rfl⟩ := H
  go_enter Try.func28, Try.ntmps28
  go_wp2_with (first | ((with_reducible refine gate_dst (N := 1) rfl ?_); refine box_event ?hg (N := 1) ?hd (cs := #[.int .i64 a0_0, .int .i64 a0_1]) (t := 52) ?hr ?_; (case hd => rfl); (case hg => rfl); (case hr => first | (go_simp; done) | (go_simp; rfl)); intro gb101 hg w2 hbox hb; have n0_ := Aside0.mk (below_step (by repeat (first | (with_reducible first | exact HB.out | apply below_alloc | apply pw_below_drewN | apply below_drew1) | exact HB.out)) hb); have n1_ := Aside0.mk (hbox); have n2_ := Aside0.mk ((by rw [hg]; exact (below_size (by repeat (first | (with_reducible first | exact HB.out | apply below_alloc | apply pw_below_drewN | apply below_drew1) | exact HB.out))) : w.heap.size ≤ gb101)); have n3_ := Aside0.mk ((by rw [hg]; exact (below_size (by repeat (first | (with_reducible first | exact HB.out | apply below_alloc | apply pw_below_drewN | apply below_drew1) | exact HB.out))) : w.heap.size ≤ gb101)); clear HB; have HB := n0_; have BK101 := n1_; have GW101 := n2_; have GE101 := n3_; clear n0_ n1_ n2_ n3_; clear hb hbox hg) | ((with_reducible refine gate_dst (N := 2) rfl ?_); refine box_event ?hg (N := 2) ?hd (cs := #[.int .i64 0, .int .i64 0]) (t := 49) ?hr ?_; (case hd => rfl); (case hg => rfl); (case hr => first | (go_simp; done) | (go_simp; rfl)); intro gb102 hg w3 hbox hb; have n0_ := Aside0.mk (blk_below (g := gb101) (o := .cells #[.int .i64 a0_0, .int .i64 a0_1] 52 (0, 0)) (by (with_reducible repeat (first | refine blk_drewN ?_ _ | refine blk_drew ?_ | refine blk_alloc ?_ _)); exact BK101.out) hb); have n1_ := Aside0.mk (below_step (by repeat (first | (with_reducible first | exact HB.out | apply below_alloc | apply pw_below_drewN | apply below_drew1 | refine below_set ?_ GE101.out) | exact HB.out)) hb); have n2_ := Aside0.mk (hbox); have n3_ := Aside0.mk ((by rw [hg]; exact (below_size (by repeat (first | (with_reducible first | exact HB.out | apply below_alloc | apply pw_below_drewN | apply below_drew1 | refine below_set ?_ GE101.out) | exact HB.out))) : w.heap.size ≤ gb102)); have n4_ := Aside0.mk ((by rw [hg]; exact (below_size (by repeat (first | (with_reducible first | exact HB.out | apply below_alloc | apply pw_below_drewN | apply below_drew1 | refine below_set ?_ GE101.out) | exact HB.out))) : w.heap.size ≤ gb102)); have n5_ := Aside0.mk ((by rw [hg]; exact Nat.ne_of_lt (blk_lt (g := gb101) (o := .cells #[.int .i64 a0_0, .int .i64 a0_1] 52 (0, 0)) (by (with_reducible repeat (first | refine blk_drewN ?_ _ | refine blk_drew ?_ | refine blk_alloc ?_ _)); exact BK101.out)) : gb101 ≠ gb102)); have n6_ := Aside0.mk ((by rw [hg]; exact Nat.ne_of_gt (blk_lt (g := gb101) (o := .cells #[.int .i64 a0_0, .int .i64 a0_1] 52 (0, 0)) (by (with_reducible repeat (first | refine blk_drewN ?_ _ | refine blk_drew ?_ | refine blk_alloc ?_ _)); exact BK101.out)) : gb102 ≠ gb101)); clear BK101; clear HB; have BK101 := n0_; have HB := n1_; have BK102 := n2_; have GW102 := n3_; have GE102 := n4_; have NB101_102 := n5_; have NB102_101 := n6_; clear n0_ n1_ n2_ n3_ n4_ n5_ n6_; clear hb hbox hg; have hnb4 := NB101_102.out; have hnc4 := NB102_101.out; have hcz5_0 : w3.cell? ⟨gb101, 0, none⟩ = some (.int .i64 a0_0) := (blk_cell BK101.out 0).trans rfl; have hcz5_1 : w3.cell? ⟨gb101, 1, none⟩ = some (.int .i64 a0_1) := (blk_cell BK101.out 1).trans rfl; have hfz5_0 := blk_frozen BK101.out 0; have hfz5_1 := blk_frozen BK101.out 1; have hcz6_0 : w3.cell? ⟨gb102, 0, none⟩ = some (.int .i64 0) := (blk_cell BK102.out 0).trans rfl; have hcz6_1 : w3.cell? ⟨gb102, 1, none⟩ = some (.int .i64 0) := (blk_cell BK102.out 1).trans rfl; have hfz6_0 := blk_frozen BK102.out 0; have hfz6_1 := blk_frozen BK102.out 1))
  refine bodyPost_ret (results_cell_row rfl _ _ gb102 49 #[.int .i64 a0_0, .int .i64 a0_1] (0, 0) _ rfl (by (with_reducible repeat (first | refine blk_drewN ?_ _ | refine blk_drew ?_ | refine blk_alloc ?_ _)); refine blk_put (cs := #[.int .i64 a0_0, .int .i64 0]) ?_ 1 _ rfl; (with_reducible repeat (first | refine blk_drewN ?_ _ | refine blk_drew ?_ | refine blk_alloc ?_ _)); refine blk_put (cs := #[.int .i64 0, .int .i64 0]) ?_ 0 _ rfl; (with_reducible repeat (first | refine blk_drewN ?_ _ | refine blk_drew ?_ | refine blk_alloc ?_ _)); exact BK102.out) Try.underlying49 rfl (by kernel_rfl)) rfl ?_
  exact ⟨by first | rfl | (simp [errW_none, errW_some] <;> rfl) | (simp [*, errW_none, errW_some] <;> rfl), by repeat (first | (with_reducible first | exact HB.out | apply below_alloc | apply pw_below_drewN | apply below_drew1 | refine below_set ?_ GE101.out | refine below_set ?_ GE102.out) | exact HB.out)⟩

end Go.Proofs.Ythpheknchikodaa.P
