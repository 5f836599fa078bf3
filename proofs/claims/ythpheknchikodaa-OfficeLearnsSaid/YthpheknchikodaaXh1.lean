/- Contracts of functions that the laws reach, part Xh1. Conditions: each theorem names its own. -/
import Derived.Test.YthpheknchikodaaXb13
import Derived.Test.YthpheknchikodaaXb8
import Derived.Test.YthpheknchikodaaXb3
import Derived.Test.YthpheknchikodaaXb10
import Derived.Test.YthpheknchikodaaXb11
/- The walk of Dates. Conditions: at most 45 dates. -/
namespace Go.Proofs.Ythpheknchikodaa.P
open Go.RowKit Go.Proofs.YthpheknchikodaaW.PrintWords Go.Proofs.YthpheknchikodaaW.PrintLast
set_option linter.unusedVariables false
set_option linter.unusedSimpArgs false

def toD (d : S102) : S107 := ⟨d.f0, d.f1⟩
set_option maxHeartbeats 8000000 in
set_option maxRecDepth 100000 in
theorem Dates_calls (A : Option Addr) (c : Nat) (ds : List S102) (w : World) (h : Kd.C k102 w A ds.length ds) (hl : ds.length ≤ 45) :
    Calls Try.prog 46 #[.slice A ds.length c] w fun e w' => ∃ (B : Option Addr) (d : Nat), e = .returned (.slice B ds.length d) ∧ ds.length ≤ d ∧ Kd.C k107 w' B ds.length (ds.map toD) ∧ Below w.heap.size w w' := by
  have hu102 := Try.underlying102
  have hu107 := Try.underlying107
  have hu91 := Try.underlying91
  have HC := Aside0.mk h
  have HL := Aside0.mk hl
  clear h hl
  go_enter Try.func46, Try.ntmps46
  go_wp2
  go_loopg [3, 4] ds.length (fun kq v3 v4 w' => ∃ i : Int, v4 = .int .i64 i ∧ Aside0 (0 ≤ i ∧ kq + i.toNat = ds.length) ∧ Aside0 (Kd.R k107 107 w' w.heap.size (fun _ => True) v3 ((ds.take i.toNat).map toD)) ∧ Aside0 (Below w.heap.size w w'))
  case atStart => exact ⟨0, rfl, ⟨by simp⟩, ⟨Kd.R_nil _ _ _ _ _⟩, ⟨Below.refl _ _⟩⟩
  case round =>
    obtain ⟨i, rfl, HI, HO, HB⟩ := hrel
    rename World => W1
    by_cases hlt : i < (ds.length : Int)
    case neg =>
      have t0 : decide (i < (ds.length : Int)) = false := decide_eq_false hlt
      have ho := HO.out
      rw [List.take_of_length_le (by have := HI.out; omega)] at ho
      obtain ⟨B, d, e⟩ := Kd.R_slice ho
      rw [List.length_map] at e
      subst e
      have hC := (Kd.R_reads' ho).2
      rw [List.length_map] at hC
      have HCZ := Aside0.mk hC
      clear hlt ho hC HO
      go_wp2
      go_ret
      exact ⟨B, d, rfl, HCZ.out.1, HCZ.out.2, HB.out⟩
    case pos =>
      have t0 : decide (i < (ds.length : Int)) = true := decide_eq_true hlt
      have i0 : 0 ≤ i := HI.out.1
      have HW := Aside0.mk (show wrap64 (i + 1) = i + 1 by unfold wrap64; have := HL.out; omega)
      have HLT := Aside0.mk hlt
      obtain ⟨ad, hA, y0, y1⟩ := at_T102 (Kd.C_below HC.out HB.out) i i0 hlt
      obtain ⟨d, hd⟩ : ∃ d, rd_T102 ds i = d := ⟨_, rfl⟩
      rw [hd] at y0 y1
      have HN := Aside0.mk (show (ds.take i.toNat).map toD ++ [(⟨d.f0, d.f1⟩ : S107)] = (ds.take (i + 1).toNat).map toD by
        have h' : i.toNat < ds.length := by omega
        rw [show (i + 1).toNat = i.toNat + 1 by omega, List.take_add_one, List.map_append, ← hd]
        congr 1
        simp [rd_T102, h', toD])
      have HLEN := Aside0.mk (show ((ds.take i.toNat).map toD).length ≤ 45 by rw [List.length_map, List.length_take]; have := HL.out; omega)
      cases hA
      clear hd
      replace i0 := eq_true i0
      replace hlt := eq_true hlt
      go_wp2
      refine start_ (n := 15) (S := fun w' => w'.cell? (ad.add (i.toNat * 2)) = some (.int .i64 d.f0) ∧ w'.cell? ⟨(ad.add (i.toNat * 2)).block, (ad.add (i.toNat * 2)).off + 1, none⟩ = some (.int .i64 d.f1)) (ds := [13]) #[false, false, false, false, false, false, false, false, false, false, false, false, false, false, false] (by kernel_rfl) rfl rfl ⟨y0, y1⟩ (fun hHeld => ?_)
      have HB' := Aside0.mk (below_drew1 HB.out)
      have HO' := Aside0.mk (Kd.R_drew HO.out)
      clear HB HO
      have HB := HB'
      have HO := HO'
      clear HB' HO'
      generalize W1.drew = wd at HB HO hHeld ⊢
      refine pure_ (i := 0) (N := some 11) (v := ?_) (a' := ?_) #[true, false, false, false, false, false, false, false, false, false, false, false, false, false, false] rfl rfl (by kernel_rfl) (fun _ _ _ h => h) (Or.inl ⟨by rfl, ?_⟩) ?_ ?_
      rotate_left
      · intro w'
        go_simp
        with_reducible rfl
      rotate_left
      · simp only [Act.put, List.setIfInBounds_toArray, List.set_cons_zero, List.set_cons_succ, i64_w, i32_w]
        rfl
      refine pure_ (i := 1) (N := some 12) (v := ?_) (a' := ?_) #[true, true, false, false, false, false, false, false, false, false, false, false, false, false, false] rfl rfl (by kernel_rfl) (fun _ _ _ h => h) (Or.inl ⟨by rfl, ?_⟩) ?_ ?_
      rotate_left
      · intro w'
        go_simp
        with_reducible rfl
      rotate_left
      · simp only [Act.put, List.setIfInBounds_toArray, List.set_cons_zero, List.set_cons_succ, i64_w, i32_w]
        rfl
      refine pure_ (i := 2) (N := some 13) (v := ?_) (a' := ?_) #[true, true, true, false, false, false, false, false, false, false, false, false, false, false, false] rfl rfl (by kernel_rfl) (fun _ _ _ h => h) (Or.inl ⟨by rfl, ?_⟩) ?_ ?_
      rotate_left
      · intro w'
        go_simp
        with_reducible rfl
      rotate_left
      · simp only [Act.put, List.setIfInBounds_toArray, List.set_cons_zero, List.set_cons_succ, i64_w, i32_w]
        rfl
      refine pure_ (i := 3) (N := some 14) (v := ?_) (a' := ?_) #[true, true, true, true, false, false, false, false, false, false, false, false, false, false, false] rfl rfl (by kernel_rfl) (fun _ _ _ h => h) (Or.inl ⟨by rfl, ?_⟩) ?_ ?_
      rotate_left
      · intro w'
        go_simp
        with_reducible rfl
      rotate_left
      · simp only [Act.put, List.setIfInBounds_toArray, List.set_cons_zero, List.set_cons_succ, i64_w, i32_w]
        rfl
      refine pure_ (i := 4) (N := some 15) (v := ?_) (a' := ?_) #[true, true, true, true, true, false, false, false, false, false, false, false, false, false, false] rfl rfl (by kernel_rfl) (fun _ _ _ h => h) (Or.inl ⟨by rfl, ?_⟩) ?_ ?_
      rotate_left
      · intro w'
        go_simp
        with_reducible rfl
      rotate_left
      · simp only [Act.put, List.setIfInBounds_toArray, List.set_cons_zero, List.set_cons_succ, i64_w, i32_w]
        rfl
      refine pure_ (i := 6) (N := some 17) (v := ?_) (a' := ?_) #[true, true, true, true, true, false, true, false, false, false, false, false, false, false, false] rfl rfl (by kernel_rfl) (fun _ _ _ h => h) (Or.inl ⟨by rfl, ?_⟩) ?_ ?_
      rotate_left
      · intro w'
        go_simp
        with_reducible rfl
      rotate_left
      · simp only [Act.put, List.setIfInBounds_toArray, List.set_cons_zero, List.set_cons_succ, i64_w, i32_w]
        rfl
      refine pure_ (i := 7) (N := some 18) (v := ?_) (a' := ?_) #[true, true, true, true, true, false, true, true, false, false, false, false, false, false, false] rfl rfl (by kernel_rfl) (fun _ _ _ h => h) (Or.inl ⟨by rfl, ?_⟩) ?_ ?_
      rotate_left
      · intro w'
        go_simp
        with_reducible rfl
      rotate_left
      · simp only [Act.put, List.setIfInBounds_toArray, List.set_cons_zero, List.set_cons_succ, i64_w, i32_w]
        rfl
      refine pure_ (i := 8) (N := some 19) (v := ?_) (a' := ?_) #[true, true, true, true, true, false, true, true, true, false, false, false, false, false, false] rfl rfl (by kernel_rfl) (fun _ _ _ h => h) (Or.inl ⟨by rfl, ?_⟩) ?_ ?_
      rotate_left
      · intro w'
        go_simp
        with_reducible rfl
      rotate_left
      · simp only [Act.put, List.setIfInBounds_toArray, List.set_cons_zero, List.set_cons_succ, i64_w, i32_w]
        rfl
      refine pure_ (i := 9) (N := some 20) (v := ?_) (a' := ?_) #[true, true, true, true, true, false, true, true, true, true, false, false, false, false, false] rfl rfl (by kernel_rfl) (fun _ _ _ h => h) (Or.inl ⟨by rfl, ?_⟩) ?_ ?_
      rotate_left
      · intro w'
        go_simp
        with_reducible rfl
      rotate_left
      · simp only [Act.put, List.setIfInBounds_toArray, List.set_cons_zero, List.set_cons_succ, i64_w, i32_w]
        rfl
      refine take_ (i := 5) (N := some 16) (v := ?_) (a' := ?_) #[true, true, true, true, true, true, true, true, true, true, false, false, false, false, false] rfl rfl (by kernel_rfl) (fun _ _ _ h => h) (Or.inl ⟨by rfl, ?_⟩) hHeld ?_ ?_
      rotate_left
      · rintro w' ⟨s0, s1⟩
        go_simp
        with_reducible rfl
      rotate_left
      · simp only [Act.put, List.setIfInBounds_toArray, List.set_cons_zero, List.set_cons_succ, i64_w, i32_w]
        rfl
      refine take_ (i := 10) (N := some 21) (v := ?_) (a' := ?_) #[true, true, true, true, true, true, true, true, true, true, true, false, false, false, false] rfl rfl (by kernel_rfl) (fun _ _ _ h => h) (Or.inl ⟨by rfl, ?_⟩) hHeld ?_ ?_
      rotate_left
      · rintro w' ⟨s0, s1⟩
        go_simp
        with_reducible rfl
      rotate_left
      · simp only [Act.put, List.setIfInBounds_toArray, List.set_cons_zero, List.set_cons_succ, i64_w, i32_w]
        rfl
      refine pure_ (i := 11) (N := some 22) (v := ?_) (a' := ?_) #[true, true, true, true, true, true, true, true, true, true, true, true, false, false, false] rfl rfl (by kernel_rfl) (fun _ _ _ h => h) (Or.inl ⟨by rfl, ?_⟩) ?_ ?_
      rotate_left
      · intro w'
        go_simp
        with_reducible rfl
      rotate_left
      · simp only [Act.put, List.setIfInBounds_toArray, List.set_cons_zero, List.set_cons_succ, i64_w, i32_w]
        rfl
      refine one_ (i := 12) (N := some 23) #[true, true, true, true, true, true, true, true, true, true, true, true, true, false, false] rfl rfl (by kernel_rfl) (by decide) (fun K hK => ?_)
      refine value_ (w1 := ?_) (v := ?_) (by rfl) rfl ?_ ?_
      rotate_left 2
      · go_simp
        constructor
        · rfl
        · rfl
      refine hK.out _ _ ⟨pw_cell_below ((Below.refl _ _).alloc (Nat.le_refl _) _) hHeld.1, pw_cell_below ((Below.refl _ _).alloc (Nat.le_refl _) _) hHeld.2⟩ (fun hHeld => ?_)
      clear hK K
      refine norm_ (a' := ?_) ?_ ?_
      rotate_left
      · show Act.put _ (some 23) _ = _
        simp only [Act.put, List.setIfInBounds_toArray, List.set_cons_zero, List.set_cons_succ, i64_w, i32_w]
        rfl
      refine last_ (i := 13) (N := some 24) #[true, true, true, true, true, true, true, true, true, true, true, true, true, true, false] rfl rfl (by kernel_rfl) (by decide) (fun K hK => ?_)
      refine Kd.R_append_step k107 (w0 := w) w.heap.size (by rfl) (.tmp 11) (.tmp 23) 91 107 (.agg #[(.int .i64 0), (.int .i64 0)]) 16 rfl Try.underlying91 info107 rfl (by decide) (by omega) u3 ((ds.take i.toNat).map toD) (⟨d.f0, d.f1⟩ : S107) [.int .i64 d.f0, .int .i64 d.f1] (fun _ => True) (fun _ => False) rfl rfl ?aP (fun _ hk => hk.elim) ?aF ?aO ?aB ?aS ?aL ?_
      (case aP => exact k107_mkM _ _ _ (⟨d.f0, d.f1⟩ : S107))
      (case aB => exact HB.out)
      (case aF => exact (fun _ _ => trivial))
      (case aO => exact HO.out)
      (case aS => exact below_size HB.out)
      (case aL => have := HLEN.out; omega)
      intro v6 w6 ho hb hg hat
      rw [HN.out] at ho
      have HO5 := Aside0.mk ho
      have HB5 := Aside0.mk hb
      clear ho hb hg hat
      refine hK.out _ _ ?_
      clear hK K
      refine norm_ (a' := ?_) ?_ ?_
      rotate_left
      · show Act.put _ (some 24) _ = _
        simp only [Act.put, List.setIfInBounds_toArray, List.set_cons_zero, List.set_cons_succ, i64_w, i32_w]
        rfl
      refine pure_ (i := 14) (N := some 3) (v := ?_) (a' := ?_) #[true, true, true, true, true, true, true, true, true, true, true, true, true, true, true] rfl rfl (by kernel_rfl) (fun _ _ _ h => h) (Or.inl ⟨by rfl, ?_⟩) ?_ ?_
      rotate_left
      · intro w'
        go_simp
        with_reducible rfl
      rotate_left
      · simp only [Act.put, List.setIfInBounds_toArray, List.set_cons_zero, List.set_cons_succ, i64_w, i32_w]
        rfl
      refine done_ (by kernel_rfl) ?_
      go_wp2
      go_roundg (gk - 1)
      case measure => have := HI.out; have := HLT.out; omega
      case rel => exact ⟨i + 1, by first | rfl | rw [HW.out], ⟨by have := HI.out; have := HLT.out; omega⟩, HO5, HB5⟩
end Go.Proofs.Ythpheknchikodaa.P

/- Plain words for what is known of the terms of a roll: the reference's (over all terms) and the program's (by neighbours in an order) are the same. Conditions: the terms are as described, no two clash. -/
namespace Go.Proofs.Ythpheknchikodaa.P
open Go.RowKit Go.Proofs.YthpheknchikodaaW.PrintWords Go.Proofs.YthpheknchikodaaW.PrintLast
set_option linter.unusedVariables false
set_option linter.unusedSimpArgs false

def tAt (ts : List S59) (i : Nat) : S59 := ts.getD i z59
def TermsOk (ts : List S59) : Prop := ∀ i, i < ts.length → 0 ≤ (tAt ts i).f2.f0 ∧ (tAt ts i).f2.f0 ≤ (tAt ts i).f2.f1 ∧ (tAt ts i).f2.f1 < (tAt ts i).f3.f0 ∧ (tAt ts i).f3.f0 ≤ (tAt ts i).f3.f1 ∧ (tAt ts i).f3.f1 ≤ 100000
def NoClash (ts : List S59) : Prop := ∀ i j, i < j → j < ts.length → clashB (tAt ts i) (tAt ts j) = false
theorem tAt_get (ts : List S59) (i : Nat) (h : i < ts.length) : tAt ts i = ts[i] := by simp [tAt, h]
theorem clashB_comm (a b : S59) : clashB a b = clashB b a := by
  unfold clashB
  rw [Bool.and_comm (!befB a b)]
  congr 1
  rw [Bool.eq_iff_iff]
  simp
  exact eq_comm
theorem findClash_none (t : S59) : ∀ (l : List S59) (k : Int), findClash t k l = none ↔ ∀ o ∈ l, clashB t o = false
  | [], k => by simp [findClash]
  | o :: l, k => by
    rw [findClash]
    have ih := findClash_none t l (k + 1)
    cases h : clashB t o <;> simp [h, ih]
theorem firstClash_none : ∀ (l : List S59) (i : Int), firstClash i l = none ↔ l.Pairwise fun a b => clashB a b = false
  | [], i => by simp [firstClash]
  | t :: l, i => by
    rw [firstClash, List.pairwise_cons, ← findClash_none t l (i + 1), ← firstClash_none l (i + 1)]
    cases h : findClash t (i + 1) l <;> simp
theorem noClash_iff (ts : List S59) : firstClash 0 ts = none ↔ NoClash ts := by
  rw [firstClash_none, List.pairwise_iff_getElem]
  constructor
  · intro h i j hij hj
    rw [tAt_get ts i (by omega), tAt_get ts j hj]
    exact h i j (by omega) hj hij
  · intro h i j hi hj hij
    have := h i j hij hj
    rwa [tAt_get ts i hi, tAt_get ts j hj] at this
theorem termOk_facts {p o : Int} {t : S59} (h : termOk p o t = true) : (0 ≤ t.f0 ∧ t.f0 < p) ∧ (0 ≤ t.f1 ∧ t.f1 < o) ∧ 0 ≤ t.f2.f0 ∧ t.f2.f0 ≤ t.f2.f1 ∧ t.f2.f1 < t.f3.f0 ∧ t.f3.f0 ≤ t.f3.f1 ∧ t.f3.f1 ≤ 100000 := by
  unfold termOk withinB rangeOk at h
  simp at h
  omega
/-- One term more, for what is known of term i. -/
def kStep (ts : List S59) (i : Nat) (a : Int × Int) (k : Nat) : Int × Int :=
  if k = i ∨ (tAt ts k).f1 ≠ (tAt ts i).f1 then a else if befB (tAt ts k) (tAt ts i) = true then (max a.1 (tAt ts k).f3.f0, a.2) else (a.1, min a.2 (tAt ts k).f2.f1)
def kAcc (ts : List S59) (i : Nat) : Int × Int := (List.range' 0 ts.length).foldl (kStep ts i) ((tAt ts i).f2.f0, (tAt ts i).f3.f1)
def knownAt (ts : List S59) (i : Nat) : S51 := ⟨⟨(kAcc ts i).1, (tAt ts i).f2.f1⟩, ⟨(tAt ts i).f3.f0, (kAcc ts i).2⟩⟩
/-- A term of the same office that can end before term i begins; one that cannot. -/
def Bef (ts : List S59) (i k : Nat) : Prop := k ≠ i ∧ (tAt ts k).f1 = (tAt ts i).f1 ∧ (tAt ts k).f3.f0 ≤ (tAt ts i).f2.f1
def Aft (ts : List S59) (i k : Nat) : Prop := k ≠ i ∧ (tAt ts k).f1 = (tAt ts i).f1 ∧ ¬ (tAt ts k).f3.f0 ≤ (tAt ts i).f2.f1
def IsLo (ts : List S59) (i : Nat) (x : Int) : Prop := (tAt ts i).f2.f0 ≤ x ∧ (∀ k, k < ts.length → Bef ts i k → (tAt ts k).f3.f0 ≤ x) ∧ (x = (tAt ts i).f2.f0 ∨ ∃ k, k < ts.length ∧ Bef ts i k ∧ x = (tAt ts k).f3.f0)
def IsHi (ts : List S59) (i : Nat) (x : Int) : Prop := x ≤ (tAt ts i).f3.f1 ∧ (∀ k, k < ts.length → Aft ts i k → x ≤ (tAt ts k).f2.f1) ∧ (x = (tAt ts i).f3.f1 ∨ ∃ k, k < ts.length ∧ Aft ts i k ∧ x = (tAt ts k).f2.f1)
theorem IsLo.unique {ts : List S59} {i : Nat} {x y : Int} (h : IsLo ts i x) (k : IsLo ts i y) : x = y := by
  obtain ⟨a1, a2, a3⟩ := h
  obtain ⟨b1, b2, b3⟩ := k
  have h1 : x ≤ y := by
    rcases a3 with e | ⟨q, hq, hb, e⟩
    · omega
    · have := b2 q hq hb; omega
  have h2 : y ≤ x := by
    rcases b3 with e | ⟨q, hq, hb, e⟩
    · omega
    · have := a2 q hq hb; omega
  omega
theorem IsHi.unique {ts : List S59} {i : Nat} {x y : Int} (h : IsHi ts i x) (k : IsHi ts i y) : x = y := by
  obtain ⟨a1, a2, a3⟩ := h
  obtain ⟨b1, b2, b3⟩ := k
  have h1 : y ≤ x := by
    rcases a3 with e | ⟨q, hq, hb, e⟩
    · omega
    · have := b2 q hq hb; omega
  have h2 : x ≤ y := by
    rcases b3 with e | ⟨q, hq, hb, e⟩
    · omega
    · have := a2 q hq hb; omega
  omega
theorem kAcc_spec (ts : List S59) (i : Nat) (l : List Nat) : ∀ a : Int × Int,
    (a.1 ≤ (l.foldl (kStep ts i) a).1 ∧ (∀ k ∈ l, Bef ts i k → (tAt ts k).f3.f0 ≤ (l.foldl (kStep ts i) a).1) ∧ ((l.foldl (kStep ts i) a).1 = a.1 ∨ ∃ k ∈ l, Bef ts i k ∧ (l.foldl (kStep ts i) a).1 = (tAt ts k).f3.f0)) ∧
    ((l.foldl (kStep ts i) a).2 ≤ a.2 ∧ (∀ k ∈ l, Aft ts i k → (l.foldl (kStep ts i) a).2 ≤ (tAt ts k).f2.f1) ∧ ((l.foldl (kStep ts i) a).2 = a.2 ∨ ∃ k ∈ l, Aft ts i k ∧ (l.foldl (kStep ts i) a).2 = (tAt ts k).f2.f1)) := by
  induction l with
  | nil => intro a; simp
  | cons q l ih =>
    intro a
    obtain ⟨⟨l1, l2, l3⟩, ⟨h1, h2, h3⟩⟩ := ih (kStep ts i a q)
    rw [List.foldl_cons]
    generalize l.foldl (kStep ts i) (kStep ts i a q) = r at l1 l2 l3 h1 h2 h3 ⊢
    have hq : (kStep ts i a q = a ∧ ¬ Bef ts i q ∧ ¬ Aft ts i q) ∨ (kStep ts i a q = (max a.1 (tAt ts q).f3.f0, a.2) ∧ Bef ts i q ∧ ¬ Aft ts i q) ∨ (kStep ts i a q = (a.1, min a.2 (tAt ts q).f2.f1) ∧ ¬ Bef ts i q ∧ Aft ts i q) := by
      unfold kStep Bef Aft befB
      by_cases c1 : q = i ∨ (tAt ts q).f1 ≠ (tAt ts i).f1
      · rw [if_pos c1]
        refine .inl ⟨rfl, ?_, ?_⟩ <;> rintro ⟨x, y, _⟩ <;> rcases c1 with c | c <;> contradiction
      · rw [if_neg c1]
        have c2 : q ≠ i ∧ (tAt ts q).f1 = (tAt ts i).f1 := by
          refine ⟨fun e => c1 (.inl e), ?_⟩
          by_cases e : (tAt ts q).f1 = (tAt ts i).f1
          · exact e
          · exact absurd (.inr e) c1
        by_cases c3 : (tAt ts q).f3.f0 ≤ (tAt ts i).f2.f1
        · rw [if_pos (decide_eq_true c3)]
          exact .inr (.inl ⟨rfl, ⟨c2.1, c2.2, c3⟩, fun h => h.2.2 c3⟩)
        · rw [if_neg (by simpa using c3)]
          exact .inr (.inr ⟨rfl, fun h => c3 h.2.2, ⟨c2.1, c2.2, c3⟩⟩)
    rcases hq with ⟨e, nb, na⟩ | ⟨e, yb, na⟩ | ⟨e, nb, ya⟩
    · rw [e] at l1 l3 h1 h3
      refine ⟨⟨l1, ?_, ?_⟩, h1, ?_, ?_⟩
      · intro k hk hb; rcases List.mem_cons.1 hk with rfl | hk; exact absurd hb nb; exact l2 k hk hb
      · rcases l3 with l3 | ⟨k, hk, hb, l3⟩; exact .inl l3; exact .inr ⟨k, List.mem_cons_of_mem _ hk, hb, l3⟩
      · intro k hk hb; rcases List.mem_cons.1 hk with rfl | hk; exact absurd hb na; exact h2 k hk hb
      · rcases h3 with l3 | ⟨k, hk, hb, l3⟩; exact .inl l3; exact .inr ⟨k, List.mem_cons_of_mem _ hk, hb, l3⟩
    · rw [e] at l1 l3 h1 h3
      have m1 : a.1 ≤ r.1 := Int.le_trans (Int.le_max_left _ _) l1
      have m2 : (tAt ts q).f3.f0 ≤ r.1 := Int.le_trans (Int.le_max_right _ _) l1
      refine ⟨⟨m1, ?_, ?_⟩, h1, ?_, ?_⟩
      · intro k hk hb; rcases List.mem_cons.1 hk with rfl | hk; exact m2; exact l2 k hk hb
      · rcases l3 with l3 | ⟨k, hk, hb, l3⟩
        · by_cases c : a.1 ≤ (tAt ts q).f3.f0
          · exact .inr ⟨q, by simp, yb, l3.trans (Int.max_eq_right c)⟩
          · exact .inl (l3.trans (Int.max_eq_left (by omega)))
        · exact .inr ⟨k, List.mem_cons_of_mem _ hk, hb, l3⟩
      · intro k hk hb; rcases List.mem_cons.1 hk with rfl | hk; exact absurd hb na; exact h2 k hk hb
      · rcases h3 with l3 | ⟨k, hk, hb, l3⟩; exact .inl l3; exact .inr ⟨k, List.mem_cons_of_mem _ hk, hb, l3⟩
    · rw [e] at l1 l3 h1 h3
      have m1 : r.2 ≤ a.2 := Int.le_trans h1 (Int.min_le_left _ _)
      have m2 : r.2 ≤ (tAt ts q).f2.f1 := Int.le_trans h1 (Int.min_le_right _ _)
      refine ⟨⟨l1, ?_, ?_⟩, m1, ?_, ?_⟩
      · intro k hk hb; rcases List.mem_cons.1 hk with rfl | hk; exact absurd hb nb; exact l2 k hk hb
      · rcases l3 with l3 | ⟨k, hk, hb, l3⟩; exact .inl l3; exact .inr ⟨k, List.mem_cons_of_mem _ hk, hb, l3⟩
      · intro k hk hb; rcases List.mem_cons.1 hk with rfl | hk; exact m2; exact h2 k hk hb
      · rcases h3 with l3 | ⟨k, hk, hb, l3⟩
        · by_cases c : (tAt ts q).f2.f1 ≤ a.2
          · exact .inr ⟨q, by simp, ya, l3.trans (Int.min_eq_right c)⟩
          · exact .inl (l3.trans (Int.min_eq_left (by omega)))
        · exact .inr ⟨k, List.mem_cons_of_mem _ hk, hb, l3⟩
theorem mem_range0 {k n : Nat} : k ∈ List.range' 0 n ↔ k < n := by simp [List.mem_range']
theorem known_lo (ts : List S59) (i : Nat) : IsLo ts i (knownAt ts i).f0.f0 := by
  obtain ⟨⟨l1, l2, l3⟩, _⟩ := kAcc_spec ts i (List.range' 0 ts.length) ((tAt ts i).f2.f0, (tAt ts i).f3.f1)
  refine ⟨l1, fun k hk hb => l2 k (mem_range0.2 hk) hb, ?_⟩
  rcases l3 with h | ⟨k, hk, hb, h⟩
  · exact .inl h
  · exact .inr ⟨k, mem_range0.1 hk, hb, h⟩
theorem known_hi (ts : List S59) (i : Nat) : IsHi ts i (knownAt ts i).f1.f1 := by
  obtain ⟨_, ⟨l1, l2, l3⟩⟩ := kAcc_spec ts i (List.range' 0 ts.length) ((tAt ts i).f2.f0, (tAt ts i).f3.f1)
  refine ⟨l1, fun k hk hb => l2 k (mem_range0.2 hk) hb, ?_⟩
  rcases l3 with h | ⟨k, hk, hb, h⟩
  · exact .inl h
  · exact .inr ⟨k, mem_range0.1 hk, hb, h⟩
theorem known_of {ts : List S59} {i : Nat} {k : S51} (h0 : IsLo ts i k.f0.f0) (h1 : k.f0.f1 = (tAt ts i).f2.f1) (h2 : k.f1.f0 = (tAt ts i).f3.f0) (h3 : IsHi ts i k.f1.f1) : k = knownAt ts i := by
  obtain ⟨⟨a, b⟩, ⟨c, d⟩⟩ := k
  have e0 := h0.unique (known_lo ts i)
  have e3 := h3.unique (known_hi ts i)
  simp only at h1 h2 e0 e3
  unfold knownAt at e0 e3 ⊢
  simp only at e0 e3
  rw [h1, h2, e0, e3]
end Go.Proofs.Ythpheknchikodaa.P

/- What the program's terms of an office answer: the placed terms, each with what is known of it. Conditions: the terms are as described, no two clash. -/
namespace Go.Proofs.Ythpheknchikodaa.P
open Go.RowKit Go.Shelf Go.Proofs.YthpheknchikodaaW.PrintWords Go.Proofs.YthpheknchikodaaW.PrintLast
set_option linter.unusedVariables false
set_option linter.unusedSimpArgs false

theorem rd59_get (ts : List S59) (i : Nat) (h : i < ts.length) : rd_T59 ts (i : Int) = ts[i] := by simp [rd_T59, h]
theorem rd122_get (l : List S122) (i : Nat) (h : i < l.length) : rd_T122 l (i : Int) = l[i] := by simp [rd_T122, h]
def placed0 (t : S59) (i : Int) : S122 := ⟨t, i, ⟨t.f2, t.f3⟩⟩
/-- The terms of an office with their places. -/
def placedFrom (o : Int) : Int → List S59 → List S122
  | _, [] => []
  | i, t :: l => if t.f1 = o then placed0 t i :: placedFrom o (i + 1) l else placedFrom o (i + 1) l
theorem placedFrom_len (o : Int) : ∀ (l : List S59) (i : Int), (placedFrom o i l).length ≤ l.length
  | [], _ => Nat.le_refl _
  | t :: l, i => by
    have := placedFrom_len o l (i + 1)
    rw [placedFrom]
    split <;> simp <;> omega
theorem placedFrom_mem (o : Int) : ∀ (l : List S59) (i : Nat) (x : S122), x ∈ placedFrom o (i : Int) l ↔ ∃ k, k < l.length ∧ (tAt l k).f1 = o ∧ x = placed0 (tAt l k) ((i + k : Nat) : Int)
  | [], i, x => by simp [placedFrom]
  | t :: l, i, x => by
    have ih := placedFrom_mem o l (i + 1) x
    have e : ((i : Int) + 1) = ((i + 1 : Nat) : Int) := by push_cast; rfl
    rw [placedFrom, e]
    have key : (∃ k, k < (t :: l).length ∧ (tAt (t :: l) k).f1 = o ∧ x = placed0 (tAt (t :: l) k) ((i + k : Nat) : Int)) ↔ ((t.f1 = o ∧ x = placed0 t (i : Int)) ∨ ∃ k, k < l.length ∧ (tAt l k).f1 = o ∧ x = placed0 (tAt l k) ((i + 1 + k : Nat) : Int)) := by
      constructor
      · rintro ⟨k, hk, h1, h2⟩
        cases k with
        | zero => exact .inl ⟨h1, h2⟩
        | succ k => exact .inr ⟨k, by simpa using hk, h1, by rw [h2, show i + (k + 1) = i + 1 + k by omega]; rfl⟩
      · rintro (⟨h1, h2⟩ | ⟨k, hk, h1, h2⟩)
        · exact ⟨0, by simp, h1, h2⟩
        · exact ⟨k + 1, by simpa using hk, h1, by rw [h2, show i + 1 + k = i + (k + 1) by omega]; rfl⟩
    rw [key]
    by_cases h : t.f1 = o
    · rw [if_pos h, List.mem_cons, ih]
      simp [h]
    · rw [if_neg h, ih]
      simp [h]
theorem placedFrom_nodup (o : Int) : ∀ (l : List S59) (i : Nat), (placedFrom o (i : Int) l).Pairwise fun x y => x.f1 < y.f1
  | [], _ => by simp [placedFrom]
  | t :: l, i => by
    have ih := placedFrom_nodup o l (i + 1)
    have e : ((i : Int) + 1) = ((i + 1 : Nat) : Int) := by push_cast; rfl
    rw [placedFrom, e]
    split
    · rw [List.pairwise_cons]
      refine ⟨fun y hy => ?_, ih⟩
      obtain ⟨k, _, _, rfl⟩ := (placedFrom_mem o l (i + 1) y).1 hy
      show (i : Int) < ((i + 1 + k : Nat) : Int)
      omega
    · exact ih
theorem terms_l0 (o : Int) (ts : List S59) (hts : ts.length ≤ 1000) (R : List S122) : ∀ (n i : Nat) (x : List S122), i + n = ts.length → x.length ≤ i →
    Ev (fun k => (sortPlaced.f (x ++ placedFrom o (i : Int) (ts.drop i))).bind fun t => office_Roll_terms.l1 k t 1) R → Ev (fun k => office_Roll_terms.l0 k o x ts (ts.length : Int) (i : Int)) R := by
  intro n
  induction n with
  | zero =>
    intro i x hi hx hR
    refine Ev.step (fun k => office_Roll_terms.l0.eq_2 ..) ?_
    have h1 : ¬ ((i : Int) < (ts.length : Int)) := by omega
    rw [show ts.drop i = [] from List.drop_eq_nil_of_le (by omega), placedFrom, List.append_nil] at hR
    simp only [if_neg h1]
    exact hR
  | succ n ih =>
    intro i x hi hx hR
    refine Ev.step (fun k => office_Roll_terms.l0.eq_2 ..) ?_
    have hi' : i < ts.length := by omega
    have h1 : (i : Int) < (ts.length : Int) := by omega
    have h2 : (0 : Int) ≤ (i : Int) := by omega
    have h3 : x.length < 1599289640401 := by omega
    have e : ((i : Int) + 1) = ((i + 1 : Nat) : Int) := by push_cast; rfl
    rw [List.drop_eq_getElem_cons hi', placedFrom, e] at hR
    simp only [if_pos h1, if_pos h2, rd59_get ts i hi', w64 i (by omega)]
    by_cases h : ts[i].f1 = o
    · rw [if_pos h] at hR
      simp only [if_pos h, if_pos h3]
      exact ih (i + 1) (x ++ [placed0 ts[i] i]) (by omega) (by simp; omega) (by rw [List.append_assoc, List.singleton_append]; exact hR)
    · rw [if_neg h] at hR
      simp only [if_neg h]
      exact ih (i + 1) x (by omega) (by omega) hR
def sAt (S : List S122) (j : Nat) : S122 := S.getD j z122
theorem sAt_get (S : List S122) (i : Nat) (h : i < S.length) : sAt S i = S[i] := by simp [sAt, h]
/-- What is known of term j when the loop stands at i. -/
def upd (S : List S122) (i j : Nat) (x : S122) : S122 :=
  ⟨x.f0, x.f1, ⟨⟨if 1 ≤ j ∧ j < i then mx x.f0.f2.f0 (sAt S (j - 1)).f0.f3.f0 else x.f2.f0.f0, x.f2.f0.f1⟩, ⟨x.f2.f1.f0, if j + 1 < i then mn x.f0.f3.f1 (sAt S (j + 1)).f0.f2.f1 else x.f2.f1.f1⟩⟩⟩
def partL (S : List S122) (i : Nat) : List S122 := (List.range S.length).map fun j => upd S i j (sAt S j)
theorem partL_len (S : List S122) (i : Nat) : (partL S i).length = S.length := by simp [partL]
theorem partL_get (S : List S122) (i j : Nat) (h : j < (partL S i).length) : (partL S i)[j] = upd S i j (sAt S j) := by simp [partL]
theorem partL_one (S : List S122) (i : Nat) (hi : i ≤ 1) : partL S i = S := by
  apply List.ext_getElem (partL_len S i)
  intro j h1 h2
  rw [partL_get, sAt_get S j h2]
  unfold upd
  rw [if_neg (by omega), if_neg (by omega)]
theorem terms_l1 (S : List S122) (hS : S.length ≤ 1000) : ∀ (n i : Nat), 1 ≤ i → (i + n = S.length ∨ (n = 0 ∧ S.length ≤ i ∧ i ≤ 1)) → Ev (fun k => office_Roll_terms.l1 k (partL S i) (i : Int)) (partL S S.length) := by
  intro n
  induction n with
  | zero =>
    intro i h1 hi
    refine Ev.step (fun k => office_Roll_terms.l1.eq_2 ..) ?_
    have h2 : ¬ ((i : Int) < ((partL S i).length : Int)) := by rw [partL_len]; omega
    simp only [if_neg h2]
    have e : partL S i = partL S S.length := by
      rcases hi with hi | ⟨_, hi, hi'⟩
      · rw [show i = S.length by omega]
      · rw [partL_one S i hi', partL_one S S.length (by omega)]
    rw [e]
    exact Ev.now _
  | succ n ih =>
    intro i h1 hi
    have hi2 : i + (n + 1) = S.length := by omega
    refine Ev.step (fun k => office_Roll_terms.l1.eq_2 ..) ?_
    have hl : i < (partL S i).length := by rw [partL_len]; omega
    have hl' : i - 1 < (partL S i).length := by omega
    have g1 : (i : Int) < ((partL S i).length : Int) := by omega
    have g2 : (0 : Int) ≤ (i : Int) := by omega
    have ew : wrap64 ((i : Int) - 1) = ((i - 1 : Nat) : Int) := by unfold wrap64; omega
    have g3 : (0 : Int) ≤ ((i - 1 : Nat) : Int) := by omega
    have g4 : ((i - 1 : Nat) : Int) < ((partL S i).length : Int) := by omega
    have ih' := ih (i + 1) (by omega) (.inl (by omega))
    simp only [if_pos g1, if_pos g2, ew, if_pos g3, if_pos g4, rd122_get _ i hl, rd122_get _ (i - 1) hl', office_latest.f, office_earliest.f, Option.bind_some, Int.toNat_natCast, w64 i (by omega)]
    have hset : ∀ (y : S122) (q : Nat) (hq : q < ((partL S i).set i y).length), ((partL S i).set i y)[q] = if q = i then y else (partL S i)[q]'(by simpa using hq) := by
      intro y q hq
      by_cases e : q = i
      · subst e; simp
      · rw [if_neg e, List.getElem_set_ne (fun h => e h.symm)]
    have hr : ∀ (y : S122) (q : Nat) (hq : q < (partL S i).length), rd_T122 ((partL S i).set i y) (q : Int) = if q = i then y else (partL S i)[q] := by
      intro y q hq
      rw [rd122_get _ q (by simpa using hq), hset]
    simp only [hr _ i hl, hr _ (i - 1) hl', if_neg (show ¬ i - 1 = i by omega), if_true]
    refine Ev.congr (fun k => ?_) ih'
    congr 1
    apply List.ext_getElem
    · simp [partL_len]
    · intro j hj1 hj2
      by_cases c1 : j = i - 1
      · subst c1
        simp only [List.getElem_set_self, partL_get]
        unfold upd
        have e1 : (i - 1 + 1 < i + 1) := by omega
        have e2 : ¬ (i - 1 + 1 < i) := by omega
        have e3 : i - 1 + 1 = i := by omega
        by_cases c : 1 ≤ i - 1
        · simp only [if_pos e1, if_neg e2, if_pos (show 1 ≤ i - 1 ∧ i - 1 < i by omega), if_pos (show 1 ≤ i - 1 ∧ i - 1 < i + 1 by omega), e3, if_pos (show i < i + 1 by omega)]
        · simp only [if_pos e1, if_neg e2, if_neg (show ¬ (1 ≤ i - 1 ∧ i - 1 < i) by omega), if_neg (show ¬ (1 ≤ i - 1 ∧ i - 1 < i + 1) by omega), e3, if_pos (show i < i + 1 by omega)]
      · rw [List.getElem_set_ne (fun h => c1 h.symm)]
        by_cases c2 : j = i
        · subst c2
          simp only [List.getElem_set_self, partL_get]
          unfold upd
          simp only [if_neg (show ¬ (j + 1 < j) by omega), if_neg (show ¬ (j + 1 < j + 1) by omega), if_pos (show 1 ≤ j ∧ j < j + 1 by omega), if_neg (show ¬ (1 ≤ j ∧ j < j) by omega)]
        · rw [List.getElem_set_ne (fun h => c2 h.symm)]
          simp only [partL_get]
          unfold upd
          have e1 : (1 ≤ j ∧ j < i) ↔ (1 ≤ j ∧ j < i + 1) := by omega
          have e2 : (j + 1 < i) ↔ (j + 1 < i + 1) := by omega
          simp only [e1, e2]

theorem terms_sorted (p o : Int) (ts : List S59) (ns : List S109) (off : Int) (hts : ts.length ≤ 1000) :
    Ev (fun k => office_Roll_terms.f k p o ts ns off) (partL (sortL byHi (placedFrom off 0 ts)) (sortL byHi (placedFrom off 0 ts)).length) := by
  have hl := placedFrom_len off ts 0
  have hS : (sortL byHi (placedFrom off 0 ts)).length ≤ 1000 := by rw [sortL_length byHi swoHi]; omega
  refine terms_l0 off ts hts _ ts.length 0 [] (by omega) (by simp) ?_
  rw [List.nil_append, List.drop_zero]
  unfold sortPlaced.f
  rw [if_pos (show (placedFrom off ((0 : Nat) : Int) ts).length < 4611686018427387904 by have := placedFrom_len off ts ((0 : Nat) : Int); omega)]
  simp only [Option.bind_some]
  have h := terms_l1 (sortL byHi (placedFrom off 0 ts)) hS ((sortL byHi (placedFrom off 0 ts)).length - 1) 1 (by omega) (by omega)
  rw [partL_one _ 1 (by omega)] at h
  exact h

def byOffice (ts : List S59) (off : Int) : List S122 := sortL byHi (placedFrom off 0 ts)
def idxAt (ts : List S59) (off : Int) (j : Nat) : Nat := (sAt (byOffice ts off) j).f1.toNat
section
variable {ts : List S59} {off : Int}
theorem byOffice_mem (x : S122) : x ∈ byOffice ts off ↔ ∃ k, k < ts.length ∧ (tAt ts k).f1 = off ∧ x = placed0 (tAt ts k) (k : Int) := by
  unfold byOffice
  rw [(sortL_spec byHi swoHi _).1.mem_iff]
  have h := placedFrom_mem off ts 0 x
  simpa using h
theorem idx_spec {j : Nat} (hj : j < (byOffice ts off).length) : idxAt ts off j < ts.length ∧ (tAt ts (idxAt ts off j)).f1 = off ∧ sAt (byOffice ts off) j = placed0 (tAt ts (idxAt ts off j)) (idxAt ts off j : Int) := by
  obtain ⟨k, hk, h1, h2⟩ := (byOffice_mem (ts := ts) (off := off) _).1 (List.getElem_mem hj)
  have e : idxAt ts off j = k := by unfold idxAt; rw [sAt_get _ j hj, h2]; simp [placed0]
  rw [e, sAt_get _ j hj]
  exact ⟨hk, h1, h2⟩
theorem idx_inj {a b : Nat} (ha : a < b) (hb : b < (byOffice ts off).length) : idxAt ts off a ≠ idxAt ts off b := by
  have hn : ((byOffice ts off).map (·.f1)).Nodup := by
    unfold byOffice
    rw [((sortL_spec byHi swoHi (placedFrom off 0 ts)).1.map (·.f1)).nodup_iff]
    rw [List.Nodup, List.pairwise_map]
    exact (placedFrom_nodup off ts 0).imp (fun h => by omega)
  rw [List.Nodup, List.pairwise_map, List.pairwise_iff_getElem] at hn
  have h := hn a b (by omega) hb ha
  intro e
  apply h
  obtain ⟨_, _, h1⟩ := idx_spec (ts := ts) (off := off) (j := a) (by omega)
  obtain ⟨_, _, h2⟩ := idx_spec (ts := ts) (off := off) (j := b) hb
  rw [← sAt_get _ a (by omega), ← sAt_get _ b hb, h1, h2, e]
theorem idx_sorted {a b : Nat} (ha : a < b) (hb : b < (byOffice ts off).length) : (tAt ts (idxAt ts off a)).f2.f1 ≤ (tAt ts (idxAt ts off b)).f2.f1 := by
  have h := (sortL_spec byHi swoHi (placedFrom off 0 ts)).2
  rw [List.pairwise_iff_getElem] at h
  have h := h a b (by unfold byOffice at hb; omega) hb ha
  rw [ltHi] at h
  have h := of_decide_eq_false h
  obtain ⟨_, _, h1⟩ := idx_spec (ts := ts) (off := off) (j := a) (by omega)
  obtain ⟨_, _, h2⟩ := idx_spec (ts := ts) (off := off) (j := b) hb
  rw [sAt_get _ a (by omega)] at h1
  rw [sAt_get _ b hb] at h2
  unfold byOffice at h1 h2
  rw [h1, h2] at h
  simp only [placed0] at h
  omega
theorem idx_surj {k : Nat} (hk : k < ts.length) (ho : (tAt ts k).f1 = off) : ∃ j, j < (byOffice ts off).length ∧ idxAt ts off j = k := by
  have h := (byOffice_mem (ts := ts) (off := off) (placed0 (tAt ts k) (k : Int))).2 ⟨k, hk, ho, rfl⟩
  obtain ⟨j, hj, e⟩ := List.mem_iff_getElem.1 h
  refine ⟨j, hj, ?_⟩
  unfold idxAt
  rw [sAt_get _ j hj, e]
  simp [placed0]
theorem clash_false {i j : Nat} (hc : NoClash ts) (h : i ≠ j) (hi : i < ts.length) (hj : j < ts.length) : clashB (tAt ts i) (tAt ts j) = false := by
  by_cases c : i < j
  · exact hc i j c hj
  · rw [clashB_comm]; exact hc j i (by omega) hi
theorem idx_ord (hk : TermsOk ts) (hc : NoClash ts) {a b : Nat} (ha : a < b) (hb : b < (byOffice ts off).length) : (tAt ts (idxAt ts off a)).f3.f0 ≤ (tAt ts (idxAt ts off b)).f2.f1 := by
  obtain ⟨a1, a2, _⟩ := idx_spec (ts := ts) (off := off) (j := a) (by omega)
  obtain ⟨b1, b2, _⟩ := idx_spec (ts := ts) (off := off) (j := b) hb
  have hs := idx_sorted ha hb
  have h := clash_false hc (idx_inj ha hb) a1 b1
  have k1 := hk _ a1
  have k2 := hk _ b1
  unfold clashB befB at h
  rw [decide_eq_true (a2.trans b2.symm), Bool.true_and] at h
  simp at h
  by_cases c : (tAt ts (idxAt ts off a)).f3.f0 ≤ (tAt ts (idxAt ts off b)).f2.f1
  · exact c
  · have := h (by omega)
    omega
theorem mx_cases (a b : Int) : (mx a b = a ∨ mx a b = b) ∧ a ≤ mx a b ∧ b ≤ mx a b := by unfold mx; split <;> omega
theorem mn_cases (a b : Int) : (mn a b = a ∨ mn a b = b) ∧ mn a b ≤ a ∧ mn a b ≤ b := by unfold mn; split <;> omega
theorem terms_known (hk : TermsOk ts) (hc : NoClash ts) : partL (byOffice ts off) (byOffice ts off).length = (byOffice ts off).map fun x => ⟨x.f0, x.f1, knownAt ts x.f1.toNat⟩ := by
  apply List.ext_getElem (by simp [partL_len])
  intro j h1 h2
  have hj : j < (byOffice ts off).length := by rw [partL_len] at h1; exact h1
  rw [partL_get, List.getElem_map, ← sAt_get _ j hj]
  obtain ⟨i1, i2, i3⟩ := idx_spec hj
  have hx : (sAt (byOffice ts off) j).f1.toNat = idxAt ts off j := rfl
  rw [hx]
  have ki := hk _ i1
  suffices h : (upd (byOffice ts off) (byOffice ts off).length j (sAt (byOffice ts off) j)).f2 = knownAt ts (idxAt ts off j) by
    rw [← h]; rfl
  apply known_of
  · -- the least begin
    show IsLo ts _ (if 1 ≤ j ∧ j < (byOffice ts off).length then mx (sAt (byOffice ts off) j).f0.f2.f0 (sAt (byOffice ts off) (j - 1)).f0.f3.f0 else (sAt (byOffice ts off) j).f2.f0.f0)
    have hnone : ∀ m, m < (byOffice ts off).length → Bef ts (idxAt ts off j) (idxAt ts off m) → m < j := by
      rintro m hm ⟨hne, _, hb⟩
      by_cases c : m < j
      · exact c
      · have hjm : j < m := by
          have : m ≠ j := fun e => hne (by rw [e])
          omega
        have o1 := idx_ord hk hc hjm hm
        have km := hk _ (idx_spec hm).1
        omega
    by_cases c : 1 ≤ j
    · rw [if_pos ⟨c, hj⟩]
      obtain ⟨p1, p2, p3⟩ := idx_spec (ts := ts) (off := off) (j := j - 1) (by omega)
      rw [i3, p3]
      show IsLo ts _ (mx (tAt ts (idxAt ts off j)).f2.f0 (tAt ts (idxAt ts off (j - 1))).f3.f0)
      obtain ⟨m1, m2, m3⟩ := mx_cases (tAt ts (idxAt ts off j)).f2.f0 (tAt ts (idxAt ts off (j - 1))).f3.f0
      refine ⟨m2, ?_, ?_⟩
      · intro k hkl hb
        obtain ⟨m, hm, rfl⟩ := idx_surj (off := off) hkl (hb.2.1.trans i2)
        have hmj := hnone m hm hb
        by_cases e : m = j - 1
        · rw [e]; exact m3
        · have o1 := idx_ord hk hc (off := off) (show m < j - 1 by omega) (by omega)
          have kp := hk _ p1
          omega
      · rcases m1 with e | e
        · exact .inl e
        · refine .inr ⟨idxAt ts off (j - 1), p1, ⟨idx_inj (by omega) hj, p2.trans i2.symm, idx_ord hk hc (by omega) hj⟩, e⟩
    · rw [if_neg (fun h => c h.1), i3]
      refine ⟨Int.le_refl _, ?_, .inl rfl⟩
      intro k hkl hb
      obtain ⟨m, hm, rfl⟩ := idx_surj (off := off) hkl (hb.2.1.trans i2)
      have := hnone m hm hb
      omega
  · show (sAt (byOffice ts off) j).f2.f0.f1 = _
    rw [i3]; rfl
  · show (sAt (byOffice ts off) j).f2.f1.f0 = _
    rw [i3]; rfl
  · show IsHi ts _ (if j + 1 < (byOffice ts off).length then mn (sAt (byOffice ts off) j).f0.f3.f1 (sAt (byOffice ts off) (j + 1)).f0.f2.f1 else (sAt (byOffice ts off) j).f2.f1.f1)
    have hnone : ∀ m, m < (byOffice ts off).length → Aft ts (idxAt ts off j) (idxAt ts off m) → j < m := by
      rintro m hm ⟨hne, _, hb⟩
      by_cases c : j < m
      · exact c
      · have hjm : m < j := by
          have : m ≠ j := fun e => hne (by rw [e])
          omega
        exact absurd (idx_ord hk hc hjm hj) hb
    by_cases c : j + 1 < (byOffice ts off).length
    · rw [if_pos c]
      obtain ⟨p1, p2, p3⟩ := idx_spec c
      rw [i3, p3]
      show IsHi ts _ (mn (tAt ts (idxAt ts off j)).f3.f1 (tAt ts (idxAt ts off (j + 1))).f2.f1)
      obtain ⟨m1, m2, m3⟩ := mn_cases (tAt ts (idxAt ts off j)).f3.f1 (tAt ts (idxAt ts off (j + 1))).f2.f1
      refine ⟨m2, ?_, ?_⟩
      · intro k hkl hb
        obtain ⟨m, hm, rfl⟩ := idx_surj (off := off) hkl (hb.2.1.trans i2)
        have hmj := hnone m hm hb
        by_cases e : m = j + 1
        · rw [e]; exact m3
        · have o1 := idx_sorted (ts := ts) (off := off) (show j + 1 < m by omega) hm
          omega
      · rcases m1 with e | e
        · exact .inl e
        · have o1 := idx_ord hk hc (off := off) (show j < j + 1 by omega) c
          have kp := hk _ p1
          exact .inr ⟨idxAt ts off (j + 1), p1, ⟨fun e => idx_inj (show j < j + 1 by omega) c e.symm, p2.trans i2.symm, by omega⟩, e⟩
    · rw [if_neg c, i3]
      refine ⟨Int.le_refl _, ?_, .inl rfl⟩
      intro k hkl hb
      obtain ⟨m, hm, rfl⟩ := idx_surj (off := off) hkl (hb.2.1.trans i2)
      have := hnone m hm hb
      omega
end
/-- The terms of an office, each with what is known of it, in some order. -/
def termsOf (ts : List S59) (off : Int) : List S122 := (byOffice ts off).map fun x => ⟨x.f0, x.f1, knownAt ts x.f1.toNat⟩
theorem terms_f (p o : Int) (ts : List S59) (ns : List S109) (off : Int) (hts : ts.length ≤ 1000) (hk : TermsOk ts) (hc : NoClash ts) : Ev (fun k => office_Roll_terms.f k p o ts ns off) (termsOf ts off) := by
  have h := terms_sorted p o ts ns off hts
  rw [show sortL byHi (placedFrom off 0 ts) = byOffice ts off from rfl, terms_known hk hc] at h
  exact h
theorem termsOf_mem {ts : List S59} {off : Int} (x : S122) : x ∈ termsOf ts off ↔ ∃ k, k < ts.length ∧ (tAt ts k).f1 = off ∧ x = ⟨tAt ts k, (k : Int), knownAt ts k⟩ := by
  unfold termsOf
  rw [List.mem_map]
  constructor
  · rintro ⟨y, hy, rfl⟩
    obtain ⟨k, hk, h1, rfl⟩ := (byOffice_mem y).1 hy
    exact ⟨k, hk, h1, by simp [placed0]⟩
  · rintro ⟨k, hk, h1, rfl⟩
    exact ⟨placed0 (tAt ts k) k, (byOffice_mem _).2 ⟨k, hk, h1, rfl⟩, by simp [placed0]⟩
theorem termsOf_len (ts : List S59) (off : Int) : (termsOf ts off).length ≤ ts.length := by
  unfold termsOf byOffice
  rw [List.length_map, sortL_length byHi swoHi]
  exact placedFrom_len off ts 0
end Go.Proofs.Ythpheknchikodaa.P

/- What Learn, Holds and Styles of the program answer, in plain words. Conditions: none. -/
namespace Go.Proofs.Ythpheknchikodaa.P
open Go.RowKit Go.Proofs.YthpheknchikodaaW.PrintWords Go.Proofs.YthpheknchikodaaW.PrintLast
set_option linter.unusedVariables false
set_option linter.unusedSimpArgs false

/-- A roll that is as described. -/
structure RollOk (p o : Int) (ts : List S59) : Prop where
  p1 : 1 ≤ p
  p2 : p ≤ 20
  o1 : 1 ≤ o
  o2 : o ≤ 10
  len : ts.length ≤ 40
  pers : ∀ i, i < ts.length → 0 ≤ (tAt ts i).f0 ∧ (tAt ts i).f0 < p
  off : ∀ i, i < ts.length → 0 ≤ (tAt ts i).f1 ∧ (tAt ts i).f1 < o
  ok : TermsOk ts
theorem rollOk_of {p o : Int} {ts : List S59} {ns : List S109} (h : rollFault p o ts ns = 0) : RollOk p o ts := by
  unfold rollFault at h
  split at h
  · rename_i c
    simp only [Bool.and_eq_true, decide_eq_true_eq, List.all_eq_true] at c
    obtain ⟨c1, c2, c3, c4⟩ := c
    unfold withinB at c1 c2
    simp at c1 c2
    have hf := fun i (hi : i < ts.length) => termOk_facts (c4 (tAt ts i) (by rw [tAt_get ts i hi]; exact List.getElem_mem hi))
    exact ⟨c1.1, c1.2, c2.1, c2.2, c3, fun i hi => (hf i hi).1, fun i hi => (hf i hi).2.1, fun i hi => (hf i hi).2.2⟩
  · cases h
theorem sound_zero {p o : Int} {ts : List S59} {ns : List S109} (h : soundOf p o ts ns = 0) : rollFault p o ts ns = 0 ∧ NoClash ts := by
  unfold soundOf at h
  by_cases c : rollFault p o ts ns = 0
  · rw [if_pos c] at h
    refine ⟨c, (noClash_iff ts).1 ?_⟩
    cases e : firstClash 0 ts with
    | none => rfl
    | some x => rw [e] at h; simp at h
  · rw [if_neg c] at h
    exact absurd h c
theorem terms_all (p o : Int) (ts : List S59) (ns : List S109) (hts : ts.length ≤ 1000) (hk : TermsOk ts) (hc : NoClash ts) : ∀ n : Nat, ∃ K, ∀ k, K ≤ k → ∀ i : Nat, i < n → office_Roll_terms.f k p o ts ns (i : Int) = some (termsOf ts (i : Int))
  | 0 => ⟨0, fun _ _ _ h => absurd h (by omega)⟩
  | n + 1 => by
    obtain ⟨K, h⟩ := terms_all p o ts ns hts hk hc n
    obtain ⟨K', h'⟩ := terms_f p o ts ns (n : Int) hts hk hc
    refine ⟨max K K', fun k hk' i hi => ?_⟩
    by_cases e : i = n
    · subst e; exact h' k (by omega)
    · exact h k (by omega) i (by omega)
theorem learnPut_get (ts : List S59) (L : List S122) : ∀ (out : List S51), out.length = ts.length → (∀ x ∈ L, ∃ k, k < ts.length ∧ x.f1 = (k : Int) ∧ x.f2 = knownAt ts k) → ∀ j, j < ts.length →
    (learnPut out L).getD j z51 = if (∃ x ∈ L, x.f1 = (j : Int)) then knownAt ts j else out.getD j z51 := by
  induction L with
  | nil => intro out _ _ j _; simp [learnPut]
  | cons x L ih =>
    intro out ho hL j hj
    obtain ⟨k, hk, h1, h2⟩ := hL x (by simp)
    have h := ih (out.set x.f1.toNat x.f2) (by simpa using ho) (fun y hy => hL y (List.mem_cons_of_mem _ hy)) j hj
    have e : learnPut out (x :: L) = learnPut (out.set x.f1.toNat x.f2) L := rfl
    rw [e, h]
    by_cases c : ∃ y ∈ L, y.f1 = (j : Int)
    · have c' : ∃ y ∈ x :: L, y.f1 = (j : Int) := by obtain ⟨y, hy, e⟩ := c; exact ⟨y, List.mem_cons_of_mem _ hy, e⟩
      rw [if_pos c, if_pos c']
    · rw [if_neg c]
      by_cases d : x.f1 = (j : Int)
      · rw [if_pos ⟨x, by simp, d⟩]
        have : k = j := by omega
        subst this
        rw [h1, h2]
        have hkl : k < out.length := by omega
        simp [hkl]
      · rw [if_neg (by rintro ⟨y, hy, e2⟩; rcases List.mem_cons.1 hy with rfl | hy; exact d e2; exact c ⟨y, hy, e2⟩)]
        have : k ≠ j := by omega
        simp [h1, this]
theorem learnFrom_spec {p o : Int} {ts : List S59} {ns : List S109} (hR : RollOk p o ts) (k : Nat) (hT : ∀ i : Nat, i < o.toNat → office_Roll_terms.f k p o ts ns (i : Int) = some (termsOf ts (i : Int))) :
    ∀ (n i q : Nat) (out : List S51), i + n = o.toNat → n < q → out.length = ts.length → (∀ j, j < ts.length → (tAt ts j).f1 < (i : Int) → out.getD j z51 = knownAt ts j) →
      learnFrom k p o ts ns q (i : Int) out = some ((List.range ts.length).map (knownAt ts)) := by
  intro n
  induction n with
  | zero =>
    intro i q out hi hq ho hout
    obtain ⟨q, rfl⟩ : ∃ m, q = m + 1 := ⟨q - 1, by omega⟩
    have := hR.o1
    have h1 : ¬ ((i : Int) < o) := by omega
    rw [learnFrom, if_neg h1]
    congr 1
    apply List.ext_getElem (by simp [ho])
    intro j h2 h3
    have hj : j < ts.length := by omega
    have h := hout j hj (by have := hR.off j hj; omega)
    simp [h2] at h
    simp [h]
  | succ n ih =>
    intro i q out hi hq ho hout
    obtain ⟨q, rfl⟩ : ∃ m, q = m + 1 := ⟨q - 1, by omega⟩
    have h1 : (i : Int) < o := by omega
    have hlen := termsOf_len ts (i : Int)
    have hmem : ∀ x ∈ termsOf ts (i : Int), ∃ k, k < ts.length ∧ x.f1 = (k : Int) ∧ x.f2 = knownAt ts k := by
      intro x hx
      obtain ⟨k, hk, _, rfl⟩ := (termsOf_mem x).1 hx
      exact ⟨k, hk, rfl, rfl⟩
    have hcond : (termsOf ts (i : Int)).length ≤ 1000000000 ∧ (∀ x ∈ termsOf ts (i : Int), 0 ≤ x.f1 ∧ x.f1 < (ts.length : Int)) := by
      refine ⟨by have := hR.len; omega, fun x hx => ?_⟩
      obtain ⟨k, hk, e, _⟩ := hmem x hx
      omega
    have ho2 := hR.o2
    rw [learnFrom, if_pos h1, hT i (by omega), Option.bind_some, if_pos hcond, w64 i (by omega)]
    refine ih (i + 1) q _ (by omega) (by omega) (by rw [learnPut_len]; exact ho) ?_
    intro j hj hoff
    rw [learnPut_get ts _ out ho hmem j hj]
    by_cases c : (tAt ts j).f1 = (i : Int)
    · rw [if_pos ⟨_, (termsOf_mem _).2 ⟨j, hj, c, rfl⟩, rfl⟩]
    · rw [if_neg]
      · exact hout j hj (by push_cast at hoff; omega)
      · rintro ⟨x, hx, e⟩
        obtain ⟨k, hk, h2, rfl⟩ := (termsOf_mem x).1 hx
        simp only at e
        have : k = j := by omega
        subst this
        exact c h2
def learnSpec (p o : Int) (ts : List S59) (ns : List S109) : List S51 × Int := if soundOf p o ts ns = 0 then ((List.range ts.length).map (knownAt ts), 0) else ([], soundOf p o ts ns)
theorem Learn_f (p o : Int) (ts : List S59) (ns : List S109) : ∃ k, office_Learn.f k p o ts ns = some (learnSpec p o ts ns) := by
  unfold office_Learn.f office_Roll_sound.f learnSpec
  simp only [Option.bind_some]
  by_cases h : soundOf p o ts ns = 0
  · obtain ⟨hf, hc⟩ := sound_zero h
    have hR := rollOk_of hf
    obtain ⟨K, hK⟩ := terms_all p o ts ns (by have := hR.len; omega) hR.ok hc o.toNat
    refine ⟨max K (o.toNat + 1), ?_⟩
    rw [if_pos h, if_pos (by have := hR.len; omega)]
    have hL := learnFrom_spec (ns := ns) hR (max K (o.toNat + 1)) (hK _ (by omega)) o.toNat 0 (max K (o.toNat + 1)) (List.replicate ts.length z51) (by omega) (by omega) (by simp)
      (fun j hj h0 => by have := hR.off j hj; omega)
    rw [show ((0 : Nat) : Int) = 0 from rfl] at hL
    rw [hL, if_pos h]
    rfl
  · exact ⟨0, by rw [if_neg h, if_neg h]⟩
theorem pLearn_calls (p o : Int) (A2 : Option Addr) (c2 : Nat) (ts : List S59) (A3 : Option Addr) (c3 : Nat) (ns : List S109) (n2 n3 : Nat) (h2 : ts.length = n2) (h3 : ns.length = n3) (w : World)
    (hr2 : Kd.C k59 w A2 ts.length ts) (hc2 : ts.length ≤ c2) (hr3 : Kd.C k109 w A3 ns.length ns) (hc3 : ns.length ≤ c3) :
    Calls Try.prog 27 #[.agg #[.int .i64 p, .int .i64 o, .slice A2 n2 c2, .slice A3 n3 c3]] w fun e w' => ∃ (A : Option Addr) (c : Nat), e = .returned (.tuple #[.slice A (learnSpec p o ts ns).1.length c, .int .i64 (learnSpec p o ts ns).2]) ∧
      (learnSpec p o ts ns).1.length ≤ c ∧ Kd.C k51 w' A (learnSpec p o ts ns).1.length (learnSpec p o ts ns).1 ∧ Below w.heap.size w w' := by
  subst h2 h3
  obtain ⟨k, hk⟩ := Learn_f p o ts ns
  refine (office_Learn.calls k p o A2 c2 ts A3 c3 ns _ _ w hr2 hc2 hr3 hc3 hk).mono ?_
  rintro e w' ⟨v, rfl, hr, hb⟩
  obtain ⟨A, c, e⟩ := Kd.R_slice hr
  subst e
  exact ⟨A, c, rfl, (Kd.R_reads' hr).2.1, (Kd.R_reads' hr).2.2, hb⟩
def heldSpec (ts : List S59) (off day : Int) : Int × List Bool := heldOf day (termsOf ts off)
theorem holds_f {p o : Int} {ts : List S59} {ns : List S109} (hR : RollOk p o ts) (off day : Int) (k : Nat) (hT : office_Roll_terms.f k p o ts ns off = some (termsOf ts off)) : office_Roll_holds.f k p o ts ns off day = some (heldSpec ts off day) := by
  unfold office_Roll_holds.f
  rw [hT, Option.bind_some, if_pos]
  · rfl
  · refine ⟨by have := termsOf_len ts off; have := hR.len; omega, fun x hx => ?_⟩
    obtain ⟨j, hj, _, rfl⟩ := (termsOf_mem x).1 hx
    have := hR.pers j hj
    have := hR.p2
    simp only
    omega
def holdsSpec (p o : Int) (ts : List S59) (ns : List S109) (off day : Int) : Int × List Int × Bool × Int :=
  if paskedOf p o ts ns off o day = 0 then (if soundOf p o ts ns = 0 then ((heldSpec ts off day).1, trueIdx 0 (heldSpec ts off day).2, (heldSpec ts off day).1 == -1, 0) else (0, [], false, soundOf p o ts ns)) else (0, [], false, paskedOf p o ts ns off o day)
theorem Holds_f (p o : Int) (ts : List S59) (ns : List S109) (off day : Int) : ∃ k, office_Holds.f k p o ts ns off day = some (holdsSpec p o ts ns off day) := by
  unfold office_Holds.f office_Roll_sound.f office_Roll_asked.f holdsSpec
  simp only [Option.bind_some]
  by_cases ha : paskedOf p o ts ns off o day = 0
  · by_cases h : soundOf p o ts ns = 0
    · obtain ⟨hf, hc⟩ := sound_zero h
      have hR := rollOk_of hf
      obtain ⟨k, hk⟩ := (terms_f p o ts ns off (by have := hR.len; omega) hR.ok hc).rounds
      refine ⟨k, ?_⟩
      rw [if_pos ha, if_pos h, if_pos ha, if_pos h, holds_f hR off day k hk]
      rfl
    · exact ⟨0, by rw [if_pos ha, if_neg h, if_pos ha, if_neg h]⟩
  · exact ⟨0, by rw [if_neg ha, if_neg ha]⟩
theorem pHolds_calls (p o : Int) (A2 : Option Addr) (c2 : Nat) (ts : List S59) (A3 : Option Addr) (c3 : Nat) (ns : List S109) (n2 n3 : Nat) (h2 : ts.length = n2) (h3 : ns.length = n3) (off day : Int) (w : World)
    (hr2 : Kd.C k59 w A2 ts.length ts) (hc2 : ts.length ≤ c2) (hr3 : Kd.C k109 w A3 ns.length ns) (hc3 : ns.length ≤ c3) (H : Int × List Int × Bool × Int) (hH : holdsSpec p o ts ns off day = H) :
    Calls Try.prog 19 #[.agg #[.int .i64 p, .int .i64 o, .slice A2 n2 c2, .slice A3 n3 c3], .int .i64 off, .int .i64 day] w fun e w' => ∃ (A : Option Addr) (c : Nat), e = .returned (.tuple #[.int .i64 H.1, .slice A H.2.1.length c, .bool H.2.2.1, .int .i64 H.2.2.2]) ∧
      H.2.1.length ≤ c ∧ Kd.C (Kd.int .i64) w' A H.2.1.length H.2.1 ∧ Below w.heap.size w w' := by
  subst h2 h3
  obtain ⟨k, hk⟩ := Holds_f p o ts ns off day
  rw [hH] at hk
  refine (office_Holds.calls k p o A2 c2 ts A3 c3 ns off day _ _ _ _ w hr2 hc2 hr3 hc3 hk).mono ?_
  rintro e w' ⟨v, rfl, hr, hb⟩
  obtain ⟨A, c, e⟩ := Kd.R_slice hr
  subst e
  exact ⟨A, c, rfl, (Kd.R_reads' hr).2.1, (Kd.R_reads' hr).2.2, hb⟩
end Go.Proofs.Ythpheknchikodaa.P
