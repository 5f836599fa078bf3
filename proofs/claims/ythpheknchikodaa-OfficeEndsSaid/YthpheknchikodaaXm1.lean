/- Contracts of functions that the laws reach, part Xm1. Conditions: each theorem names its own. -/
import Derived.Test.YthpheknchikodaaXb13
import Derived.Test.YthpheknchikodaaXb8
import Derived.Test.YthpheknchikodaaXb3
import Derived.Test.YthpheknchikodaaXb10
import Derived.Test.YthpheknchikodaaXb11
/- The walk of ready: may a statement play a roll? Conditions: the roll is readable. -/
namespace Go.Proofs.Ythpheknchikodaa.P
open Go.RowKit Go.Proofs.YthpheknchikodaaW.PrintWords Go.Proofs.YthpheknchikodaaW.PrintLast
set_option linter.unusedVariables false
set_option linter.unusedSimpArgs false
def readyB (p o : Int) (ts : List S54) (ns : List S88) : Bool := thinB ts ns && decide (faultOf p o ts ns = 0)
set_option maxHeartbeats 1000000 in
set_option maxRecDepth 100000 in
theorem ready_calls (p o : Int) (A2 : Option Addr) (c2 : Nat) (ts : List S54) (A3 : Option Addr) (c3 : Nat) (ns : List S88) (w : World) (hI : RIn w A2 c2 ts A3 c3 ns) :
    Calls Try.prog 26 #[.agg #[.int .i64 p, .int .i64 o, .slice A2 ts.length c2, .slice A3 ns.length c3]] w fun e w' => e = .returned (.bool (readyB p o ts ns)) ∧ Below w.heap.size w w' := by
  have hu25 := Try.underlying25
  have HB0 := Aside0.mk (below_alloc (Below.refl w.heap.size w) (.cells #[.int .i64 p, .int .i64 o, .slice A2 ts.length c2, .slice A3 ns.length c3] 25))
  have HI0 := Aside0.mk (hI.below HB0.out)
  have BK0 := Aside0.mk (blk_new w (.cells #[.int .i64 p, .int .i64 o, .slice A2 ts.length c2, .slice A3 ns.length c3] 25))
  obtain ⟨x0, x1, x2, x3⟩ := roll_cells BK0.out
  clear hI
  obtain ⟨R, hR⟩ : ∃ R, readyB p o ts ns = R := ⟨_, rfl⟩
  rw [hR]
  unfold readyB at hR
  cases ht : thinB ts ns
  · rw [ht, Bool.false_and] at hR
    subst hR
    go_enter Try.func26, Try.ntmps26
    go_wp2_with fail
    refine (Thin_calls p o A2 c2 ts A3 c3 ns _ HI0.out).mono ?_
    rintro e w1 ⟨rfl, hb⟩
    rw [ht]
    have HB1 := Aside0.mk (below_then HB0.out HB0.out.size hb)
    clear hb x0 x1 x2 x3
    go_wp2
    go_ret
    exact ⟨rfl, HB1.out⟩
  rw [ht, Bool.true_and] at hR
  obtain ⟨hts, hns, hsz⟩ := thin_facts ht
  have HTS := Aside0.mk hts
  have HNS := Aside0.mk hns
  have HSZ := Aside0.mk hsz
  clear hts hns hsz
  obtain ⟨f, hf⟩ : ∃ f, faultOf p o ts ns = f := ⟨_, rfl⟩
  rw [hf] at hR
  have hR2 : (f == 0) = R := by rw [← hR, Bool.eq_iff_iff]; simp
  have HF := Aside0.mk hf
  clear hf hR
  go_enter Try.func26, Try.ntmps26
  go_wp2_with fail
  refine (Thin_calls p o A2 c2 ts A3 c3 ns _ HI0.out).mono ?_
  rintro e w1 ⟨rfl, hb⟩
  rw [ht]
  have HB1 := Aside0.mk (below_then HB0.out HB0.out.size hb)
  have HI1 := Aside0.mk (HI0.out.below hb)
  have BK1 := Aside0.mk ((hb.block _ (blk_lt BK0.out)).trans BK0.out)
  clear hb x0 x1 x2 x3
  obtain ⟨x0, x1, x2, x3⟩ := roll_cells BK1.out
  go_wp2_with fail
  refine (Fault_calls p o A2 c2 ts A3 c3 ns _ HI1.out.1 HI1.out.2.2.1 HTS.out HNS.out HSZ.out).mono ?_
  rintro e w2 ⟨rfl, hb⟩
  rw [HF.out]
  have HB2 := Aside0.mk (below_then HB1.out HB1.out.size hb)
  clear hb x0 x1 x2 x3
  go_wp2
  go_ret
  exact ⟨rfl, HB2.out⟩
theorem wf_u8 {a : Int} (h : (Lit.int .u8 a).wf = true) : 0 ≤ a ∧ a ≤ 255 := by
  have h' := h
  simp only [Lit.wf, Bool.and_eq_true, decide_eq_true_eq] at h'
  exact ⟨h'.1, h'.2⟩
theorem wf_u32 {a : Int} (h : (Lit.int .u32 a).wf = true) : 0 ≤ a ∧ a ≤ 4294967295 := by
  have h' := h
  simp only [Lit.wf, Bool.and_eq_true, decide_eq_true_eq] at h'
  exact ⟨h'.1, h'.2⟩
theorem wf_u16 {a : Int} (h : (Lit.int .u16 a).wf = true) : 0 ≤ a ∧ a ≤ 65535 := by
  have h' := h
  simp only [Lit.wf, Bool.and_eq_true, decide_eq_true_eq] at h'
  exact ⟨h'.1, h'.2⟩
end Go.Proofs.Ythpheknchikodaa.P

/- Plain words for what is known of the terms of a roll: the reference's (over all terms) and the program's (by neighbours in an order) are the same. Conditions: the terms are as described, no two clash. -/
namespace Go.Proofs.Ythpheknchikodaa.P
open Go.RowKit Go.Proofs.YthpheknchikodaaW.PrintWords Go.Proofs.YthpheknchikodaaW.PrintLast
set_option linter.unusedVariables false
set_option linter.unusedSimpArgs false

def tAt (ts : List S59) (i : Nat) : S59 := ts.getD i z59
def TermsOk (ts : List S59) : Prop := ∀ i, i < ts.length → 0 ≤ (tAt ts i).f2.f0 ∧ (tAt ts i).f2.f0 ≤ (tAt ts i).f2.f1 ∧ (tAt ts i).f2.f1 < (tAt ts i).f3.f0 ∧ (tAt ts i).f3.f0 ≤ (tAt ts i).f3.f1 ∧ (tAt ts i).f3.f1 ≤ 100000
def NoClash (ts : List S59) : Prop := ∀ i j, i < j → j < ts.length → clashB (tAt ts i) (tAt ts j) = false
theorem tAt_get (ts : List S59) (i : Nat) (h : i < ts.length) : tAt ts i = ts[i] := by simp [tAt, h]
theorem clashB_comm (a b : S59) : clashB a b = clashB b a := by
  unfold clashB
  rw [Bool.and_comm (!befB a b)]
  congr 1
  rw [Bool.eq_iff_iff]
  simp
  exact eq_comm
theorem findClash_none (t : S59) : ∀ (l : List S59) (k : Int), findClash t k l = none ↔ ∀ o ∈ l, clashB t o = false
  | [], k => by simp [findClash]
  | o :: l, k => by
    rw [findClash]
    have ih := findClash_none t l (k + 1)
    cases h : clashB t o <;> simp [h, ih]
theorem firstClash_none : ∀ (l : List S59) (i : Int), firstClash i l = none ↔ l.Pairwise fun a b => clashB a b = false
  | [], i => by simp [firstClash]
  | t :: l, i => by
    rw [firstClash, List.pairwise_cons, ← findClash_none t l (i + 1), ← firstClash_none l (i + 1)]
    cases h : findClash t (i + 1) l <;> simp
theorem noClash_iff (ts : List S59) : firstClash 0 ts = none ↔ NoClash ts := by
  rw [firstClash_none, List.pairwise_iff_getElem]
  constructor
  · intro h i j hij hj
    rw [tAt_get ts i (by omega), tAt_get ts j hj]
    exact h i j (by omega) hj hij
  · intro h i j hi hj hij
    have := h i j hij hj
    rwa [tAt_get ts i hi, tAt_get ts j hj] at this
theorem termOk_facts {p o : Int} {t : S59} (h : termOk p o t = true) : (0 ≤ t.f0 ∧ t.f0 < p) ∧ (0 ≤ t.f1 ∧ t.f1 < o) ∧ 0 ≤ t.f2.f0 ∧ t.f2.f0 ≤ t.f2.f1 ∧ t.f2.f1 < t.f3.f0 ∧ t.f3.f0 ≤ t.f3.f1 ∧ t.f3.f1 ≤ 100000 := by
  unfold termOk withinB rangeOk at h
  simp at h
  omega
/-- One term more, for what is known of term i. -/
def kStep (ts : List S59) (i : Nat) (a : Int × Int) (k : Nat) : Int × Int :=
  if k = i ∨ (tAt ts k).f1 ≠ (tAt ts i).f1 then a else if befB (tAt ts k) (tAt ts i) = true then (max a.1 (tAt ts k).f3.f0, a.2) else (a.1, min a.2 (tAt ts k).f2.f1)
def kAcc (ts : List S59) (i : Nat) : Int × Int := (List.range' 0 ts.length).foldl (kStep ts i) ((tAt ts i).f2.f0, (tAt ts i).f3.f1)
def knownAt (ts : List S59) (i : Nat) : S51 := ⟨⟨(kAcc ts i).1, (tAt ts i).f2.f1⟩, ⟨(tAt ts i).f3.f0, (kAcc ts i).2⟩⟩
/-- A term of the same office that can end before term i begins; one that cannot. -/
def Bef (ts : List S59) (i k : Nat) : Prop := k ≠ i ∧ (tAt ts k).f1 = (tAt ts i).f1 ∧ (tAt ts k).f3.f0 ≤ (tAt ts i).f2.f1
def Aft (ts : List S59) (i k : Nat) : Prop := k ≠ i ∧ (tAt ts k).f1 = (tAt ts i).f1 ∧ ¬ (tAt ts k).f3.f0 ≤ (tAt ts i).f2.f1
def IsLo (ts : List S59) (i : Nat) (x : Int) : Prop := (tAt ts i).f2.f0 ≤ x ∧ (∀ k, k < ts.length → Bef ts i k → (tAt ts k).f3.f0 ≤ x) ∧ (x = (tAt ts i).f2.f0 ∨ ∃ k, k < ts.length ∧ Bef ts i k ∧ x = (tAt ts k).f3.f0)
def IsHi (ts : List S59) (i : Nat) (x : Int) : Prop := x ≤ (tAt ts i).f3.f1 ∧ (∀ k, k < ts.length → Aft ts i k → x ≤ (tAt ts k).f2.f1) ∧ (x = (tAt ts i).f3.f1 ∨ ∃ k, k < ts.length ∧ Aft ts i k ∧ x = (tAt ts k).f2.f1)
theorem IsLo.unique {ts : List S59} {i : Nat} {x y : Int} (h : IsLo ts i x) (k : IsLo ts i y) : x = y := by
  obtain ⟨a1, a2, a3⟩ := h
  obtain ⟨b1, b2, b3⟩ := k
  have h1 : x ≤ y := by
    rcases a3 with e | ⟨q, hq, hb, e⟩
    · omega
    · have := b2 q hq hb; omega
  have h2 : y ≤ x := by
    rcases b3 with e | ⟨q, hq, hb, e⟩
    · omega
    · have := a2 q hq hb; omega
  omega
theorem IsHi.unique {ts : List S59} {i : Nat} {x y : Int} (h : IsHi ts i x) (k : IsHi ts i y) : x = y := by
  obtain ⟨a1, a2, a3⟩ := h
  obtain ⟨b1, b2, b3⟩ := k
  have h1 : y ≤ x := by
    rcases a3 with e | ⟨q, hq, hb, e⟩
    · omega
    · have := b2 q hq hb; omega
  have h2 : x ≤ y := by
    rcases b3 with e | ⟨q, hq, hb, e⟩
    · omega
    · have := a2 q hq hb; omega
  omega
theorem kAcc_spec (ts : List S59) (i : Nat) (l : List Nat) : ∀ a : Int × Int,
    (a.1 ≤ (l.foldl (kStep ts i) a).1 ∧ (∀ k ∈ l, Bef ts i k → (tAt ts k).f3.f0 ≤ (l.foldl (kStep ts i) a).1) ∧ ((l.foldl (kStep ts i) a).1 = a.1 ∨ ∃ k ∈ l, Bef ts i k ∧ (l.foldl (kStep ts i) a).1 = (tAt ts k).f3.f0)) ∧
    ((l.foldl (kStep ts i) a).2 ≤ a.2 ∧ (∀ k ∈ l, Aft ts i k → (l.foldl (kStep ts i) a).2 ≤ (tAt ts k).f2.f1) ∧ ((l.foldl (kStep ts i) a).2 = a.2 ∨ ∃ k ∈ l, Aft ts i k ∧ (l.foldl (kStep ts i) a).2 = (tAt ts k).f2.f1)) := by
  induction l with
  | nil => intro a; simp
  | cons q l ih =>
    intro a
    obtain ⟨⟨l1, l2, l3⟩, ⟨h1, h2, h3⟩⟩ := ih (kStep ts i a q)
    rw [List.foldl_cons]
    generalize l.foldl (kStep ts i) (kStep ts i a q) = r at l1 l2 l3 h1 h2 h3 ⊢
    have hq : (kStep ts i a q = a ∧ ¬ Bef ts i q ∧ ¬ Aft ts i q) ∨ (kStep ts i a q = (max a.1 (tAt ts q).f3.f0, a.2) ∧ Bef ts i q ∧ ¬ Aft ts i q) ∨ (kStep ts i a q = (a.1, min a.2 (tAt ts q).f2.f1) ∧ ¬ Bef ts i q ∧ Aft ts i q) := by
      unfold kStep Bef Aft befB
      by_cases c1 : q = i ∨ (tAt ts q).f1 ≠ (tAt ts i).f1
      · rw [if_pos c1]
        refine .inl ⟨rfl, ?_, ?_⟩ <;> rintro ⟨x, y, _⟩ <;> rcases c1 with c | c <;> contradiction
      · rw [if_neg c1]
        have c2 : q ≠ i ∧ (tAt ts q).f1 = (tAt ts i).f1 := by
          refine ⟨fun e => c1 (.inl e), ?_⟩
          by_cases e : (tAt ts q).f1 = (tAt ts i).f1
          · exact e
          · exact absurd (.inr e) c1
        by_cases c3 : (tAt ts q).f3.f0 ≤ (tAt ts i).f2.f1
        · rw [if_pos (decide_eq_true c3)]
          exact .inr (.inl ⟨rfl, ⟨c2.1, c2.2, c3⟩, fun h => h.2.2 c3⟩)
        · rw [if_neg (by simpa using c3)]
          exact .inr (.inr ⟨rfl, fun h => c3 h.2.2, ⟨c2.1, c2.2, c3⟩⟩)
    rcases hq with ⟨e, nb, na⟩ | ⟨e, yb, na⟩ | ⟨e, nb, ya⟩
    · rw [e] at l1 l3 h1 h3
      refine ⟨⟨l1, ?_, ?_⟩, h1, ?_, ?_⟩
      · intro k hk hb; rcases List.mem_cons.1 hk with rfl | hk; exact absurd hb nb; exact l2 k hk hb
      · rcases l3 with l3 | ⟨k, hk, hb, l3⟩; exact .inl l3; exact .inr ⟨k, List.mem_cons_of_mem _ hk, hb, l3⟩
      · intro k hk hb; rcases List.mem_cons.1 hk with rfl | hk; exact absurd hb na; exact h2 k hk hb
      · rcases h3 with l3 | ⟨k, hk, hb, l3⟩; exact .inl l3; exact .inr ⟨k, List.mem_cons_of_mem _ hk, hb, l3⟩
    · rw [e] at l1 l3 h1 h3
      have m1 : a.1 ≤ r.1 := Int.le_trans (Int.le_max_left _ _) l1
      have m2 : (tAt ts q).f3.f0 ≤ r.1 := Int.le_trans (Int.le_max_right _ _) l1
      refine ⟨⟨m1, ?_, ?_⟩, h1, ?_, ?_⟩
      · intro k hk hb; rcases List.mem_cons.1 hk with rfl | hk; exact m2; exact l2 k hk hb
      · rcases l3 with l3 | ⟨k, hk, hb, l3⟩
        · by_cases c : a.1 ≤ (tAt ts q).f3.f0
          · exact .inr ⟨q, by simp, yb, l3.trans (Int.max_eq_right c)⟩
          · exact .inl (l3.trans (Int.max_eq_left (by omega)))
        · exact .inr ⟨k, List.mem_cons_of_mem _ hk, hb, l3⟩
      · intro k hk hb; rcases List.mem_cons.1 hk with rfl | hk; exact absurd hb na; exact h2 k hk hb
      · rcases h3 with l3 | ⟨k, hk, hb, l3⟩; exact .inl l3; exact .inr ⟨k, List.mem_cons_of_mem _ hk, hb, l3⟩
    · rw [e] at l1 l3 h1 h3
      have m1 : r.2 ≤ a.2 := Int.le_trans h1 (Int.min_le_left _ _)
      have m2 : r.2 ≤ (tAt ts q).f2.f1 := Int.le_trans h1 (Int.min_le_right _ _)
      refine ⟨⟨l1, ?_, ?_⟩, m1, ?_, ?_⟩
      · intro k hk hb; rcases List.mem_cons.1 hk with rfl | hk; exact absurd hb nb; exact l2 k hk hb
      · rcases l3 with l3 | ⟨k, hk, hb, l3⟩; exact .inl l3; exact .inr ⟨k, List.mem_cons_of_mem _ hk, hb, l3⟩
      · intro k hk hb; rcases List.mem_cons.1 hk with rfl | hk; exact m2; exact h2 k hk hb
      · rcases h3 with l3 | ⟨k, hk, hb, l3⟩
        · by_cases c : (tAt ts q).f2.f1 ≤ a.2
          · exact .inr ⟨q, by simp, ya, l3.trans (Int.min_eq_right c)⟩
          · exact .inl (l3.trans (Int.min_eq_left (by omega)))
        · exact .inr ⟨k, List.mem_cons_of_mem _ hk, hb, l3⟩
theorem mem_range0 {k n : Nat} : k ∈ List.range' 0 n ↔ k < n := by simp [List.mem_range']
theorem known_lo (ts : List S59) (i : Nat) : IsLo ts i (knownAt ts i).f0.f0 := by
  obtain ⟨⟨l1, l2, l3⟩, _⟩ := kAcc_spec ts i (List.range' 0 ts.length) ((tAt ts i).f2.f0, (tAt ts i).f3.f1)
  refine ⟨l1, fun k hk hb => l2 k (mem_range0.2 hk) hb, ?_⟩
  rcases l3 with h | ⟨k, hk, hb, h⟩
  · exact .inl h
  · exact .inr ⟨k, mem_range0.1 hk, hb, h⟩
theorem known_hi (ts : List S59) (i : Nat) : IsHi ts i (knownAt ts i).f1.f1 := by
  obtain ⟨_, ⟨l1, l2, l3⟩⟩ := kAcc_spec ts i (List.range' 0 ts.length) ((tAt ts i).f2.f0, (tAt ts i).f3.f1)
  refine ⟨l1, fun k hk hb => l2 k (mem_range0.2 hk) hb, ?_⟩
  rcases l3 with h | ⟨k, hk, hb, h⟩
  · exact .inl h
  · exact .inr ⟨k, mem_range0.1 hk, hb, h⟩
theorem known_of {ts : List S59} {i : Nat} {k : S51} (h0 : IsLo ts i k.f0.f0) (h1 : k.f0.f1 = (tAt ts i).f2.f1) (h2 : k.f1.f0 = (tAt ts i).f3.f0) (h3 : IsHi ts i k.f1.f1) : k = knownAt ts i := by
  obtain ⟨⟨a, b⟩, ⟨c, d⟩⟩ := k
  have e0 := h0.unique (known_lo ts i)
  have e3 := h3.unique (known_hi ts i)
  simp only at h1 h2 e0 e3
  unfold knownAt at e0 e3 ⊢
  simp only at e0 e3
  rw [h1, h2, e0, e3]
end Go.Proofs.Ythpheknchikodaa.P

/- What the program's terms of an office answer: the placed terms, each with what is known of it. Conditions: the terms are as described, no two clash. -/
namespace Go.Proofs.Ythpheknchikodaa.P
open Go.RowKit Go.Shelf Go.Proofs.YthpheknchikodaaW.PrintWords Go.Proofs.YthpheknchikodaaW.PrintLast
set_option linter.unusedVariables false
set_option linter.unusedSimpArgs false

theorem rd59_get (ts : List S59) (i : Nat) (h : i < ts.length) : rd_T59 ts (i : Int) = ts[i] := by simp [rd_T59, h]
theorem rd122_get (l : List S122) (i : Nat) (h : i < l.length) : rd_T122 l (i : Int) = l[i] := by simp [rd_T122, h]
def placed0 (t : S59) (i : Int) : S122 := ⟨t, i, ⟨t.f2, t.f3⟩⟩
/-- The terms of an office with their places. -/
def placedFrom (o : Int) : Int → List S59 → List S122
  | _, [] => []
  | i, t :: l => if t.f1 = o then placed0 t i :: placedFrom o (i + 1) l else placedFrom o (i + 1) l
theorem placedFrom_len (o : Int) : ∀ (l : List S59) (i : Int), (placedFrom o i l).length ≤ l.length
  | [], _ => Nat.le_refl _
  | t :: l, i => by
    have := placedFrom_len o l (i + 1)
    rw [placedFrom]
    split <;> simp <;> omega
theorem placedFrom_mem (o : Int) : ∀ (l : List S59) (i : Nat) (x : S122), x ∈ placedFrom o (i : Int) l ↔ ∃ k, k < l.length ∧ (tAt l k).f1 = o ∧ x = placed0 (tAt l k) ((i + k : Nat) : Int)
  | [], i, x => by simp [placedFrom]
  | t :: l, i, x => by
    have ih := placedFrom_mem o l (i + 1) x
    have e : ((i : Int) + 1) = ((i + 1 : Nat) : Int) := by push_cast; rfl
    rw [placedFrom, e]
    have key : (∃ k, k < (t :: l).length ∧ (tAt (t :: l) k).f1 = o ∧ x = placed0 (tAt (t :: l) k) ((i + k : Nat) : Int)) ↔ ((t.f1 = o ∧ x = placed0 t (i : Int)) ∨ ∃ k, k < l.length ∧ (tAt l k).f1 = o ∧ x = placed0 (tAt l k) ((i + 1 + k : Nat) : Int)) := by
      constructor
      · rintro ⟨k, hk, h1, h2⟩
        cases k with
        | zero => exact .inl ⟨h1, h2⟩
        | succ k => exact .inr ⟨k, by simpa using hk, h1, by rw [h2, show i + (k + 1) = i + 1 + k by omega]; rfl⟩
      · rintro (⟨h1, h2⟩ | ⟨k, hk, h1, h2⟩)
        · exact ⟨0, by simp, h1, h2⟩
        · exact ⟨k + 1, by simpa using hk, h1, by rw [h2, show i + 1 + k = i + (k + 1) by omega]; rfl⟩
    rw [key]
    by_cases h : t.f1 = o
    · rw [if_pos h, List.mem_cons, ih]
      simp [h]
    · rw [if_neg h, ih]
      simp [h]
theorem placedFrom_nodup (o : Int) : ∀ (l : List S59) (i : Nat), (placedFrom o (i : Int) l).Pairwise fun x y => x.f1 < y.f1
  | [], _ => by simp [placedFrom]
  | t :: l, i => by
    have ih := placedFrom_nodup o l (i + 1)
    have e : ((i : Int) + 1) = ((i + 1 : Nat) : Int) := by push_cast; rfl
    rw [placedFrom, e]
    split
    · rw [List.pairwise_cons]
      refine ⟨fun y hy => ?_, ih⟩
      obtain ⟨k, _, _, rfl⟩ := (placedFrom_mem o l (i + 1) y).1 hy
      show (i : Int) < ((i + 1 + k : Nat) : Int)
      omega
    · exact ih
theorem terms_l0 (o : Int) (ts : List S59) (hts : ts.length ≤ 1000) (R : List S122) : ∀ (n i : Nat) (x : List S122), i + n = ts.length → x.length ≤ i →
    Ev (fun k => (sortPlaced.f (x ++ placedFrom o (i : Int) (ts.drop i))).bind fun t => office_Roll_terms.l1 k t 1) R → Ev (fun k => office_Roll_terms.l0 k o x ts (ts.length : Int) (i : Int)) R := by
  intro n
  induction n with
  | zero =>
    intro i x hi hx hR
    refine Ev.step (fun k => office_Roll_terms.l0.eq_2 ..) ?_
    have h1 : ¬ ((i : Int) < (ts.length : Int)) := by omega
    rw [show ts.drop i = [] from List.drop_eq_nil_of_le (by omega), placedFrom, List.append_nil] at hR
    simp only [if_neg h1]
    exact hR
  | succ n ih =>
    intro i x hi hx hR
    refine Ev.step (fun k => office_Roll_terms.l0.eq_2 ..) ?_
    have hi' : i < ts.length := by omega
    have h1 : (i : Int) < (ts.length : Int) := by omega
    have h2 : (0 : Int) ≤ (i : Int) := by omega
    have h3 : x.length < 1599289640401 := by omega
    have e : ((i : Int) + 1) = ((i + 1 : Nat) : Int) := by push_cast; rfl
    rw [List.drop_eq_getElem_cons hi', placedFrom, e] at hR
    simp only [if_pos h1, if_pos h2, rd59_get ts i hi', w64 i (by omega)]
    by_cases h : ts[i].f1 = o
    · rw [if_pos h] at hR
      simp only [if_pos h, if_pos h3]
      exact ih (i + 1) (x ++ [placed0 ts[i] i]) (by omega) (by simp; omega) (by rw [List.append_assoc, List.singleton_append]; exact hR)
    · rw [if_neg h] at hR
      simp only [if_neg h]
      exact ih (i + 1) x (by omega) (by omega) hR
def sAt (S : List S122) (j : Nat) : S122 := S.getD j z122
theorem sAt_get (S : List S122) (i : Nat) (h : i < S.length) : sAt S i = S[i] := by simp [sAt, h]
/-- What is known of term j when the loop stands at i. -/
def upd (S : List S122) (i j : Nat) (x : S122) : S122 :=
  ⟨x.f0, x.f1, ⟨⟨if 1 ≤ j ∧ j < i then mx x.f0.f2.f0 (sAt S (j - 1)).f0.f3.f0 else x.f2.f0.f0, x.f2.f0.f1⟩, ⟨x.f2.f1.f0, if j + 1 < i then mn x.f0.f3.f1 (sAt S (j + 1)).f0.f2.f1 else x.f2.f1.f1⟩⟩⟩
def partL (S : List S122) (i : Nat) : List S122 := (List.range S.length).map fun j => upd S i j (sAt S j)
theorem partL_len (S : List S122) (i : Nat) : (partL S i).length = S.length := by simp [partL]
theorem partL_get (S : List S122) (i j : Nat) (h : j < (partL S i).length) : (partL S i)[j] = upd S i j (sAt S j) := by simp [partL]
theorem partL_one (S : List S122) (i : Nat) (hi : i ≤ 1) : partL S i = S := by
  apply List.ext_getElem (partL_len S i)
  intro j h1 h2
  rw [partL_get, sAt_get S j h2]
  unfold upd
  rw [if_neg (by omega), if_neg (by omega)]
theorem terms_l1 (S : List S122) (hS : S.length ≤ 1000) : ∀ (n i : Nat), 1 ≤ i → (i + n = S.length ∨ (n = 0 ∧ S.length ≤ i ∧ i ≤ 1)) → Ev (fun k => office_Roll_terms.l1 k (partL S i) (i : Int)) (partL S S.length) := by
  intro n
  induction n with
  | zero =>
    intro i h1 hi
    refine Ev.step (fun k => office_Roll_terms.l1.eq_2 ..) ?_
    have h2 : ¬ ((i : Int) < ((partL S i).length : Int)) := by rw [partL_len]; omega
    simp only [if_neg h2]
    have e : partL S i = partL S S.length := by
      rcases hi with hi | ⟨_, hi, hi'⟩
      · rw [show i = S.length by omega]
      · rw [partL_one S i hi', partL_one S S.length (by omega)]
    rw [e]
    exact Ev.now _
  | succ n ih =>
    intro i h1 hi
    have hi2 : i + (n + 1) = S.length := by omega
    refine Ev.step (fun k => office_Roll_terms.l1.eq_2 ..) ?_
    have hl : i < (partL S i).length := by rw [partL_len]; omega
    have hl' : i - 1 < (partL S i).length := by omega
    have g1 : (i : Int) < ((partL S i).length : Int) := by omega
    have g2 : (0 : Int) ≤ (i : Int) := by omega
    have ew : wrap64 ((i : Int) - 1) = ((i - 1 : Nat) : Int) := by unfold wrap64; omega
    have g3 : (0 : Int) ≤ ((i - 1 : Nat) : Int) := by omega
    have g4 : ((i - 1 : Nat) : Int) < ((partL S i).length : Int) := by omega
    have ih' := ih (i + 1) (by omega) (.inl (by omega))
    simp only [if_pos g1, if_pos g2, ew, if_pos g3, if_pos g4, rd122_get _ i hl, rd122_get _ (i - 1) hl', office_latest.f, office_earliest.f, Option.bind_some, Int.toNat_natCast, w64 i (by omega)]
    have hset : ∀ (y : S122) (q : Nat) (hq : q < ((partL S i).set i y).length), ((partL S i).set i y)[q] = if q = i then y else (partL S i)[q]'(by simpa using hq) := by
      intro y q hq
      by_cases e : q = i
      · subst e; simp
      · rw [if_neg e, List.getElem_set_ne (fun h => e h.symm)]
    have hr : ∀ (y : S122) (q : Nat) (hq : q < (partL S i).length), rd_T122 ((partL S i).set i y) (q : Int) = if q = i then y else (partL S i)[q] := by
      intro y q hq
      rw [rd122_get _ q (by simpa using hq), hset]
    simp only [hr _ i hl, hr _ (i - 1) hl', if_neg (show ¬ i - 1 = i by omega), if_true]
    refine Ev.congr (fun k => ?_) ih'
    congr 1
    apply List.ext_getElem
    · simp [partL_len]
    · intro j hj1 hj2
      by_cases c1 : j = i - 1
      · subst c1
        simp only [List.getElem_set_self, partL_get]
        unfold upd
        have e1 : (i - 1 + 1 < i + 1) := by omega
        have e2 : ¬ (i - 1 + 1 < i) := by omega
        have e3 : i - 1 + 1 = i := by omega
        by_cases c : 1 ≤ i - 1
        · simp only [if_pos e1, if_neg e2, if_pos (show 1 ≤ i - 1 ∧ i - 1 < i by omega), if_pos (show 1 ≤ i - 1 ∧ i - 1 < i + 1 by omega), e3, if_pos (show i < i + 1 by omega)]
        · simp only [if_pos e1, if_neg e2, if_neg (show ¬ (1 ≤ i - 1 ∧ i - 1 < i) by omega), if_neg (show ¬ (1 ≤ i - 1 ∧ i - 1 < i + 1) by omega), e3, if_pos (show i < i + 1 by omega)]
      · rw [List.getElem_set_ne (fun h => c1 h.symm)]
        by_cases c2 : j = i
        · subst c2
          simp only [List.getElem_set_self, partL_get]
          unfold upd
          simp only [if_neg (show ¬ (j + 1 < j) by omega), if_neg (show ¬ (j + 1 < j + 1) by omega), if_pos (show 1 ≤ j ∧ j < j + 1 by omega), if_neg (show ¬ (1 ≤ j ∧ j < j) by omega)]
        · rw [List.getElem_set_ne (fun h => c2 h.symm)]
          simp only [partL_get]
          unfold upd
          have e1 : (1 ≤ j ∧ j < i) ↔ (1 ≤ j ∧ j < i + 1) := by omega
          have e2 : (j + 1 < i) ↔ (j + 1 < i + 1) := by omega
          simp only [e1, e2]

theorem terms_sorted (p o : Int) (ts : List S59) (ns : List S109) (off : Int) (hts : ts.length ≤ 1000) :
    Ev (fun k => office_Roll_terms.f k p o ts ns off) (partL (sortL byHi (placedFrom off 0 ts)) (sortL byHi (placedFrom off 0 ts)).length) := by
  have hl := placedFrom_len off ts 0
  have hS : (sortL byHi (placedFrom off 0 ts)).length ≤ 1000 := by rw [sortL_length byHi swoHi]; omega
  refine terms_l0 off ts hts _ ts.length 0 [] (by omega) (by simp) ?_
  rw [List.nil_append, List.drop_zero]
  unfold sortPlaced.f
  rw [if_pos (show (placedFrom off ((0 : Nat) : Int) ts).length < 4611686018427387904 by have := placedFrom_len off ts ((0 : Nat) : Int); omega)]
  simp only [Option.bind_some]
  have h := terms_l1 (sortL byHi (placedFrom off 0 ts)) hS ((sortL byHi (placedFrom off 0 ts)).length - 1) 1 (by omega) (by omega)
  rw [partL_one _ 1 (by omega)] at h
  exact h

def byOffice (ts : List S59) (off : Int) : List S122 := sortL byHi (placedFrom off 0 ts)
def idxAt (ts : List S59) (off : Int) (j : Nat) : Nat := (sAt (byOffice ts off) j).f1.toNat
section
variable {ts : List S59} {off : Int}
theorem byOffice_mem (x : S122) : x ∈ byOffice ts off ↔ ∃ k, k < ts.length ∧ (tAt ts k).f1 = off ∧ x = placed0 (tAt ts k) (k : Int) := by
  unfold byOffice
  rw [(sortL_spec byHi swoHi _).1.mem_iff]
  have h := placedFrom_mem off ts 0 x
  simpa using h
theorem idx_spec {j : Nat} (hj : j < (byOffice ts off).length) : idxAt ts off j < ts.length ∧ (tAt ts (idxAt ts off j)).f1 = off ∧ sAt (byOffice ts off) j = placed0 (tAt ts (idxAt ts off j)) (idxAt ts off j : Int) := by
  obtain ⟨k, hk, h1, h2⟩ := (byOffice_mem (ts := ts) (off := off) _).1 (List.getElem_mem hj)
  have e : idxAt ts off j = k := by unfold idxAt; rw [sAt_get _ j hj, h2]; simp [placed0]
  rw [e, sAt_get _ j hj]
  exact ⟨hk, h1, h2⟩
theorem idx_inj {a b : Nat} (ha : a < b) (hb : b < (byOffice ts off).length) : idxAt ts off a ≠ idxAt ts off b := by
  have hn : ((byOffice ts off).map (·.f1)).Nodup := by
    unfold byOffice
    rw [((sortL_spec byHi swoHi (placedFrom off 0 ts)).1.map (·.f1)).nodup_iff]
    rw [List.Nodup, List.pairwise_map]
    exact (placedFrom_nodup off ts 0).imp (fun h => by omega)
  rw [List.Nodup, List.pairwise_map, List.pairwise_iff_getElem] at hn
  have h := hn a b (by omega) hb ha
  intro e
  apply h
  obtain ⟨_, _, h1⟩ := idx_spec (ts := ts) (off := off) (j := a) (by omega)
  obtain ⟨_, _, h2⟩ := idx_spec (ts := ts) (off := off) (j := b) hb
  rw [← sAt_get _ a (by omega), ← sAt_get _ b hb, h1, h2, e]
theorem idx_sorted {a b : Nat} (ha : a < b) (hb : b < (byOffice ts off).length) : (tAt ts (idxAt ts off a)).f2.f1 ≤ (tAt ts (idxAt ts off b)).f2.f1 := by
  have h := (sortL_spec byHi swoHi (placedFrom off 0 ts)).2
  rw [List.pairwise_iff_getElem] at h
  have h := h a b (by unfold byOffice at hb; omega) hb ha
  rw [ltHi] at h
  have h := of_decide_eq_false h
  obtain ⟨_, _, h1⟩ := idx_spec (ts := ts) (off := off) (j := a) (by omega)
  obtain ⟨_, _, h2⟩ := idx_spec (ts := ts) (off := off) (j := b) hb
  rw [sAt_get _ a (by omega)] at h1
  rw [sAt_get _ b hb] at h2
  unfold byOffice at h1 h2
  rw [h1, h2] at h
  simp only [placed0] at h
  omega
theorem idx_surj {k : Nat} (hk : k < ts.length) (ho : (tAt ts k).f1 = off) : ∃ j, j < (byOffice ts off).length ∧ idxAt ts off j = k := by
  have h := (byOffice_mem (ts := ts) (off := off) (placed0 (tAt ts k) (k : Int))).2 ⟨k, hk, ho, rfl⟩
  obtain ⟨j, hj, e⟩ := List.mem_iff_getElem.1 h
  refine ⟨j, hj, ?_⟩
  unfold idxAt
  rw [sAt_get _ j hj, e]
  simp [placed0]
theorem clash_false {i j : Nat} (hc : NoClash ts) (h : i ≠ j) (hi : i < ts.length) (hj : j < ts.length) : clashB (tAt ts i) (tAt ts j) = false := by
  by_cases c : i < j
  · exact hc i j c hj
  · rw [clashB_comm]; exact hc j i (by omega) hi
theorem idx_ord (hk : TermsOk ts) (hc : NoClash ts) {a b : Nat} (ha : a < b) (hb : b < (byOffice ts off).length) : (tAt ts (idxAt ts off a)).f3.f0 ≤ (tAt ts (idxAt ts off b)).f2.f1 := by
  obtain ⟨a1, a2, _⟩ := idx_spec (ts := ts) (off := off) (j := a) (by omega)
  obtain ⟨b1, b2, _⟩ := idx_spec (ts := ts) (off := off) (j := b) hb
  have hs := idx_sorted ha hb
  have h := clash_false hc (idx_inj ha hb) a1 b1
  have k1 := hk _ a1
  have k2 := hk _ b1
  unfold clashB befB at h
  rw [decide_eq_true (a2.trans b2.symm), Bool.true_and] at h
  simp at h
  by_cases c : (tAt ts (idxAt ts off a)).f3.f0 ≤ (tAt ts (idxAt ts off b)).f2.f1
  · exact c
  · have := h (by omega)
    omega
theorem mx_cases (a b : Int) : (mx a b = a ∨ mx a b = b) ∧ a ≤ mx a b ∧ b ≤ mx a b := by unfold mx; split <;> omega
theorem mn_cases (a b : Int) : (mn a b = a ∨ mn a b = b) ∧ mn a b ≤ a ∧ mn a b ≤ b := by unfold mn; split <;> omega
theorem terms_known (hk : TermsOk ts) (hc : NoClash ts) : partL (byOffice ts off) (byOffice ts off).length = (byOffice ts off).map fun x => ⟨x.f0, x.f1, knownAt ts x.f1.toNat⟩ := by
  apply List.ext_getElem (by simp [partL_len])
  intro j h1 h2
  have hj : j < (byOffice ts off).length := by rw [partL_len] at h1; exact h1
  rw [partL_get, List.getElem_map, ← sAt_get _ j hj]
  obtain ⟨i1, i2, i3⟩ := idx_spec hj
  have hx : (sAt (byOffice ts off) j).f1.toNat = idxAt ts off j := rfl
  rw [hx]
  have ki := hk _ i1
  suffices h : (upd (byOffice ts off) (byOffice ts off).length j (sAt (byOffice ts off) j)).f2 = knownAt ts (idxAt ts off j) by
    rw [← h]; rfl
  apply known_of
  · -- the least begin
    show IsLo ts _ (if 1 ≤ j ∧ j < (byOffice ts off).length then mx (sAt (byOffice ts off) j).f0.f2.f0 (sAt (byOffice ts off) (j - 1)).f0.f3.f0 else (sAt (byOffice ts off) j).f2.f0.f0)
    have hnone : ∀ m, m < (byOffice ts off).length → Bef ts (idxAt ts off j) (idxAt ts off m) → m < j := by
      rintro m hm ⟨hne, _, hb⟩
      by_cases c : m < j
      · exact c
      · have hjm : j < m := by
          have : m ≠ j := fun e => hne (by rw [e])
          omega
        have o1 := idx_ord hk hc hjm hm
        have km := hk _ (idx_spec hm).1
        omega
    by_cases c : 1 ≤ j
    · rw [if_pos ⟨c, hj⟩]
      obtain ⟨p1, p2, p3⟩ := idx_spec (ts := ts) (off := off) (j := j - 1) (by omega)
      rw [i3, p3]
      show IsLo ts _ (mx (tAt ts (idxAt ts off j)).f2.f0 (tAt ts (idxAt ts off (j - 1))).f3.f0)
      obtain ⟨m1, m2, m3⟩ := mx_cases (tAt ts (idxAt ts off j)).f2.f0 (tAt ts (idxAt ts off (j - 1))).f3.f0
      refine ⟨m2, ?_, ?_⟩
      · intro k hkl hb
        obtain ⟨m, hm, rfl⟩ := idx_surj (off := off) hkl (hb.2.1.trans i2)
        have hmj := hnone m hm hb
        by_cases e : m = j - 1
        · rw [e]; exact m3
        · have o1 := idx_ord hk hc (off := off) (show m < j - 1 by omega) (by omega)
          have kp := hk _ p1
          omega
      · rcases m1 with e | e
        · exact .inl e
        · refine .inr ⟨idxAt ts off (j - 1), p1, ⟨idx_inj (by omega) hj, p2.trans i2.symm, idx_ord hk hc (by omega) hj⟩, e⟩
    · rw [if_neg (fun h => c h.1), i3]
      refine ⟨Int.le_refl _, ?_, .inl rfl⟩
      intro k hkl hb
      obtain ⟨m, hm, rfl⟩ := idx_surj (off := off) hkl (hb.2.1.trans i2)
      have := hnone m hm hb
      omega
  · show (sAt (byOffice ts off) j).f2.f0.f1 = _
    rw [i3]; rfl
  · show (sAt (byOffice ts off) j).f2.f1.f0 = _
    rw [i3]; rfl
  · show IsHi ts _ (if j + 1 < (byOffice ts off).length then mn (sAt (byOffice ts off) j).f0.f3.f1 (sAt (byOffice ts off) (j + 1)).f0.f2.f1 else (sAt (byOffice ts off) j).f2.f1.f1)
    have hnone : ∀ m, m < (byOffice ts off).length → Aft ts (idxAt ts off j) (idxAt ts off m) → j < m := by
      rintro m hm ⟨hne, _, hb⟩
      by_cases c : j < m
      · exact c
      · have hjm : m < j := by
          have : m ≠ j := fun e => hne (by rw [e])
          omega
        exact absurd (idx_ord hk hc hjm hj) hb
    by_cases c : j + 1 < (byOffice ts off).length
    · rw [if_pos c]
      obtain ⟨p1, p2, p3⟩ := idx_spec c
      rw [i3, p3]
      show IsHi ts _ (mn (tAt ts (idxAt ts off j)).f3.f1 (tAt ts (idxAt ts off (j + 1))).f2.f1)
      obtain ⟨m1, m2, m3⟩ := mn_cases (tAt ts (idxAt ts off j)).f3.f1 (tAt ts (idxAt ts off (j + 1))).f2.f1
      refine ⟨m2, ?_, ?_⟩
      · intro k hkl hb
        obtain ⟨m, hm, rfl⟩ := idx_surj (off := off) hkl (hb.2.1.trans i2)
        have hmj := hnone m hm hb
        by_cases e : m = j + 1
        · rw [e]; exact m3
        · have o1 := idx_sorted (ts := ts) (off := off) (show j + 1 < m by omega) hm
          omega
      · rcases m1 with e | e
        · exact .inl e
        · have o1 := idx_ord hk hc (off := off) (show j < j + 1 by omega) c
          have kp := hk _ p1
          exact .inr ⟨idxAt ts off (j + 1), p1, ⟨fun e => idx_inj (show j < j + 1 by omega) c e.symm, p2.trans i2.symm, by omega⟩, e⟩
    · rw [if_neg c, i3]
      refine ⟨Int.le_refl _, ?_, .inl rfl⟩
      intro k hkl hb
      obtain ⟨m, hm, rfl⟩ := idx_surj (off := off) hkl (hb.2.1.trans i2)
      have := hnone m hm hb
      omega
end
/-- The terms of an office, each with what is known of it, in some order. -/
def termsOf (ts : List S59) (off : Int) : List S122 := (byOffice ts off).map fun x => ⟨x.f0, x.f1, knownAt ts x.f1.toNat⟩
theorem terms_f (p o : Int) (ts : List S59) (ns : List S109) (off : Int) (hts : ts.length ≤ 1000) (hk : TermsOk ts) (hc : NoClash ts) : Ev (fun k => office_Roll_terms.f k p o ts ns off) (termsOf ts off) := by
  have h := terms_sorted p o ts ns off hts
  rw [show sortL byHi (placedFrom off 0 ts) = byOffice ts off from rfl, terms_known hk hc] at h
  exact h
theorem termsOf_mem {ts : List S59} {off : Int} (x : S122) : x ∈ termsOf ts off ↔ ∃ k, k < ts.length ∧ (tAt ts k).f1 = off ∧ x = ⟨tAt ts k, (k : Int), knownAt ts k⟩ := by
  unfold termsOf
  rw [List.mem_map]
  constructor
  · rintro ⟨y, hy, rfl⟩
    obtain ⟨k, hk, h1, rfl⟩ := (byOffice_mem y).1 hy
    exact ⟨k, hk, h1, by simp [placed0]⟩
  · rintro ⟨k, hk, h1, rfl⟩
    exact ⟨placed0 (tAt ts k) k, (byOffice_mem _).2 ⟨k, hk, h1, rfl⟩, by simp [placed0]⟩
theorem termsOf_len (ts : List S59) (off : Int) : (termsOf ts off).length ≤ ts.length := by
  unfold termsOf byOffice
  rw [List.length_map, sortL_length byHi swoHi]
  exact placedFrom_len off ts 0
end Go.Proofs.Ythpheknchikodaa.P

/- What Learn, Holds and Styles of the program answer, in plain words. Conditions: none. -/
namespace Go.Proofs.Ythpheknchikodaa.P
open Go.RowKit Go.Proofs.YthpheknchikodaaW.PrintWords Go.Proofs.YthpheknchikodaaW.PrintLast
set_option linter.unusedVariables false
set_option linter.unusedSimpArgs false

/-- A roll that is as described. -/
structure RollOk (p o : Int) (ts : List S59) : Prop where
  p1 : 1 ≤ p
  p2 : p ≤ 20
  o1 : 1 ≤ o
  o2 : o ≤ 10
  len : ts.length ≤ 40
  pers : ∀ i, i < ts.length → 0 ≤ (tAt ts i).f0 ∧ (tAt ts i).f0 < p
  off : ∀ i, i < ts.length → 0 ≤ (tAt ts i).f1 ∧ (tAt ts i).f1 < o
  ok : TermsOk ts
theorem rollOk_of {p o : Int} {ts : List S59} {ns : List S109} (h : rollFault p o ts ns = 0) : RollOk p o ts := by
  unfold rollFault at h
  split at h
  · rename_i c
    simp only [Bool.and_eq_true, decide_eq_true_eq, List.all_eq_true] at c
    obtain ⟨c1, c2, c3, c4⟩ := c
    unfold withinB at c1 c2
    simp at c1 c2
    have hf := fun i (hi : i < ts.length) => termOk_facts (c4 (tAt ts i) (by rw [tAt_get ts i hi]; exact List.getElem_mem hi))
    exact ⟨c1.1, c1.2, c2.1, c2.2, c3, fun i hi => (hf i hi).1, fun i hi => (hf i hi).2.1, fun i hi => (hf i hi).2.2⟩
  · cases h
theorem sound_zero {p o : Int} {ts : List S59} {ns : List S109} (h : soundOf p o ts ns = 0) : rollFault p o ts ns = 0 ∧ NoClash ts := by
  unfold soundOf at h
  by_cases c : rollFault p o ts ns = 0
  · rw [if_pos c] at h
    refine ⟨c, (noClash_iff ts).1 ?_⟩
    cases e : firstClash 0 ts with
    | none => rfl
    | some x => rw [e] at h; simp at h
  · rw [if_neg c] at h
    exact absurd h c
theorem terms_all (p o : Int) (ts : List S59) (ns : List S109) (hts : ts.length ≤ 1000) (hk : TermsOk ts) (hc : NoClash ts) : ∀ n : Nat, ∃ K, ∀ k, K ≤ k → ∀ i : Nat, i < n → office_Roll_terms.f k p o ts ns (i : Int) = some (termsOf ts (i : Int))
  | 0 => ⟨0, fun _ _ _ h => absurd h (by omega)⟩
  | n + 1 => by
    obtain ⟨K, h⟩ := terms_all p o ts ns hts hk hc n
    obtain ⟨K', h'⟩ := terms_f p o ts ns (n : Int) hts hk hc
    refine ⟨max K K', fun k hk' i hi => ?_⟩
    by_cases e : i = n
    · subst e; exact h' k (by omega)
    · exact h k (by omega) i (by omega)
theorem learnPut_get (ts : List S59) (L : List S122) : ∀ (out : List S51), out.length = ts.length → (∀ x ∈ L, ∃ k, k < ts.length ∧ x.f1 = (k : Int) ∧ x.f2 = knownAt ts k) → ∀ j, j < ts.length →
    (learnPut out L).getD j z51 = if (∃ x ∈ L, x.f1 = (j : Int)) then knownAt ts j else out.getD j z51 := by
  induction L with
  | nil => intro out _ _ j _; simp [learnPut]
  | cons x L ih =>
    intro out ho hL j hj
    obtain ⟨k, hk, h1, h2⟩ := hL x (by simp)
    have h := ih (out.set x.f1.toNat x.f2) (by simpa using ho) (fun y hy => hL y (List.mem_cons_of_mem _ hy)) j hj
    have e : learnPut out (x :: L) = learnPut (out.set x.f1.toNat x.f2) L := rfl
    rw [e, h]
    by_cases c : ∃ y ∈ L, y.f1 = (j : Int)
    · have c' : ∃ y ∈ x :: L, y.f1 = (j : Int) := by obtain ⟨y, hy, e⟩ := c; exact ⟨y, List.mem_cons_of_mem _ hy, e⟩
      rw [if_pos c, if_pos c']
    · rw [if_neg c]
      by_cases d : x.f1 = (j : Int)
      · rw [if_pos ⟨x, by simp, d⟩]
        have : k = j := by omega
        subst this
        rw [h1, h2]
        have hkl : k < out.length := by omega
        simp [hkl]
      · rw [if_neg (by rintro ⟨y, hy, e2⟩; rcases List.mem_cons.1 hy with rfl | hy; exact d e2; exact c ⟨y, hy, e2⟩)]
        have : k ≠ j := by omega
        simp [h1, this]
theorem learnFrom_spec {p o : Int} {ts : List S59} {ns : List S109} (hR : RollOk p o ts) (k : Nat) (hT : ∀ i : Nat, i < o.toNat → office_Roll_terms.f k p o ts ns (i : Int) = some (termsOf ts (i : Int))) :
    ∀ (n i q : Nat) (out : List S51), i + n = o.toNat → n < q → out.length = ts.length → (∀ j, j < ts.length → (tAt ts j).f1 < (i : Int) → out.getD j z51 = knownAt ts j) →
      learnFrom k p o ts ns q (i : Int) out = some ((List.range ts.length).map (knownAt ts)) := by
  intro n
  induction n with
  | zero =>
    intro i q out hi hq ho hout
    obtain ⟨q, rfl⟩ : ∃ m, q = m + 1 := ⟨q - 1, by omega⟩
    have := hR.o1
    have h1 : ¬ ((i : Int) < o) := by omega
    rw [learnFrom, if_neg h1]
    congr 1
    apply List.ext_getElem (by simp [ho])
    intro j h2 h3
    have hj : j < ts.length := by omega
    have h := hout j hj (by have := hR.off j hj; omega)
    simp [h2] at h
    simp [h]
  | succ n ih =>
    intro i q out hi hq ho hout
    obtain ⟨q, rfl⟩ : ∃ m, q = m + 1 := ⟨q - 1, by omega⟩
    have h1 : (i : Int) < o := by omega
    have hlen := termsOf_len ts (i : Int)
    have hmem : ∀ x ∈ termsOf ts (i : Int), ∃ k, k < ts.length ∧ x.f1 = (k : Int) ∧ x.f2 = knownAt ts k := by
      intro x hx
      obtain ⟨k, hk, _, rfl⟩ := (termsOf_mem x).1 hx
      exact ⟨k, hk, rfl, rfl⟩
    have hcond : (termsOf ts (i : Int)).length ≤ 1000000000 ∧ (∀ x ∈ termsOf ts (i : Int), 0 ≤ x.f1 ∧ x.f1 < (ts.length : Int)) := by
      refine ⟨by have := hR.len; omega, fun x hx => ?_⟩
      obtain ⟨k, hk, e, _⟩ := hmem x hx
      omega
    have ho2 := hR.o2
    rw [learnFrom, if_pos h1, hT i (by omega), Option.bind_some, if_pos hcond, w64 i (by omega)]
    refine ih (i + 1) q _ (by omega) (by omega) (by rw [learnPut_len]; exact ho) ?_
    intro j hj hoff
    rw [learnPut_get ts _ out ho hmem j hj]
    by_cases c : (tAt ts j).f1 = (i : Int)
    · rw [if_pos ⟨_, (termsOf_mem _).2 ⟨j, hj, c, rfl⟩, rfl⟩]
    · rw [if_neg]
      · exact hout j hj (by push_cast at hoff; omega)
      · rintro ⟨x, hx, e⟩
        obtain ⟨k, hk, h2, rfl⟩ := (termsOf_mem x).1 hx
        simp only at e
        have : k = j := by omega
        subst this
        exact c h2
def learnSpec (p o : Int) (ts : List S59) (ns : List S109) : List S51 × Int := if soundOf p o ts ns = 0 then ((List.range ts.length).map (knownAt ts), 0) else ([], soundOf p o ts ns)
theorem Learn_f (p o : Int) (ts : List S59) (ns : List S109) : ∃ k, office_Learn.f k p o ts ns = some (learnSpec p o ts ns) := by
  unfold office_Learn.f office_Roll_sound.f learnSpec
  simp only [Option.bind_some]
  by_cases h : soundOf p o ts ns = 0
  · obtain ⟨hf, hc⟩ := sound_zero h
    have hR := rollOk_of hf
    obtain ⟨K, hK⟩ := terms_all p o ts ns (by have := hR.len; omega) hR.ok hc o.toNat
    refine ⟨max K (o.toNat + 1), ?_⟩
    rw [if_pos h, if_pos (by have := hR.len; omega)]
    have hL := learnFrom_spec (ns := ns) hR (max K (o.toNat + 1)) (hK _ (by omega)) o.toNat 0 (max K (o.toNat + 1)) (List.replicate ts.length z51) (by omega) (by omega) (by simp)
      (fun j hj h0 => by have := hR.off j hj; omega)
    rw [show ((0 : Nat) : Int) = 0 from rfl] at hL
    rw [hL, if_pos h]
    rfl
  · exact ⟨0, by rw [if_neg h, if_neg h]⟩
theorem pLearn_calls (p o : Int) (A2 : Option Addr) (c2 : Nat) (ts : List S59) (A3 : Option Addr) (c3 : Nat) (ns : List S109) (n2 n3 : Nat) (h2 : ts.length = n2) (h3 : ns.length = n3) (w : World)
    (hr2 : Kd.C k59 w A2 ts.length ts) (hc2 : ts.length ≤ c2) (hr3 : Kd.C k109 w A3 ns.length ns) (hc3 : ns.length ≤ c3) :
    Calls Try.prog 27 #[.agg #[.int .i64 p, .int .i64 o, .slice A2 n2 c2, .slice A3 n3 c3]] w fun e w' => ∃ (A : Option Addr) (c : Nat), e = .returned (.tuple #[.slice A (learnSpec p o ts ns).1.length c, .int .i64 (learnSpec p o ts ns).2]) ∧
      (learnSpec p o ts ns).1.length ≤ c ∧ Kd.C k51 w' A (learnSpec p o ts ns).1.length (learnSpec p o ts ns).1 ∧ Below w.heap.size w w' := by
  subst h2 h3
  obtain ⟨k, hk⟩ := Learn_f p o ts ns
  refine (office_Learn.calls k p o A2 c2 ts A3 c3 ns _ _ w hr2 hc2 hr3 hc3 hk).mono ?_
  rintro e w' ⟨v, rfl, hr, hb⟩
  obtain ⟨A, c, e⟩ := Kd.R_slice hr
  subst e
  exact ⟨A, c, rfl, (Kd.R_reads' hr).2.1, (Kd.R_reads' hr).2.2, hb⟩
def heldSpec (ts : List S59) (off day : Int) : Int × List Bool := heldOf day (termsOf ts off)
theorem holds_f {p o : Int} {ts : List S59} {ns : List S109} (hR : RollOk p o ts) (off day : Int) (k : Nat) (hT : office_Roll_terms.f k p o ts ns off = some (termsOf ts off)) : office_Roll_holds.f k p o ts ns off day = some (heldSpec ts off day) := by
  unfold office_Roll_holds.f
  rw [hT, Option.bind_some, if_pos]
  · rfl
  · refine ⟨by have := termsOf_len ts off; have := hR.len; omega, fun x hx => ?_⟩
    obtain ⟨j, hj, _, rfl⟩ := (termsOf_mem x).1 hx
    have := hR.pers j hj
    have := hR.p2
    simp only
    omega
def holdsSpec (p o : Int) (ts : List S59) (ns : List S109) (off day : Int) : Int × List Int × Bool × Int :=
  if paskedOf p o ts ns off o day = 0 then (if soundOf p o ts ns = 0 then ((heldSpec ts off day).1, trueIdx 0 (heldSpec ts off day).2, (heldSpec ts off day).1 == -1, 0) else (0, [], false, soundOf p o ts ns)) else (0, [], false, paskedOf p o ts ns off o day)
theorem Holds_f (p o : Int) (ts : List S59) (ns : List S109) (off day : Int) : ∃ k, office_Holds.f k p o ts ns off day = some (holdsSpec p o ts ns off day) := by
  unfold office_Holds.f office_Roll_sound.f office_Roll_asked.f holdsSpec
  simp only [Option.bind_some]
  by_cases ha : paskedOf p o ts ns off o day = 0
  · by_cases h : soundOf p o ts ns = 0
    · obtain ⟨hf, hc⟩ := sound_zero h
      have hR := rollOk_of hf
      obtain ⟨k, hk⟩ := (terms_f p o ts ns off (by have := hR.len; omega) hR.ok hc).rounds
      refine ⟨k, ?_⟩
      rw [if_pos ha, if_pos h, if_pos ha, if_pos h, holds_f hR off day k hk]
      rfl
    · exact ⟨0, by rw [if_pos ha, if_neg h, if_pos ha, if_neg h]⟩
  · exact ⟨0, by rw [if_neg ha, if_neg ha]⟩
theorem pHolds_calls (p o : Int) (A2 : Option Addr) (c2 : Nat) (ts : List S59) (A3 : Option Addr) (c3 : Nat) (ns : List S109) (n2 n3 : Nat) (h2 : ts.length = n2) (h3 : ns.length = n3) (off day : Int) (w : World)
    (hr2 : Kd.C k59 w A2 ts.length ts) (hc2 : ts.length ≤ c2) (hr3 : Kd.C k109 w A3 ns.length ns) (hc3 : ns.length ≤ c3) (H : Int × List Int × Bool × Int) (hH : holdsSpec p o ts ns off day = H) :
    Calls Try.prog 19 #[.agg #[.int .i64 p, .int .i64 o, .slice A2 n2 c2, .slice A3 n3 c3], .int .i64 off, .int .i64 day] w fun e w' => ∃ (A : Option Addr) (c : Nat), e = .returned (.tuple #[.int .i64 H.1, .slice A H.2.1.length c, .bool H.2.2.1, .int .i64 H.2.2.2]) ∧
      H.2.1.length ≤ c ∧ Kd.C (Kd.int .i64) w' A H.2.1.length H.2.1 ∧ Below w.heap.size w w' := by
  subst h2 h3
  obtain ⟨k, hk⟩ := Holds_f p o ts ns off day
  rw [hH] at hk
  refine (office_Holds.calls k p o A2 c2 ts A3 c3 ns off day _ _ _ _ w hr2 hc2 hr3 hc3 hk).mono ?_
  rintro e w' ⟨v, rfl, hr, hb⟩
  obtain ⟨A, c, e⟩ := Kd.R_slice hr
  subst e
  exact ⟨A, c, rfl, (Kd.R_reads' hr).2.1, (Kd.R_reads' hr).2.2, hb⟩
end Go.Proofs.Ythpheknchikodaa.P

/- Who holds an office on a day, in plain words: surely one alone, and then nobody else perhaps. Conditions: the roll is as described, no two terms clash. -/
namespace Go.Proofs.Ythpheknchikodaa.P
open Go.RowKit Go.Proofs.YthpheknchikodaaW.PrintWords Go.Proofs.YthpheknchikodaaW.PrintLast
set_option linter.unusedVariables false
set_option linter.unusedSimpArgs false

theorem held_fst (day : Int) (L : List S122) : ∀ h : Int × List Bool, ((L.foldl (heldStep day) h).1 = h.1 ∧ ∀ x ∈ L, sureB day x = false) ∨ ∃ x ∈ L, sureB day x = true ∧ (L.foldl (heldStep day) h).1 = x.f0.f0 := by
  induction L with
  | nil => intro h; exact .inl ⟨rfl, fun x hx => by cases hx⟩
  | cons y L ih =>
    intro h
    rw [List.foldl_cons]
    rcases ih (heldStep day h y) with ⟨e, hn⟩ | ⟨x, hx, hs, e⟩
    · by_cases c : sureB day y = true
      · exact .inr ⟨y, by simp, c, by rw [e]; simp [heldStep, c]⟩
      · have c' := Bool.eq_false_iff.2 c
        refine .inl ⟨by rw [e]; simp [heldStep, c'], fun x hx => ?_⟩
        rcases List.mem_cons.1 hx with rfl | hx
        · exact c'
        · exact hn x hx
    · exact .inr ⟨x, List.mem_cons_of_mem _ hx, hs, e⟩
theorem held_snd (day : Int) (L : List S122) : ∀ h : Int × List Bool, ∀ q, q < h.2.length → ((L.foldl (heldStep day) h).2.getD q false = true ↔ h.2.getD q false = true ∨ ∃ x ∈ L, maybeB day x = true ∧ x.f0.f0.toNat = q) := by
  induction L with
  | nil => intro h q _; simp
  | cons y L ih =>
    intro h q hq
    rw [List.foldl_cons]
    have hl : (heldStep day h y).2.length = h.2.length := by unfold heldStep; dsimp only; split <;> simp
    rw [ih (heldStep day h y) q (by omega)]
    have key : (heldStep day h y).2.getD q false = true ↔ h.2.getD q false = true ∨ (maybeB day y = true ∧ y.f0.f0.toNat = q) := by
      unfold heldStep
      dsimp only
      by_cases c : maybeB day y = true
      · rw [if_pos c]
        by_cases e : y.f0.f0.toNat = q
        · subst e; simp [c, hq]
        · simp [c, e]
      · rw [if_neg c]; simp [c]
    rw [key]
    constructor
    · rintro ((h | ⟨h1, h2⟩) | ⟨x, hx, h⟩)
      · exact .inl h
      · exact .inr ⟨y, by simp, h1, h2⟩
      · exact .inr ⟨x, List.mem_cons_of_mem _ hx, h⟩
    · rintro (h | ⟨x, hx, h1, h2⟩)
      · exact .inl (.inl h)
      · rcases List.mem_cons.1 hx with rfl | hx
        · exact .inl (.inr ⟨h1, h2⟩)
        · exact .inr ⟨x, hx, h1, h2⟩
theorem trueIdx_mem (l : List Bool) : ∀ (i : Int) (q : Int), q ∈ trueIdx i l ↔ i ≤ q ∧ q < i + l.length ∧ l.getD (q - i).toNat false = true := by
  induction l with
  | nil => intro i q; simp [trueIdx]
  | cons b l ih =>
    intro i q
    have hl : ((b :: l).length : Int) = l.length + 1 := by simp
    have key : (i ≤ q ∧ q < i + ((b :: l).length : Int) ∧ (b :: l).getD (q - i).toNat false = true) ↔ (q = i ∧ b = true) ∨ (i + 1 ≤ q ∧ q < i + 1 + (l.length : Int) ∧ l.getD (q - (i + 1)).toNat false = true) := by
      rw [hl]
      constructor
      · rintro ⟨h1, h2, h3⟩
        by_cases e : q = i
        · subst e; left; simpa using h3
        · right
          refine ⟨by omega, by omega, ?_⟩
          rw [show (q - i).toNat = (q - (i + 1)).toNat + 1 by omega] at h3
          simpa using h3
      · rintro (⟨rfl, h⟩ | ⟨h1, h2, h3⟩)
        · exact ⟨by omega, by omega, by simpa using h⟩
        · refine ⟨by omega, by omega, ?_⟩
          rw [show (q - i).toNat = (q - (i + 1)).toNat + 1 by omega]
          simpa using h3
    rw [key, trueIdx]
    cases b
    · simp [ih (i + 1) q]
    · simp [ih (i + 1) q]
theorem trueIdx_sorted (l : List Bool) : ∀ i : Int, (trueIdx i l).Pairwise (· < ·) := by
  induction l with
  | nil => intro i; simp [trueIdx]
  | cons b l ih =>
    intro i
    rw [trueIdx]
    split
    · rw [List.pairwise_cons]
      exact ⟨fun q hq => by have := (trueIdx_mem l (i + 1) q).1 hq; omega, ih (i + 1)⟩
    · exact ih (i + 1)
/-- Surely; perhaps: term i has the day. -/
def Sure (ts : List S59) (off day : Int) (i : Nat) : Prop := i < ts.length ∧ (tAt ts i).f1 = off ∧ (tAt ts i).f2.f1 ≤ day ∧ day < (tAt ts i).f3.f0
def May (ts : List S59) (off day : Int) (i : Nat) : Prop := i < ts.length ∧ (tAt ts i).f1 = off ∧ (knownAt ts i).f0.f0 ≤ day ∧ day < (knownAt ts i).f1.f1
section
variable {p o : Int} {ts : List S59}
theorem known_range (hk : TermsOk ts) {i : Nat} (hi : i < ts.length) : (tAt ts i).f2.f0 ≤ (knownAt ts i).f0.f0 ∧ (knownAt ts i).f0.f0 ≤ (tAt ts i).f2.f1 ∧ (tAt ts i).f3.f0 ≤ (knownAt ts i).f1.f1 ∧ (knownAt ts i).f1.f1 ≤ (tAt ts i).f3.f1 ∨ ¬ NoClash ts := by
  by_cases hc : NoClash ts
  · left
    obtain ⟨a1, a2, a3⟩ := known_lo ts i
    obtain ⟨b1, b2, b3⟩ := known_hi ts i
    have ki := hk i hi
    refine ⟨a1, ?_, ?_, b1⟩
    · rcases a3 with e | ⟨k, _, hb, e⟩
      · omega
      · rw [e]; exact hb.2.2
    · rcases b3 with e | ⟨k, hkl, hb, e⟩
      · omega
      · rw [e]
        have h := clash_false hc hb.1 hkl hi
        unfold clashB befB at h
        rw [decide_eq_true hb.2.1, Bool.true_and, decide_eq_false hb.2.2] at h
        simp at h
        exact h
  · exact .inr hc
theorem sureB_iff (hk : TermsOk ts) {i : Nat} (hi : i < ts.length) (day : Int) : sureB day ⟨tAt ts i, (i : Int), knownAt ts i⟩ = true ↔ (tAt ts i).f2.f1 ≤ day ∧ day < (tAt ts i).f3.f0 := by
  have ki := hk i hi
  unfold sureB withinB
  rw [show wrap64 ((tAt ts i).f3.f0 - 1) = (tAt ts i).f3.f0 - 1 by unfold wrap64; omega]
  simp
  omega
theorem maybeB_iff (hk : TermsOk ts) (hc : NoClash ts) {i : Nat} (hi : i < ts.length) (day : Int) : maybeB day ⟨tAt ts i, (i : Int), knownAt ts i⟩ = true ↔ (knownAt ts i).f0.f0 ≤ day ∧ day < (knownAt ts i).f1.f1 := by
  have ki := hk i hi
  have kr := (known_range hk hi).resolve_right (fun h => h hc)
  unfold maybeB withinB
  rw [show wrap64 ((knownAt ts i).f1.f1 - 1) = (knownAt ts i).f1.f1 - 1 by unfold wrap64; omega]
  simp
  omega
theorem held_surely (hk : TermsOk ts) (off day : Int) : ((heldSpec ts off day).1 = -1 ∧ ∀ i, ¬ Sure ts off day i) ∨ ∃ i, Sure ts off day i ∧ (heldSpec ts off day).1 = (tAt ts i).f0 := by
  rcases held_fst day (termsOf ts off) (-1, List.replicate 20 false) with ⟨e, hn⟩ | ⟨x, hx, hs, e⟩
  · refine .inl ⟨e, ?_⟩
    rintro i ⟨hi, ho, h1, h2⟩
    have := hn _ ((termsOf_mem _).2 ⟨i, hi, ho, rfl⟩)
    rw [(sureB_iff hk hi day).2 ⟨h1, h2⟩] at this
    cases this
  · obtain ⟨i, hi, ho, rfl⟩ := (termsOf_mem x).1 hx
    have h := (sureB_iff hk hi day).1 hs
    exact .inr ⟨i, ⟨hi, ho, h.1, h.2⟩, e⟩
theorem held_len20 (ts : List S59) (off day : Int) : (heldSpec ts off day).2.length = 20 := by
  have h := held_len day (termsOf ts off) (-1, List.replicate 20 false)
  rw [show ((-1, List.replicate 20 false) : Int × List Bool).2.length = 20 from rfl] at h
  exact h
theorem perhaps_mem (hR : RollOk p o ts) (hc : NoClash ts) (off day q : Int) : q ∈ trueIdx 0 (heldSpec ts off day).2 ↔ ∃ i, May ts off day i ∧ (tAt ts i).f0 = q := by
  rw [trueIdx_mem, held_len20]
  have hs : ∀ n : Nat, n < 20 → ((heldSpec ts off day).2.getD n false = true ↔ ∃ i, May ts off day i ∧ (tAt ts i).f0.toNat = n) := by
    intro n hn
    have h := held_snd day (termsOf ts off) (-1, List.replicate 20 false) n (by simpa using hn)
    rw [show (termsOf ts off).foldl (heldStep day) (-1, List.replicate 20 false) = heldSpec ts off day from rfl] at h
    rw [h]
    constructor
    · rintro (h | ⟨x, hx, h1, h2⟩)
      · exfalso
        revert h
        show ¬ ((List.replicate 20 false).getD n false = true)
        rw [List.getD_eq_getElem?_getD, List.getElem?_replicate]
        split <;> simp
      · obtain ⟨i, hi, ho, rfl⟩ := (termsOf_mem x).1 hx
        have h := (maybeB_iff hR.ok hc hi day).1 h1
        exact ⟨i, ⟨hi, ho, h.1, h.2⟩, h2⟩
    · rintro ⟨i, ⟨hi, ho, h1, h2⟩, h3⟩
      exact .inr ⟨_, (termsOf_mem _).2 ⟨i, hi, ho, rfl⟩, (maybeB_iff hR.ok hc hi day).2 ⟨h1, h2⟩, h3⟩
  constructor
  · rintro ⟨h1, h2, h3⟩
    obtain ⟨i, hm, h4⟩ := (hs (q - 0).toNat (by omega)).1 h3
    have := hR.pers i hm.1
    exact ⟨i, hm, by omega⟩
  · rintro ⟨i, hm, rfl⟩
    have := hR.pers i hm.1
    have := hR.p2
    refine ⟨by omega, by omega, (hs _ (by omega)).2 ⟨i, hm, by omega⟩⟩
theorem sure_may (hk : TermsOk ts) (hc : NoClash ts) {off day : Int} {i : Nat} (h : Sure ts off day i) : May ts off day i := by
  obtain ⟨hi, ho, h1, h2⟩ := h
  have kr := (known_range hk hi).resolve_right (fun h => h hc)
  exact ⟨hi, ho, by omega, by omega⟩
theorem sure_alone (hk : TermsOk ts) (hc : NoClash ts) {off day : Int} {i j : Nat} (h : Sure ts off day i) (k : May ts off day j) : j = i := by
  obtain ⟨hi, ho, h1, h2⟩ := h
  obtain ⟨hj, ho', h3, h4⟩ := k
  by_cases e : j = i
  · exact e
  · exfalso
    have hcl := clash_false hc e hj hi
    unfold clashB befB at hcl
    rw [decide_eq_true (ho'.trans ho.symm), Bool.true_and] at hcl
    simp at hcl
    have ki := hk i hi
    have kj := hk j hj
    by_cases c : (tAt ts j).f3.f0 ≤ (tAt ts i).f2.f1
    · -- j ends before i begins
      have hA : Aft ts j i := ⟨fun e' => e e'.symm, ho.trans ho'.symm, by omega⟩
      have := (known_hi ts j).2.1 i hi hA
      omega
    · have hB : Bef ts j i := ⟨fun e' => e e'.symm, ho.trans ho'.symm, hcl (by omega)⟩
      have := (known_lo ts j).2.1 i hi hB
      omega
theorem sorted_one {l : List Int} {s : Int} (h : l.Pairwise (· < ·)) (hm : ∀ q, q ∈ l ↔ q = s) : l = [s] := by
  match l, h with
  | [], _ => exact absurd ((hm s).2 rfl) (by simp)
  | [a], _ => rw [(hm a).1 (by simp)]
  | a :: b :: l, h =>
    have h1 := (hm a).1 (by simp)
    have h2 := (hm b).1 (by simp)
    have := (List.pairwise_cons.1 h).1 b (by simp)
    omega
theorem one_alone (hR : RollOk p o ts) (hc : NoClash ts) (off day : Int) (h : 0 ≤ (heldSpec ts off day).1) : trueIdx 0 (heldSpec ts off day).2 = [(heldSpec ts off day).1] := by
  rcases held_surely hR.ok off day with ⟨e, _⟩ | ⟨i, hs, e⟩
  · omega
  · apply sorted_one (trueIdx_sorted _ 0)
    intro q
    rw [perhaps_mem hR hc, e]
    constructor
    · rintro ⟨j, hm, rfl⟩; rw [sure_alone hR.ok hc hs hm]
    · rintro rfl; exact ⟨i, sure_may hR.ok hc hs, rfl⟩
theorem surely_range (hR : RollOk p o ts) (off day : Int) : (heldSpec ts off day).1 = -1 ∨ 0 ≤ (heldSpec ts off day).1 ∧ (heldSpec ts off day).1 < p := by
  rcases held_surely hR.ok off day with ⟨e, _⟩ | ⟨i, hs, e⟩
  · exact .inl e
  · rw [e]; exact .inr (hR.pers i hs.1)
theorem perhaps_range (hR : RollOk p o ts) (hc : NoClash ts) (off day q : Int) (h : q ∈ trueIdx 0 (heldSpec ts off day).2) : 0 ≤ q ∧ q < p := by
  obtain ⟨i, hm, rfl⟩ := (perhaps_mem hR hc off day q).1 h
  exact hR.pers i hm.1
end
end Go.Proofs.Ythpheknchikodaa.P

/- What is known of a term, when a roll is narrowed or one term more comes; and when a term's range is one day. Conditions: the rolls are as described, and can be. -/
namespace Go.Proofs.Ythpheknchikodaa.P
open Go.RowKit Go.Proofs.YthpheknchikodaaW.PrintWords Go.Proofs.YthpheknchikodaaW.PrintLast
set_option linter.unusedVariables false
set_option linter.unusedSimpArgs false
/-- The terms of a list are narrower than those of another one. -/
def Narrow (ts xs : List S59) : Prop := ts.length ≤ xs.length ∧ ∀ i, i < ts.length → (tAt xs i).f1 = (tAt ts i).f1 ∧ (tAt ts i).f2.f0 ≤ (tAt xs i).f2.f0 ∧ (tAt xs i).f2.f1 ≤ (tAt ts i).f2.f1 ∧ (tAt ts i).f3.f0 ≤ (tAt xs i).f3.f0 ∧ (tAt xs i).f3.f1 ≤ (tAt ts i).f3.f1
theorem known_narrow {ts xs : List S59} (h : Narrow ts xs) (hk : TermsOk ts) (hx : TermsOk xs) (hc : NoClash xs) {i : Nat} (hi : i < ts.length) :
    (knownAt ts i).f0.f0 ≤ (knownAt xs i).f0.f0 ∧ (knownAt xs i).f0.f1 ≤ (knownAt ts i).f0.f1 ∧ (knownAt ts i).f1.f0 ≤ (knownAt xs i).f1.f0 ∧ (knownAt xs i).f1.f1 ≤ (knownAt ts i).f1.f1 := by
  obtain ⟨hl, hn⟩ := h
  obtain ⟨n1, n2, n3, n4, n5⟩ := hn i hi
  obtain ⟨a1, a2, a3⟩ := known_lo ts i
  obtain ⟨b1, b2, b3⟩ := known_lo xs i
  obtain ⟨c1, c2, c3⟩ := known_hi ts i
  obtain ⟨d1, d2, d3⟩ := known_hi xs i
  refine ⟨?_, n3, n4, ?_⟩
  · rcases a3 with e | ⟨k, hkl, hb, e⟩
    · omega
    · obtain ⟨hb1, hb2, hb3⟩ := hb
      obtain ⟨m1, m2, m3, m4, m5⟩ := hn k hkl
      have ki := hk i hi
      have kk := hk k hkl
      have hcl := clash_false hc hb1 (by omega : k < xs.length) (by omega : i < xs.length)
      unfold clashB befB at hcl
      rw [decide_eq_true (show (tAt xs k).f1 = (tAt xs i).f1 by rw [m1, n1]; exact hb2), Bool.true_and] at hcl
      simp at hcl
      have hbe : Bef xs i k := ⟨hb1, by rw [m1, n1]; exact hb2, by
        by_cases c : (tAt xs k).f3.f0 ≤ (tAt xs i).f2.f1
        · exact c
        · have := hcl (by omega); omega⟩
      have := b2 k (by omega) hbe
      omega
  · rcases c3 with e | ⟨k, hkl, hb, e⟩
    · omega
    · obtain ⟨hb1, hb2, hb3⟩ := hb
      obtain ⟨m1, m2, m3, m4, m5⟩ := hn k hkl
      have := d2 k (by omega) ⟨hb1, by rw [m1, n1]; exact hb2, by omega⟩
      omega
theorem tAt_app {ts : List S59} {t : S59} {i : Nat} (h : i < ts.length) : tAt (ts ++ [t]) i = tAt ts i := by
  unfold tAt
  rw [List.getD_eq_getElem?_getD, List.getD_eq_getElem?_getD, List.getElem?_append_left h]
theorem tAt_set {ts : List S59} {t : S59} {i k : Nat} (h : i < ts.length) : tAt (ts.set k t) i = if i = k then t else tAt ts i := by
  unfold tAt
  rw [List.getD_eq_getElem?_getD, List.getD_eq_getElem?_getD, List.getElem?_set]
  by_cases e : k = i
  · rw [if_pos e, if_pos e.symm, if_pos (by omega)]; rfl
  · rw [if_neg e, if_neg (fun h => e h.symm)]
theorem narrow_app (ts : List S59) (t : S59) : Narrow ts (ts ++ [t]) := by
  refine ⟨by simp, fun i hi => ?_⟩
  rw [tAt_app hi]
  exact ⟨rfl, Int.le_refl _, Int.le_refl _, Int.le_refl _, Int.le_refl _⟩
theorem narrow_set {ts : List S59} {t : S59} {k : Nat} (hk : k < ts.length) (h : t.f1 = (tAt ts k).f1 ∧ (tAt ts k).f2.f0 ≤ t.f2.f0 ∧ t.f2.f1 ≤ (tAt ts k).f2.f1 ∧ (tAt ts k).f3.f0 ≤ t.f3.f0 ∧ t.f3.f1 ≤ (tAt ts k).f3.f1) : Narrow ts (ts.set k t) := by
  refine ⟨by simp, fun i hi => ?_⟩
  rw [tAt_set hi]
  by_cases e : i = k
  · rw [if_pos e, e]; exact h
  · rw [if_neg e]
    exact ⟨rfl, Int.le_refl _, Int.le_refl _, Int.le_refl _, Int.le_refl _⟩
/-! ### One day alone -/
theorem fault_set {p o : Int} {ts : List S59} {ns : List S109} {t : S59} {k : Nat} (h : rollFault p o ts ns = 0) (ht : termOk p o t = true) : rollFault p o (ts.set k t) ns = 0 := by
  unfold rollFault at h ⊢
  split at h
  · rename_i c
    rw [if_pos]
    · exact h
    · simp only [Bool.and_eq_true, decide_eq_true_eq, List.all_eq_true] at c ⊢
      refine ⟨c.1, c.2.1, by rw [List.length_set]; exact c.2.2.1, fun x hx => ?_⟩
      rcases List.mem_or_eq_of_mem_set hx with hx | rfl
      · exact c.2.2.2 x hx
      · exact ht
  · cases h
theorem term_ok {p o : Int} {ts : List S59} {ns : List S109} (h : rollFault p o ts ns = 0) {k : Nat} (hk : k < ts.length) : termOk p o (tAt ts k) = true := by
  unfold rollFault at h
  split at h
  · rename_i c
    simp only [Bool.and_eq_true, decide_eq_true_eq, List.all_eq_true] at c
    rw [tAt_get ts k hk]
    exact c.2.2.2 _ (List.getElem_mem hk)
  · cases h
theorem term_with {p o : Int} {t : S59} (h : termOk p o t = true) (a b c d : Int) (h1 : 0 ≤ a ∧ a ≤ b ∧ b < c ∧ c ≤ d ∧ d ≤ 100000) : termOk p o ⟨t.f0, t.f1, ⟨a, b⟩, ⟨c, d⟩⟩ = true := by
  unfold termOk withinB rangeOk at h ⊢
  simp at h ⊢
  omega
theorem noClash_set {ts : List S59} {t : S59} {k : Nat} (hk : k < ts.length) (hc : NoClash ts) (h : ∀ j, j < ts.length → j ≠ k → clashB t (tAt ts j) = false) : NoClash (ts.set k t) := by
  intro i j hij hj
  rw [List.length_set] at hj
  rw [tAt_set (by omega : i < ts.length), tAt_set hj]
  by_cases e : i = k
  · rw [if_pos e, if_neg (by omega)]
    exact h j hj (by omega)
  · rw [if_neg e]
    by_cases e2 : j = k
    · rw [if_pos e2, clashB_comm]
      exact h i (by omega) e
    · rw [if_neg e2]
      exact hc i j hij hj
theorem sound_set {p o : Int} {ts : List S59} {ns : List S109} {t : S59} {k : Nat} (hk : k < ts.length) (h : rollFault p o ts ns = 0) (ht : termOk p o t = true) (hc : NoClash ts) (hj : ∀ j, j < ts.length → j ≠ k → clashB t (tAt ts j) = false) : soundOf p o (ts.set k t) ns = 0 := by
  unfold soundOf
  rw [if_pos (fault_set h ht), (noClash_iff _).2 (noClash_set hk hc hj)]
  rfl
theorem clash_set {p o : Int} {ts : List S59} {ns : List S109} {t : S59} {k j : Nat} (hk : k < ts.length) (h : rollFault p o ts ns = 0) (ht : termOk p o t = true) (hjl : j < ts.length) (hjk : j ≠ k) (hj : clashB t (tAt ts j) = true) : soundOf p o (ts.set k t) ns = 9 := by
  unfold soundOf
  rw [if_pos (fault_set h ht)]
  cases e : firstClash 0 (ts.set k t) with
  | some x => rfl
  | none =>
    exfalso
    have hc := (noClash_iff _).1 e
    have := clash_false hc (show k ≠ j from fun h => hjk h.symm) (by rw [List.length_set]; exact hk) (by rw [List.length_set]; exact hjl)
    rw [tAt_set hk, if_pos rfl, tAt_set hjl, if_neg hjk] at this
    rw [this] at hj
    cases hj
section
variable {p o : Int} {ts : List S59} {ns : List S109} {k : Nat}
theorem end_facts (h : rollFault p o ts ns = 0) (hc : NoClash ts) (hk : k < ts.length) : ∃ b e : Int, knownAt ts k = ⟨⟨b, (tAt ts k).f2.f1⟩, ⟨(tAt ts k).f3.f0, e⟩⟩ ∧ 0 ≤ (tAt ts k).f2.f0 ∧ (tAt ts k).f2.f0 ≤ b ∧ b ≤ (tAt ts k).f2.f1 ∧ (tAt ts k).f2.f1 < (tAt ts k).f3.f0 ∧ (tAt ts k).f3.f0 ≤ e ∧ e ≤ (tAt ts k).f3.f1 ∧ (tAt ts k).f3.f1 ≤ 100000 ∧
    soundOf p o (ts.set k ⟨(tAt ts k).f0, (tAt ts k).f1, ⟨b, b⟩, (tAt ts k).f3⟩) ns = 0 ∧ soundOf p o (ts.set k ⟨(tAt ts k).f0, (tAt ts k).f1, (tAt ts k).f2, ⟨e, e⟩⟩) ns = 0 ∧
    (b ≠ (tAt ts k).f2.f0 → soundOf p o (ts.set k ⟨(tAt ts k).f0, (tAt ts k).f1, ⟨b - 1, b - 1⟩, (tAt ts k).f3⟩) ns = 9) ∧ (e ≠ (tAt ts k).f3.f1 → soundOf p o (ts.set k ⟨(tAt ts k).f0, (tAt ts k).f1, (tAt ts k).f2, ⟨e + 1, e + 1⟩⟩) ns = 9) := by
  have hR := rollOk_of h
  have kk := hR.ok k hk
  have kr := (known_range hR.ok hk).resolve_right (fun h => h hc)
  have ht := term_ok h hk
  obtain ⟨a1, a2, a3⟩ := known_lo ts k
  obtain ⟨c1, c2, c3⟩ := known_hi ts k
  refine ⟨(knownAt ts k).f0.f0, (knownAt ts k).f1.f1, rfl, by omega, by omega, by omega, by omega, by omega, by omega, by omega, ?_, ?_, fun hne => ?_, fun hne => ?_⟩
  · refine sound_set hk h (term_with ht (knownAt ts k).f0.f0 (knownAt ts k).f0.f0 (tAt ts k).f3.f0 (tAt ts k).f3.f1 (by omega)) hc (fun j hj hjk => ?_)
    have hcl := clash_false hc hjk hj hk
    unfold clashB befB at hcl ⊢
    simp at hcl ⊢
    intro e h2
    by_cases c : (tAt ts j).f3.f0 ≤ (tAt ts k).f2.f1
    · exact a2 j hj ⟨hjk, e.symm, c⟩
    · have := hcl e.symm (by omega); omega
  · refine sound_set hk h (term_with ht (tAt ts k).f2.f0 (tAt ts k).f2.f1 (knownAt ts k).f1.f1 (knownAt ts k).f1.f1 (by omega)) hc (fun j hj hjk => ?_)
    have hcl := clash_false hc hjk hj hk
    unfold clashB befB at hcl ⊢
    simp at hcl ⊢
    intro e h2
    by_cases c : (tAt ts j).f3.f0 ≤ (tAt ts k).f2.f1
    · exact c
    · have := c2 j hj ⟨hjk, e.symm, c⟩; omega
  · rcases a3 with e | ⟨j, hj, hb, e⟩
    · exact absurd e hne
    · have kj := hR.ok j hj
      refine clash_set hk h (term_with ht ((knownAt ts k).f0.f0 - 1) ((knownAt ts k).f0.f0 - 1) (tAt ts k).f3.f0 (tAt ts k).f3.f1 (by omega)) hj hb.1 ?_
      unfold clashB befB
      simp
      exact ⟨hb.2.1.symm, by omega, by omega⟩
  · rcases c3 with e | ⟨j, hj, hb, e⟩
    · exact absurd e hne
    · have kj := hR.ok j hj
      have := hb.2.2
      refine clash_set hk h (term_with ht (tAt ts k).f2.f0 (tAt ts k).f2.f1 ((knownAt ts k).f1.f1 + 1) ((knownAt ts k).f1.f1 + 1) (by omega)) hj hb.1 ?_
      unfold clashB befB
      simp
      exact ⟨hb.2.1.symm, by omega, by omega⟩
end
end Go.Proofs.Ythpheknchikodaa.P

/- One number of a term of one's own row, written; a row of terms appended to. Conditions: the row is one's own. -/
namespace Go.Proofs.Ythpheknchikodaa.P
open Go.RowKit Go.Proofs.YthpheknchikodaaW.PrintWords Go.Proofs.YthpheknchikodaaW.PrintLast
set_option linter.unusedVariables false
set_option linter.unusedSimpArgs false
theorem info54_ : (Try.prog.info? 54).map (fun i => (i.zero, i.size, i.bytes)) = some (some (.agg #[(.int .i64 0), (.int .i64 0), (.int .i64 0), (.int .i64 0), (.int .i64 0), (.int .i64 0)]), 6, 48) := by kernel_rfl
def six54 (x : S54) : List Value := [.int .i64 x.f0, .int .i64 x.f1, .int .i64 x.f2.f0, .int .i64 x.f2.f1, .int .i64 x.f3.f0, .int .i64 x.f3.f1]
def six59 (x : S59) : List Value := [.int .i64 x.f0, .int .i64 x.f1, .int .i64 x.f2.f0, .int .i64 x.f2.f1, .int .i64 x.f3.f0, .int .i64 x.f3.f1]
theorem M54_of_K {w W : World} {base : Nat} {okp : Nat → Prop} (x : S54) (cs : List Value) (h : k54.K w x cs) : k54.M W base okp x cs := by
  obtain rfl := k54_open h
  exact k54_mkM _ _ _ x
theorem R_lit0_54 (B : Nat) (W : World) (hB : B ≤ W.heap.size) : Kd.R k54 54 (W.alloc (.cells #[] 54)) B (fun _ => True) (.slice (some ⟨W.heap.size, 0, none⟩) 0 0) [] := by
  have h : (W.alloc (.cells #[] 54)).ownsRow B 54 6 (.slice (some ⟨W.heap.size, 0, none⟩) 0 0) 0 [] := ⟨rfl, .inr ⟨W.heap.size, 0, #[], rfl, hB, blk_new W _, Nat.le_refl _, by decide, rfl, rfl⟩⟩
  exact ⟨fun _ _ => trivial, [], h, Reps.none _ _⟩
theorem row54_put {W : World} {base g n cap : Nat} {ok : Nat → Prop} {xs : List S54} (h : Kd.R k54 54 W base ok (.slice (some ⟨g, 0, none⟩) n cap) xs) (i : Int) (h0 : 0 ≤ i) (h1 : i < n) (j : Nat) (v : Int) (x' : S54)
    (hj : j < 6) (hx : (six54 (rd_T54 xs i)).set j (.int .i64 v) = six54 x') : Kd.R k54 54 (W.setCell ⟨g, i.toNat * 6 + j, none⟩ (.int .i64 v)) base ok (.slice (some ⟨g, 0, none⟩) n cap) (xs.set i.toNat x') := by
  have hn : n = xs.length := (Kd.R_reads' h).1
  subst hn
  obtain ⟨ad, hA, y0, y1, y2, y3, y4, y5⟩ := at_T54 (Kd.R_reads' h).2.2 i h0 h1
  cases hA
  rw [add_plain] at y0 y1 y2 y3 y4 y5
  have hs := Kd.R_seg (okp := fun _ => False) h i h0 h1 (c := six54 (rd_T54 xs i)) (seg := [.int .i64 v]) (j := j) rfl (fun q u hq => ?_) (by show j + 1 ≤ 6; omega) (x' := x') ?_ (fun _ hk => hk.elim)
  · exact hs.1
  · match q, hq with
    | 0, hq => cases hq; exact y0
    | 1, hq => cases hq; exact y1
    | 2, hq => cases hq; exact y2
    | 3, hq => cases hq; exact y3
    | 4, hq => cases hq; exact y4
    | 5, hq => cases hq; exact y5
  · have e : (six54 (rd_T54 xs i)).take j ++ [Value.int .i64 v] ++ (six54 (rd_T54 xs i)).drop (j + [Value.int .i64 v].length) = six54 x' := by
      rw [← hx]
      match j, hj with
      | 0, _ => rfl
      | 1, _ => rfl
      | 2, _ => rfl
      | 3, _ => rfl
      | 4, _ => rfl
      | 5, _ => rfl
    rw [e]
    exact k54_mkM _ _ _ x'
end Go.Proofs.Ythpheknchikodaa.P
