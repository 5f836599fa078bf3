/- Contracts of functions that the laws reach, part Xg3. Conditions: each theorem names its own. -/
import Derived.Test.YthpheknchikodaaXg1
import Derived.Test.YthpheknchikodaaXg2
import Derived.Test.YthpheknchikodaaXb13
import Derived.Test.YthpheknchikodaaXb11
import Derived.Test.YthpheknchikodaaXb14
/- Who holds an office on a day, in plain words: surely one alone, and then nobody else perhaps. Conditions: the roll is as described, no two terms clash. -/
namespace Go.Proofs.Ythpheknchikodaa.P
open Go.RowKit Go.Proofs.YthpheknchikodaaW.PrintWords Go.Proofs.YthpheknchikodaaW.PrintLast
set_option linter.unusedVariables false
set_option linter.unusedSimpArgs false

theorem held_fst (day : Int) (L : List S122) : ∀ h : Int × List Bool, ((L.foldl (heldStep day) h).1 = h.1 ∧ ∀ x ∈ L, sureB day x = false) ∨ ∃ x ∈ L, sureB day x = true ∧ (L.foldl (heldStep day) h).1 = x.f0.f0 := by
  induction L with
  | nil => intro h; exact .inl ⟨rfl, fun x hx => by cases hx⟩
  | cons y L ih =>
    intro h
    rw [List.foldl_cons]
    rcases ih (heldStep day h y) with ⟨e, hn⟩ | ⟨x, hx, hs, e⟩
    · by_cases c : sureB day y = true
      · exact .inr ⟨y, by simp, c, by rw [e]; simp [heldStep, c]⟩
      · have c' := Bool.eq_false_iff.2 c
        refine .inl ⟨by rw [e]; simp [heldStep, c'], fun x hx => ?_⟩
        rcases List.mem_cons.1 hx with rfl | hx
        · exact c'
        · exact hn x hx
    · exact .inr ⟨x, List.mem_cons_of_mem _ hx, hs, e⟩
theorem held_snd (day : Int) (L : List S122) : ∀ h : Int × List Bool, ∀ q, q < h.2.length → ((L.foldl (heldStep day) h).2.getD q false = true ↔ h.2.getD q false = true ∨ ∃ x ∈ L, maybeB day x = true ∧ x.f0.f0.toNat = q) := by
  induction L with
  | nil => intro h q _; simp
  | cons y L ih =>
    intro h q hq
    rw [List.foldl_cons]
    have hl : (heldStep day h y).2.length = h.2.length := by unfold heldStep; dsimp only; split <;> simp
    rw [ih (heldStep day h y) q (by omega)]
    have key : (heldStep day h y).2.getD q false = true ↔ h.2.getD q false = true ∨ (maybeB day y = true ∧ y.f0.f0.toNat = q) := by
      unfold heldStep
      dsimp only
      by_cases c : maybeB day y = true
      · rw [if_pos c]
        by_cases e : y.f0.f0.toNat = q
        · subst e; simp [c, hq]
        · simp [c, e]
      · rw [if_neg c]; simp [c]
    rw [key]
    constructor
    · rintro ((h | ⟨h1, h2⟩) | ⟨x, hx, h⟩)
      · exact .inl h
      · exact .inr ⟨y, by simp, h1, h2⟩
      · exact .inr ⟨x, List.mem_cons_of_mem _ hx, h⟩
    · rintro (h | ⟨x, hx, h1, h2⟩)
      · exact .inl (.inl h)
      · rcases List.mem_cons.1 hx with rfl | hx
        · exact .inl (.inr ⟨h1, h2⟩)
        · exact .inr ⟨x, hx, h1, h2⟩
theorem trueIdx_mem (l : List Bool) : ∀ (i : Int) (q : Int), q ∈ trueIdx i l ↔ i ≤ q ∧ q < i + l.length ∧ l.getD (q - i).toNat false = true := by
  induction l with
  | nil => intro i q; simp [trueIdx]
  | cons b l ih =>
    intro i q
    have hl : ((b :: l).length : Int) = l.length + 1 := by simp
    have key : (i ≤ q ∧ q < i + ((b :: l).length : Int) ∧ (b :: l).getD (q - i).toNat false = true) ↔ (q = i ∧ b = true) ∨ (i + 1 ≤ q ∧ q < i + 1 + (l.length : Int) ∧ l.getD (q - (i + 1)).toNat false = true) := by
      rw [hl]
      constructor
      · rintro ⟨h1, h2, h3⟩
        by_cases e : q = i
        · subst e; left; simpa using h3
        · right
          refine ⟨by omega, by omega, ?_⟩
          rw [show (q - i).toNat = (q - (i + 1)).toNat + 1 by omega] at h3
          simpa using h3
      · rintro (⟨rfl, h⟩ | ⟨h1, h2, h3⟩)
        · exact ⟨by omega, by omega, by simpa using h⟩
        · refine ⟨by omega, by omega, ?_⟩
          rw [show (q - i).toNat = (q - (i + 1)).toNat + 1 by omega]
          simpa using h3
    rw [key, trueIdx]
    cases b
    · simp [ih (i + 1) q]
    · simp [ih (i + 1) q]
theorem trueIdx_sorted (l : List Bool) : ∀ i : Int, (trueIdx i l).Pairwise (· < ·) := by
  induction l with
  | nil => intro i; simp [trueIdx]
  | cons b l ih =>
    intro i
    rw [trueIdx]
    split
    · rw [List.pairwise_cons]
      exact ⟨fun q hq => by have := (trueIdx_mem l (i + 1) q).1 hq; omega, ih (i + 1)⟩
    · exact ih (i + 1)
/-- Surely; perhaps: term i has the day. -/
def Sure (ts : List S59) (off day : Int) (i : Nat) : Prop := i < ts.length ∧ (tAt ts i).f1 = off ∧ (tAt ts i).f2.f1 ≤ day ∧ day < (tAt ts i).f3.f0
def May (ts : List S59) (off day : Int) (i : Nat) : Prop := i < ts.length ∧ (tAt ts i).f1 = off ∧ (knownAt ts i).f0.f0 ≤ day ∧ day < (knownAt ts i).f1.f1
section
variable {p o : Int} {ts : List S59}
theorem known_range (hk : TermsOk ts) {i : Nat} (hi : i < ts.length) : (tAt ts i).f2.f0 ≤ (knownAt ts i).f0.f0 ∧ (knownAt ts i).f0.f0 ≤ (tAt ts i).f2.f1 ∧ (tAt ts i).f3.f0 ≤ (knownAt ts i).f1.f1 ∧ (knownAt ts i).f1.f1 ≤ (tAt ts i).f3.f1 ∨ ¬ NoClash ts := by
  by_cases hc : NoClash ts
  · left
    obtain ⟨a1, a2, a3⟩ := known_lo ts i
    obtain ⟨b1, b2, b3⟩ := known_hi ts i
    have ki := hk i hi
    refine ⟨a1, ?_, ?_, b1⟩
    · rcases a3 with e | ⟨k, _, hb, e⟩
      · omega
      · rw [e]; exact hb.2.2
    · rcases b3 with e | ⟨k, hkl, hb, e⟩
      · omega
      · rw [e]
        have h := clash_false hc hb.1 hkl hi
        unfold clashB befB at h
        rw [decide_eq_true hb.2.1, Bool.true_and, decide_eq_false hb.2.2] at h
        simp at h
        exact h
  · exact .inr hc
theorem sureB_iff (hk : TermsOk ts) {i : Nat} (hi : i < ts.length) (day : Int) : sureB day ⟨tAt ts i, (i : Int), knownAt ts i⟩ = true ↔ (tAt ts i).f2.f1 ≤ day ∧ day < (tAt ts i).f3.f0 := by
  have ki := hk i hi
  unfold sureB withinB
  rw [show wrap64 ((tAt ts i).f3.f0 - 1) = (tAt ts i).f3.f0 - 1 by unfold wrap64; omega]
  simp
  omega
theorem maybeB_iff (hk : TermsOk ts) (hc : NoClash ts) {i : Nat} (hi : i < ts.length) (day : Int) : maybeB day ⟨tAt ts i, (i : Int), knownAt ts i⟩ = true ↔ (knownAt ts i).f0.f0 ≤ day ∧ day < (knownAt ts i).f1.f1 := by
  have ki := hk i hi
  have kr := (known_range hk hi).resolve_right (fun h => h hc)
  unfold maybeB withinB
  rw [show wrap64 ((knownAt ts i).f1.f1 - 1) = (knownAt ts i).f1.f1 - 1 by unfold wrap64; omega]
  simp
  omega
theorem held_surely (hk : TermsOk ts) (off day : Int) : ((heldSpec ts off day).1 = -1 ∧ ∀ i, ¬ Sure ts off day i) ∨ ∃ i, Sure ts off day i ∧ (heldSpec ts off day).1 = (tAt ts i).f0 := by
  rcases held_fst day (termsOf ts off) (-1, List.replicate 20 false) with ⟨e, hn⟩ | ⟨x, hx, hs, e⟩
  · refine .inl ⟨e, ?_⟩
    rintro i ⟨hi, ho, h1, h2⟩
    have := hn _ ((termsOf_mem _).2 ⟨i, hi, ho, rfl⟩)
    rw [(sureB_iff hk hi day).2 ⟨h1, h2⟩] at this
    cases this
  · obtain ⟨i, hi, ho, rfl⟩ := (termsOf_mem x).1 hx
    have h := (sureB_iff hk hi day).1 hs
    exact .inr ⟨i, ⟨hi, ho, h.1, h.2⟩, e⟩
theorem held_len20 (ts : List S59) (off day : Int) : (heldSpec ts off day).2.length = 20 := by
  have h := held_len day (termsOf ts off) (-1, List.replicate 20 false)
  rw [show ((-1, List.replicate 20 false) : Int × List Bool).2.length = 20 from rfl] at h
  exact h
theorem perhaps_mem (hR : RollOk p o ts) (hc : NoClash ts) (off day q : Int) : q ∈ trueIdx 0 (heldSpec ts off day).2 ↔ ∃ i, May ts off day i ∧ (tAt ts i).f0 = q := by
  rw [trueIdx_mem, held_len20]
  have hs : ∀ n : Nat, n < 20 → ((heldSpec ts off day).2.getD n false = true ↔ ∃ i, May ts off day i ∧ (tAt ts i).f0.toNat = n) := by
    intro n hn
    have h := held_snd day (termsOf ts off) (-1, List.replicate 20 false) n (by simpa using hn)
    rw [show (termsOf ts off).foldl (heldStep day) (-1, List.replicate 20 false) = heldSpec ts off day from rfl] at h
    rw [h]
    constructor
    · rintro (h | ⟨x, hx, h1, h2⟩)
      · exfalso
        revert h
        show ¬ ((List.replicate 20 false).getD n false = true)
        rw [List.getD_eq_getElem?_getD, List.getElem?_replicate]
        split <;> simp
      · obtain ⟨i, hi, ho, rfl⟩ := (termsOf_mem x).1 hx
        have h := (maybeB_iff hR.ok hc hi day).1 h1
        exact ⟨i, ⟨hi, ho, h.1, h.2⟩, h2⟩
    · rintro ⟨i, ⟨hi, ho, h1, h2⟩, h3⟩
      exact .inr ⟨_, (termsOf_mem _).2 ⟨i, hi, ho, rfl⟩, (maybeB_iff hR.ok hc hi day).2 ⟨h1, h2⟩, h3⟩
  constructor
  · rintro ⟨h1, h2, h3⟩
    obtain ⟨i, hm, h4⟩ := (hs (q - 0).toNat (by omega)).1 h3
    have := hR.pers i hm.1
    exact ⟨i, hm, by omega⟩
  · rintro ⟨i, hm, rfl⟩
    have := hR.pers i hm.1
    have := hR.p2
    refine ⟨by omega, by omega, (hs _ (by omega)).2 ⟨i, hm, by omega⟩⟩
theorem sure_may (hk : TermsOk ts) (hc : NoClash ts) {off day : Int} {i : Nat} (h : Sure ts off day i) : May ts off day i := by
  obtain ⟨hi, ho, h1, h2⟩ := h
  have kr := (known_range hk hi).resolve_right (fun h => h hc)
  exact ⟨hi, ho, by omega, by omega⟩
theorem sure_alone (hk : TermsOk ts) (hc : NoClash ts) {off day : Int} {i j : Nat} (h : Sure ts off day i) (k : May ts off day j) : j = i := by
  obtain ⟨hi, ho, h1, h2⟩ := h
  obtain ⟨hj, ho', h3, h4⟩ := k
  by_cases e : j = i
  · exact e
  · exfalso
    have hcl := clash_false hc e hj hi
    unfold clashB befB at hcl
    rw [decide_eq_true (ho'.trans ho.symm), Bool.true_and] at hcl
    simp at hcl
    have ki := hk i hi
    have kj := hk j hj
    by_cases c : (tAt ts j).f3.f0 ≤ (tAt ts i).f2.f1
    · -- j ends before i begins
      have hA : Aft ts j i := ⟨fun e' => e e'.symm, ho.trans ho'.symm, by omega⟩
      have := (known_hi ts j).2.1 i hi hA
      omega
    · have hB : Bef ts j i := ⟨fun e' => e e'.symm, ho.trans ho'.symm, hcl (by omega)⟩
      have := (known_lo ts j).2.1 i hi hB
      omega
theorem sorted_one {l : List Int} {s : Int} (h : l.Pairwise (· < ·)) (hm : ∀ q, q ∈ l ↔ q = s) : l = [s] := by
  match l, h with
  | [], _ => exact absurd ((hm s).2 rfl) (by simp)
  | [a], _ => rw [(hm a).1 (by simp)]
  | a :: b :: l, h =>
    have h1 := (hm a).1 (by simp)
    have h2 := (hm b).1 (by simp)
    have := (List.pairwise_cons.1 h).1 b (by simp)
    omega
theorem one_alone (hR : RollOk p o ts) (hc : NoClash ts) (off day : Int) (h : 0 ≤ (heldSpec ts off day).1) : trueIdx 0 (heldSpec ts off day).2 = [(heldSpec ts off day).1] := by
  rcases held_surely hR.ok off day with ⟨e, _⟩ | ⟨i, hs, e⟩
  · omega
  · apply sorted_one (trueIdx_sorted _ 0)
    intro q
    rw [perhaps_mem hR hc, e]
    constructor
    · rintro ⟨j, hm, rfl⟩; rw [sure_alone hR.ok hc hs hm]
    · rintro rfl; exact ⟨i, sure_may hR.ok hc hs, rfl⟩
theorem surely_range (hR : RollOk p o ts) (off day : Int) : (heldSpec ts off day).1 = -1 ∨ 0 ≤ (heldSpec ts off day).1 ∧ (heldSpec ts off day).1 < p := by
  rcases held_surely hR.ok off day with ⟨e, _⟩ | ⟨i, hs, e⟩
  · exact .inl e
  · rw [e]; exact .inr (hR.pers i hs.1)
theorem perhaps_range (hR : RollOk p o ts) (hc : NoClash ts) (off day q : Int) (h : q ∈ trueIdx 0 (heldSpec ts off day).2) : 0 ≤ q ∧ q < p := by
  obtain ⟨i, hm, rfl⟩ := (perhaps_mem hR hc off day q).1 h
  exact hR.pers i hm.1
end
end Go.Proofs.Ythpheknchikodaa.P

/- The reference's Holds and the program's answer the same. Conditions: the roll is as described, no two terms clash. -/
namespace Go.Proofs.Ythpheknchikodaa.P
open Go.RowKit Go.Proofs.YthpheknchikodaaW.PrintWords Go.Proofs.YthpheknchikodaaW.PrintLast
set_option linter.unusedVariables false
set_option linter.unusedSimpArgs false

theorem sorted_same : ∀ {l m : List Int}, l.Pairwise (· < ·) → m.Pairwise (· < ·) → (∀ q, q ∈ l ↔ q ∈ m) → l = m
  | [], [], _, _, _ => rfl
  | [], b :: m, _, _, h => absurd ((h b).2 (by simp)) (by simp)
  | a :: l, [], _, _, h => absurd ((h a).1 (by simp)) (by simp)
  | a :: l, b :: m, hl, hm, h => by
    rw [List.pairwise_cons] at hl hm
    have h1 := (h a).1 (by simp)
    have h2 := (h b).2 (by simp)
    have e : a = b := by
      rcases List.mem_cons.1 h1 with e | h1
      · exact e
      · rcases List.mem_cons.1 h2 with e | h2
        · exact e.symm
        · have := hl.1 b h2; have := hm.1 a h1; omega
    subst e
    rw [sorted_same hl.2 hm.2 (fun q => ?_)]
    constructor
    · intro hq
      rcases List.mem_cons.1 ((h q).1 (List.mem_cons_of_mem _ hq)) with e | h3
      · subst e; have := hl.1 _ hq; omega
      · exact h3
    · intro hq
      rcases List.mem_cons.1 ((h q).2 (List.mem_cons_of_mem _ hq)) with e | h3
      · subst e; have := hm.1 _ hq; omega
      · exact h3
section
variable {p o : Int} {ts : List S54}
theorem tAt_nat (i : Nat) (h : i < ts.length) : tAt (ts.map toT) i = toT (rd_T54 ts i) := by
  have := tAt_rd ts (i : Int) (by simpa using h)
  simpa using this
theorem hasB_iff (l : List Int) (q : Int) : hasB l q = true ↔ q ∈ l := by
  unfold hasB
  simp [List.any_eq_true]
open Classical in
/-- One step, in the plain words. -/
theorem hStep_plain (hR : RollOk p o (ts.map toT)) (hc : NoClash (ts.map toT)) (off day q : Int) (a : Int × List Int) (i : Nat) (hi : i < ts.length) :
    hStep ts off day q a i = ((if Sure (ts.map toT) off day i ∧ (tAt (ts.map toT) i).f0 = q then q else a.1), (if (May (ts.map toT) off day i ∧ (tAt (ts.map toT) i).f0 = q) ∧ q ∉ a.2 then a.2 ++ [q] else a.2)) := by
  have hl : i < (ts.map toT).length := by simpa using hi
  have e := tAt_nat (ts := ts) i hi
  have hok := hR.ok i hl
  have hk := (known_range hR.ok hl).resolve_right (fun h => h hc)
  have f0 : (tAt (ts.map toT) i).f0 = (rd_T54 ts i).f0 := by rw [e]; rfl
  have f1 : (tAt (ts.map toT) i).f1 = (rd_T54 ts i).f1 := by rw [e]; rfl
  have f2 : (tAt (ts.map toT) i).f2.f1 = (rd_T54 ts i).f2.f1 := by rw [e]; rfl
  have f3 : (tAt (ts.map toT) i).f3.f0 = (rd_T54 ts i).f3.f0 := by rw [e]; rfl
  have hkb : (rKnownAt ts i).f0.f0 = (knownAt (ts.map toT) i).f0.f0 := rfl
  have hke : (rKnownAt ts i).f1.f1 = (knownAt (ts.map toT) i).f1.f1 := rfl
  have w1 : wrap64 ((rd_T54 ts i).f3.f0 - 1) = (rd_T54 ts i).f3.f0 - 1 := by unfold wrap64; omega
  have w2 : wrap64 ((rKnownAt ts i).f1.f1 - 1) = (rKnownAt ts i).f1.f1 - 1 := by rw [hke]; unfold wrap64; omega
  unfold hStep
  rw [w1, w2, hkb, hke]
  unfold Sure May
  rw [f0, f1, f2, f3]
  by_cases c : (rd_T54 ts i).f0 = q ∧ (rd_T54 ts i).f1 = off
  · obtain ⟨c1, c2⟩ := c
    rw [if_neg (by simp [c1, c2])]
    congr 1
    · unfold withinB
      by_cases d : (rd_T54 ts i).f2.f1 ≤ day ∧ day < (rd_T54 ts i).f3.f0
      · rw [if_pos (by simp; omega), if_pos ⟨⟨hl, c2, d.1, d.2⟩, c1⟩]
      · rw [if_neg (by simp; omega), if_neg (by rintro ⟨⟨_, _, h1, h2⟩, _⟩; exact d ⟨h1, h2⟩)]
    · have hb : (withinB day (knownAt (ts.map toT) i).f0.f0 ((knownAt (ts.map toT) i).f1.f1 - 1) && !hasB a.2 q) = true ↔ ((i < (ts.map toT).length ∧ (rd_T54 ts i).f1 = off ∧ (knownAt (ts.map toT) i).f0.f0 ≤ day ∧ day < (knownAt (ts.map toT) i).f1.f1) ∧ (rd_T54 ts i).f0 = q) ∧ q ∉ a.2 := by
        rw [Bool.and_eq_true, Bool.not_eq_true', ← Bool.not_eq_true, hasB_iff]
        unfold withinB
        simp only [Bool.and_eq_true, decide_eq_true_eq]
        constructor
        · rintro ⟨h1, h2⟩; exact ⟨⟨⟨hl, c2, by omega, by omega⟩, c1⟩, h2⟩
        · rintro ⟨⟨⟨_, _, h1, h2⟩, _⟩, h3⟩; exact ⟨by omega, h3⟩
      by_cases d : (withinB day (knownAt (ts.map toT) i).f0.f0 ((knownAt (ts.map toT) i).f1.f1 - 1) && !hasB a.2 q) = true
      · rw [if_pos d, if_pos (hb.1 d)]
      · rw [if_neg d, if_neg (fun h => d (hb.2 h))]
  · rw [if_pos (Classical.byCases (fun c1 : (rd_T54 ts i).f0 = q => Or.inr (fun h => c ⟨c1, h⟩)) (fun c1 => Or.inl c1))]
    rw [if_neg (by rintro ⟨⟨_, h, _⟩, h1⟩; exact c ⟨h1, h⟩), if_neg (by rintro ⟨⟨⟨_, h, _⟩, h1⟩, _⟩; exact c ⟨h1, h⟩)]
theorem hIn_plain (hR : RollOk p o (ts.map toT)) (hc : NoClash (ts.map toT)) (off day q : Int) (s : Int) (l : List Int) (hq : q ∉ l) :
    ∀ m, m ≤ ts.length → ∀ b, (List.range m).foldl (hStep ts off day q) (s, l) = b →
      ((b.1 = s ∧ ∀ i, i < m → ¬ (Sure (ts.map toT) off day i ∧ (tAt (ts.map toT) i).f0 = q)) ∨ ∃ i, Sure (ts.map toT) off day i ∧ (tAt (ts.map toT) i).f0 = q ∧ b.1 = q) ∧
      ((b.2 = l ∧ ∀ i, i < m → ¬ (May (ts.map toT) off day i ∧ (tAt (ts.map toT) i).f0 = q)) ∨ (b.2 = l ++ [q] ∧ ∃ i, May (ts.map toT) off day i ∧ (tAt (ts.map toT) i).f0 = q)) := by
  intro m
  induction m with
  | zero => intro _ b hb; subst hb; exact ⟨Or.inl ⟨rfl, fun i h => absurd h (by omega)⟩, Or.inl ⟨rfl, fun i h => absurd h (by omega)⟩⟩
  | succ m ih =>
    intro hm b hb
    obtain ⟨a, ha⟩ : ∃ a, (List.range m).foldl (hStep ts off day q) (s, l) = a := ⟨_, rfl⟩
    obtain ⟨h1, h2⟩ := ih (by omega) a ha
    rw [List.range_succ, List.foldl_append, ha] at hb
    have hb' : hStep ts off day q a m = b := hb
    rw [hStep_plain hR hc off day q a m (by omega)] at hb'
    subst hb'
    constructor
    · by_cases c : Sure (ts.map toT) off day m ∧ (tAt (ts.map toT) m).f0 = q
      · exact Or.inr ⟨m, c.1, c.2, by simp [c]⟩
      · simp only [if_neg c]
        rcases h1 with ⟨h1, h3⟩ | h1
        · refine Or.inl ⟨h1, fun i hi => ?_⟩
          by_cases e : i = m
          · subst e; exact c
          · exact h3 i (by omega)
        · exact Or.inr h1
    · rcases h2 with ⟨h2, h3⟩ | ⟨h2, h3⟩
      · by_cases c : May (ts.map toT) off day m ∧ (tAt (ts.map toT) m).f0 = q
        · refine Or.inr ⟨?_, m, c.1, c.2⟩
          rw [h2]
          simp only [if_pos (show (May (ts.map toT) off day m ∧ (tAt (ts.map toT) m).f0 = q) ∧ q ∉ l from ⟨c, hq⟩)]
        · refine Or.inl ⟨?_, fun i hi => ?_⟩
          · rw [h2]
            simp only [if_neg (show ¬ ((May (ts.map toT) off day m ∧ (tAt (ts.map toT) m).f0 = q) ∧ q ∉ l) from fun h => c h.1)]
          · by_cases e : i = m
            · subst e; exact c
            · exact h3 i (by omega)
      · refine Or.inr ⟨?_, h3⟩
        rw [h2]
        simp only [if_neg (show ¬ ((May (ts.map toT) off day m ∧ (tAt (ts.map toT) m).f0 = q) ∧ q ∉ l ++ [q]) from fun h => h.2 (by simp))]
theorem hIn_range (off day q : Int) (a : Int × List Int) : hIn ts off day q 0 a = (List.range ts.length).foldl (hStep ts off day q) a := by
  unfold hIn
  rw [List.range_eq_range']
  rfl
theorem hOut_plain (hR : RollOk p o (ts.map toT)) (hc : NoClash (ts.map toT)) (off day : Int) : ∀ (n : Nat) (q s : Int) (l : List Int), 0 ≤ q → q + n = p → l.Pairwise (· < ·) →
    (∀ x, x ∈ l ↔ x < q ∧ ∃ i, May (ts.map toT) off day i ∧ (tAt (ts.map toT) i).f0 = x) → ((s = -1 ∧ ∀ i, Sure (ts.map toT) off day i → ¬ (tAt (ts.map toT) i).f0 < q) ∨ ∃ i, Sure (ts.map toT) off day i ∧ s = (tAt (ts.map toT) i).f0) →
    hOut ts off day n q (s, l) = ((heldSpec (ts.map toT) off day).1, trueIdx 0 (heldSpec (ts.map toT) off day).2) := by
  intro n
  induction n with
  | zero =>
    intro q s l hq hqp hl hm hs
    obtain rfl : q = p := by omega
    show (s, l) = _
    congr 1
    · rcases held_surely hR.ok off day with ⟨h1, h2⟩ | ⟨i, h1, h2⟩
      · rcases hs with ⟨h3, h4⟩ | ⟨j, h3, h4⟩
        · rw [h1, h3]
        · exact absurd h3 (h2 j)
      · rcases hs with ⟨h3, h4⟩ | ⟨j, h3, h4⟩
        · exact absurd (hR.pers i h1.1).2 (h4 i h1)
        · obtain rfl := sure_alone hR.ok hc h1 (sure_may hR.ok hc h3)
          rw [h2, h4]
    · refine sorted_same hl (trueIdx_sorted _ 0) (fun x => ?_)
      rw [perhaps_mem hR hc off day x, hm x]
      constructor
      · exact fun h => h.2
      · rintro ⟨i, h1, rfl⟩; exact ⟨(hR.pers i h1.1).2, i, h1, rfl⟩
  | succ n ih =>
    intro q s l hq hqp hl hm hs
    rw [hOut]
    have hql : q ∉ l := fun h => by have := ((hm q).1 h).1; omega
    obtain ⟨b, hb⟩ : ∃ b, hIn ts off day q 0 (s, l) = b := ⟨_, rfl⟩
    rw [hb]
    rw [hIn_range] at hb
    obtain ⟨h1, h2⟩ := hIn_plain hR hc off day q s l hql ts.length (Nat.le_refl _) b hb
    obtain ⟨bs, bl⟩ := b
    simp only at h1 h2
    have hlen : ∀ i, May (ts.map toT) off day i → i < ts.length := fun i h => by simpa using h.1
    have hlen' : ∀ i, Sure (ts.map toT) off day i → i < ts.length := fun i h => by simpa using h.1
    refine ih (q + 1) bs bl (by omega) (by omega) ?_ (fun x => ?_) ?_
    · rcases h2 with ⟨rfl, _⟩ | ⟨rfl, _⟩
      · exact hl
      · rw [List.pairwise_append]
        exact ⟨hl, by simp, fun a ha b hb => by have := ((hm a).1 ha).1; simp at hb; omega⟩
    · rcases h2 with ⟨rfl, h3⟩ | ⟨rfl, j, h3, h4⟩
      · rw [hm x]
        constructor
        · rintro ⟨h5, h6⟩; exact ⟨by omega, h6⟩
        · rintro ⟨h5, i, h6, h7⟩
          refine ⟨?_, i, h6, h7⟩
          by_cases e : x = q
          · subst e; exact absurd ⟨h6, h7⟩ (h3 i (hlen i h6))
          · omega
      · rw [List.mem_append, hm x]
        constructor
        · rintro (⟨h5, h6⟩ | h5)
          · exact ⟨by omega, h6⟩
          · obtain rfl : x = q := by simpa using h5
            exact ⟨by omega, j, h3, h4⟩
        · rintro ⟨h5, h6⟩
          by_cases e : x = q
          · exact Or.inr (by simp [e])
          · exact Or.inl ⟨by omega, h6⟩
    · rcases h1 with ⟨rfl, h3⟩ | ⟨i, h3, h4, h5⟩
      · rcases hs with ⟨h6, h7⟩ | h6
        · refine Or.inl ⟨h6, fun i hi hlt => ?_⟩
          by_cases e : (tAt (ts.map toT) i).f0 = q
          · exact h3 i (hlen' i hi) ⟨hi, e⟩
          · exact h7 i hi (by omega)
        · exact Or.inr h6
      · exact Or.inr ⟨i, h3, by rw [h5, h4]⟩
theorem rHolds_same (hR : RollOk p o (ts.map toT)) (hc : NoClash (ts.map toT)) (off day : Int) : hOut ts off day p.toNat 0 (-1, []) = ((heldSpec (ts.map toT) off day).1, trueIdx 0 (heldSpec (ts.map toT) off day).2) :=
  hOut_plain hR hc off day p.toNat 0 (-1) [] (Int.le_refl _) (by have := hR.p1; omega) List.Pairwise.nil
    (fun x => ⟨fun h => (by simp at h), fun ⟨h, i, h1, h2⟩ => absurd (hR.pers i h1.1).1 (by omega)⟩)
    (Or.inl ⟨rfl, fun i hi h => absurd (hR.pers i hi.1).1 (by omega)⟩)
end
theorem ints_l0 (l : List Int) (hl : l.length ≤ 1000000) : ∀ (n : Nat) (i : Nat), i + n = l.length → palantypelaw05_ints.l0 (n + 1) l l (i : Int) = some true
  | 0, i, h => by
    rw [palantypelaw05_ints.l0, if_neg (by omega)]
  | n + 1, i, h => by
    rw [palantypelaw05_ints.l0, if_pos (by omega), if_pos (by omega), if_pos (by omega), if_pos rfl, w64 i (by omega)]
    exact ints_l0 l hl n (i + 1) (by omega)
theorem ints_self (l : List Int) (hl : l.length ≤ 1000000) : palantypelaw05_ints.f (l.length + 1) l l = some true := by
  unfold palantypelaw05_ints.f
  rw [if_pos rfl]
  exact ints_l0 l hl l.length 0 (by omega)
section
variable {p o : Int} {ts : List S54} {ns : List S88} {off day : Int}
theorem asked_zero {n most : Int} (h : askedOf p o ts ns n most day = 0) : RollOk p o (ts.map toT) ∧ NoClash (ts.map toT) := by
  unfold askedOf brokenOf at h
  by_cases c : faultOf p o ts ns = 0
  · have hR := rollOk_of (show rollFault p o (ts.map toT) (ns.map toN) = 0 from c)
    rw [if_pos c] at h
    split at h
    · split at h
      · cases h
      · rename_i d
        refine ⟨hR, (noClash_iff _).1 ?_⟩
        cases e : firstClash 0 (ts.map toT) with
        | none => rfl
        | some x => exact absurd (show (clashOf ts).isSome = true by unfold clashOf; rw [e]; rfl) d
    · cases h
  · rw [if_neg c] at h; exact absurd h c
theorem holds_asked : holdsSpec p o (ts.map toT) (ns.map toN) off day = if askedOf p o ts ns off o day = 0 then ((heldSpec (ts.map toT) off day).1, trueIdx 0 (heldSpec (ts.map toT) off day).2, (heldSpec (ts.map toT) off day).1 == -1, 0) else (0, [], false, askedOf p o ts ns off o day) := by
  have e1 : soundOf p o (ts.map toT) (ns.map toN) = brokenOf p o ts ns := rfl
  unfold holdsSpec
  rw [e1]
  unfold paskedOf askedOf
  rw [show rollFault p o (ts.map toT) (ns.map toN) = faultOf p o ts ns from rfl]
  by_cases c : faultOf p o ts ns = 0
  · rw [if_pos c, if_pos c]
    by_cases d : (withinB off 0 (wrap64 (o - 1)) && withinB day 0 100000) = true
    · rw [if_pos d, if_pos d, if_pos rfl]
    · rw [if_neg d, if_neg d, if_neg (by decide), if_neg (by decide)]
  · rw [if_neg c, if_neg c, if_neg c, if_neg c]
end
end Go.Proofs.Ythpheknchikodaa.P

/- The walk of the reference's Styles, by its words. Conditions: at most 45 terms, the roll is as described, no two terms clash. -/
namespace Go.Proofs.Ythpheknchikodaa.P
open Go.RowKit Go.Proofs.YthpheknchikodaaW.PrintWords Go.Proofs.YthpheknchikodaaW.PrintLast
set_option linter.unusedVariables false
set_option linter.unusedSimpArgs false

def stRun (T : List S59) (person day : Int) : Nat → Int → List Int → Bool × List Int
  | 0, _, out => (false, out)
  | n + 1, i, out => if (heldSpec T i day).1 = person then (true, if hasB (trueIdx 0 (heldSpec T i day).2) person = true then out ++ [i] else out) else stRun T person day n (i + 1) (if hasB (trueIdx 0 (heldSpec T i day).2) person = true then out ++ [i] else out)
def stOf (r : Bool × List Int) : List Int := if r.1 = true then r.2 else -1 :: r.2
def stSpec (T : List S59) (o person day : Int) : List Int := stOf (stRun T person day o.toNat 0 [])
set_option maxHeartbeats 8000000 in
set_option maxRecDepth 100000 in
theorem rStyles_calls (p o : Int) (A2 : Option Addr) (c2 : Nat) (ts : List S54) (A3 : Option Addr) (c3 : Nat) (ns : List S88) (person day : Int) (w : World) (hr2 : Kd.C k54 w A2 ts.length ts) (hts : ts.length ≤ 45) (hR : RollOk p o (ts.map toT)) (hc : NoClash (ts.map toT)) :
    Calls Try.prog 25 #[.agg #[.int .i64 p, .int .i64 o, .slice A2 ts.length c2, .slice A3 ns.length c3], .int .i64 person, .int .i64 day] w fun e w' => ∃ (A : Option Addr) (c : Nat), e = .returned (.slice A (stSpec (ts.map toT) o person day).length c) ∧ (stSpec (ts.map toT) o person day).length ≤ c ∧ Kd.C (Kd.int .i64) w' A (stSpec (ts.map toT) o person day).length (stSpec (ts.map toT) o person day) ∧ Below w.heap.size w w' := by
  have hu25 := Try.underlying25
  have hu28 := Try.underlying28
  have HTS := Aside0.mk hts
  have HRK := Aside0.mk hR
  have HNC := Aside0.mk hc
  have HB0 := Aside0.mk (below_alloc (Below.refl w.heap.size w) (.cells #[.int .i64 p, .int .i64 o, .slice A2 ts.length c2, .slice A3 ns.length c3] 25))
  have BK1 := Aside0.mk (blk_new w (.cells #[.int .i64 p, .int .i64 o, .slice A2 ts.length c2, .slice A3 ns.length c3] 25))
  have HR1 := Aside0.mk (Kd.C_below hr2 HB0.out)
  obtain ⟨x0, x1, x2, x3⟩ := roll_cells BK1.out
  obtain ⟨S, hS⟩ : ∃ S, stRun (ts.map toT) person day o.toNat 0 [] = S := ⟨_, rfl⟩
  obtain ⟨L, hL⟩ : ∃ L, stSpec (ts.map toT) o person day = L := ⟨_, rfl⟩
  rw [hL]
  have HL := Aside0.mk (show L = stOf S by rw [← hL, ← hS]; rfl)
  have HS := Aside0.mk hS
  clear hr2 hts hR hc hS hL
  go_enter Try.func25, Try.ntmps25
  go_wp2
  clear x0 x1 x2 x3
  generalize w.alloc (.cells #[.int .i64 p, .int .i64 o, .slice A2 ts.length c2, .slice A3 ns.length c3] 25) = w1 at HB0 BK1 HR1 ⊢
  go_loopg [7, 8] o.toNat (fun kq v7 v8 w' => ∃ (i : Int) (out : List Int), v8 = .int .i64 i ∧ Aside0 (0 ≤ i ∧ i ≤ o ∧ kq = (o - i).toNat) ∧ Aside0 (stRun (ts.map toT) person day (o - i).toNat i out = S) ∧ Aside0 (out.length ≤ i.toNat) ∧ Aside0 (Kd.R (Kd.int .i64) 3 w' w1.heap.size (fun _ => True) v7 out) ∧ Aside0 (Below w1.heap.size w1 w'))
  case atStart => exact ⟨0, [], rfl, ⟨by have := HRK.out.o1; simp; omega⟩, ⟨by rw [Int.sub_zero]; exact HS.out⟩, ⟨by simp⟩, ⟨Kd.R_nil _ _ _ _ _⟩, ⟨Below.refl _ _⟩⟩
  case round =>
    clear HS
    obtain ⟨i, out, rfl, HI, HE, HLE, HO, HB⟩ := hrel
    rename World => W1
    have BKW := Aside0.mk ((HB.out.block _ (blk_lt BK1.out)).trans BK1.out)
    obtain ⟨x0, x1, x2, x3⟩ := roll_cells BKW.out
    obtain ⟨AL, cL, eL⟩ := Kd.R_slice HO.out
    subst eL
    by_cases hlt : i < o
    case neg =>
      have t0 : decide (i < o) = false := decide_eq_false hlt
      have he := HE.out
      rw [show (o - i).toNat = 0 by omega] at he
      have hq := HL.out
      rw [← he] at hq
      obtain rfl : L = [-1] ++ out := by rw [hq]; rfl
      clear hlt he hq HE HL
      go_wp2_with ((with_reducible refine gate_builtin (b := .append) (xs := #[.tmp 35, .tmp 36]) rfl ?_); at_builtin; refine Kd.R_append_rows (Kd.int .i64) (w0 := w1) w1.heap.size rfl (.tmp 35) (.tmp 36) 28 3 (.int .i64 0) 8 rfl Try.underlying28 info3 rfl (by decide) (by omega) (.slice (some ⟨W1.heap.size, 0, none⟩) 1 1) [-1] out _ _ _ (fun _ => True) (fun _ => False) rfl rfl ?bO ?bR (fun _ _ h => h) (fun _ h => h.elim) ?bF ?bB ?bS ?bL ?_; (case bR => exact Kd.C_below (Kd.R_reads' HO.out).2.2 ((Below.refl W1.heap.size W1).alloc (Nat.le_refl _) _)); (case bB => exact below_alloc HB.out _); (case bF => exact (fun _ _ => trivial)); (case bO => exact R_lit1 w1.heap.size W1 (-1) (below_size HB.out)); (case bS => exact below_size (below_alloc HB.out _)); (case bL => have := HLE.out; have := HI.out; have := HRK.out.o2; simp; omega); intro v6 w6 ho hb hg hat; have HO5 := Aside0.mk ho; have HB5 := Aside0.mk hb; clear ho hb hg hat)
      have ho9 := HO5.out
      obtain ⟨AZ, cZ, eZ⟩ := Kd.R_slice ho9
      subst eZ
      have HCZ := Aside0.mk (Kd.R_reads' ho9).2
      clear ho9
      go_ret
      exact ⟨AZ, cZ, rfl, HCZ.out.1, HCZ.out.2, below_then HB0.out HB0.out.size HB5.out⟩
    case pos =>
      have t0 : decide (i < o) = true := decide_eq_true hlt
      have HLT := Aside0.mk hlt
      have HW := Aside0.mk (show wrap64 (i + 1) = i + 1 by unfold wrap64; have := HRK.out.o2; have := HI.out; omega)
      have he := HE.out
      rw [show (o - i).toNat = (o - (i + 1)).toNat + 1 by omega, stRun] at he
      have HE1 := Aside0.mk he
      have hsm := rHolds_same HRK.out HNC.out i day
      have HSM := Aside0.mk hsm
      clear hlt he hsm HE
      go_wp2_with fail
      refine (rHolds_calls p o A2 c2 ts A3 c3 ns i day _ (Kd.C_below HR1.out HB.out) HTS.out HRK.out.p2).mono ?_
      rintro e w3 ⟨AR, cR, rfl, -, hr2, hb⟩
      rw [HSM.out] at hr2 ⊢
      have HR2 := Aside0.mk hr2
      simp only at HR2
      have HB3 := Aside0.mk (below_then HB.out HB.out.size hb)
      have HO3 := Aside0.mk (Kd.R_below HO.out hb)
      clear hr2 hb x0 x1 x2 x3 HO HB BKW
      go_wp2_with fail
      refine (Has_calls AR cR (trueIdx 0 (heldSpec (ts.map toT) i day).2) person _ HR2.out (Nat.le_trans (trueIdx_le _ 0) (by rw [held_len20]; decide))).mono ?_
      rintro e w4 ⟨rfl, m9, rfl⟩
      have HB4 := Aside0.mk (pw_below_drewN HB3.out m9)
      have HO4 := Aside0.mk (Kd.R_drewN HO3.out m9)
      generalize w3.drewN m9 = w5 at HB4 HO4 ⊢
      clear HB3 HO3 HR2
      have he := HE1.out
      cases hhb : hasB (trueIdx 0 (heldSpec (ts.map toT) i day).2) person
      · rw [hhb] at he
        simp only [Bool.false_eq_true, if_false] at he
        clear HE1
        by_cases hsp : (heldSpec (ts.map toT) i day).1 = person
        case pos =>
          have e6 : ((heldSpec (ts.map toT) i day).1 == person) = true := beq_iff_eq.mpr hsp
          rw [if_pos hsp] at he
          have hq := HL.out
          rw [← he] at hq
          obtain rfl : L = out := by rw [hq]; rfl
          clear hq he HL hsp
          have ho9 := HO4.out
          have HCZ := Aside0.mk (Kd.R_reads' ho9).2
          clear ho9
          go_wp2
          go_ret
          exact ⟨AL, cL, rfl, HCZ.out.1, HCZ.out.2, below_then HB0.out HB0.out.size HB4.out⟩
        case neg =>
          have e6 : ((heldSpec (ts.map toT) i day).1 == person) = false := beq_eq_false_iff_ne.mpr hsp
          rw [if_neg hsp] at he
          have HE2 := Aside0.mk he
          clear he hsp
          go_wp2
          go_roundg (gk - 1)
          case measure => have := HI.out; have := HLT.out; omega
          case rel => exact ⟨i + 1, out, by first | rfl | rw [HW.out], ⟨by have := HI.out; have := HLT.out; omega⟩, HE2, ⟨by have := HLE.out; have := HI.out; omega⟩, HO4, HB4⟩
      · rw [hhb] at he
        simp only [if_true] at he
        clear HE1
        go_upto_if 33 with ((with_reducible refine gate_builtin (b := .append) (xs := #[.tmp 27, .tmp 29]) rfl ?_); at_builtin; refine Kd.R_append (Kd.int .i64) (w0 := w1) w1.heap.size rfl (.tmp 27) (.tmp 29) 28 3 (.int .i64 0) 8 rfl Try.underlying28 info3 rfl (by decide) (by omega) (.slice AL out.length cL) out i [.int .i64 i] (fun _ => True) (fun _ => False) rfl rfl ?aP (fun _ hk => hk.elim) ?aF ?aO ?aB ?aS ?aL ?_; (case aP => exact rfl); (case aB => exact HB4.out); (case aF => exact (fun _ _ => trivial)); (case aO => exact HO4.out); (case aS => exact below_size HB4.out); (case aL => have := HLE.out; have := HI.out; have := HLT.out; have := HRK.out.o2; omega); intro v6 w6 ho hb hg hat; have HO5 := Aside0.mk ho; have HB5 := Aside0.mk hb; clear ho hb hg hat)
        by_cases hsp : (heldSpec (ts.map toT) i day).1 = person
        case pos =>
          have e6 : ((heldSpec (ts.map toT) i day).1 == person) = true := beq_iff_eq.mpr hsp
          rw [if_pos hsp] at he
          have hq := HL.out
          rw [← he] at hq
          obtain rfl : L = out ++ [i] := by rw [hq]; rfl
          clear hq he HL hsp
          have ho9 := HO5.out
          obtain ⟨AZ, cZ, eZ⟩ := Kd.R_slice ho9
          subst eZ
          have HCZ := Aside0.mk (Kd.R_reads' ho9).2
          clear ho9
          go_wp2
          go_ret
          exact ⟨AZ, cZ, rfl, HCZ.out.1, HCZ.out.2, below_then HB0.out HB0.out.size HB5.out⟩
        case neg =>
          have e6 : ((heldSpec (ts.map toT) i day).1 == person) = false := beq_eq_false_iff_ne.mpr hsp
          rw [if_neg hsp] at he
          have HE2 := Aside0.mk he
          clear he hsp
          go_wp2
          go_roundg (gk - 1)
          case measure => have := HI.out; have := HLT.out; omega
          case rel => exact ⟨i + 1, out ++ [i], by first | rfl | rw [HW.out], ⟨by have := HI.out; have := HLT.out; omega⟩, HE2, ⟨by rw [List.length_append, List.length_singleton]; have := HLE.out; have := HI.out; omega⟩, HO5, HB5⟩
end Go.Proofs.Ythpheknchikodaa.P

/- The program's Styles in plain words, the same as the reference's. Conditions: none. -/
namespace Go.Proofs.Ythpheknchikodaa.P
open Go.RowKit Go.Proofs.YthpheknchikodaaW.PrintWords Go.Proofs.YthpheknchikodaaW.PrintLast
set_option linter.unusedVariables false
set_option linter.unusedSimpArgs false

theorem has_getD (l : List Bool) (q : Int) (h : 0 ≤ q) : hasB (trueIdx 0 l) q = l.getD q.toNat false := by
  rw [Bool.eq_iff_iff, hasB_iff, trueIdx_mem, Int.sub_zero]
  constructor
  · exact fun h => h.2.2
  · intro h2
    refine ⟨h, ?_, h2⟩
    by_cases c : q.toNat < l.length
    · omega
    · rw [List.getD_eq_getElem?_getD, List.getElem?_eq_none (by omega)] at h2
      simp at h2
theorem stylesFrom_spec {p o : Int} {ts : List S59} {ns : List S109} (hR : RollOk p o ts) (person day : Int) (hp : 0 ≤ person) (k : Nat) (hT : ∀ i : Nat, i < o.toNat → office_Roll_terms.f k p o ts ns (i : Int) = some (termsOf ts (i : Int))) :
    ∀ (n i q : Nat) (out : List Int), i + n = o.toNat → n < q → out.length ≤ i → stylesFrom k p o ts ns person day q (i : Int) (-1 :: out) = some (stOf (stRun ts person day n (i : Int) out)) := by
  intro n
  induction n with
  | zero =>
    intro i q out hi hq ho
    obtain ⟨q, rfl⟩ : ∃ m, q = m + 1 := ⟨q - 1, by omega⟩
    have := hR.o1
    rw [stylesFrom, if_neg (by omega)]
    rfl
  | succ n ih =>
    intro i q out hi hq ho
    obtain ⟨q, rfl⟩ : ∃ m, q = m + 1 := ⟨q - 1, by omega⟩
    have ho2 := hR.o2
    have ha : stylesAdd (heldSpec ts (i : Int) day) person (i : Int) (-1 :: out) = -1 :: (if hasB (trueIdx 0 (heldSpec ts (i : Int) day).2) person = true then out ++ [(i : Int)] else out) := by
      unfold stylesAdd
      rw [has_getD _ _ hp]
      by_cases c : (heldSpec ts (i : Int) day).2.getD person.toNat false = true
      · rw [if_pos c, if_pos c]; rfl
      · rw [if_neg c, if_neg c]
    rw [stylesFrom, if_pos (by omega), holds_f hR (i : Int) day k (hT i (by omega)), Option.bind_some, if_pos (by simp; omega), ha, stRun]
    by_cases c : (heldSpec ts (i : Int) day).1 = person
    · rw [if_pos c, if_pos c]; rfl
    · rw [if_neg c, if_neg c, w64 i (by omega)]
      refine ih (i + 1) q _ (by omega) (by omega) ?_
      split
      · simp; omega
      · omega
def stylesSpec (p o : Int) (ts : List S59) (ns : List S109) (person day : Int) : List Int × Int :=
  if paskedOf p o ts ns person p day = 0 then (if soundOf p o ts ns = 0 then (stSpec ts o person day, 0) else ([], soundOf p o ts ns)) else ([], paskedOf p o ts ns person p day)
theorem asked_person {p o : Int} {ts : List S59} {ns : List S109} {person day : Int} (h : paskedOf p o ts ns person p day = 0) : 0 ≤ person ∧ person < 20 := by
  unfold paskedOf at h
  split at h
  · rename_i c
    have hR := rollOk_of c
    split at h
    · rename_i d
      rw [Bool.and_eq_true] at d
      have d1 := d.1
      rw [show wrap64 (p - 1) = p - 1 by have := hR.p1; have := hR.p2; unfold wrap64; omega] at d1
      unfold withinB at d1
      simp at d1
      have := hR.p2
      omega
    · cases h
  · rename_i c; exact absurd h c
theorem Styles_f (p o : Int) (ts : List S59) (ns : List S109) (person day : Int) : ∃ k, office_Styles.f k p o ts ns person day = some (stylesSpec p o ts ns person day) := by
  unfold office_Styles.f office_Roll_sound.f office_Roll_asked.f stylesSpec
  simp only [Option.bind_some]
  by_cases ha : paskedOf p o ts ns person p day = 0
  · by_cases h : soundOf p o ts ns = 0
    · obtain ⟨hf, hc⟩ := sound_zero h
      have hR := rollOk_of hf
      obtain ⟨K, hK⟩ := terms_all p o ts ns (by have := hR.len; omega) hR.ok hc o.toNat
      refine ⟨max K (o.toNat + 1), ?_⟩
      have hs := stylesFrom_spec (ns := ns) hR person day (asked_person ha).1 (max K (o.toNat + 1)) (hK _ (by omega)) o.toNat 0 (max K (o.toNat + 1)) [] (by omega) (by omega) (by simp)
      rw [show ((0 : Nat) : Int) = 0 from rfl] at hs
      rw [if_pos ha, if_pos h, if_pos (asked_person ha), hs, if_pos ha, if_pos h]
      rfl
    · exact ⟨0, by rw [if_pos ha, if_neg h, if_pos ha, if_neg h]⟩
  · exact ⟨0, by rw [if_neg ha, if_neg ha]⟩
theorem pStyles_calls (p o : Int) (A2 : Option Addr) (c2 : Nat) (ts : List S59) (A3 : Option Addr) (c3 : Nat) (ns : List S109) (n2 n3 : Nat) (h2 : ts.length = n2) (h3 : ns.length = n3) (person day : Int) (w : World)
    (hr2 : Kd.C k59 w A2 ts.length ts) (hc2 : ts.length ≤ c2) (hr3 : Kd.C k109 w A3 ns.length ns) (hc3 : ns.length ≤ c3) (H : List Int × Int) (hH : stylesSpec p o ts ns person day = H) :
    Calls Try.prog 24 #[.agg #[.int .i64 p, .int .i64 o, .slice A2 n2 c2, .slice A3 n3 c3], .int .i64 person, .int .i64 day] w fun e w' => ∃ (A : Option Addr) (c : Nat), e = .returned (.tuple #[.slice A H.1.length c, .int .i64 H.2]) ∧
      H.1.length ≤ c ∧ Kd.C (Kd.int .i64) w' A H.1.length H.1 ∧ Below w.heap.size w w' := by
  subst h2 h3
  obtain ⟨k, hk⟩ := Styles_f p o ts ns person day
  rw [hH] at hk
  exact office_Styles.calls k p o A2 c2 ts A3 c3 ns person day _ _ w hr2 hc2 hr3 hc3 hk
theorem styles_asked {p o : Int} {ts : List S54} {ns : List S88} {person day : Int} : stylesSpec p o (ts.map toT) (ns.map toN) person day = if askedOf p o ts ns person p day = 0 then (stSpec (ts.map toT) o person day, 0) else ([], askedOf p o ts ns person p day) := by
  have e1 : soundOf p o (ts.map toT) (ns.map toN) = brokenOf p o ts ns := rfl
  unfold stylesSpec
  rw [e1]
  unfold paskedOf askedOf
  rw [show rollFault p o (ts.map toT) (ns.map toN) = faultOf p o ts ns from rfl]
  by_cases c : faultOf p o ts ns = 0
  · rw [if_pos c, if_pos c]
    by_cases d : (withinB person 0 (wrap64 (p - 1)) && withinB day 0 100000) = true
    · rw [if_pos d, if_pos d, if_pos rfl]
    · rw [if_neg d, if_neg d, if_neg (by decide), if_neg (by decide)]
  · rw [if_neg c, if_neg c, if_neg c, if_neg c]
theorem stRun_len (T : List S59) (person day : Int) : ∀ (n : Nat) (i : Int) (out : List Int), (stRun T person day n i out).2.length ≤ out.length + n
  | 0, _, _ => Nat.le_refl _
  | n + 1, i, out => by
    rw [stRun]
    have h : (if hasB (trueIdx 0 (heldSpec T i day).2) person = true then out ++ [i] else out).length ≤ out.length + 1 := by split <;> simp
    split
    · simp only; omega
    · have := stRun_len T person day n (i + 1) (if hasB (trueIdx 0 (heldSpec T i day).2) person = true then out ++ [i] else out)
      omega
theorem stSpec_len (T : List S59) (o person day : Int) (h : o ≤ 10) : (stSpec T o person day).length ≤ 20 := by
  have h2 := stRun_len T person day o.toNat 0 []
  unfold stSpec stOf
  simp at h2
  split
  · omega
  · simp; omega
end Go.Proofs.Ythpheknchikodaa.P

/- The walk of the law OfficeStyles: it answers true. Conditions: none beyond the roll's being readable. -/
namespace Go.Proofs.Ythpheknchikodaa.P
open Go.RowKit Go.Proofs.YthpheknchikodaaW.PrintWords Go.Proofs.YthpheknchikodaaW.PrintLast
set_option linter.unusedVariables false
set_option linter.unusedSimpArgs false

set_option maxHeartbeats 4000000 in
set_option maxRecDepth 100000 in
theorem OfficeStyles_calls (p o : Int) (A2 : Option Addr) (c2 : Nat) (ts : List S54) (A3 : Option Addr) (c3 : Nat) (ns : List S88) (person day : Int) (w : World) (hI : RIn w A2 c2 ts A3 c3 ns) :
    Calls Try.prog 4 #[.agg #[.int .i64 p, .int .i64 o, .slice A2 ts.length c2, .slice A3 ns.length c3], .int .i64 person, .int .i64 day] w fun e w' => e = .returned (.bool true) ∧ Below w.heap.size w w' := by
  have hu25 := Try.underlying25
  have HB0 := Aside0.mk (below_alloc (Below.refl w.heap.size w) (.cells #[.int .i64 p, .int .i64 o, .slice A2 ts.length c2, .slice A3 ns.length c3] 25))
  have HI0 := Aside0.mk (hI.below HB0.out)
  have BK0 := Aside0.mk (blk_new w (.cells #[.int .i64 p, .int .i64 o, .slice A2 ts.length c2, .slice A3 ns.length c3] 25))
  obtain ⟨x0, x1, x2, x3⟩ := roll_cells BK0.out
  clear hI
  go_enter Try.func4, Try.ntmps4
  go_wp2_with fail
  cases ht : thinB ts ns
  · refine (Thin_calls p o A2 c2 ts A3 c3 ns _ HI0.out).mono ?_
    rintro e w1 ⟨rfl, hb⟩
    rw [ht]
    have HB1 := Aside0.mk (below_then HB0.out HB0.out.size hb)
    clear hb
    go_wp2_with fail
    refine (awake_calls _).mono ?_
    rintro e wz ⟨rfl, hb⟩
    have HBz := Aside0.mk (below_then HB1.out HB1.out.size hb)
    clear hb
    go_wp2
    go_ret
    exact ⟨rfl, HBz.out⟩
  obtain ⟨hts, hns, hsz⟩ := thin_facts ht
  have HTS := Aside0.mk hts
  have HNS := Aside0.mk hns
  have HSZ := Aside0.mk hsz
  clear hts hns hsz
  refine (Thin_calls p o A2 c2 ts A3 c3 ns _ HI0.out).mono ?_
  rintro e w1 ⟨rfl, hb⟩
  rw [ht]
  have HB1 := Aside0.mk (below_then HB0.out HB0.out.size hb)
  have HI1 := Aside0.mk (HI0.out.below hb)
  have BK1 := Aside0.mk ((hb.block _ (blk_lt BK0.out)).trans BK0.out)
  clear hb x0 x1 x2 x3 HI0 BK0
  obtain ⟨x0, x1, x2, x3⟩ := roll_cells BK1.out
  go_wp2_with fail
  refine (Roll_calls p o A2 c2 ts A3 c3 ns _ HI1.out HTS.out HNS.out).mono ?_
  rintro e w2 ⟨B12, d12, B13, d13, rfl, ho, hb⟩
  have HO1 := Aside0.mk ho
  clear ho
  have HB2 := Aside0.mk (below_then HB1.out HB1.out.size hb)
  have HI2 := Aside0.mk (HI1.out.below hb)
  have BK2 := Aside0.mk ((hb.block _ (blk_lt BK1.out)).trans BK1.out)
  clear hb x0 x1 x2 x3 HI1 BK1
  obtain ⟨x0, x1, x2, x3⟩ := roll_cells BK2.out
  go_wp2_with fail
  obtain ⟨E, hE⟩ : ∃ E, askedOf p o ts ns person p day = E := ⟨_, rfl⟩
  have hh := styles_asked (p := p) (o := o) (ts := ts) (ns := ns) (person := person) (day := day)
  rw [hE] at hh
  have HE := Aside0.mk hE
  by_cases h0 : E = 0
  case neg =>
    rw [if_neg h0] at hh
    have HH := Aside0.mk hh
    have e1 : (E != 0) = true := bne_iff_ne.mpr h0
    clear hh hE h0
    refine (pStyles_calls p o B12 d12 (ts.map toT) B13 d13 (ns.map toN) _ _ (List.length_map ..) (List.length_map ..) person day _ HO1.out.1 HO1.out.2.1 HO1.out.2.2.1 HO1.out.2.2.2 _ HH.out).mono ?_
    rintro e w3 ⟨AP, cP, rfl, -, -, hb⟩
    simp only [List.length_nil]
    have HB3 := Aside0.mk (below_then HB2.out HB2.out.size hb)
    have HI3 := Aside0.mk (HI2.out.below hb)
    have BK3 := Aside0.mk ((hb.block _ (blk_lt BK2.out)).trans BK2.out)
    clear hb x0 x1 x2 x3 HI2 BK2
    obtain ⟨x0, x1, x2, x3⟩ := roll_cells BK3.out
    go_wp2_with fail
    refine (asked_calls p o A2 c2 ts A3 c3 ns person p day _ HI3.out HTS.out HNS.out HSZ.out).mono ?_
    rintro e w4 ⟨rfl, hb⟩
    rw [HE.out]
    have HB4 := Aside0.mk (below_then HB3.out HB3.out.size hb)
    have HI4 := Aside0.mk (HI3.out.below hb)
    have BK4 := Aside0.mk ((hb.block _ (blk_lt BK3.out)).trans BK3.out)
    clear hb x0 x1 x2 x3 HI3 BK3
    obtain ⟨x0, x1, x2, x3⟩ := roll_cells BK4.out
    go_wp2_with fail
    refine (awake_calls _).mono ?_
    rintro e wz ⟨rfl, hb⟩
    have HBz := Aside0.mk (below_then HB4.out HB4.out.size hb)
    clear hb
    go_wp2
    go_ret
    exact ⟨rfl, HBz.out⟩
  subst h0
  rw [if_pos rfl] at hh
  have HRC := Aside0.mk (asked_zero hE)
  obtain ⟨l, hl⟩ : ∃ l, stSpec (ts.map toT) o person day = l := ⟨_, rfl⟩
  have HLN := Aside0.mk (show l.length ≤ 20 by rw [← hl]; exact stSpec_len _ _ _ _ HRC.out.1.o2)
  rw [hl] at hh
  have HH := Aside0.mk hh
  have HSM := Aside0.mk hl
  clear hh hE hl
  refine (pStyles_calls p o B12 d12 (ts.map toT) B13 d13 (ns.map toN) _ _ (List.length_map ..) (List.length_map ..) person day _ HO1.out.1 HO1.out.2.1 HO1.out.2.2.1 HO1.out.2.2.2 _ HH.out).mono ?_
  rintro e w3 ⟨AP, cP, rfl, hp1, hp2, hb⟩
  have HP1 := Aside0.mk hp1
  have HP2 := Aside0.mk hp2
  simp only at HP1 HP2
  clear hp1 hp2
  have HB3 := Aside0.mk (below_then HB2.out HB2.out.size hb)
  have HI3 := Aside0.mk (HI2.out.below hb)
  have BK3 := Aside0.mk ((hb.block _ (blk_lt BK2.out)).trans BK2.out)
  clear hb x0 x1 x2 x3 HI2 BK2
  obtain ⟨x0, x1, x2, x3⟩ := roll_cells BK3.out
  go_wp2_with fail
  refine (asked_calls p o A2 c2 ts A3 c3 ns person p day _ HI3.out HTS.out HNS.out HSZ.out).mono ?_
  rintro e w4 ⟨rfl, hb⟩
  rw [HE.out]
  have n_ := Aside0.mk (Kd.C_below HP2.out hb)
  clear HP2
  have HP2 := n_
  clear n_
  have HB4 := Aside0.mk (below_then HB3.out HB3.out.size hb)
  have HI4 := Aside0.mk (HI3.out.below hb)
  have BK4 := Aside0.mk ((hb.block _ (blk_lt BK3.out)).trans BK3.out)
  clear hb x0 x1 x2 x3 HI3 BK3
  obtain ⟨x0, x1, x2, x3⟩ := roll_cells BK4.out
  go_wp2_with fail
  refine (rStyles_calls p o A2 c2 ts A3 c3 ns person day _ HI4.out.1 HTS.out HRC.out.1 HRC.out.2).mono ?_
  rintro e w5 ⟨AR, cR, rfl, hr1, hr2, hb⟩
  rw [HSM.out] at hr1 hr2 ⊢
  have HR1 := Aside0.mk hr1
  have HR2 := Aside0.mk hr2
  clear hr1 hr2
  have n_ := Aside0.mk (Kd.C_below HP2.out hb)
  clear HP2
  have HP2 := n_
  clear n_
  have HB5 := Aside0.mk (below_then HB4.out HB4.out.size hb)
  have HI5 := Aside0.mk (HI4.out.below hb)
  have BK5 := Aside0.mk ((hb.block _ (blk_lt BK4.out)).trans BK4.out)
  clear hb x0 x1 x2 x3 HI4 BK4
  obtain ⟨x0, x1, x2, x3⟩ := roll_cells BK5.out
  go_wp2_with fail
  refine (palantypelaw05_ints.calls (l.length + 1) AP cP l AR cR l true _ HP2.out HP1.out HR2.out HR1.out (ints_self l (by have := HLN.out; omega))).mono ?_
  rintro e wi ⟨rfl, m9, rfl⟩
  have HBi := Aside0.mk (pw_below_drewN HB5.out m9)
  generalize w5.drewN m9 = wi at HBi ⊢
  go_wp2_with fail
  refine (awake_calls _).mono ?_
  rintro e wz ⟨rfl, hb⟩
  have HBz := Aside0.mk (below_then HBi.out HBi.out.size hb)
  clear hb
  go_wp2
  go_ret
  exact ⟨rfl, HBz.out⟩
end Go.Proofs.Ythpheknchikodaa.P
