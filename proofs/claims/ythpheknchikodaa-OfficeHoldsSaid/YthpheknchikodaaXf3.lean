/- Contracts of functions that the laws reach, part Xf3. Conditions: each theorem names its own. -/
import Derived.Test.YthpheknchikodaaXf1
import Derived.Test.YthpheknchikodaaXf2
import Derived.Test.YthpheknchikodaaXb13
import Derived.Test.YthpheknchikodaaXb14
/- Who holds an office on a day, in plain words: surely one alone, and then nobody else perhaps. Conditions: the roll is as described, no two terms clash. -/
namespace Go.Proofs.Ythpheknchikodaa.P
open Go.RowKit Go.Proofs.YthpheknchikodaaW.PrintWords Go.Proofs.YthpheknchikodaaW.PrintLast
set_option linter.unusedVariables false
set_option linter.unusedSimpArgs false

theorem held_fst (day : Int) (L : List S122) : ∀ h : Int × List Bool, ((L.foldl (heldStep day) h).1 = h.1 ∧ ∀ x ∈ L, sureB day x = false) ∨ ∃ x ∈ L, sureB day x = true ∧ (L.foldl (heldStep day) h).1 = x.f0.f0 := by
  induction L with
  | nil => intro h; exact .inl ⟨rfl, fun x hx => by cases hx⟩
  | cons y L ih =>
    intro h
    rw [List.foldl_cons]
    rcases ih (heldStep day h y) with ⟨e, hn⟩ | ⟨x, hx, hs, e⟩
    · by_cases c : sureB day y = true
      · exact .inr ⟨y, by simp, c, by rw [e]; simp [heldStep, c]⟩
      · have c' := Bool.eq_false_iff.2 c
        refine .inl ⟨by rw [e]; simp [heldStep, c'], fun x hx => ?_⟩
        rcases List.mem_cons.1 hx with rfl | hx
        · exact c'
        · exact hn x hx
    · exact .inr ⟨x, List.mem_cons_of_mem _ hx, hs, e⟩
theorem held_snd (day : Int) (L : List S122) : ∀ h : Int × List Bool, ∀ q, q < h.2.length → ((L.foldl (heldStep day) h).2.getD q false = true ↔ h.2.getD q false = true ∨ ∃ x ∈ L, maybeB day x = true ∧ x.f0.f0.toNat = q) := by
  induction L with
  | nil => intro h q _; simp
  | cons y L ih =>
    intro h q hq
    rw [List.foldl_cons]
    have hl : (heldStep day h y).2.length = h.2.length := by unfold heldStep; dsimp only; split <;> simp
    rw [ih (heldStep day h y) q (by omega)]
    have key : (heldStep day h y).2.getD q false = true ↔ h.2.getD q false = true ∨ (maybeB day y = true ∧ y.f0.f0.toNat = q) := by
      unfold heldStep
      dsimp only
      by_cases c : maybeB day y = true
      · rw [if_pos c]
        by_cases e : y.f0.f0.toNat = q
        · subst e; simp [c, hq]
        · simp [c, e]
      · rw [if_neg c]; simp [c]
    rw [key]
    constructor
    · rintro ((h | ⟨h1, h2⟩) | ⟨x, hx, h⟩)
      · exact .inl h
      · exact .inr ⟨y, by simp, h1, h2⟩
      · exact .inr ⟨x, List.mem_cons_of_mem _ hx, h⟩
    · rintro (h | ⟨x, hx, h1, h2⟩)
      · exact .inl (.inl h)
      · rcases List.mem_cons.1 hx with rfl | hx
        · exact .inl (.inr ⟨h1, h2⟩)
        · exact .inr ⟨x, hx, h1, h2⟩
theorem trueIdx_mem (l : List Bool) : ∀ (i : Int) (q : Int), q ∈ trueIdx i l ↔ i ≤ q ∧ q < i + l.length ∧ l.getD (q - i).toNat false = true := by
  induction l with
  | nil => intro i q; simp [trueIdx]
  | cons b l ih =>
    intro i q
    have hl : ((b :: l).length : Int) = l.length + 1 := by simp
    have key : (i ≤ q ∧ q < i + ((b :: l).length : Int) ∧ (b :: l).getD (q - i).toNat false = true) ↔ (q = i ∧ b = true) ∨ (i + 1 ≤ q ∧ q < i + 1 + (l.length : Int) ∧ l.getD (q - (i + 1)).toNat false = true) := by
      rw [hl]
      constructor
      · rintro ⟨h1, h2, h3⟩
        by_cases e : q = i
        · subst e; left; simpa using h3
        · right
          refine ⟨by omega, by omega, ?_⟩
          rw [show (q - i).toNat = (q - (i + 1)).toNat + 1 by omega] at h3
          simpa using h3
      · rintro (⟨rfl, h⟩ | ⟨h1, h2, h3⟩)
        · exact ⟨by omega, by omega, by simpa using h⟩
        · refine ⟨by omega, by omega, ?_⟩
          rw [show (q - i).toNat = (q - (i + 1)).toNat + 1 by omega]
          simpa using h3
    rw [key, trueIdx]
    cases b
    · simp [ih (i + 1) q]
    · simp [ih (i + 1) q]
theorem trueIdx_sorted (l : List Bool) : ∀ i : Int, (trueIdx i l).Pairwise (· < ·) := by
  induction l with
  | nil => intro i; simp [trueIdx]
  | cons b l ih =>
    intro i
    rw [trueIdx]
    split
    · rw [List.pairwise_cons]
      exact ⟨fun q hq => by have := (trueIdx_mem l (i + 1) q).1 hq; omega, ih (i + 1)⟩
    · exact ih (i + 1)
/-- Surely; perhaps: term i has the day. -/
def Sure (ts : List S59) (off day : Int) (i : Nat) : Prop := i < ts.length ∧ (tAt ts i).f1 = off ∧ (tAt ts i).f2.f1 ≤ day ∧ day < (tAt ts i).f3.f0
def May (ts : List S59) (off day : Int) (i : Nat) : Prop := i < ts.length ∧ (tAt ts i).f1 = off ∧ (knownAt ts i).f0.f0 ≤ day ∧ day < (knownAt ts i).f1.f1
section
variable {p o : Int} {ts : List S59}
theorem known_range (hk : TermsOk ts) {i : Nat} (hi : i < ts.length) : (tAt ts i).f2.f0 ≤ (knownAt ts i).f0.f0 ∧ (knownAt ts i).f0.f0 ≤ (tAt ts i).f2.f1 ∧ (tAt ts i).f3.f0 ≤ (knownAt ts i).f1.f1 ∧ (knownAt ts i).f1.f1 ≤ (tAt ts i).f3.f1 ∨ ¬ NoClash ts := by
  by_cases hc : NoClash ts
  · left
    obtain ⟨a1, a2, a3⟩ := known_lo ts i
    obtain ⟨b1, b2, b3⟩ := known_hi ts i
    have ki := hk i hi
    refine ⟨a1, ?_, ?_, b1⟩
    · rcases a3 with e | ⟨k, _, hb, e⟩
      · omega
      · rw [e]; exact hb.2.2
    · rcases b3 with e | ⟨k, hkl, hb, e⟩
      · omega
      · rw [e]
        have h := clash_false hc hb.1 hkl hi
        unfold clashB befB at h
        rw [decide_eq_true hb.2.1, Bool.true_and, decide_eq_false hb.2.2] at h
        simp at h
        exact h
  · exact .inr hc
theorem sureB_iff (hk : TermsOk ts) {i : Nat} (hi : i < ts.length) (day : Int) : sureB day ⟨tAt ts i, (i : Int), knownAt ts i⟩ = true ↔ (tAt ts i).f2.f1 ≤ day ∧ day < (tAt ts i).f3.f0 := by
  have ki := hk i hi
  unfold sureB withinB
  rw [show wrap64 ((tAt ts i).f3.f0 - 1) = (tAt ts i).f3.f0 - 1 by unfold wrap64; omega]
  simp
  omega
theorem maybeB_iff (hk : TermsOk ts) (hc : NoClash ts) {i : Nat} (hi : i < ts.length) (day : Int) : maybeB day ⟨tAt ts i, (i : Int), knownAt ts i⟩ = true ↔ (knownAt ts i).f0.f0 ≤ day ∧ day < (knownAt ts i).f1.f1 := by
  have ki := hk i hi
  have kr := (known_range hk hi).resolve_right (fun h => h hc)
  unfold maybeB withinB
  rw [show wrap64 ((knownAt ts i).f1.f1 - 1) = (knownAt ts i).f1.f1 - 1 by unfold wrap64; omega]
  simp
  omega
theorem held_surely (hk : TermsOk ts) (off day : Int) : ((heldSpec ts off day).1 = -1 ∧ ∀ i, ¬ Sure ts off day i) ∨ ∃ i, Sure ts off day i ∧ (heldSpec ts off day).1 = (tAt ts i).f0 := by
  rcases held_fst day (termsOf ts off) (-1, List.replicate 20 false) with ⟨e, hn⟩ | ⟨x, hx, hs, e⟩
  · refine .inl ⟨e, ?_⟩
    rintro i ⟨hi, ho, h1, h2⟩
    have := hn _ ((termsOf_mem _).2 ⟨i, hi, ho, rfl⟩)
    rw [(sureB_iff hk hi day).2 ⟨h1, h2⟩] at this
    cases this
  · obtain ⟨i, hi, ho, rfl⟩ := (termsOf_mem x).1 hx
    have h := (sureB_iff hk hi day).1 hs
    exact .inr ⟨i, ⟨hi, ho, h.1, h.2⟩, e⟩
theorem held_len20 (ts : List S59) (off day : Int) : (heldSpec ts off day).2.length = 20 := by
  have h := held_len day (termsOf ts off) (-1, List.replicate 20 false)
  rw [show ((-1, List.replicate 20 false) : Int × List Bool).2.length = 20 from rfl] at h
  exact h
theorem perhaps_mem (hR : RollOk p o ts) (hc : NoClash ts) (off day q : Int) : q ∈ trueIdx 0 (heldSpec ts off day).2 ↔ ∃ i, May ts off day i ∧ (tAt ts i).f0 = q := by
  rw [trueIdx_mem, held_len20]
  have hs : ∀ n : Nat, n < 20 → ((heldSpec ts off day).2.getD n false = true ↔ ∃ i, May ts off day i ∧ (tAt ts i).f0.toNat = n) := by
    intro n hn
    have h := held_snd day (termsOf ts off) (-1, List.replicate 20 false) n (by simpa using hn)
    rw [show (termsOf ts off).foldl (heldStep day) (-1, List.replicate 20 false) = heldSpec ts off day from rfl] at h
    rw [h]
    constructor
    · rintro (h | ⟨x, hx, h1, h2⟩)
      · exfalso
        revert h
        show ¬ ((List.replicate 20 false).getD n false = true)
        rw [List.getD_eq_getElem?_getD, List.getElem?_replicate]
        split <;> simp
      · obtain ⟨i, hi, ho, rfl⟩ := (termsOf_mem x).1 hx
        have h := (maybeB_iff hR.ok hc hi day).1 h1
        exact ⟨i, ⟨hi, ho, h.1, h.2⟩, h2⟩
    · rintro ⟨i, ⟨hi, ho, h1, h2⟩, h3⟩
      exact .inr ⟨_, (termsOf_mem _).2 ⟨i, hi, ho, rfl⟩, (maybeB_iff hR.ok hc hi day).2 ⟨h1, h2⟩, h3⟩
  constructor
  · rintro ⟨h1, h2, h3⟩
    obtain ⟨i, hm, h4⟩ := (hs (q - 0).toNat (by omega)).1 h3
    have := hR.pers i hm.1
    exact ⟨i, hm, by omega⟩
  · rintro ⟨i, hm, rfl⟩
    have := hR.pers i hm.1
    have := hR.p2
    refine ⟨by omega, by omega, (hs _ (by omega)).2 ⟨i, hm, by omega⟩⟩
theorem sure_may (hk : TermsOk ts) (hc : NoClash ts) {off day : Int} {i : Nat} (h : Sure ts off day i) : May ts off day i := by
  obtain ⟨hi, ho, h1, h2⟩ := h
  have kr := (known_range hk hi).resolve_right (fun h => h hc)
  exact ⟨hi, ho, by omega, by omega⟩
theorem sure_alone (hk : TermsOk ts) (hc : NoClash ts) {off day : Int} {i j : Nat} (h : Sure ts off day i) (k : May ts off day j) : j = i := by
  obtain ⟨hi, ho, h1, h2⟩ := h
  obtain ⟨hj, ho', h3, h4⟩ := k
  by_cases e : j = i
  · exact e
  · exfalso
    have hcl := clash_false hc e hj hi
    unfold clashB befB at hcl
    rw [decide_eq_true (ho'.trans ho.symm), Bool.true_and] at hcl
    simp at hcl
    have ki := hk i hi
    have kj := hk j hj
    by_cases c : (tAt ts j).f3.f0 ≤ (tAt ts i).f2.f1
    · -- j ends before i begins
      have hA : Aft ts j i := ⟨fun e' => e e'.symm, ho.trans ho'.symm, by omega⟩
      have := (known_hi ts j).2.1 i hi hA
      omega
    · have hB : Bef ts j i := ⟨fun e' => e e'.symm, ho.trans ho'.symm, hcl (by omega)⟩
      have := (known_lo ts j).2.1 i hi hB
      omega
theorem sorted_one {l : List Int} {s : Int} (h : l.Pairwise (· < ·)) (hm : ∀ q, q ∈ l ↔ q = s) : l = [s] := by
  match l, h with
  | [], _ => exact absurd ((hm s).2 rfl) (by simp)
  | [a], _ => rw [(hm a).1 (by simp)]
  | a :: b :: l, h =>
    have h1 := (hm a).1 (by simp)
    have h2 := (hm b).1 (by simp)
    have := (List.pairwise_cons.1 h).1 b (by simp)
    omega
theorem one_alone (hR : RollOk p o ts) (hc : NoClash ts) (off day : Int) (h : 0 ≤ (heldSpec ts off day).1) : trueIdx 0 (heldSpec ts off day).2 = [(heldSpec ts off day).1] := by
  rcases held_surely hR.ok off day with ⟨e, _⟩ | ⟨i, hs, e⟩
  · omega
  · apply sorted_one (trueIdx_sorted _ 0)
    intro q
    rw [perhaps_mem hR hc, e]
    constructor
    · rintro ⟨j, hm, rfl⟩; rw [sure_alone hR.ok hc hs hm]
    · rintro rfl; exact ⟨i, sure_may hR.ok hc hs, rfl⟩
theorem surely_range (hR : RollOk p o ts) (off day : Int) : (heldSpec ts off day).1 = -1 ∨ 0 ≤ (heldSpec ts off day).1 ∧ (heldSpec ts off day).1 < p := by
  rcases held_surely hR.ok off day with ⟨e, _⟩ | ⟨i, hs, e⟩
  · exact .inl e
  · rw [e]; exact .inr (hR.pers i hs.1)
theorem perhaps_range (hR : RollOk p o ts) (hc : NoClash ts) (off day q : Int) (h : q ∈ trueIdx 0 (heldSpec ts off day).2) : 0 ≤ q ∧ q < p := by
  obtain ⟨i, hm, rfl⟩ := (perhaps_mem hR hc off day q).1 h
  exact hR.pers i hm.1
end
end Go.Proofs.Ythpheknchikodaa.P

/- The reference's Holds and the program's answer the same. Conditions: the roll is as described, no two terms clash. -/
namespace Go.Proofs.Ythpheknchikodaa.P
open Go.RowKit Go.Proofs.YthpheknchikodaaW.PrintWords Go.Proofs.YthpheknchikodaaW.PrintLast
set_option linter.unusedVariables false
set_option linter.unusedSimpArgs false

theorem sorted_same : ∀ {l m : List Int}, l.Pairwise (· < ·) → m.Pairwise (· < ·) → (∀ q, q ∈ l ↔ q ∈ m) → l = m
  | [], [], _, _, _ => rfl
  | [], b :: m, _, _, h => absurd ((h b).2 (by simp)) (by simp)
  | a :: l, [], _, _, h => absurd ((h a).1 (by simp)) (by simp)
  | a :: l, b :: m, hl, hm, h => by
    rw [List.pairwise_cons] at hl hm
    have h1 := (h a).1 (by simp)
    have h2 := (h b).2 (by simp)
    have e : a = b := by
      rcases List.mem_cons.1 h1 with e | h1
      · exact e
      · rcases List.mem_cons.1 h2 with e | h2
        · exact e.symm
        · have := hl.1 b h2; have := hm.1 a h1; omega
    subst e
    rw [sorted_same hl.2 hm.2 (fun q => ?_)]
    constructor
    · intro hq
      rcases List.mem_cons.1 ((h q).1 (List.mem_cons_of_mem _ hq)) with e | h3
      · subst e; have := hl.1 _ hq; omega
      · exact h3
    · intro hq
      rcases List.mem_cons.1 ((h q).2 (List.mem_cons_of_mem _ hq)) with e | h3
      · subst e; have := hm.1 _ hq; omega
      · exact h3
section
variable {p o : Int} {ts : List S54}
theorem tAt_nat (i : Nat) (h : i < ts.length) : tAt (ts.map toT) i = toT (rd_T54 ts i) := by
  have := tAt_rd ts (i : Int) (by simpa using h)
  simpa using this
theorem hasB_iff (l : List Int) (q : Int) : hasB l q = true ↔ q ∈ l := by
  unfold hasB
  simp [List.any_eq_true]
open Classical in
/-- One step, in the plain words. -/
theorem hStep_plain (hR : RollOk p o (ts.map toT)) (hc : NoClash (ts.map toT)) (off day q : Int) (a : Int × List Int) (i : Nat) (hi : i < ts.length) :
    hStep ts off day q a i = ((if Sure (ts.map toT) off day i ∧ (tAt (ts.map toT) i).f0 = q then q else a.1), (if (May (ts.map toT) off day i ∧ (tAt (ts.map toT) i).f0 = q) ∧ q ∉ a.2 then a.2 ++ [q] else a.2)) := by
  have hl : i < (ts.map toT).length := by simpa using hi
  have e := tAt_nat (ts := ts) i hi
  have hok := hR.ok i hl
  have hk := (known_range hR.ok hl).resolve_right (fun h => h hc)
  have f0 : (tAt (ts.map toT) i).f0 = (rd_T54 ts i).f0 := by rw [e]; rfl
  have f1 : (tAt (ts.map toT) i).f1 = (rd_T54 ts i).f1 := by rw [e]; rfl
  have f2 : (tAt (ts.map toT) i).f2.f1 = (rd_T54 ts i).f2.f1 := by rw [e]; rfl
  have f3 : (tAt (ts.map toT) i).f3.f0 = (rd_T54 ts i).f3.f0 := by rw [e]; rfl
  have hkb : (rKnownAt ts i).f0.f0 = (knownAt (ts.map toT) i).f0.f0 := rfl
  have hke : (rKnownAt ts i).f1.f1 = (knownAt (ts.map toT) i).f1.f1 := rfl
  have w1 : wrap64 ((rd_T54 ts i).f3.f0 - 1) = (rd_T54 ts i).f3.f0 - 1 := by unfold wrap64; omega
  have w2 : wrap64 ((rKnownAt ts i).f1.f1 - 1) = (rKnownAt ts i).f1.f1 - 1 := by rw [hke]; unfold wrap64; omega
  unfold hStep
  rw [w1, w2, hkb, hke]
  unfold Sure May
  rw [f0, f1, f2, f3]
  by_cases c : (rd_T54 ts i).f0 = q ∧ (rd_T54 ts i).f1 = off
  · obtain ⟨c1, c2⟩ := c
    rw [if_neg (by simp [c1, c2])]
    congr 1
    · unfold withinB
      by_cases d : (rd_T54 ts i).f2.f1 ≤ day ∧ day < (rd_T54 ts i).f3.f0
      · rw [if_pos (by simp; omega), if_pos ⟨⟨hl, c2, d.1, d.2⟩, c1⟩]
      · rw [if_neg (by simp; omega), if_neg (by rintro ⟨⟨_, _, h1, h2⟩, _⟩; exact d ⟨h1, h2⟩)]
    · have hb : (withinB day (knownAt (ts.map toT) i).f0.f0 ((knownAt (ts.map toT) i).f1.f1 - 1) && !hasB a.2 q) = true ↔ ((i < (ts.map toT).length ∧ (rd_T54 ts i).f1 = off ∧ (knownAt (ts.map toT) i).f0.f0 ≤ day ∧ day < (knownAt (ts.map toT) i).f1.f1) ∧ (rd_T54 ts i).f0 = q) ∧ q ∉ a.2 := by
        rw [Bool.and_eq_true, Bool.not_eq_true', ← Bool.not_eq_true, hasB_iff]
        unfold withinB
        simp only [Bool.and_eq_true, decide_eq_true_eq]
        constructor
        · rintro ⟨h1, h2⟩; exact ⟨⟨⟨hl, c2, by omega, by omega⟩, c1⟩, h2⟩
        · rintro ⟨⟨⟨_, _, h1, h2⟩, _⟩, h3⟩; exact ⟨by omega, h3⟩
      by_cases d : (withinB day (knownAt (ts.map toT) i).f0.f0 ((knownAt (ts.map toT) i).f1.f1 - 1) && !hasB a.2 q) = true
      · rw [if_pos d, if_pos (hb.1 d)]
      · rw [if_neg d, if_neg (fun h => d (hb.2 h))]
  · rw [if_pos (Classical.byCases (fun c1 : (rd_T54 ts i).f0 = q => Or.inr (fun h => c ⟨c1, h⟩)) (fun c1 => Or.inl c1))]
    rw [if_neg (by rintro ⟨⟨_, h, _⟩, h1⟩; exact c ⟨h1, h⟩), if_neg (by rintro ⟨⟨⟨_, h, _⟩, h1⟩, _⟩; exact c ⟨h1, h⟩)]
theorem hIn_plain (hR : RollOk p o (ts.map toT)) (hc : NoClash (ts.map toT)) (off day q : Int) (s : Int) (l : List Int) (hq : q ∉ l) :
    ∀ m, m ≤ ts.length → ∀ b, (List.range m).foldl (hStep ts off day q) (s, l) = b →
      ((b.1 = s ∧ ∀ i, i < m → ¬ (Sure (ts.map toT) off day i ∧ (tAt (ts.map toT) i).f0 = q)) ∨ ∃ i, Sure (ts.map toT) off day i ∧ (tAt (ts.map toT) i).f0 = q ∧ b.1 = q) ∧
      ((b.2 = l ∧ ∀ i, i < m → ¬ (May (ts.map toT) off day i ∧ (tAt (ts.map toT) i).f0 = q)) ∨ (b.2 = l ++ [q] ∧ ∃ i, May (ts.map toT) off day i ∧ (tAt (ts.map toT) i).f0 = q)) := by
  intro m
  induction m with
  | zero => intro _ b hb; subst hb; exact ⟨Or.inl ⟨rfl, fun i h => absurd h (by omega)⟩, Or.inl ⟨rfl, fun i h => absurd h (by omega)⟩⟩
  | succ m ih =>
    intro hm b hb
    obtain ⟨a, ha⟩ : ∃ a, (List.range m).foldl (hStep ts off day q) (s, l) = a := ⟨_, rfl⟩
    obtain ⟨h1, h2⟩ := ih (by omega) a ha
    rw [List.range_succ, List.foldl_append, ha] at hb
    have hb' : hStep ts off day q a m = b := hb
    rw [hStep_plain hR hc off day q a m (by omega)] at hb'
    subst hb'
    constructor
    · by_cases c : Sure (ts.map toT) off day m ∧ (tAt (ts.map toT) m).f0 = q
      · exact Or.inr ⟨m, c.1, c.2, by simp [c]⟩
      · simp only [if_neg c]
        rcases h1 with ⟨h1, h3⟩ | h1
        · refine Or.inl ⟨h1, fun i hi => ?_⟩
          by_cases e : i = m
          · subst e; exact c
          · exact h3 i (by omega)
        · exact Or.inr h1
    · rcases h2 with ⟨h2, h3⟩ | ⟨h2, h3⟩
      · by_cases c : May (ts.map toT) off day m ∧ (tAt (ts.map toT) m).f0 = q
        · refine Or.inr ⟨?_, m, c.1, c.2⟩
          rw [h2]
          simp only [if_pos (show (May (ts.map toT) off day m ∧ (tAt (ts.map toT) m).f0 = q) ∧ q ∉ l from ⟨c, hq⟩)]
        · refine Or.inl ⟨?_, fun i hi => ?_⟩
          · rw [h2]
            simp only [if_neg (show ¬ ((May (ts.map toT) off day m ∧ (tAt (ts.map toT) m).f0 = q) ∧ q ∉ l) from fun h => c h.1)]
          · by_cases e : i = m
            · subst e; exact c
            · exact h3 i (by omega)
      · refine Or.inr ⟨?_, h3⟩
        rw [h2]
        simp only [if_neg (show ¬ ((May (ts.map toT) off day m ∧ (tAt (ts.map toT) m).f0 = q) ∧ q ∉ l ++ [q]) from fun h => h.2 (by simp))]
theorem hIn_range (off day q : Int) (a : Int × List Int) : hIn ts off day q 0 a = (List.range ts.length).foldl (hStep ts off day q) a := by
  unfold hIn
  rw [List.range_eq_range']
  rfl
theorem hOut_plain (hR : RollOk p o (ts.map toT)) (hc : NoClash (ts.map toT)) (off day : Int) : ∀ (n : Nat) (q s : Int) (l : List Int), 0 ≤ q → q + n = p → l.Pairwise (· < ·) →
    (∀ x, x ∈ l ↔ x < q ∧ ∃ i, May (ts.map toT) off day i ∧ (tAt (ts.map toT) i).f0 = x) → ((s = -1 ∧ ∀ i, Sure (ts.map toT) off day i → ¬ (tAt (ts.map toT) i).f0 < q) ∨ ∃ i, Sure (ts.map toT) off day i ∧ s = (tAt (ts.map toT) i).f0) →
    hOut ts off day n q (s, l) = ((heldSpec (ts.map toT) off day).1, trueIdx 0 (heldSpec (ts.map toT) off day).2) := by
  intro n
  induction n with
  | zero =>
    intro q s l hq hqp hl hm hs
    obtain rfl : q = p := by omega
    show (s, l) = _
    congr 1
    · rcases held_surely hR.ok off day with ⟨h1, h2⟩ | ⟨i, h1, h2⟩
      · rcases hs with ⟨h3, h4⟩ | ⟨j, h3, h4⟩
        · rw [h1, h3]
        · exact absurd h3 (h2 j)
      · rcases hs with ⟨h3, h4⟩ | ⟨j, h3, h4⟩
        · exact absurd (hR.pers i h1.1).2 (h4 i h1)
        · obtain rfl := sure_alone hR.ok hc h1 (sure_may hR.ok hc h3)
          rw [h2, h4]
    · refine sorted_same hl (trueIdx_sorted _ 0) (fun x => ?_)
      rw [perhaps_mem hR hc off day x, hm x]
      constructor
      · exact fun h => h.2
      · rintro ⟨i, h1, rfl⟩; exact ⟨(hR.pers i h1.1).2, i, h1, rfl⟩
  | succ n ih =>
    intro q s l hq hqp hl hm hs
    rw [hOut]
    have hql : q ∉ l := fun h => by have := ((hm q).1 h).1; omega
    obtain ⟨b, hb⟩ : ∃ b, hIn ts off day q 0 (s, l) = b := ⟨_, rfl⟩
    rw [hb]
    rw [hIn_range] at hb
    obtain ⟨h1, h2⟩ := hIn_plain hR hc off day q s l hql ts.length (Nat.le_refl _) b hb
    obtain ⟨bs, bl⟩ := b
    simp only at h1 h2
    have hlen : ∀ i, May (ts.map toT) off day i → i < ts.length := fun i h => by simpa using h.1
    have hlen' : ∀ i, Sure (ts.map toT) off day i → i < ts.length := fun i h => by simpa using h.1
    refine ih (q + 1) bs bl (by omega) (by omega) ?_ (fun x => ?_) ?_
    · rcases h2 with ⟨rfl, _⟩ | ⟨rfl, _⟩
      · exact hl
      · rw [List.pairwise_append]
        exact ⟨hl, by simp, fun a ha b hb => by have := ((hm a).1 ha).1; simp at hb; omega⟩
    · rcases h2 with ⟨rfl, h3⟩ | ⟨rfl, j, h3, h4⟩
      · rw [hm x]
        constructor
        · rintro ⟨h5, h6⟩; exact ⟨by omega, h6⟩
        · rintro ⟨h5, i, h6, h7⟩
          refine ⟨?_, i, h6, h7⟩
          by_cases e : x = q
          · subst e; exact absurd ⟨h6, h7⟩ (h3 i (hlen i h6))
          · omega
      · rw [List.mem_append, hm x]
        constructor
        · rintro (⟨h5, h6⟩ | h5)
          · exact ⟨by omega, h6⟩
          · obtain rfl : x = q := by simpa using h5
            exact ⟨by omega, j, h3, h4⟩
        · rintro ⟨h5, h6⟩
          by_cases e : x = q
          · exact Or.inr (by simp [e])
          · exact Or.inl ⟨by omega, h6⟩
    · rcases h1 with ⟨rfl, h3⟩ | ⟨i, h3, h4, h5⟩
      · rcases hs with ⟨h6, h7⟩ | h6
        · refine Or.inl ⟨h6, fun i hi hlt => ?_⟩
          by_cases e : (tAt (ts.map toT) i).f0 = q
          · exact h3 i (hlen' i hi) ⟨hi, e⟩
          · exact h7 i hi (by omega)
        · exact Or.inr h6
      · exact Or.inr ⟨i, h3, by rw [h5, h4]⟩
theorem rHolds_same (hR : RollOk p o (ts.map toT)) (hc : NoClash (ts.map toT)) (off day : Int) : hOut ts off day p.toNat 0 (-1, []) = ((heldSpec (ts.map toT) off day).1, trueIdx 0 (heldSpec (ts.map toT) off day).2) :=
  hOut_plain hR hc off day p.toNat 0 (-1) [] (Int.le_refl _) (by have := hR.p1; omega) List.Pairwise.nil
    (fun x => ⟨fun h => (by simp at h), fun ⟨h, i, h1, h2⟩ => absurd (hR.pers i h1.1).1 (by omega)⟩)
    (Or.inl ⟨rfl, fun i hi h => absurd (hR.pers i hi.1).1 (by omega)⟩)
end
theorem ints_l0 (l : List Int) (hl : l.length ≤ 1000000) : ∀ (n : Nat) (i : Nat), i + n = l.length → palantypelaw05_ints.l0 (n + 1) l l (i : Int) = some true
  | 0, i, h => by
    rw [palantypelaw05_ints.l0, if_neg (by omega)]
  | n + 1, i, h => by
    rw [palantypelaw05_ints.l0, if_pos (by omega), if_pos (by omega), if_pos (by omega), if_pos rfl, w64 i (by omega)]
    exact ints_l0 l hl n (i + 1) (by omega)
theorem ints_self (l : List Int) (hl : l.length ≤ 1000000) : palantypelaw05_ints.f (l.length + 1) l l = some true := by
  unfold palantypelaw05_ints.f
  rw [if_pos rfl]
  exact ints_l0 l hl l.length 0 (by omega)
section
variable {p o : Int} {ts : List S54} {ns : List S88} {off day : Int}
theorem asked_zero {n most : Int} (h : askedOf p o ts ns n most day = 0) : RollOk p o (ts.map toT) ∧ NoClash (ts.map toT) := by
  unfold askedOf brokenOf at h
  by_cases c : faultOf p o ts ns = 0
  · have hR := rollOk_of (show rollFault p o (ts.map toT) (ns.map toN) = 0 from c)
    rw [if_pos c] at h
    split at h
    · split at h
      · cases h
      · rename_i d
        refine ⟨hR, (noClash_iff _).1 ?_⟩
        cases e : firstClash 0 (ts.map toT) with
        | none => rfl
        | some x => exact absurd (show (clashOf ts).isSome = true by unfold clashOf; rw [e]; rfl) d
    · cases h
  · rw [if_neg c] at h; exact absurd h c
theorem holds_asked : holdsSpec p o (ts.map toT) (ns.map toN) off day = if askedOf p o ts ns off o day = 0 then ((heldSpec (ts.map toT) off day).1, trueIdx 0 (heldSpec (ts.map toT) off day).2, (heldSpec (ts.map toT) off day).1 == -1, 0) else (0, [], false, askedOf p o ts ns off o day) := by
  have e1 : soundOf p o (ts.map toT) (ns.map toN) = brokenOf p o ts ns := rfl
  unfold holdsSpec
  rw [e1]
  unfold paskedOf askedOf
  rw [show rollFault p o (ts.map toT) (ns.map toN) = faultOf p o ts ns from rfl]
  by_cases c : faultOf p o ts ns = 0
  · rw [if_pos c, if_pos c]
    by_cases d : (withinB off 0 (wrap64 (o - 1)) && withinB day 0 100000) = true
    · rw [if_pos d, if_pos d, if_pos rfl]
    · rw [if_neg d, if_neg d, if_neg (by decide), if_neg (by decide)]
  · rw [if_neg c, if_neg c, if_neg c, if_neg c]
end
end Go.Proofs.Ythpheknchikodaa.P

/- The walk of the law OfficeHolds: it answers true. Conditions: none beyond the roll's being readable. -/
namespace Go.Proofs.Ythpheknchikodaa.P
open Go.RowKit Go.Proofs.YthpheknchikodaaW.PrintWords Go.Proofs.YthpheknchikodaaW.PrintLast
set_option linter.unusedVariables false
set_option linter.unusedSimpArgs false

set_option maxHeartbeats 4000000 in
set_option maxRecDepth 100000 in
theorem OfficeHolds_calls (p o : Int) (A2 : Option Addr) (c2 : Nat) (ts : List S54) (A3 : Option Addr) (c3 : Nat) (ns : List S88) (off day : Int) (w : World) (hI : RIn w A2 c2 ts A3 c3 ns) :
    Calls Try.prog 3 #[.agg #[.int .i64 p, .int .i64 o, .slice A2 ts.length c2, .slice A3 ns.length c3], .int .i64 off, .int .i64 day] w fun e w' => e = .returned (.bool true) ∧ Below w.heap.size w w' := by
  have hu25 := Try.underlying25
  have HB0 := Aside0.mk (below_alloc (Below.refl w.heap.size w) (.cells #[.int .i64 p, .int .i64 o, .slice A2 ts.length c2, .slice A3 ns.length c3] 25))
  have HI0 := Aside0.mk (hI.below HB0.out)
  have BK0 := Aside0.mk (blk_new w (.cells #[.int .i64 p, .int .i64 o, .slice A2 ts.length c2, .slice A3 ns.length c3] 25))
  obtain ⟨x0, x1, x2, x3⟩ := roll_cells BK0.out
  clear hI
  go_enter Try.func3, Try.ntmps3
  go_wp2_with fail
  cases ht : thinB ts ns
  · refine (Thin_calls p o A2 c2 ts A3 c3 ns _ HI0.out).mono ?_
    rintro e w1 ⟨rfl, hb⟩
    rw [ht]
    have HB1 := Aside0.mk (below_then HB0.out HB0.out.size hb)
    clear hb
    go_wp2_with fail
    refine (awake_calls _).mono ?_
    rintro e wz ⟨rfl, hb⟩
    have HBz := Aside0.mk (below_then HB1.out HB1.out.size hb)
    clear hb
    go_wp2
    go_ret
    exact ⟨rfl, HBz.out⟩
  obtain ⟨hts, hns, hsz⟩ := thin_facts ht
  have HTS := Aside0.mk hts
  have HNS := Aside0.mk hns
  have HSZ := Aside0.mk hsz
  clear hts hns hsz
  refine (Thin_calls p o A2 c2 ts A3 c3 ns _ HI0.out).mono ?_
  rintro e w1 ⟨rfl, hb⟩
  rw [ht]
  have HB1 := Aside0.mk (below_then HB0.out HB0.out.size hb)
  have HI1 := Aside0.mk (HI0.out.below hb)
  have BK1 := Aside0.mk ((hb.block _ (blk_lt BK0.out)).trans BK0.out)
  clear hb x0 x1 x2 x3 HI0 BK0
  obtain ⟨x0, x1, x2, x3⟩ := roll_cells BK1.out
  go_wp2_with fail
  refine (Roll_calls p o A2 c2 ts A3 c3 ns _ HI1.out HTS.out HNS.out).mono ?_
  rintro e w2 ⟨B12, d12, B13, d13, rfl, ho, hb⟩
  have HO1 := Aside0.mk ho
  clear ho
  have HB2 := Aside0.mk (below_then HB1.out HB1.out.size hb)
  have HI2 := Aside0.mk (HI1.out.below hb)
  have BK2 := Aside0.mk ((hb.block _ (blk_lt BK1.out)).trans BK1.out)
  clear hb x0 x1 x2 x3 HI1 BK1
  obtain ⟨x0, x1, x2, x3⟩ := roll_cells BK2.out
  go_wp2_with fail
  obtain ⟨E, hE⟩ : ∃ E, askedOf p o ts ns off o day = E := ⟨_, rfl⟩
  have hh := holds_asked (p := p) (o := o) (ts := ts) (ns := ns) (off := off) (day := day)
  rw [hE] at hh
  have HE := Aside0.mk hE
  by_cases h0 : E = 0
  case neg =>
    rw [if_neg h0] at hh
    have HH := Aside0.mk hh
    have e1 : (E != 0) = true := bne_iff_ne.mpr h0
    clear hh hE h0
    refine (pHolds_calls p o B12 d12 (ts.map toT) B13 d13 (ns.map toN) _ _ (List.length_map ..) (List.length_map ..) off day _ HO1.out.1 HO1.out.2.1 HO1.out.2.2.1 HO1.out.2.2.2 _ HH.out).mono ?_
    rintro e w3 ⟨AP, cP, rfl, -, -, hb⟩
    simp only [List.length_nil]
    have HB3 := Aside0.mk (below_then HB2.out HB2.out.size hb)
    have HI3 := Aside0.mk (HI2.out.below hb)
    have BK3 := Aside0.mk ((hb.block _ (blk_lt BK2.out)).trans BK2.out)
    clear hb x0 x1 x2 x3 HI2 BK2
    obtain ⟨x0, x1, x2, x3⟩ := roll_cells BK3.out
    go_wp2_with fail
    refine (asked_calls p o A2 c2 ts A3 c3 ns off o day _ HI3.out HTS.out HNS.out HSZ.out).mono ?_
    rintro e w4 ⟨rfl, hb⟩
    rw [HE.out]
    have HB4 := Aside0.mk (below_then HB3.out HB3.out.size hb)
    have HI4 := Aside0.mk (HI3.out.below hb)
    have BK4 := Aside0.mk ((hb.block _ (blk_lt BK3.out)).trans BK3.out)
    clear hb x0 x1 x2 x3 HI3 BK3
    obtain ⟨x0, x1, x2, x3⟩ := roll_cells BK4.out
    go_wp2_with fail
    refine (awake_calls _).mono ?_
    rintro e wz ⟨rfl, hb⟩
    have HBz := Aside0.mk (below_then HB4.out HB4.out.size hb)
    clear hb
    go_wp2
    go_ret
    exact ⟨rfl, HBz.out⟩
  subst h0
  rw [if_pos rfl] at hh
  have HRC := Aside0.mk (asked_zero hE)
  obtain ⟨s, hs⟩ : ∃ s, (heldSpec (ts.map toT) off day).1 = s := ⟨_, rfl⟩
  obtain ⟨l, hl⟩ : ∃ l, trueIdx 0 (heldSpec (ts.map toT) off day).2 = l := ⟨_, rfl⟩
  have hsame := rHolds_same HRC.out.1 HRC.out.2 off day
  have hsr := surely_range HRC.out.1 off day
  have HLN := Aside0.mk (show l.length ≤ 20 by rw [← hl]; exact Nat.le_trans (trueIdx_le _ 0) (by rw [held_len20]; exact Nat.le_refl _))
  rw [hs] at hh hsame hsr
  rw [hl] at hh hsame
  have HH := Aside0.mk hh
  have HSM := Aside0.mk hsame
  have HSR := Aside0.mk hsr
  clear hh hE hs hl hsame hsr
  refine (pHolds_calls p o B12 d12 (ts.map toT) B13 d13 (ns.map toN) _ _ (List.length_map ..) (List.length_map ..) off day _ HO1.out.1 HO1.out.2.1 HO1.out.2.2.1 HO1.out.2.2.2 _ HH.out).mono ?_
  rintro e w3 ⟨AP, cP, rfl, hp1, hp2, hb⟩
  have HP1 := Aside0.mk hp1
  have HP2 := Aside0.mk hp2
  simp only at HP1 HP2
  clear hp1 hp2
  have HB3 := Aside0.mk (below_then HB2.out HB2.out.size hb)
  have HI3 := Aside0.mk (HI2.out.below hb)
  have BK3 := Aside0.mk ((hb.block _ (blk_lt BK2.out)).trans BK2.out)
  clear hb x0 x1 x2 x3 HI2 BK2
  obtain ⟨x0, x1, x2, x3⟩ := roll_cells BK3.out
  go_wp2_with fail
  refine (asked_calls p o A2 c2 ts A3 c3 ns off o day _ HI3.out HTS.out HNS.out HSZ.out).mono ?_
  rintro e w4 ⟨rfl, hb⟩
  rw [HE.out]
  have n_ := Aside0.mk (Kd.C_below HP2.out hb)
  clear HP2
  have HP2 := n_
  clear n_
  have HB4 := Aside0.mk (below_then HB3.out HB3.out.size hb)
  have HI4 := Aside0.mk (HI3.out.below hb)
  have BK4 := Aside0.mk ((hb.block _ (blk_lt BK3.out)).trans BK3.out)
  clear hb x0 x1 x2 x3 HI3 BK3
  obtain ⟨x0, x1, x2, x3⟩ := roll_cells BK4.out
  go_wp2_with fail
  refine (rHolds_calls p o A2 c2 ts A3 c3 ns off day _ HI4.out.1 HTS.out HRC.out.1.p2).mono ?_
  rintro e w5 ⟨AR, cR, rfl, hr1, hr2, hb⟩
  rw [HSM.out] at hr1 hr2 ⊢
  have HR1 := Aside0.mk hr1
  have HR2 := Aside0.mk hr2
  simp only at HR1 HR2
  clear hr1 hr2
  have n_ := Aside0.mk (Kd.C_below HP2.out hb)
  clear HP2
  have HP2 := n_
  clear n_
  have HB5 := Aside0.mk (below_then HB4.out HB4.out.size hb)
  have HI5 := Aside0.mk (HI4.out.below hb)
  have BK5 := Aside0.mk ((hb.block _ (blk_lt BK4.out)).trans BK4.out)
  clear hb x0 x1 x2 x3 HI4 BK4
  obtain ⟨x0, x1, x2, x3⟩ := roll_cells BK5.out
  have hsr := HSR.out
  rcases hsr with rfl | hsr
  case inl =>
    go_wp2_with fail
    refine (palantypelaw05_ints.calls (l.length + 1) AP cP l AR cR l true _ HP2.out HP1.out HR2.out HR1.out (ints_self l (by have := HLN.out; omega))).mono ?_
    rintro e wi ⟨rfl, m9, rfl⟩
    have HBi := Aside0.mk (pw_below_drewN HB5.out m9)
    generalize w5.drewN m9 = wi at HBi ⊢
    go_wp2_with fail
    refine (awake_calls _).mono ?_
    rintro e wz ⟨rfl, hb⟩
    have HBz := Aside0.mk (below_then HBi.out HBi.out.size hb)
    clear hb
    go_wp2
    go_ret
    exact ⟨rfl, HBz.out⟩
  case inr =>
    have e3 : (s == -1) = false := beq_eq_false_iff_ne.mpr (by omega)
    have e4 : decide (s < 0) = false := decide_eq_false (by omega)
    clear hsr
    go_wp2_with fail
    refine (palantypelaw05_ints.calls (l.length + 1) AP cP l AR cR l true _ HP2.out HP1.out HR2.out HR1.out (ints_self l (by have := HLN.out; omega))).mono ?_
    rintro e wi ⟨rfl, m9, rfl⟩
    have HBi := Aside0.mk (pw_below_drewN HB5.out m9)
    generalize w5.drewN m9 = wi at HBi ⊢
    go_wp2_with fail
    refine (awake_calls _).mono ?_
    rintro e wz ⟨rfl, hb⟩
    have HBz := Aside0.mk (below_then HBi.out HBi.out.size hb)
    clear hb
    go_wp2
    go_ret
    exact ⟨rfl, HBz.out⟩
end Go.Proofs.Ythpheknchikodaa.P
