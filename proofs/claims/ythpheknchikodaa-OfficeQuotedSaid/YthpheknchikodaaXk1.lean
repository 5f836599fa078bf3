/- Contracts of functions that the laws reach, part Xk1. Conditions: each theorem names its own. -/
import Derived.Test.YthpheknchikodaaXb6
import Derived.Test.YthpheknchikodaaXb5
import Derived.Test.YthpheknchikodaaXb7
/- The walks of the laws' and the reference's words over texts: short, list, Gap, Remark, texts, stays, words, RightQuote. Conditions: the lists are of bounded length. -/
namespace Go.Proofs.Ythpheknchikodaa.P
open Go.RowKit Go.Proofs.YthpheknchikodaaW.PrintWords Go.Proofs.YthpheknchikodaaW.PrintLast
set_option linter.unusedVariables false
set_option linter.unusedSimpArgs false

theorem drop_rd (l : List ByteArray) (i : Int) (h0 : 0 ≤ i) (h : i < (l.length : Int)) : l.drop i.toNat = rdOf ByteArray.empty l i :: l.drop (i + 1).toNat := by
  have h' : i.toNat < l.length := by omega
  rw [List.drop_eq_getElem_cons h', show (i + 1).toNat = i.toNat + 1 by omega]
  simp only [rdOf, List.getD_eq_getElem?_getD, List.getElem?_eq_getElem h', Option.getD_some]
theorem drop_done {α : Type} (l : List α) (i : Int) (h : ¬ i < (l.length : Int)) : l.drop i.toNat = [] := List.drop_eq_nil_of_le (by omega)
theorem Gap_calls (s : ByteArray) (w : World) : Calls Try.prog 41 #[.string s] w fun e w' => e = .returned (.bool (isGap s)) ∧ w = w' := by
  go_enter Try.func41, Try.ntmps41
  go_wp2
  go_ret
  exact ⟨rfl, rfl⟩
set_option maxHeartbeats 1000000 in
set_option maxRecDepth 100000 in
theorem rRemark_calls (s : ByteArray) (w : World) (hs : s.size ≤ 9223372036854775807) :
    Calls Try.prog 42 #[.string s] w fun e w' => e = .returned (.bool (isRemark s)) ∧ w = w' := by
  by_cases h : 3 ≤ s.size
  case neg =>
    have h1 : decide ((3 : Int) ≤ (s.size : Int)) = false := decide_eq_false (by omega)
    have h2 : decide (3 ≤ s.size) = false := decide_eq_false h
    have HE := Aside0.mk (show isRemark s = false by unfold isRemark; rw [h2, Bool.false_and])
    clear h
    go_enter Try.func42, Try.ntmps42
    go_wp2
    go_ret
    exact ⟨by rw [HE.out]; rfl, rfl⟩
  case pos =>
    have h1 : decide ((3 : Int) ≤ (s.size : Int)) = true := decide_eq_true (by omega)
    have h2 : decide (3 ≤ s.size) = true := decide_eq_true h
    have hb0 : ∀ h : 0 < s.size, ((s[0]'h).toNat : Int) = bt s 0 := fun h => bt_at s 0 h
    have hb1 : ∀ h : s.size - 1 < s.size, ((s[s.size - 1]'h).toNat : Int) = bt s ((s.size : Int) - 1) := fun h => by
      have h2 : ((s.size : Int) - 1).toNat = s.size - 1 := by omega
      rw [← bt_at s ((s.size : Int) - 1) (by omega)]
      simp only [h2]
    have p0 : (0 : Int) < (s.size : Int) := by omega
    have p1 : 0 ≤ (s.size : Int) - 1 := by omega
    have p2 : (s.size : Int) - 1 < (s.size : Int) := by omega
    have p3 : 0 < s.size := by omega
    cases h3 : bt s 0 == 91
    · have HE := Aside0.mk (show isRemark s = false by unfold isRemark; rw [h3]; simp)
      clear h
      go_enter Try.func42, Try.ntmps42
      go_wp2
      go_ret
      exact ⟨by rw [HE.out]; rfl, rfl⟩
    · have HE := Aside0.mk (show isRemark s = (bt s ((s.size : Int) - 1) == 93) by unfold isRemark; rw [h3, h2]; simp)
      clear h
      go_enter Try.func42, Try.ntmps42
      go_wp2
      go_ret
      exact ⟨by rw [HE.out]; rfl, rfl⟩
set_option maxHeartbeats 2000000 in
set_option maxRecDepth 100000 in
theorem listR_calls (A : Option Addr) (c : Nat) (l : List ByteArray) (w : World) (hr : Kd.C Kd.string w A l.length l) (hm : l.length ≤ 8796093022208) :
    Calls Try.prog 36 #[.slice A l.length c] w fun e w' => ∃ v : Value, e = .returned v ∧ Kd.R Kd.string 9 w' w.heap.size (fun _ => True) v l ∧ Below w.heap.size w w' := by
  have HR := Aside0.mk hr
  have HM := Aside0.mk hm
  clear hr hm
  go_enter Try.func36, Try.ntmps36
  go_wp2_with ((with_reducible refine gate_builtin (b := .append) (xs := #[.const (.slice none 0 0), .tmp 3]) rfl ?_); at_builtin; refine Kd.R_append_rows Kd.string (w0 := w) w.heap.size rfl (.const (.slice none 0 0)) (.tmp 3) 73 9 (.string ⟨#[]⟩) 16 rfl Try.underlying73 info9 rfl (by decide) (by omega) (.slice none 0 0) [] l _ _ _ (fun _ => True) (fun _ => False) rfl rfl ?bO ?bR (fun _ _ h => h) (fun _ h => h.elim) ?bF ?bB ?bS ?bL ?_; (case bR => exact HR.out); (case bB => exact Below.refl _ _); (case bF => exact (fun _ _ => trivial)); (case bO => exact Kd.R_nil _ _ _ _ _); (case bS => exact Nat.le_refl _); (case bL => have := HM.out; simp; omega); intro v6 w6 ho hb hg hat; rw [List.nil_append] at ho; have HO := Aside0.mk ho; have HB := Aside0.mk hb; clear ho hb hg hat)
  go_ret
  exact ⟨_, rfl, HO.out, HB.out⟩
theorem list_calls (A : Option Addr) (c : Nat) (l : List ByteArray) (w : World) (hr : Kd.C Kd.string w A l.length l) (hm : l.length ≤ 8796093022208) :
    Calls Try.prog 36 #[.slice A l.length c] w fun e w' => ∃ (A' : Option Addr) (c' : Nat), e = .returned (.slice A' l.length c') ∧ l.length ≤ c' ∧ Kd.C Kd.string w' A' l.length l ∧ Below w.heap.size w w' := by
  refine (listR_calls A c l w hr hm).mono ?_
  rintro e w' ⟨v, rfl, ho, hb⟩
  obtain ⟨A', c', e6⟩ := Kd.R_slice ho
  subst e6
  exact ⟨A', c', rfl, (Kd.R_reads' ho).2.1, (Kd.R_reads' ho).2.2, hb⟩
/-- At most 90 texts, each of at most 40 bytes? -/
def shortB (l : List ByteArray) : Bool := (l.all fun s => decide (s.size ≤ 40)) && decide (l.length ≤ 90)
set_option maxHeartbeats 2000000 in
set_option maxRecDepth 100000 in
theorem short_calls (A : Option Addr) (c : Nat) (l : List ByteArray) (w : World) (hr : Kd.C Kd.string w A l.length l) (hm : l.length ≤ 8796093022208) :
    Calls Try.prog 34 #[.slice A l.length c] w fun e w' => e = .returned (.bool (shortB l)) ∧ w = w' := by
  have HR := Aside0.mk hr
  have HM := Aside0.mk hm
  clear hr hm
  obtain ⟨R, hR⟩ : ∃ R, shortB l = R := ⟨_, rfl⟩
  rw [hR]
  have HS := Aside0.mk (show (((l.drop (0 : Int).toNat).all fun s => decide (s.size ≤ 40)) && decide (l.length ≤ 90)) = R from hR)
  clear hR
  go_enter Try.func34, Try.ntmps34
  go_wp2
  go_loopg [3] l.length (fun kq v3 w' => ∃ i : Int, v3 = .int .i64 i ∧ Aside0 (0 ≤ i ∧ kq + i.toNat = l.length) ∧ Aside0 ((((l.drop i.toNat).all fun s => decide (s.size ≤ 40)) && decide (l.length ≤ 90)) = R) ∧ w = w')
  case atStart => exact ⟨0, rfl, ⟨by simp⟩, HS, rfl⟩
  case round =>
    clear HS
    obtain ⟨i, rfl, HK, HI, rfl⟩ := hrel
    rename World => W1
    by_cases hlt : i < (l.length : Int)
    case pos =>
      have c0 : decide (i < (l.length : Int)) = true := decide_eq_true hlt
      have p1 : 0 ≤ i := HK.out.1
      obtain ⟨ad, hA, h0⟩ := Kd.at_string HR.out i p1 hlt
      cases hA
      have he := HI.out
      rw [drop_rd l i p1 hlt, List.all_cons] at he
      have HLT := Aside0.mk hlt
      have HW := Aside0.mk (show wrap64 (i + 1) = i + 1 by unfold wrap64; have := HK.out; have := HM.out; omega)
      replace p1 := eq_true p1
      replace hlt := eq_true hlt
      clear HI
      by_cases hs : (rdOf ByteArray.empty l i).size ≤ 40
      case pos =>
        have e1 : decide ((40 : Int) < ((rdOf ByteArray.empty l i).size : Int)) = false := decide_eq_false (by omega)
        rw [decide_eq_true hs, Bool.true_and] at he
        have HE := Aside0.mk he
        clear he hs
        go_wp2
        go_roundg (gk - 1)
        case measure => have := HK.out; have := HLT.out; omega
        case rel => exact ⟨i + 1, by first | rfl | rw [HW.out], ⟨by have := HK.out; have := HLT.out; omega⟩, HE, rfl⟩
      case neg =>
        have e1 : decide ((40 : Int) < ((rdOf ByteArray.empty l i).size : Int)) = true := decide_eq_true (by omega)
        rw [decide_eq_false hs, Bool.false_and, Bool.false_and] at he
        subst he
        clear hs
        go_wp2
        go_ret
        exact ⟨rfl, rfl⟩
    case neg =>
      have c0 : decide (i < (l.length : Int)) = false := decide_eq_false hlt
      have he := HI.out
      rw [drop_done l i hlt] at he
      clear hlt HI
      rw [List.all_nil, Bool.true_and] at he
      have e2 : decide ((l.length : Int) ≤ 90) = R := by rw [← he, Bool.eq_iff_iff]; simp; omega
      have e3 : decide (l.length ≤ 90) = R := he
      clear he
      go_wp2
      go_ret
      exact ⟨rfl, rfl⟩
set_option maxHeartbeats 2000000 in
set_option maxRecDepth 100000 in
theorem stays_calls (A : Option Addr) (c : Nat) (l : List ByteArray) (s : ByteArray) (w : World) (hr : Kd.C Kd.string w A l.length l) (hm : l.length ≤ 1000000) :
    Calls Try.prog 68 #[.slice A l.length c, .string s] w fun e w' => e = .returned (.bool (hasText l s)) ∧ w = w' := by
  have HR := Aside0.mk hr
  have HM := Aside0.mk hm
  clear hr hm
  obtain ⟨R, hR⟩ : ∃ R, hasText l s = R := ⟨_, rfl⟩
  rw [hR]
  have HS := Aside0.mk (show ((l.drop (0 : Int).toNat).any fun x => s.toList == x.toList) = R from hR)
  clear hR
  go_enter Try.func68, Try.ntmps68
  go_wp2
  go_loopg [5] l.length (fun kq v5 w' => ∃ i : Int, v5 = .int .i64 i ∧ Aside0 (0 ≤ i ∧ kq + i.toNat = l.length) ∧ Aside0 (((l.drop i.toNat).any fun x => s.toList == x.toList) = R) ∧ w = w')
  case atStart => exact ⟨0, rfl, ⟨by simp⟩, HS, rfl⟩
  case round =>
    clear HS
    obtain ⟨i, rfl, HK, HI, rfl⟩ := hrel
    rename World => W1
    by_cases hlt : i < (l.length : Int)
    case pos =>
      have c0 : decide (i < (l.length : Int)) = true := decide_eq_true hlt
      have p1 : 0 ≤ i := HK.out.1
      obtain ⟨ad, hA, h0⟩ := Kd.at_string HR.out i p1 hlt
      cases hA
      have he := HI.out
      rw [drop_rd l i p1 hlt, List.any_cons] at he
      have HLT := Aside0.mk hlt
      have HW := Aside0.mk (show wrap64 (i + 1) = i + 1 by unfold wrap64; have := HK.out; have := HM.out; omega)
      replace p1 := eq_true p1
      replace hlt := eq_true hlt
      clear HI
      cases hp : s.toList == (rdOf ByteArray.empty l i).toList
      case false =>
        rw [hp, Bool.false_or] at he
        have HE := Aside0.mk he
        have hp1 : ((rdOf ByteArray.empty l i).toList == s.toList) = false := by rw [BEq.comm]; exact hp
        have hp2 : ((rdOf ByteArray.empty l i).toList = s.toList) = False := by simpa using hp1
        have hp3 : (s.toList = (rdOf ByteArray.empty l i).toList) = False := by simpa using hp
        clear he
        go_wp2
        go_roundg (gk - 1)
        case measure => have := HK.out; have := HLT.out; omega
        case rel => exact ⟨i + 1, by first | rfl | rw [HW.out], ⟨by have := HK.out; have := HLT.out; omega⟩, HE, rfl⟩
      case true =>
        rw [hp, Bool.true_or] at he
        subst he
        have hp1 : ((rdOf ByteArray.empty l i).toList == s.toList) = true := by rw [BEq.comm]; exact hp
        have hp2 : ((rdOf ByteArray.empty l i).toList = s.toList) = True := by simpa using hp1
        have hp3 : (s.toList = (rdOf ByteArray.empty l i).toList) = True := by simpa using hp
        go_wp2
        go_ret
        exact ⟨rfl, rfl⟩
    case neg =>
      have c0 : decide (i < (l.length : Int)) = false := decide_eq_false hlt
      have he := HI.out
      rw [drop_done l i hlt] at he
      clear hlt HI
      rw [List.any_nil] at he
      subst he
      go_wp2
      go_ret
      exact ⟨rfl, rfl⟩
/-- From low to high texts, each right? -/
def textsB (l : List ByteArray) (lo hi : Int) : Bool := l.all wordOk && withinB l.length lo hi
theorem mem_rd {l : List ByteArray} {i : Int} (h0 : 0 ≤ i) (h : i < (l.length : Int)) : rdOf ByteArray.empty l i ∈ l := by
  have h' : i.toNat < l.length := by omega
  simp only [rdOf, List.getD_eq_getElem?_getD, List.getElem?_eq_getElem h', Option.getD_some]
  exact List.getElem_mem h'
set_option maxHeartbeats 2000000 in
set_option maxRecDepth 100000 in
theorem texts_calls (A : Option Addr) (c : Nat) (l : List ByteArray) (lo hi : Int) (w : World) (hr : Kd.C Kd.string w A l.length l) (hm : l.length ≤ 1000000) (hsz : ∀ s ∈ l, s.size ≤ 1000000) :
    Calls Try.prog 67 #[.slice A l.length c, .int .i64 lo, .int .i64 hi] w fun e w' => e = .returned (.bool (textsB l lo hi)) ∧ Below w.heap.size w w' := by
  have HSZ := Aside0.mk hsz
  clear hsz
  have HR := Aside0.mk hr
  have HM := Aside0.mk hm
  clear hr hm
  obtain ⟨R, hR⟩ : ∃ R, textsB l lo hi = R := ⟨_, rfl⟩
  rw [hR]
  have HS := Aside0.mk (show ((l.drop (0 : Int).toNat).all wordOk && withinB l.length lo hi) = R from hR)
  clear hR
  go_enter Try.func67, Try.ntmps67
  go_wp2
  go_loopg [7] l.length (fun kq v7 w' => ∃ i : Int, v7 = .int .i64 i ∧ Aside0 (0 ≤ i ∧ kq + i.toNat = l.length) ∧ Aside0 (((l.drop i.toNat).all wordOk && withinB l.length lo hi) = R) ∧ Aside0 (Below w.heap.size w w'))
  case atStart => exact ⟨0, rfl, ⟨by simp⟩, HS, ⟨Below.refl _ _⟩⟩
  case round =>
    clear HS
    obtain ⟨i, rfl, HK, HI, HB⟩ := hrel
    rename World => W1
    by_cases hlt : i < (l.length : Int)
    case pos =>
      have c0 : decide (i < (l.length : Int)) = true := decide_eq_true hlt
      have p1 : 0 ≤ i := HK.out.1
      obtain ⟨ad, hA, h0⟩ := Kd.at_string (Kd.C_below HR.out HB.out) i p1 hlt
      cases hA
      have he := HI.out
      rw [drop_rd l i p1 hlt, List.all_cons] at he
      have HLT := Aside0.mk hlt
      have HW := Aside0.mk (show wrap64 (i + 1) = i + 1 by unfold wrap64; have := HK.out; have := HM.out; omega)
      replace p1 := eq_true p1
      replace hlt := eq_true hlt
      clear HI
      have HQ := Aside0.mk (HSZ.out _ (mem_rd (of_eq_true p1) (of_eq_true hlt)))
      go_wp2_with fail
      refine (Text_calls _ 33 HQ.out _).mono ?_
      rintro e w2 ⟨rfl, hb⟩
      have HB2 := Aside0.mk (below_then HB.out HB.out.size hb)
      clear hb h0 HB
      cases hp : textOk 33 (rdOf ByteArray.empty l i)
      case true =>
        rw [show wordOk (rdOf ByteArray.empty l i) = true from hp, Bool.true_and] at he
        have HE := Aside0.mk he
        clear he
        go_wp2
        go_roundg (gk - 1)
        case measure => have := HK.out; have := HLT.out; omega
        case rel => exact ⟨i + 1, by first | rfl | rw [HW.out], ⟨by have := HK.out; have := HLT.out; omega⟩, HE, HB2⟩
      case false =>
        rw [show wordOk (rdOf ByteArray.empty l i) = false from hp, Bool.false_and, Bool.false_and] at he
        subst he
        go_wp2
        go_ret
        exact ⟨rfl, HB2.out⟩
    case neg =>
      have c0 : decide (i < (l.length : Int)) = false := decide_eq_false hlt
      have he := HI.out
      rw [drop_done l i hlt] at he
      clear hlt HI
      rw [List.all_nil, Bool.true_and] at he
      go_wp2_with fail
      refine (In_calls _ _ _ _).mono ?_
      rintro e w2 ⟨rfl, rfl⟩
      rw [he]
      go_wp2
      go_ret
      exact ⟨rfl, HB.out⟩
/-- How many texts of a quotation have a place. -/
def wordsN : List ByteArray → Int
  | [] => 0
  | s :: l => (if isGap s = true then 0 else 1) + wordsN l
theorem wordsN_bd (l : List ByteArray) : 0 ≤ wordsN l ∧ wordsN l ≤ l.length := by
  induction l with
  | nil => simp [wordsN]
  | cons s l ih => rw [wordsN, List.length_cons]; split <;> omega
set_option maxHeartbeats 2000000 in
set_option maxRecDepth 100000 in
theorem words_calls (A : Option Addr) (c : Nat) (l : List ByteArray) (w : World) (hr : Kd.C Kd.string w A l.length l) (hm : l.length ≤ 1000000) :
    Calls Try.prog 69 #[.slice A l.length c] w fun e w' => e = .returned (.int .i64 (wordsN l)) ∧ w = w' := by
  have HR := Aside0.mk hr
  have HM := Aside0.mk hm
  clear hr hm
  obtain ⟨R, hR⟩ : ∃ R, wordsN l = R := ⟨_, rfl⟩
  rw [hR]
  have HS := Aside0.mk (show (0 : Int) + wordsN (l.drop (0 : Int).toNat) = R ∧ (0 : Int) ≤ 0 ∧ (0 : Int) ≤ 0 from ⟨by rw [← hR, Int.zero_add]; rfl, Int.le_refl _, Int.le_refl _⟩)
  clear hR
  go_enter Try.func69, Try.ntmps69
  go_wp2
  go_loopg [3, 4] l.length (fun kq v3 v4 w' => ∃ i n : Int, v4 = .int .i64 i ∧ v3 = .int .i64 n ∧ Aside0 (0 ≤ i ∧ kq + i.toNat = l.length) ∧ Aside0 (n + wordsN (l.drop i.toNat) = R ∧ 0 ≤ n ∧ n ≤ i) ∧ w = w')
  case atStart => exact ⟨0, 0, rfl, rfl, ⟨by simp⟩, HS, rfl⟩
  case round =>
    clear HS
    obtain ⟨i, n, rfl, rfl, HK, HI, rfl⟩ := hrel
    rename World => W1
    by_cases hlt : i < (l.length : Int)
    case pos =>
      have c0 : decide (i < (l.length : Int)) = true := decide_eq_true hlt
      have p1 : 0 ≤ i := HK.out.1
      obtain ⟨ad, hA, h0⟩ := Kd.at_string HR.out i p1 hlt
      cases hA
      have he := HI.out
      rw [drop_rd l i p1 hlt, wordsN] at he
      have HLT := Aside0.mk hlt
      have HW := Aside0.mk (show wrap64 (i + 1) = i + 1 by unfold wrap64; have := HK.out; have := HM.out; omega)
      replace p1 := eq_true p1
      replace hlt := eq_true hlt
      clear HI
      have HWN := Aside0.mk (show wrap64 (n + 1) = n + 1 by unfold wrap64; have := HK.out; have := HM.out; have := he.2; have := HLT.out; omega)
      go_wp2_with fail
      refine (Gap_calls _ _).mono ?_
      rintro e w2 ⟨rfl, rfl⟩
      cases hp : isGap (rdOf ByteArray.empty l i)
      case true =>
        rw [if_pos hp, Int.zero_add] at he
        have HE := Aside0.mk (show n + wordsN (l.drop (i + 1).toNat) = R ∧ 0 ≤ n ∧ n ≤ i + 1 from ⟨he.1, he.2.1, by omega⟩)
        clear he
        go_wp2
        go_roundg (gk - 1)
        case measure => have := HK.out; have := HLT.out; omega
        case rel => exact ⟨i + 1, n, by first | rfl | rw [HW.out], rfl, ⟨by have := HK.out; have := HLT.out; omega⟩, HE, rfl⟩
      case false =>
        rw [if_neg (by rw [hp]; exact Bool.false_ne_true), ← Int.add_assoc] at he
        have HE := Aside0.mk (show n + 1 + wordsN (l.drop (i + 1).toNat) = R ∧ 0 ≤ n + 1 ∧ n + 1 ≤ i + 1 from ⟨he.1, by omega, by omega⟩)
        clear he
        go_wp2
        go_roundg (gk - 1)
        case measure => have := HK.out; have := HLT.out; omega
        case rel => exact ⟨i + 1, n + 1, by first | rfl | rw [HW.out], by first | rfl | rw [HWN.out], ⟨by have := HK.out; have := HLT.out; omega⟩, HE, rfl⟩
    case neg =>
      have c0 : decide (i < (l.length : Int)) = false := decide_eq_false hlt
      have he := HI.out
      rw [drop_done l i hlt] at he
      clear hlt HI
      rw [wordsN, Int.add_zero] at he
      obtain ⟨rfl, -, -⟩ := he
      go_wp2
      go_ret
      exact ⟨rfl, rfl⟩
/-- Are paper, quotation and what must stay as described, and has the quotation a word? -/
def rightQB (paper quotation kept : List ByteArray) : Bool := (quotation.any fun s => !isGap s) && (textsB paper 1 80 && (textsB quotation 1 80 && textsB kept 0 20))
set_option maxHeartbeats 2000000 in
set_option maxRecDepth 100000 in
theorem RightQuote_calls (AP : Option Addr) (cp : Nat) (paper : List ByteArray) (A : Option Addr) (c : Nat) (l : List ByteArray) (AT : Option Addr) (ct : Nat) (kept : List ByteArray) (w : World) (hp : Kd.C Kd.string w AP paper.length paper) (hr : Kd.C Kd.string w A l.length l) (ht : Kd.C Kd.string w AT kept.length kept)
    (hpm : paper.length ≤ 1000000) (hm : l.length ≤ 1000000) (htm : kept.length ≤ 1000000) (hps : ∀ s ∈ paper, s.size ≤ 1000000) (hqs : ∀ s ∈ l, s.size ≤ 1000000) (hts : ∀ s ∈ kept, s.size ≤ 1000000) :
    Calls Try.prog 38 #[.slice AP paper.length cp, .slice A l.length c, .slice AT kept.length ct] w fun e w' => e = .returned (.bool (rightQB paper l kept)) ∧ Below w.heap.size w w' := by
  have HP := Aside0.mk hp
  have HT := Aside0.mk ht
  have HPL := Aside0.mk hpm
  have HTL := Aside0.mk htm
  have HPS := Aside0.mk hps
  have HQS := Aside0.mk hqs
  have HTS := Aside0.mk hts
  clear hp ht hpm htm hps hqs hts
  have HR := Aside0.mk hr
  have HM := Aside0.mk hm
  clear hr hm
  obtain ⟨R, hR⟩ : ∃ R, rightQB paper l kept = R := ⟨_, rfl⟩
  rw [hR]
  have HS := Aside0.mk (show (((l.drop (0 : Int).toNat).any fun s => !isGap s) && (textsB paper 1 80 && (textsB l 1 80 && textsB kept 0 20))) = R from hR)
  clear hR
  go_enter Try.func38, Try.ntmps38
  go_wp2
  go_loopg [7] l.length (fun kq v7 w' => ∃ i : Int, v7 = .int .i64 i ∧ Aside0 (0 ≤ i ∧ kq + i.toNat = l.length) ∧ Aside0 ((((l.drop i.toNat).any fun s => !isGap s) && (textsB paper 1 80 && (textsB l 1 80 && textsB kept 0 20))) = R) ∧ w = w')
  case atStart => exact ⟨0, rfl, ⟨by simp⟩, HS, rfl⟩
  case round =>
    clear HS
    obtain ⟨i, rfl, HK, HI, rfl⟩ := hrel
    rename World => W1
    by_cases hlt : i < (l.length : Int)
    case pos =>
      have c0 : decide (i < (l.length : Int)) = true := decide_eq_true hlt
      have p1 : 0 ≤ i := HK.out.1
      obtain ⟨ad, hA, h0⟩ := Kd.at_string HR.out i p1 hlt
      cases hA
      have he := HI.out
      rw [drop_rd l i p1 hlt, List.any_cons] at he
      have HLT := Aside0.mk hlt
      have HW := Aside0.mk (show wrap64 (i + 1) = i + 1 by unfold wrap64; have := HK.out; have := HM.out; omega)
      replace p1 := eq_true p1
      replace hlt := eq_true hlt
      clear HI
      cases hp : isGap (rdOf ByteArray.empty l i)
      case true =>
        rw [hp, Bool.not_true, Bool.false_or] at he
        have HE := Aside0.mk he
        clear he
        go_wp2_with (go_at_call 41; (with_reducible refine (Gap_calls _ _).mono ?_); rintro e w2 ⟨rfl, rfl⟩; rw [hp])
        go_roundg (gk - 1)
        case measure => have := HK.out; have := HLT.out; omega
        case rel => exact ⟨i + 1, by first | rfl | rw [HW.out], ⟨by have := HK.out; have := HLT.out; omega⟩, HE, rfl⟩
      case false =>
        rw [hp, Bool.not_false, Bool.true_or, Bool.true_and] at he
        go_wp2_with (go_at_call 41; (with_reducible refine (Gap_calls _ _).mono ?_); rintro e w2 ⟨rfl, rfl⟩; rw [hp])
        clear h0
        cases c1 : textsB paper 1 80
        case false =>
          rw [c1, Bool.false_and] at he
          subst he
          refine (texts_calls _ _ paper 1 80 _ HP.out HPL.out HPS.out).mono ?_
          rintro e w2 ⟨rfl, hb⟩
          rw [c1]
          have HB := Aside0.mk hb
          clear hb
          go_wp2
          go_ret
          exact ⟨rfl, HB.out⟩
        case true =>
          rw [c1, Bool.true_and] at he
          refine (texts_calls _ _ paper 1 80 _ HP.out HPL.out HPS.out).mono ?_
          rintro e w2 ⟨rfl, hb⟩
          rw [c1]
          have HB := Aside0.mk hb
          clear hb
          go_wp2_with fail
          cases c2 : textsB l 1 80
          case false =>
            rw [c2, Bool.false_and] at he
            subst he
            refine (texts_calls _ _ l 1 80 _ (Kd.C_below HR.out HB.out) HM.out HQS.out).mono ?_
            rintro e w3 ⟨rfl, hb⟩
            rw [c2]
            have HB2 := Aside0.mk (below_then HB.out HB.out.size hb)
            clear hb
            go_wp2
            go_ret
            exact ⟨rfl, HB2.out⟩
          case true =>
            rw [c2, Bool.true_and] at he
            refine (texts_calls _ _ l 1 80 _ (Kd.C_below HR.out HB.out) HM.out HQS.out).mono ?_
            rintro e w3 ⟨rfl, hb⟩
            rw [c2]
            have HB2 := Aside0.mk (below_then HB.out HB.out.size hb)
            clear hb
            go_wp2_with fail
            refine (texts_calls _ _ kept 0 20 _ (Kd.C_below HT.out HB2.out) HTL.out HTS.out).mono ?_
            rintro e w4 ⟨rfl, hb⟩
            rw [he]
            have HB3 := Aside0.mk (below_then HB2.out HB2.out.size hb)
            clear hb
            go_wp2
            go_ret
            exact ⟨rfl, HB3.out⟩
    case neg =>
      have c0 : decide (i < (l.length : Int)) = false := decide_eq_false hlt
      have he := HI.out
      rw [drop_done l i hlt] at he
      clear hlt HI
      rw [List.any_nil, Bool.false_and] at he
      subst he
      go_wp2
      go_ret
      exact ⟨rfl, Below.refl _ _⟩
end Go.Proofs.Ythpheknchikodaa.P

/- The walk of ProveQuote: does a quotation fit at places? Conditions: the lists are readable, of bounded length. -/
namespace Go.Proofs.Ythpheknchikodaa.P
open Go.RowKit Go.Proofs.YthpheknchikodaaW.PrintWords Go.Proofs.YthpheknchikodaaW.PrintLast
set_option linter.unusedVariables false
set_option linter.unusedSimpArgs false

/-- May the pieces from n on have these places, behind that of the piece before? -/
def provesFrom (paper kept : List ByteArray) (pieces : List S157) : Int → Int → List Int → Bool
  | _, _, [] => true
  | n, last, a :: l => mayB paper kept pieces n last a && provesFrom paper kept pieces (n + 1) a l
def proveQB (paper quotation kept : List ByteArray) (places : List Int) : Bool :=
  quoteOk paper quotation kept && (decide (0 < (piecesOf quotation).length) && (decide (places.length = (piecesOf quotation).length) && provesFrom paper kept (piecesOf quotation) 0 (-1) places))
theorem drop_int (l : List Int) (i : Int) (h0 : 0 ≤ i) (h : i < (l.length : Int)) : l.drop i.toNat = rd l i :: l.drop (i + 1).toNat := by
  have h' : i.toNat < l.length := by omega
  rw [List.drop_eq_getElem_cons h', show (i + 1).toNat = i.toNat + 1 by omega]
  simp only [rd, List.getD_eq_getElem?_getD, List.getElem?_eq_getElem h', Option.getD_some]
theorem may_ge {paper kept : List ByteArray} {pieces : List S157} {n last at_ : Int} (h : mayB paper kept pieces n last at_ = true) : 0 ≤ at_ ∧ at_ < (paper.length : Int) := by
  unfold mayB withinB at h
  simp at h
  omega
set_option maxHeartbeats 4000000 in
set_option maxRecDepth 100000 in
theorem ProveQuote_calls (A0 : Option Addr) (c0 : Nat) (paper : List ByteArray) (A1 : Option Addr) (c1 : Nat) (quotation : List ByteArray) (A2 : Option Addr) (c2 : Nat) (kept : List ByteArray) (A3 : Option Addr) (c3 : Nat) (places : List Int) (w : World)
    (h0 : Kd.C Kd.string w A0 paper.length paper) (hc0 : paper.length ≤ c0) (h1 : Kd.C Kd.string w A1 quotation.length quotation) (h2 : Kd.C Kd.string w A2 kept.length kept) (h3 : Kd.C (Kd.int .i64) w A3 places.length places) (hm : places.length ≤ 1000000) :
    Calls Try.prog 37 #[.slice A0 paper.length c0, .slice A1 quotation.length c1, .slice A2 kept.length c2, .slice A3 places.length c3] w fun e w' => e = .returned (.bool (proveQB paper quotation kept places)) ∧ Below w.heap.size w w' := by
  have HR0 := Aside0.mk h0
  have HR1 := Aside0.mk h1
  have HR2 := Aside0.mk h2
  have HR3 := Aside0.mk h3
  have HC0 := Aside0.mk hc0
  have HM := Aside0.mk hm
  have hu134 := Try.underlying134
  clear h0 h1 h2 h3 hc0 hm
  obtain ⟨R, hR⟩ : ∃ R, proveQB paper quotation kept places = R := ⟨_, rfl⟩
  rw [hR]
  unfold proveQB at hR
  cases hok : quoteOk paper quotation kept
  case false =>
    rw [hok, Bool.false_and] at hR
    subst hR
    go_enter Try.func37, Try.ntmps37
    go_wp2_with fail
    refine (quote_bad paper quotation kept A0 c0 A1 c1 A2 c2 _ HR0.out HR1.out HR2.out hok).mono ?_
    rintro e w1 ⟨rfl, hb⟩
    have HB := Aside0.mk hb
    clear hb
    go_wp2
    go_ret
    exact ⟨rfl, HB.out⟩
  rw [hok, Bool.true_and] at hR
  have HOK := Aside0.mk hok
  clear hok
  go_enter Try.func37, Try.ntmps37
  go_wp2_with fail
  refine (quote_good paper quotation kept A0 c0 A1 c1 A2 c2 _ HR0.out HR1.out HR2.out HOK.out).mono ?_
  rintro e w1 ⟨qb, Aq, cq, rfl, hx, ho, hb⟩
  by_cases hl : 0 < (piecesOf quotation).length
  case neg =>
    rw [decide_eq_false hl, Bool.false_and] at hR
    subst hR
    rw [decide_eq_false hl]
    have HB := Aside0.mk hb
    clear hb hl hx ho
    go_wp2
    go_ret
    exact ⟨rfl, HB.out⟩
  rw [decide_eq_true hl, Bool.true_and] at hR
  rw [decide_eq_true hl]
  obtain ⟨q1, q2, q3, q4, q5, q6⟩ := quoteOk_facts HOK.out
  have HQ5 := Aside0.mk q5
  have HQL := Aside0.mk (show paper.length ≤ 1000000 ∧ kept.length ≤ 1000000 by omega)
  obtain ⟨ps, hps⟩ : ∃ ps, piecesOf quotation = ps := ⟨_, rfl⟩
  rw [hps] at hR hx ho HQ5 hl
  have HX := Aside0.mk hx
  have HPC := Aside0.mk (Kd.R_reads' ho).2.2
  have HB := Aside0.mk hb
  have x2 := (blk_cell (show w1.heap[qb]? = some (.cells #[.slice A0 paper.length c0, .slice A2 kept.length c2, .slice Aq ps.length cq] 134 (0, 0)) from hx) 2).trans (show _ = some (Value.slice Aq ps.length cq) from rfl)
  clear hb hx ho q1 q2 q3 q4 q5 q6 hps hl
  by_cases hlen : places.length = ps.length
  case neg =>
    rw [decide_eq_false hlen, Bool.false_and] at hR
    subst hR
    have e1 : ((places.length : Int) != (ps.length : Int)) = true := bne_iff_ne.mpr (by omega)
    clear hlen
    go_wp2
    go_ret
    exact ⟨rfl, HB.out⟩
  rw [decide_eq_true hlen, Bool.true_and] at hR
  have e1 : ((places.length : Int) != (ps.length : Int)) = false := bne_eq_false_iff_eq.mpr (by omega)
  have HLEN := Aside0.mk hlen
  have HS := Aside0.mk (show provesFrom paper kept ps 0 (-1) (places.drop (0 : Int).toNat) = R from hR)
  clear hlen hR
  go_wp2
  clear x2 e1
  go_loopg [11, 35] places.length (fun kq v11 v35 w' => ∃ i last : Int, v35 = .int .i64 i ∧ v11 = .int .i64 last ∧ Aside0 (0 ≤ i ∧ kq + i.toNat = places.length) ∧ Aside0 (-1 ≤ last) ∧ Aside0 (provesFrom paper kept ps i last (places.drop i.toNat) = R) ∧ Aside0 (Below w.heap.size w w') ∧ Aside0 (Below w1.heap.size w1 w'))
  case atStart => exact ⟨0, -1, rfl, rfl, ⟨by simp⟩, ⟨by omega⟩, HS, HB, ⟨Below.refl _ _⟩⟩
  case round =>
    clear HS HB
    obtain ⟨i, last, rfl, rfl, HK, HLA, HI, HB, HB1⟩ := hrel
    rename World => W1
    by_cases hlt : i < (places.length : Int)
    case pos =>
      have t0 : decide (i < (places.length : Int)) = true := decide_eq_true hlt
      have p1 : 0 ≤ i := HK.out.1
      obtain ⟨ad, hA, h0⟩ := Kd.at_int (Kd.C_below HR3.out HB.out) i p1 hlt
      cases hA
      have he := HI.out
      rw [drop_int places i p1 hlt, provesFrom] at he
      have HLT := Aside0.mk hlt
      have HW := Aside0.mk (show wrap64 (i + 1) = i + 1 by unfold wrap64; have := HK.out; have := HM.out; omega)
      replace p1 := eq_true p1
      replace hlt := eq_true hlt
      clear HI
      go_wp2_with fail
      refine (may_calls qb A0 c0 paper A2 c2 kept Aq cq ps i last (rd places i) _ ((HB1.out.block _ (blk_lt HX.out)).trans HX.out) (Kd.C_below HR0.out HB.out) HC0.out (Kd.C_below HR2.out HB.out) (Kd.C_below HPC.out HB1.out) HK.out.1 (by have := HLEN.out; have := HLT.out; omega) HLA.out (Nat.le_trans (HQ5.out i) (by decide)) HQL.out.1 HQL.out.2).mono ?_
      rintro e w2 ⟨rfl, hb⟩
      have HB2 := Aside0.mk (below_then HB.out HB.out.size hb)
      have HB3 := Aside0.mk (below_then HB1.out HB1.out.size hb)
      clear hb h0 HB HB1
      cases hp : mayB paper kept ps i last (rd places i)
      case false =>
        rw [hp, Bool.false_and] at he
        subst he
        go_wp2
        go_ret
        exact ⟨rfl, HB2.out⟩
      case true =>
        rw [hp, Bool.true_and] at he
        have HE := Aside0.mk he
        have HGE := Aside0.mk (may_ge hp).1
        clear he hp
        go_wp2
        go_roundg (gk - 1)
        case measure => have := HK.out; have := HLT.out; omega
        case rel => exact ⟨i + 1, rd places i, by first | rfl | rw [HW.out], rfl, ⟨by have := HK.out; have := HLT.out; omega⟩, ⟨by have := HGE.out; omega⟩, HE, HB2, HB3⟩
    case neg =>
      have t0 : decide (i < (places.length : Int)) = false := decide_eq_false hlt
      have he := HI.out
      rw [List.drop_eq_nil_of_le (by omega), provesFrom] at he
      subst he
      clear hlt HI
      go_wp2
      go_ret
      exact ⟨rfl, HB.out⟩
end Go.Proofs.Ythpheknchikodaa.P

/- The walk of the reference's Fits: does a quotation fit a paper at some places? Conditions: the lists are readable, of bounded length. -/
namespace Go.Proofs.Ythpheknchikodaa.P
open Go.RowKit Go.Proofs.YthpheknchikodaaW.PrintWords Go.Proofs.YthpheknchikodaaW.PrintLast
set_option linter.unusedVariables false
set_option linter.unusedSimpArgs false

/-- May a text stand at place k, behind place k - 1? gap: a gap stands before it. -/
def fitB (paper kept : List ByteArray) (places : List Int) (k : Int) (gap : Bool) (s : ByteArray) : Bool :=
  decide (k < (places.length : Int)) && (withinB (rd places k) 0 ((paper.length : Int) - 1) && ((isRemark s || (s.toList == (rdOf ByteArray.empty paper (rd places k)).toList)) &&
    ((k == 0) || (decide (rd places (k - 1) < rd places k) && ((gap || (rd places k == rd places (k - 1) + 1)) && ((paper.take (rd places k).toNat).drop (rd places (k - 1) + 1).toNat).all fun s => !hasText kept s)))))
def fitsFrom (paper kept : List ByteArray) (places : List Int) : Int → Bool → List ByteArray → Bool
  | k, _, [] => decide (k = (places.length : Int))
  | k, gap, s :: l => if isGap s = true then fitsFrom paper kept places k true l else fitB paper kept places k gap s && fitsFrom paper kept places (k + 1) false l
def fitsB (paper quotation kept : List ByteArray) (places : List Int) : Bool := fitsFrom paper kept places 0 false quotation
theorem take_drop_rd (l : List ByteArray) (m a : Int) (h0 : 0 ≤ m) (h : m < a) (ha : a < (l.length : Int)) : (l.take a.toNat).drop m.toNat = rdOf ByteArray.empty l m :: (l.take a.toNat).drop (m + 1).toNat := by
  have h' : m.toNat < (l.take a.toNat).length := by rw [List.length_take]; omega
  have h2 : m.toNat < l.length := by omega
  rw [List.drop_eq_getElem_cons h', show (m + 1).toNat = m.toNat + 1 by omega, List.getElem_take]
  simp only [rdOf, List.getD_eq_getElem?_getD, List.getElem?_eq_getElem h2, Option.getD_some]
set_option maxHeartbeats 8000000 in
set_option maxRecDepth 100000 in
theorem Fits_calls (A0 : Option Addr) (c0 : Nat) (paper : List ByteArray) (A1 : Option Addr) (c1 : Nat) (l : List ByteArray) (A2 : Option Addr) (c2 : Nat) (kept : List ByteArray) (A3 : Option Addr) (c3 : Nat) (places : List Int) (w : World)
    (h0 : Kd.C Kd.string w A0 paper.length paper) (h1 : Kd.C Kd.string w A1 l.length l) (h2 : Kd.C Kd.string w A2 kept.length kept) (h3 : Kd.C (Kd.int .i64) w A3 places.length places)
    (hm : paper.length ≤ 1000000 ∧ l.length ≤ 1000000 ∧ kept.length ≤ 1000000 ∧ places.length ≤ 1000000) (hqs : ∀ s ∈ l, s.size ≤ 1000000) :
    Calls Try.prog 39 #[.slice A0 paper.length c0, .slice A1 l.length c1, .slice A2 kept.length c2, .slice A3 places.length c3] w fun e w' => e = .returned (.bool (fitsB paper l kept places)) ∧ Below w.heap.size w w' := by
  have HR0 := Aside0.mk h0
  have HR1 := Aside0.mk h1
  have HR2 := Aside0.mk h2
  have HR3 := Aside0.mk h3
  have HM := Aside0.mk hm
  have HQS := Aside0.mk hqs
  clear h0 h1 h2 h3 hm hqs
  obtain ⟨R, hR⟩ : ∃ R, fitsB paper l kept places = R := ⟨_, rfl⟩
  rw [hR]
  have HS := Aside0.mk (show fitsFrom paper kept places 0 false (l.drop (0 : Int).toNat) = R from hR)
  clear hR
  go_enter Try.func39, Try.ntmps39
  go_wp2
  go_loopg [9, 10, 11] l.length (fun kq v9 v10 v11 w' => ∃ (i k : Int) (b : Bool), v11 = .int .i64 i ∧ v9 = .int .i64 k ∧ v10 = .bool b ∧ Aside0 (0 ≤ i ∧ kq + i.toNat = l.length ∧ 0 ≤ k ∧ k ≤ i) ∧ Aside0 (0 < k → 0 ≤ rd places (k - 1) ∧ rd places (k - 1) < (paper.length : Int)) ∧ Aside0 (fitsFrom paper kept places k b (l.drop i.toNat) = R) ∧ Aside0 (Below w.heap.size w w'))
  case atStart => exact ⟨0, 0, false, rfl, rfl, rfl, ⟨by simp⟩, ⟨fun h => absurd h (by omega)⟩, HS, ⟨Below.refl _ _⟩⟩
  case round =>
    clear HS
    obtain ⟨i, k, b, rfl, rfl, rfl, HK, HP, HI, HB⟩ := hrel
    rename World => W1
    by_cases hlt : i < (l.length : Int)
    case neg =>
      have t0 : decide (i < (l.length : Int)) = false := decide_eq_false hlt
      have he := HI.out
      rw [List.drop_eq_nil_of_le (by omega), fitsFrom] at he
      have e1 : (k == (places.length : Int)) = R := by rw [← he, Bool.eq_iff_iff]; simp
      clear hlt HI he
      go_wp2
      go_ret
      exact ⟨rfl, HB.out⟩
    case pos =>
      have t0 : decide (i < (l.length : Int)) = true := decide_eq_true hlt
      have p1 : 0 ≤ i := HK.out.1
      obtain ⟨ad, hA, g0⟩ := Kd.at_string (Kd.C_below HR1.out HB.out) i p1 hlt
      have HSZ := Aside0.mk (show (rdOf ByteArray.empty l i).size ≤ 9223372036854775807 from Nat.le_trans (HQS.out _ (mem_rd p1 hlt)) (by decide))
      have he := HI.out
      rw [drop_rd l i p1 hlt, fitsFrom] at he
      obtain ⟨s, hs⟩ : ∃ s, rdOf ByteArray.empty l i = s := ⟨_, rfl⟩
      rw [hs] at g0 he HSZ
      cases hA
      have HLT := Aside0.mk hlt
      have HW := Aside0.mk (show wrap64 (i + 1) = i + 1 by unfold wrap64; have := HK.out; have := HM.out; omega)
      obtain ⟨g1, rfl⟩ : ∃ g1, gk = g1 + 1 := ⟨gk - 1, by have := HK.out; omega⟩
      replace p1 := eq_true p1
      replace hlt := eq_true hlt
      clear HI hs
      cases hg : isGap s
      case true =>
        rw [if_pos hg] at he
        have HE := Aside0.mk he
        clear he
        go_wp2_with (go_at_call 41; (with_reducible refine (Gap_calls _ _).mono ?_); rintro e w2 ⟨rfl, rfl⟩; rw [hg])
        go_roundg g1
        case measure => have := HK.out; have := HLT.out; omega
        case rel => exact ⟨i + 1, k, true, by first | rfl | rw [HW.out], rfl, rfl, ⟨by have := HK.out; have := HLT.out; omega⟩, HP, HE, HB⟩
      case false =>
        rw [if_neg (by rw [hg]; exact Bool.false_ne_true)] at he
        unfold fitB at he
        by_cases hk : k < (places.length : Int)
        case neg =>
          rw [decide_eq_false hk, Bool.false_and, Bool.false_and] at he
          subst he
          have e1 : decide ((places.length : Int) ≤ k) = true := decide_eq_true (by omega)
          clear hk
          go_wp2_with (go_at_call 41; (with_reducible refine (Gap_calls _ _).mono ?_); rintro e w2 ⟨rfl, rfl⟩; rw [hg])
          go_quiet (fail)
          go_wp2
          go_ret
          exact ⟨rfl, pw_below_drewN HB.out _⟩
        case pos =>
          rw [decide_eq_true hk, Bool.true_and] at he
          have k0 : 0 ≤ k := HK.out.2.2.1
          obtain ⟨bd, hB, g2⟩ := Kd.at_int (Kd.C_below HR3.out HB.out) k k0 hk
          obtain ⟨a, ha⟩ : ∃ a, rd places k = a := ⟨_, rfl⟩
          rw [ha] at he g2
          cases hB
          have HA := Aside0.mk ha
          have HKT := Aside0.mk hk
          have e1 : decide ((places.length : Int) ≤ k) = false := decide_eq_false (by omega)
          have e1b : decide (places.length ≤ k.toNat) = false := decide_eq_false (by omega)
          have HWP := Aside0.mk (show wrap64 ((paper.length : Int) - 1) = (paper.length : Int) - 1 by unfold wrap64; have := HM.out; omega)
          have HPL := Aside0.mk HM.out.1
          clear ha
          replace k0 := eq_true k0
          replace hk := eq_true hk
          cases h1 : withinB a 0 ((paper.length : Int) - 1)
          case false =>
            rw [h1, Bool.false_and, Bool.false_and] at he
            subst he
            have hwp : wrap64 ((paper.length : Int) - 1) = (paper.length : Int) - 1 := HWP.out
            go_wp2_with (go_at_call 41; (with_reducible refine (Gap_calls _ _).mono ?_); rintro e w2 ⟨rfl, rfl⟩; rw [hg])
            go_quiet ((first | (go_at_call 29; exact Calls.quiet_of_same ((In_calls _ _ _ _).mono (fun e w' h => ⟨h.1, h.2.symm⟩))) | (go_at_call 42; exact Calls.quiet_of_same ((rRemark_calls _ _ HSZ.out).mono (fun e w' h => ⟨h.1, h.2.symm⟩)))))
            go_wp2
            go_ret
            exact ⟨rfl, pw_below_drewN HB.out _⟩
          case true =>
            rw [h1, Bool.true_and] at he
            have hwp : wrap64 ((paper.length : Int) - 1) = (paper.length : Int) - 1 := HWP.out
            have hr1 : 0 ≤ a ∧ a < (paper.length : Int) := by unfold withinB at h1; simp at h1; omega
            have HR1' := Aside0.mk hr1
            obtain ⟨a0, a1⟩ := hr1
            obtain ⟨cd, hC, g3⟩ := Kd.at_string (Kd.C_below HR0.out HB.out) a a0 a1
            cases hC
            replace a0 := eq_true a0
            replace a1 := eq_true a1
            have two : ∀ q : Bool, (isRemark s || (s.toList == (rdOf ByteArray.empty paper a).toList)) = q → True := fun _ _ => trivial
            cases h2 : isRemark s || (s.toList == (rdOf ByteArray.empty paper a).toList)
            case false =>
              rw [h2, Bool.false_and, Bool.false_and] at he
              subst he
              obtain ⟨h2a, h2b⟩ := Bool.or_eq_false_iff.1 h2
              have h3a : (s.toList = (rdOf ByteArray.empty paper a).toList) = False := by simpa using h2b
              clear h2 two
              go_wp2_with (go_at_call 41; (with_reducible refine (Gap_calls _ _).mono ?_); rintro e w2 ⟨rfl, rfl⟩; rw [hg])
              go_quiet ((first | (go_at_call 29; exact Calls.quiet_of_same ((In_calls _ _ _ _).mono (fun e w' h => ⟨h.1, h.2.symm⟩))) | (go_at_call 42; exact Calls.quiet_of_same ((rRemark_calls _ _ HSZ.out).mono (fun e w' h => ⟨h.1, h.2.symm⟩)))))
              go_wp2
              go_ret
              exact ⟨rfl, pw_below_drewN HB.out _⟩
            case true =>
              rw [h2, Bool.true_and] at he
              -- the way on behind the first region
              by_cases hk0 : k = 0
              case pos =>
                have e2 : (k == 0) = true := beq_iff_eq.mpr hk0
                rw [e2, Bool.true_or, Bool.true_and] at he
                have e3 : decide (0 < k) = false := decide_eq_false (by omega)
                have HE := Aside0.mk (show fitsFrom paper kept places (k + 1) false (l.drop (i + 1).toNat) = R from he)
                have HWK := Aside0.mk (show wrap64 (k + 1) = k + 1 by unfold wrap64; omega)
                have HPN := Aside0.mk (show 0 < k + 1 → 0 ≤ rd places (k + 1 - 1) ∧ rd places (k + 1 - 1) < (paper.length : Int) from fun _ => by rw [show k + 1 - 1 = k by omega, HA.out]; exact HR1'.out)
                have HK0 := Aside0.mk hk0
                clear he hk0 two
                have hsp : (isRemark s = true) ∨ (isRemark s = false ∧ (s.toList == (rdOf ByteArray.empty paper a).toList) = true) := by cases hq : isRemark s; exact .inr ⟨rfl, by rw [hq] at h2; exact h2⟩; exact .inl rfl
                clear h2
                rcases hsp with h2a | ⟨h2a, h2b⟩
                case' inr => have h3a : (s.toList = (rdOf ByteArray.empty paper a).toList) = True := by simpa using h2b
                all_goals
                  go_wp2_with (go_at_call 41; (with_reducible refine (Gap_calls _ _).mono ?_); rintro e w2 ⟨rfl, rfl⟩; rw [hg])
                  go_quiet ((first | (go_at_call 29; exact Calls.quiet_of_same ((In_calls _ _ _ _).mono (fun e w' h => ⟨h.1, h.2.symm⟩))) | (go_at_call 42; exact Calls.quiet_of_same ((rRemark_calls _ _ HSZ.out).mono (fun e w' h => ⟨h.1, h.2.symm⟩)))))
                  go_wp2
                  go_quiet (fail)
                  go_wp2
                  go_roundg g1
                  case measure => have := HK.out; have := HLT.out; omega
                  case rel => exact ⟨i + 1, k + 1, false, by first | rfl | rw [HW.out], by first | rfl | rw [HWK.out], rfl, ⟨by have := HK.out; have := HLT.out; have := HK0.out; omega⟩, HPN, HE, ⟨pw_below_drewN HB.out _⟩⟩
              case neg =>
                have e2 : (k == 0) = false := beq_eq_false_iff_ne.mpr hk0
                rw [e2, Bool.false_or] at he
                have e3 : decide (0 < k) = true := decide_eq_true (by have := of_eq_true k0; omega)
                have k1 : 0 ≤ k - 1 := by have := of_eq_true k0; omega
                have hk2 : k - 1 < (places.length : Int) := by have := of_eq_true hk; omega
                obtain ⟨bd', hB', g4⟩ := Kd.at_int (Kd.C_below HR3.out HB.out) (k - 1) k1 hk2
                obtain rfl : bd = bd' := by injection hB'
                have hp := HP.out (by have := of_eq_true k0; omega)
                obtain ⟨z, hz⟩ : ∃ z, rd places (k - 1) = z := ⟨_, rfl⟩
                rw [hz] at he g4 hp
                have HZ := Aside0.mk hp
                have HWZ := Aside0.mk (show wrap64 (z + 1) = z + 1 by unfold wrap64; have := HPL.out; omega)
                have HWK1 := Aside0.mk (show wrap64 (k - 1) = k - 1 by unfold wrap64; have := HKT.out; have := HM.out; omega)
                have HWK := Aside0.mk (show wrap64 (k + 1) = k + 1 by unfold wrap64; have := HKT.out; have := HM.out; omega)
                have HPN := Aside0.mk (show 0 < k + 1 → 0 ≤ rd places (k + 1 - 1) ∧ rd places (k + 1 - 1) < (paper.length : Int) from fun _ => by rw [show k + 1 - 1 = k by omega, HA.out]; exact HR1'.out)
                rw [show (k - 1).toNat = k.toNat - 1 by omega] at g4
                have HK1 := Aside0.mk k1
                have k1b := eq_true (show 1 ≤ k by omega)
                replace k1 := eq_true k1
                replace hk2 := eq_true hk2
                clear hB' hp hz hk0 two
                by_cases h4 : z < a
                case neg =>
                  rw [decide_eq_false h4, Bool.false_and, Bool.false_and] at he
                  subst he
                  have e4 : decide (a ≤ z) = true := decide_eq_true (by omega)
                  have hwk := HWK1.out
                  have hwk' : IntKind.i64.wrap (k - 1) = k - 1 := IntWalk.i64_in _ (by have := HK1.out; have := HKT.out; have := HM.out; omega)
                  have hwz := HWZ.out
                  have hwz' : IntKind.i64.wrap (z + 1) = z + 1 := IntWalk.i64_in _ (by have := HZ.out; have := HPL.out; omega)
                  clear h4
                  have hsp : (isRemark s = true) ∨ (isRemark s = false ∧ (s.toList == (rdOf ByteArray.empty paper a).toList) = true) := by cases hq : isRemark s; exact .inr ⟨rfl, by rw [hq] at h2; exact h2⟩; exact .inl rfl
                  clear h2
                  rcases hsp with h2a | ⟨h2a, h2b⟩
                  case' inr => have h3a : (s.toList = (rdOf ByteArray.empty paper a).toList) = True := by simpa using h2b
                  all_goals
                    go_wp2_with (go_at_call 41; (with_reducible refine (Gap_calls _ _).mono ?_); rintro e w2 ⟨rfl, rfl⟩; rw [hg])
                    go_quiet ((first | (go_at_call 29; exact Calls.quiet_of_same ((In_calls _ _ _ _).mono (fun e w' h => ⟨h.1, h.2.symm⟩))) | (go_at_call 42; exact Calls.quiet_of_same ((rRemark_calls _ _ HSZ.out).mono (fun e w' h => ⟨h.1, h.2.symm⟩)))))
                    go_wp2
                    go_quiet (fail)
                    go_wp2
                    go_ret
                    exact ⟨rfl, pw_below_drewN (pw_below_drewN HB.out _) _⟩
                case pos =>
                  rw [decide_eq_true h4, Bool.true_and] at he
                  have e4 : decide (a ≤ z) = false := decide_eq_false (by omega)
                  have H4 := Aside0.mk h4
                  clear h4
                  cases h5 : b || (a == z + 1)
                  case false =>
                    rw [h5, Bool.false_and, Bool.false_and] at he
                    subst he
                    obtain ⟨rfl, h5b⟩ := Bool.or_eq_false_iff.1 h5
                    have e5 : (a != z + 1) = true := by rw [bne, h5b]; rfl
                    have hwk := HWK1.out
                    have hwk' : IntKind.i64.wrap (k - 1) = k - 1 := IntWalk.i64_in _ (by have := HK1.out; have := HKT.out; have := HM.out; omega)
                    have hwz := HWZ.out
                    have hwz' : IntKind.i64.wrap (z + 1) = z + 1 := IntWalk.i64_in _ (by have := HZ.out; have := HPL.out; omega)
                    clear h5
                    have hsp : (isRemark s = true) ∨ (isRemark s = false ∧ (s.toList == (rdOf ByteArray.empty paper a).toList) = true) := by cases hq : isRemark s; exact .inr ⟨rfl, by rw [hq] at h2; exact h2⟩; exact .inl rfl
                    clear h2
                    rcases hsp with h2a | ⟨h2a, h2b⟩
                    case' inr => have h3a : (s.toList = (rdOf ByteArray.empty paper a).toList) = True := by simpa using h2b
                    all_goals
                      go_wp2_with (go_at_call 41; (with_reducible refine (Gap_calls _ _).mono ?_); rintro e w2 ⟨rfl, rfl⟩; rw [hg])
                      go_quiet ((first | (go_at_call 29; exact Calls.quiet_of_same ((In_calls _ _ _ _).mono (fun e w' h => ⟨h.1, h.2.symm⟩))) | (go_at_call 42; exact Calls.quiet_of_same ((rRemark_calls _ _ HSZ.out).mono (fun e w' h => ⟨h.1, h.2.symm⟩)))))
                      go_wp2
                      go_quiet (fail)
                      go_wp2
                      go_ret
                      exact ⟨rfl, pw_below_drewN (pw_below_drewN HB.out _) _⟩
                  case true =>
                    rw [h5, Bool.true_and] at he
                    have HE := Aside0.mk he
                    clear he
                    have hwk := HWK1.out
                    have hwk' : IntKind.i64.wrap (k - 1) = k - 1 := IntWalk.i64_in _ (by have := HK1.out; have := HKT.out; have := HM.out; omega)
                    have hwz := HWZ.out
                    have hwz' : IntKind.i64.wrap (z + 1) = z + 1 := IntWalk.i64_in _ (by have := HZ.out; have := HPL.out; omega)
                    have HBd := fun n => Aside0.mk (pw_below_drewN HB.out n)
                    have hsp : (isRemark s = true) ∨ (isRemark s = false ∧ (s.toList == (rdOf ByteArray.empty paper a).toList) = true) := by cases hq : isRemark s; exact .inr ⟨rfl, by rw [hq] at h2; exact h2⟩; exact .inl rfl
                    have hsp5 : (b = true) ∨ (b = false ∧ (a == z + 1) = true) := by cases b; exact .inr ⟨rfl, h5⟩; exact .inl rfl
                    clear h2 h5
                    rcases hsp with h2a | ⟨h2a, h2b⟩
                    case' inr => have h3a : (s.toList = (rdOf ByteArray.empty paper a).toList) = True := by simpa using h2b
                    all_goals
                      rcases hsp5 with rfl | ⟨rfl, h5b⟩
                      case' inr => have e5 : (a != z + 1) = false := by rw [bne, h5b]; rfl
                      all_goals
                        go_wp2_with (go_at_call 41; (with_reducible refine (Gap_calls _ _).mono ?_); rintro e w2 ⟨rfl, rfl⟩; rw [hg])
                        go_quiet ((first | (go_at_call 29; exact Calls.quiet_of_same ((In_calls _ _ _ _).mono (fun e w' h => ⟨h.1, h.2.symm⟩))) | (go_at_call 42; exact Calls.quiet_of_same ((rRemark_calls _ _ HSZ.out).mono (fun e w' h => ⟨h.1, h.2.symm⟩)))))
                        go_wp2
                        go_quiet (fail)
                        go_wp2
                        clear g0 g2 g3 g4 hwk hwk' hwz hwz' hwp
                        rw [h1, h2a]
                        go_loopg [12] (a - (z + 1)).toNat (fun kq v12 w' => ∃ m : Int, v12 = .int .i64 m ∧ Aside0 (z + 1 ≤ m ∧ m ≤ a ∧ kq + m.toNat = a.toNat) ∧ Aside0 ((((paper.take a.toNat).drop m.toNat).all (fun s => !hasText kept s) && fitsFrom paper kept places (k + 1) false (l.drop (i + 1).toNat)) = R) ∧ Aside0 (Below w.heap.size w w'))
                        case atStart => exact ⟨z + 1, rfl, ⟨by have := H4.out; have := HZ.out; omega⟩, HE, HBd _⟩
                        case round =>
                          clear HE HBd
                          obtain ⟨m, rfl, HMM, HE, HBm⟩ := hrel
                          rename World => W2
                          obtain ⟨bd', hB', g2⟩ := Kd.at_int (Kd.C_below HR3.out HBm.out) k (of_eq_true k0) (of_eq_true hk)
                          obtain rfl : bd = bd' := by injection hB'
                          rw [HA.out] at g2
                          by_cases hma : m < a
                          case neg =>
                            have t1 : decide (m < a) = false := decide_eq_false hma
                            have he := HE.out
                            rw [List.drop_eq_nil_of_le (by rw [List.length_take]; have := HMM.out; omega), List.all_nil, Bool.true_and] at he
                            have HE2 := Aside0.mk he
                            clear he hma HE hB'
                            go_wp2
                            go_roundg g1
                            case measure => have := HK.out; have := HLT.out; omega
                            case rel => exact ⟨i + 1, k + 1, false, by first | rfl | rw [HW.out], by first | rfl | rw [HWK.out], rfl, ⟨by have := HK.out; have := HLT.out; omega⟩, HPN, HE2, HBm⟩
                          case pos =>
                            have t1 : decide (m < a) = true := decide_eq_true hma
                            have m0 : 0 ≤ m := by have := HMM.out; have := HZ.out; omega
                            have m1 : m < (paper.length : Int) := by have := HR1'.out; omega
                            obtain ⟨cd', hC', g5⟩ := Kd.at_string (Kd.C_below HR0.out HBm.out) m m0 m1
                            obtain rfl : cd = cd' := by injection hC'
                            have he := HE.out
                            rw [take_drop_rd paper m a m0 hma HR1'.out.2, List.all_cons] at he
                            have HWM := Aside0.mk (show wrap64 (m + 1) = m + 1 by unfold wrap64; have := HPL.out; omega)
                            have HMA := Aside0.mk hma
                            replace m0 := eq_true m0
                            replace m1 := eq_true m1
                            clear HE hB' hC' hma
                            cases hst : hasText kept (rdOf ByteArray.empty paper m)
                            case true =>
                              rw [hst, Bool.not_true, Bool.false_and, Bool.false_and] at he
                              subst he
                              go_wp2_with (go_at_call 68; (with_reducible refine (stays_calls _ _ kept _ _ (Kd.C_below HR2.out HBm.out) HM.out.2.2.1).mono ?_); rintro e w2 ⟨rfl, rfl⟩; rw [hst])
                              go_ret
                              exact ⟨rfl, HBm.out⟩
                            case false =>
                              rw [hst, Bool.not_false, Bool.true_and] at he
                              have HE2 := Aside0.mk he
                              clear he
                              go_wp2_with (go_at_call 68; (with_reducible refine (stays_calls _ _ kept _ _ (Kd.C_below HR2.out HBm.out) HM.out.2.2.1).mono ?_); rintro e w2 ⟨rfl, rfl⟩; rw [hst])
                              go_roundg (gk - 1)
                              case measure => have := HMM.out; have := HMA.out; have := HZ.out; omega
                              case rel => exact ⟨m + 1, by first | rfl | rw [HWM.out], ⟨by have := HMM.out; have := HMA.out; have := HZ.out; omega⟩, HE2, HBm⟩
end Go.Proofs.Ythpheknchikodaa.P

/- Quotations in plain words: the reference's words and the program's say the same; the first places are the least. Conditions: none. -/
namespace Go.Proofs.Ythpheknchikodaa.P
open Go.RowKit Go.Proofs.YthpheknchikodaaW.PrintWords Go.Proofs.YthpheknchikodaaW.PrintLast
set_option linter.unusedVariables false
set_option linter.unusedSimpArgs false

theorem piecesFrom_pos : ∀ (l : List ByteArray) (b : Bool) (L : List S157), (decide (0 < (piecesFrom b L l).length)) = (decide (0 < L.length) || l.any fun s => !isGap s)
  | [], b, L => by rw [List.any_nil, Bool.or_false, piecesFrom]
  | s :: l, b, L => by
    rw [piecesFrom, List.any_cons]
    cases h : isGap s
    · rw [if_neg (by simp), piecesFrom_pos l]
      simp
    · rw [if_pos rfl, piecesFrom_pos l]
      simp
theorem right_ok (paper quotation kept : List ByteArray) : rightQB paper quotation kept = (quoteOk paper quotation kept && decide (0 < (piecesOf quotation).length)) := by
  unfold rightQB quoteOk textsB piecesOf
  rw [piecesFrom_pos]
  have h1 : withinB (kept.length : Int) 0 20 = decide (kept.length ≤ 20) := by unfold withinB; rw [Bool.eq_iff_iff]; simp; omega
  rw [h1]
  simp only [List.length_nil, Nat.lt_irrefl, decide_false, Bool.false_or]
  cases (quotation.any fun s => !isGap s) <;> cases paper.all wordOk <;> cases quotation.all wordOk <;> cases kept.all wordOk <;> cases withinB (paper.length : Int) 1 80 <;> cases withinB (quotation.length : Int) 1 80 <;> cases decide (kept.length ≤ 20) <;> rfl
theorem piecesFrom_pre : ∀ (l : List ByteArray) (b : Bool) (L : List S157), ∃ M, piecesFrom b L l = L ++ M ∧ (M.length : Int) = wordsN l
  | [], b, L => ⟨[], by simp [piecesFrom], rfl⟩
  | s :: l, b, L => by
    rw [piecesFrom, wordsN]
    cases h : isGap s
    · obtain ⟨M, e, hl⟩ := piecesFrom_pre l false (L ++ [⟨s, b || decide (L.length = 0)⟩])
      refine ⟨⟨s, b || decide (L.length = 0)⟩ :: M, ?_, ?_⟩
      · rw [if_neg (by simp)]; simp only [e]; simp
      · rw [if_neg (by simp), List.length_cons]; push_cast; omega
    · obtain ⟨M, e, hl⟩ := piecesFrom_pre l true L
      exact ⟨M, by rw [if_pos rfl, e], by rw [if_pos rfl]; omega⟩
theorem rd157_app (L M : List S157) (p : S157) (k : Int) (h : k = (L.length : Int)) : rd_T157 (L ++ p :: M) k = p := by
  unfold rd_T157
  rw [h]
  simp
theorem provesFrom_nil (paper kept : List ByteArray) (pieces : List S157) (n last : Int) : provesFrom paper kept pieces n last [] = true := rfl
/-- The place before. -/
def lastOf (places : List Int) (k : Int) : Int := if k = 0 then -1 else rd places (k - 1)
theorem fits_proves (paper kept : List ByteArray) (places : List Int) : ∀ (l : List ByteArray) (b : Bool) (L : List S157) (k : Int), k = (L.length : Int) →
    fitsFrom paper kept places k b l = (decide (places.length = (piecesFrom b L l).length) && provesFrom paper kept (piecesFrom b L l) k (lastOf places k) (places.drop k.toNat))
  | [], b, L, k, hk => by
    rw [fitsFrom, piecesFrom]
    by_cases h : places.length = L.length
    · rw [decide_eq_true h, decide_eq_true (show k = (places.length : Int) by omega), List.drop_eq_nil_of_le (by omega)]
      rfl
    · rw [decide_eq_false h, decide_eq_false (show ¬ k = (places.length : Int) by omega)]
      rfl
  | s :: l, b, L, k, hk => by
    rw [fitsFrom, piecesFrom]
    cases hg : isGap s
    case true => rw [if_pos rfl, if_pos rfl]; exact fits_proves paper kept places l true L k hk
    case false =>
      rw [if_neg (by simp), if_neg (by simp)]
      have ih := fits_proves paper kept places l false (L ++ [⟨s, b || decide (L.length = 0)⟩]) (k + 1) (by simp; omega)
      obtain ⟨M, hM, -⟩ := piecesFrom_pre l false (L ++ [⟨s, b || decide (L.length = 0)⟩])
      rw [ih]
      rw [hM] at ih ⊢
      rw [List.append_assoc, List.singleton_append]
      have hp := rd157_app L M ⟨s, b || decide (L.length = 0)⟩ k hk
      generalize hF : L ++ (⟨s, b || decide (L.length = 0)⟩ : S157) :: M = F at hp ⊢
      have hFl : k + 1 ≤ (F.length : Int) := by rw [← hF]; simp; omega
      by_cases hkl : k < (places.length : Int)
      · rw [drop_int places k (by omega) hkl, provesFrom]
        have hl1 : lastOf places (k + 1) = rd places k := by unfold lastOf; rw [if_neg (by omega)]; congr 1; omega
        rw [hl1]
        have hfm : fitB paper kept places k b s = mayB paper kept F k (lastOf places k) (rd places k) := by
          unfold fitB mayB
          rw [hp, decide_eq_true hkl, Bool.true_and]
          simp only
          by_cases h0 : k = 0
          · rw [beq_iff_eq.mpr h0]; simp
          · have e1 : lastOf places k = rd places (k - 1) := by unfold lastOf; rw [if_neg h0]
            rw [e1, beq_eq_false_iff_ne.mpr h0, decide_eq_false (show ¬ L.length = 0 by omega), Bool.or_false]
        rw [hfm]
        cases mayB paper kept F k (lastOf places k) (rd places k) <;> simp
      · have e : fitB paper kept places k b s = false := by unfold fitB; rw [decide_eq_false hkl, Bool.false_and]
        rw [e, decide_eq_false (show ¬ places.length = F.length by omega)]
        simp
theorem prove_fits (paper quotation kept : List ByteArray) (places : List Int) : proveQB paper quotation kept places = (rightQB paper quotation kept && fitsB paper quotation kept places) := by
  unfold proveQB fitsB
  rw [right_ok, fits_proves paper kept places quotation false [] 0 rfl, Bool.and_assoc]
  rfl
end Go.Proofs.Ythpheknchikodaa.P
