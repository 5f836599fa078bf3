/- Contracts of functions that the laws reach, part Xb2. Conditions: each theorem names its own. -/
import Derived.Maps.OwnOps
import Derived.MapKept
import Derived.Laws.StructEq
import Derived.Test.YthpheknchikodaaXb1
/- The walk of 'all' at elements of type 5: it reports whether each element of a list is right, whatever closure says so. Conditions: none beyond the list's being readable. -/
namespace Go.Proofs.Ythpheknchikodaa.P
open Go.RowKit Go.Proofs.YthpheknchikodaaW.PrintWords Go.Proofs.YthpheknchikodaaW.PrintLast
set_option linter.unusedVariables false
set_option linter.unusedSimpArgs false

theorem idx_stepByte (p : Int → Bool) (l : List Int) (i : Int) (h0 : 0 ≤ i) (h : i < (l.length : Int)) : idxFrom p (l.drop i.toNat) i = if p (rd l i) = true then i else idxFrom p (l.drop (i + 1).toNat) (i + 1) := by
  have h' : i.toNat < l.length := by omega
  rw [List.drop_eq_getElem_cons h', show (i + 1).toNat = i.toNat + 1 by omega]
  simp only [idxFrom, rd, List.getD_eq_getElem?_getD, List.getElem?_eq_getElem h', Option.getD_some]
set_option maxHeartbeats 1000000 in
set_option maxRecDepth 100000 in
theorem indexFuncByte (g : Nat) (caps : Array Value) (p : Int → Bool) (A : Option Addr) (c : Nat) (l : List Int) (w : World) (hr : Kd.C (Kd.int .u8) w A l.length l) (hm : l.length ≤ 9223372036854775806)
    (heg : ∀ (args : Array Value) (W : World), Sem.run Try.prog (callFunc g args) W = .ok (.enter g args) W)
    (hF : ∀ x W, Below w.heap.size w W → Calls Try.prog g (#[.int .u8 x] ++ caps) W fun e W' => e = .returned (.bool (p x)) ∧ Below W.heap.size W W') :
    Calls Try.prog 131 #[.slice A l.length c, .func (.func g) #[] caps] w fun e w' => e = .returned (.int .i64 (idxFrom p l 0)) ∧ Below w.heap.size w w' := by
  have HR := Aside0.mk hr
  have HF := Aside0.mk hF
  clear hr hF
  skip
  go_enter Try.func131, Try.ntmps131
  go_wp2
  go_loopg [8] l.length (fun kq v8 w' => ∃ i : Int, v8 = .int .i64 i ∧ Aside0 (0 ≤ i ∧ kq + i.toNat = l.length) ∧ Aside0 (idxFrom p l 0 = idxFrom p (l.drop i.toNat) i) ∧ Aside0 (Below w.heap.size w w'))
  case atStart => exact ⟨0, rfl, ⟨by omega⟩, ⟨rfl⟩, ⟨Below.refl _ _⟩⟩
  case round =>
    obtain ⟨i, rfl, HK, HI, HB⟩ := hrel
    by_cases hlt : i < (l.length : Int)
    · have c0 : decide (i < (l.length : Int)) = true := decide_eq_true hlt
      have p1 : 0 ≤ i := HK.out.1
      obtain ⟨ad, hA, h0⟩ := Kd.at_int (Kd.C_below HR.out HB.out) i p1 hlt
      cases hA
      replace p1 := eq_true p1
      replace hlt := eq_true hlt
      go_wp2_with fail
      refine (HF.out (rd l i) _ HB.out).mono ?_
      rintro e w1 ⟨rfl, hb1⟩
      have HB1 := Aside0.mk (below_then HB.out HB.out.size hb1)
      clear hb1
      have hst := idx_stepByte p l i HK.out.1 (of_eq_true hlt)
      by_cases hp : p (rd l i) = true
      · have HE := Aside0.mk (HI.out.trans (hst.trans (if_pos hp)))
        clear hst
        go_wp2
        go_ret
        exact ⟨by rw [HE.out]; rfl, HB1.out⟩
      · have HE := Aside0.mk (HI.out.trans (hst.trans (if_neg hp)))
        replace hp := Bool.eq_false_iff.mpr hp
        clear hst
        have hw : wrap64 (i + 1) = i + 1 := by unfold wrap64; have := HK.out; have := of_eq_true hlt; omega
        go_wp2
        go_roundg (gk - 1)
        case measure => have := HK.out; have := of_eq_true hlt; omega
        case rel => exact ⟨i + 1, by first | rfl | rw [hw], ⟨by have := HK.out; have := of_eq_true hlt; omega⟩, HE, HB1⟩
    · have c0 : decide (i < (l.length : Int)) = false := decide_eq_false hlt
      have HE := Aside0.mk (HI.out.trans (by rw [List.drop_eq_nil_of_le (by have := HK.out; omega)]))
      clear hlt
      go_wp2
      go_ret
      exact ⟨by rw [HE.out]; rfl, HB.out⟩
set_option maxHeartbeats 1000000 in
set_option maxRecDepth 100000 in
theorem containsFuncByte (g : Nat) (caps : Array Value) (p : Int → Bool) (A : Option Addr) (c : Nat) (l : List Int) (w : World) (hr : Kd.C (Kd.int .u8) w A l.length l) (hm : l.length ≤ 9223372036854775806)
    (heg : ∀ (args : Array Value) (W : World), Sem.run Try.prog (callFunc g args) W = .ok (.enter g args) W)
    (hF : ∀ x W, Below w.heap.size w W → Calls Try.prog g (#[.int .u8 x] ++ caps) W fun e W' => e = .returned (.bool (p x)) ∧ Below W.heap.size W W') :
    Calls Try.prog 121 #[.slice A l.length c, .func (.func g) #[] caps] w fun e w' => e = .returned (.bool (l.any p)) ∧ Below w.heap.size w w' := by
  have HR := Aside0.mk hr
  have HF := Aside0.mk hF
  have HG := Aside0.mk heg
  clear hr hF heg
  have HE := Aside0.mk (idxFrom_any p l)
  go_enter Try.func121, Try.ntmps121
  go_wp2_with fail
  refine (indexFuncByte g caps p A c l w HR.out hm HG.out HF.out).mono ?_
  rintro e w1 ⟨rfl, hb1⟩
  have HB1 := Aside0.mk hb1
  clear hb1
  go_wp2
  go_ret
  exact ⟨by rw [HE.out]; rfl, HB1.out⟩
set_option maxHeartbeats 1000000 in
set_option maxRecDepth 100000 in
theorem notRightByte (g b : Nat) (caps : Array Value) (p : Int → Bool) (x : Int) (w : World) (hc : w.cell? ⟨b, 0, none⟩ = some (.func (.func g) #[] caps))
    (heg : ∀ (args : Array Value) (W : World), Sem.run Try.prog (callFunc g args) W = .ok (.enter g args) W)
    (hF : ∀ W, Below w.heap.size w W → Calls Try.prog g (#[.int .u8 x] ++ caps) W fun e W' => e = .returned (.bool (p x)) ∧ Below W.heap.size W W') :
    Calls Try.prog 122 #[.int .u8 x, .pointer (some ⟨b, 0, none⟩)] w fun e w' => e = .returned (.bool (!p x)) ∧ Below w.heap.size w w' := by
  have HF := Aside0.mk hF
  clear hF
  skip
  skip
  go_enter Try.func122, Try.ntmps122
  go_wp2_with fail
  refine (HF.out _ (Below.refl _ _)).mono ?_
  rintro e w1 ⟨rfl, hb1⟩
  have HB1 := Aside0.mk (hb1)
  clear hb1
  go_wp2
  go_ret
  exact ⟨rfl, HB1.out⟩
set_option maxHeartbeats 1000000 in
set_option maxRecDepth 100000 in
theorem allByte (g : Nat) (caps : Array Value) (p : Int → Bool) (A : Option Addr) (c : Nat) (l : List Int) (w : World) (hr : Kd.C (Kd.int .u8) w A l.length l) (hm : l.length ≤ 9223372036854775806)
    (heg : ∀ (args : Array Value) (W : World), Sem.run Try.prog (callFunc g args) W = .ok (.enter g args) W)
    (hF : ∀ x W, Below w.heap.size w W → Calls Try.prog g (#[.int .u8 x] ++ caps) W fun e W' => e = .returned (.bool (p x)) ∧ Below W.heap.size W W') :
    Calls Try.prog 101 #[.slice A l.length c, .func (.func g) #[] caps] w fun e w' => e = .returned (.bool (l.all p)) ∧ Below w.heap.size w w' := by
  have HR := Aside0.mk hr
  have HF := Aside0.mk hF
  have HG := Aside0.mk heg
  clear hr hF heg
  have HE := Aside0.mk (any_not_all p l)
  go_enter Try.func101, Try.ntmps101
  go_wp2_with fail
  have HB0 := Aside0.mk ((Below.refl w.heap.size w).alloc (Nat.le_refl _) (.cells #[.func (.func g) #[] caps] 164 (0, 0)))
  refine (containsFuncByte 122 #[.pointer (some ⟨w.heap.size, 0, none⟩)] (fun x => !p x) A c l _ (Kd.C_below HR.out HB0.out) hm (enters_ Try.func122 (by kernel_rfl) rfl) ?_).mono ?_
  · intro x W hb
    refine notRightByte g w.heap.size caps p x W ((hb.cell (p := ⟨w.heap.size, 0, none⟩) (by simp)).trans (by simp)) HG.out (fun W' hb' => HF.out x W' ?_)
    exact below_then (below_then HB0.out HB0.out.size hb) (below_then HB0.out HB0.out.size hb).size hb'
  rintro e w1 ⟨rfl, hb1⟩
  have HB1 := Aside0.mk (below_then HB0.out HB0.out.size hb1)
  clear hb1
  go_wp2
  go_ret
  exact ⟨by rw [HE.out]; rfl, HB1.out⟩
end Go.Proofs.Ythpheknchikodaa.P

/- The walks of within, text, Range.right and of the tests that check lays: each answers what its plain word says. Conditions: none. -/
namespace Go.Proofs.Ythpheknchikodaa.P
open Go.RowKit Go.Proofs.YthpheknchikodaaW.PrintWords Go.Proofs.YthpheknchikodaaW.PrintLast
set_option linter.unusedVariables false
set_option linter.unusedSimpArgs false

theorem within_calls (n lo hi : Int) (w : World) :
    Calls Try.prog 73 #[.int .i64 n, .int .i64 lo, .int .i64 hi] w fun e w' => e = .returned (.bool (withinB n lo hi)) ∧ w = w' := by
  by_cases h : lo ≤ n
  · have h1 : decide (lo ≤ n) = true := decide_eq_true h
    have HE := Aside0.mk (show withinB n lo hi = decide (n ≤ hi) by unfold withinB; rw [h1, Bool.true_and])
    clear h
    go_enter Try.func73, Try.ntmps73
    go_wp2
    go_ret
    exact ⟨by rw [HE.out]; rfl, rfl⟩
  · have h1 : decide (lo ≤ n) = false := decide_eq_false h
    have HE := Aside0.mk (show withinB n lo hi = false by unfold withinB; rw [h1, Bool.false_and])
    clear h
    go_enter Try.func73, Try.ntmps73
    go_wp2
    go_ret
    exact ⟨by rw [HE.out]; rfl, rfl⟩

/-- A byte from low on, up to the tilde. -/
def byteOk (low b : Int) : Bool := decide (low ≤ b) && decide (b ≤ 126)
theorem text1_calls (low b : Int) (q : Nat) (w : World) (hc : w.cell? ⟨q, 0, none⟩ = some (.int .u8 low)) :
    Calls Try.prog 102 #[.int .u8 b, .pointer (some ⟨q, 0, none⟩)] w fun e w' => e = .returned (.bool (byteOk low b)) ∧ Below w.heap.size w w' := by
  by_cases h : low ≤ b
  · have h1 : decide (low ≤ b) = true := decide_eq_true h
    have HE := Aside0.mk (show byteOk low b = decide (b ≤ 126) by unfold byteOk; rw [h1, Bool.true_and])
    clear h
    go_enter Try.func102, Try.ntmps102
    go_wp2
    go_ret
    exact ⟨by rw [HE.out]; rfl, Below.refl _ _⟩
  · have h1 : decide (low ≤ b) = false := decide_eq_false h
    have HE := Aside0.mk (show byteOk low b = false by unfold byteOk; rw [h1, Bool.false_and])
    clear h
    go_enter Try.func102, Try.ntmps102
    go_wp2
    go_ret
    exact ⟨by rw [HE.out]; rfl, Below.refl _ _⟩

/-- A text of 1 to 32 bytes, each from low to the tilde. -/
def textOk (low : Int) (s : ByteArray) : Bool := withinB s.size 1 32 && (bytesOf s).all (byteOk low)
set_option maxHeartbeats 1000000 in
set_option maxRecDepth 100000 in
theorem text_calls (s : ByteArray) (low : Int) (w : World) :
    Calls Try.prog 86 #[.string s, .int .u8 low] w fun e w' => e = .returned (.bool (textOk low s)) ∧ Below w.heap.size w w' := by
  by_cases h : withinB s.size 1 32 = true
  · have hs : s.size ≤ 32 := by unfold withinB at h; simp at h; omega
    have HS := Aside0.mk hs
    have HE := Aside0.mk (show textOk low s = (bytesOf s).all (byteOk low) by unfold textOk; rw [h, Bool.true_and])
    have hconv := fun (W : World) => Lib.run_convert_string_bytes (P := Try.prog) W 9 163 5 s Try.underlying9 Try.underlying163 Try.underlying5
    go_enter Try.func86, Try.ntmps86
    go_wp2_with fail
    refine (within_calls _ _ _ _).mono ?_
    rintro e w' ⟨rfl, rfl⟩
    go_wp2_with fail
    have HW := Aside0.mk ((Below.refl w.heap.size w).alloc (Nat.le_refl _) (.cells #[.int .u8 low] 5 (0, 0)))
    have HB0 := Aside0.mk (below_then HW.out HW.out.size (bytes_below (w.alloc (.cells #[.int .u8 low] 5 (0, 0))) 5 s))
    have hcell : (Lib.bytesWorld (w.alloc (.cells #[.int .u8 low] 5 (0, 0))) 5 s).cell? ⟨w.heap.size, 0, none⟩ = some (.int .u8 low) := (Lib.bytesWorld_old _ 5 s _ (by simp)).trans (by simp)
    have hall := allByte 102 #[.pointer (some ⟨w.heap.size, 0, none⟩)] (byteOk low) (some ⟨w.heap.size + 1, 0, none⟩) (grownCap (w.alloc (.cells #[.int .u8 low] 5 (0, 0))) s.size 0 5) (bytesOf s) (Lib.bytesWorld (w.alloc (.cells #[.int .u8 low] 5 (0, 0))) 5 s)
      (by have h := bytes_C (w.alloc (.cells #[.int .u8 low] 5 (0, 0))) 5 s (by have := HS.out; omega); rwa [show (w.alloc (.cells #[.int .u8 low] 5 (0, 0))).heap.size = w.heap.size + 1 by simp] at h) (by rw [bytesOf_length]; have := HS.out; omega) (enters_ Try.func102 (by kernel_rfl) rfl)
      (fun x W hb => text1_calls low x w.heap.size W ((hb.cell (p := ⟨w.heap.size, 0, none⟩) (by rw [Lib.bytesWorld_size]; simp; omega)).trans hcell))
    rw [bytesOf_length] at hall
    have HALL := Aside0.mk hall
    clear hall hcell hconv
    refine (HALL.out).mono ?_
    rintro e w1 ⟨rfl, hb1⟩
    have HB1 := Aside0.mk (below_then HB0.out HB0.out.size hb1)
    clear hb1 HALL
    go_wp2
    go_ret
    exact ⟨by rw [HE.out]; rfl, HB1.out⟩
  · have h1 := Bool.eq_false_iff.mpr h
    have HE := Aside0.mk (show textOk low s = false by unfold textOk; rw [h1, Bool.false_and])
    clear h
    go_enter Try.func86, Try.ntmps86
    go_wp2_with fail
    refine (within_calls _ _ _ _).mono ?_
    rintro e w' ⟨rfl, rfl⟩
    go_wp2
    go_ret
    exact ⟨by rw [HE.out]; rfl, (Below.refl _ _).alloc (Nat.le_refl _) _⟩

/-- A range of days. -/
def rangeOk (lo hi : Int) : Bool := decide (0 ≤ lo) && (decide (lo ≤ hi) && decide (hi ≤ 100000))
set_option maxHeartbeats 1000000 in
set_option maxRecDepth 100000 in
theorem right_calls (lo hi : Int) (w : World) :
    Calls Try.prog 84 #[.agg #[.int .i64 lo, .int .i64 hi]] w fun e w' => e = .returned (.bool (rangeOk lo hi)) ∧ Below w.heap.size w w' := by
  have hu49 := Try.underlying49
  cases h1 : decide (0 ≤ lo) <;> cases h2 : decide (lo ≤ hi)
  all_goals
    go_enter Try.func84, Try.ntmps84
    go_wp2
    go_ret
    exact ⟨by first | (rw [show rangeOk lo hi = false by simp only [rangeOk, h1, h2, Bool.false_and, Bool.and_false]]; rfl) | (rw [show rangeOk lo hi = decide (hi ≤ 100000) by simp only [rangeOk, h1, h2, Bool.true_and]]; rfl), (Below.refl _ _).alloc (Nat.le_refl _) _⟩

/-- Is a number one of a person's? -/
theorem check1_calls (n p : Int) (b : Nat) (w : World) (hp : 1 ≤ p ∧ p ≤ 20) (hc : w.cell? ⟨b, 0, none⟩ = some (.int .i64 p)) :
    Calls Try.prog 82 #[.int .i64 n, .pointer (some ⟨b, 0, none⟩)] w fun e w' => e = .returned (.bool (withinB n 0 (p - 1))) ∧ w = w' := by
  have hu35 := Try.underlying35
  obtain ⟨hp1, hp2⟩ := hp
  go_enter Try.func82, Try.ntmps82
  go_wp2_with fail
  refine (within_calls _ _ _ _).mono ?_
  rintro e w' ⟨rfl, rfl⟩
  go_wp2
  go_ret
  exact ⟨rfl, rfl⟩
/-- Is a term as described? -/
def termOk (p o : Int) (t : S59) : Bool := withinB t.f0 0 (p - 1) && (withinB t.f1 0 (o - 1) && (rangeOk t.f2.f0 t.f2.f1 && (rangeOk t.f3.f0 t.f3.f1 && decide (t.f2.f1 < t.f3.f0))))
set_option maxHeartbeats 4000000 in
set_option maxRecDepth 100000 in
theorem check2_calls (t : S59) (p o : Int) (q b : Nat) (w : World) (hp : 1 ≤ p ∧ p ≤ 20) (ho : 1 ≤ o ∧ o ≤ 10)
    (hq : w.cell? ⟨q, 0, none⟩ = some (.func (.func 82) #[] #[.pointer (some ⟨b, 0, none⟩)])) (hc0 : w.cell? ⟨b, 0, none⟩ = some (.int .i64 p)) (hc1 : w.cell? ⟨b, 1, none⟩ = some (.int .i64 o)) :
    Calls Try.prog 83 #[.agg #[.int .i64 t.f0, .int .i64 t.f1, .int .i64 t.f2.f0, .int .i64 t.f2.f1, .int .i64 t.f3.f0, .int .i64 t.f3.f1], .pointer (some ⟨q, 0, none⟩), .pointer (some ⟨b, 0, none⟩)] w fun e w' => e = .returned (.bool (termOk p o t)) ∧ Below w.heap.size w w' := by
  have hu35 := Try.underlying35
  have hu59 := Try.underlying59
  have hu49 := Try.underlying49
  have hq2 := fun O => pw_cell_below ((Below.refl w.heap.size w).alloc (Nat.le_refl _) O) hq
  have hc02 := fun O => pw_cell_below ((Below.refl w.heap.size w).alloc (Nat.le_refl _) O) hc0
  have hc12 := fun O => pw_cell_below ((Below.refl w.heap.size w).alloc (Nat.le_refl _) O) hc1
  have HP := Aside0.mk hp
  obtain ⟨ho1, ho2⟩ := ho
  clear hp hq hc0 hc1
  have HB0 := fun O => Aside0.mk ((Below.refl w.heap.size w).alloc (Nat.le_refl _) O)
  cases h1 : withinB t.f0 0 (p - 1)
  · have HE := Aside0.mk (show termOk p o t = false by unfold termOk; rw [h1, Bool.false_and])
    go_enter Try.func83, Try.ntmps83
    go_wp2_with (first | ((with_reducible refine (check1_calls _ p b _ HP.out (hc02 _)).mono ?_); rintro e w' ⟨rfl, rfl⟩))
    go_ret
    exact ⟨by rw [HE.out]; rfl, (HB0 _).out⟩
  cases h2 : withinB t.f1 0 (o - 1)
  · have HE := Aside0.mk (show termOk p o t = false by unfold termOk; rw [h1, h2]; rfl)
    go_enter Try.func83, Try.ntmps83
    go_wp2_with (first | ((with_reducible refine (check1_calls _ p b _ HP.out (hc02 _)).mono ?_); rintro e w' ⟨rfl, rfl⟩) | (go_at_call 73; (with_reducible refine (within_calls _ _ _ _).mono ?_); rintro e w' ⟨rfl, rfl⟩))
    go_ret
    exact ⟨by rw [HE.out]; rfl, (HB0 _).out⟩
  cases h3 : rangeOk t.f2.f0 t.f2.f1
  · have HE := Aside0.mk (show termOk p o t = false by unfold termOk; rw [h1, h2, h3]; rfl)
    go_enter Try.func83, Try.ntmps83
    go_wp2_with (first | (go_at_call 82; (with_reducible refine (check1_calls _ p b _ HP.out (hc02 _)).mono ?_); rintro e w' ⟨rfl, rfl⟩) | (go_at_call 73; (with_reducible refine (within_calls _ _ _ _).mono ?_); rintro e w' ⟨rfl, rfl⟩))
    refine (right_calls _ _ _).mono ?_
    rintro e w1 ⟨rfl, hb1⟩
    have hk1 := fun o : Nat => hb1.cell (p := ⟨w.heap.size, o, none⟩) (by simp)
    have HB1 := Aside0.mk (below_then (HB0 _).out (HB0 _).out.size hb1)
    have hz1 : w.heap.size < w1.heap.size := by have := hb1.size; simp at this; omega
    clear hb1
    go_wp2
    go_ret
    exact ⟨by rw [HE.out]; rfl, HB1.out⟩
  cases h4 : rangeOk t.f3.f0 t.f3.f1
  · have HE := Aside0.mk (show termOk p o t = false by unfold termOk; rw [h1, h2, h3, h4]; rfl)
    go_enter Try.func83, Try.ntmps83
    go_wp2_with (first | (go_at_call 82; (with_reducible refine (check1_calls _ p b _ HP.out (hc02 _)).mono ?_); rintro e w' ⟨rfl, rfl⟩) | (go_at_call 73; (with_reducible refine (within_calls _ _ _ _).mono ?_); rintro e w' ⟨rfl, rfl⟩))
    refine (right_calls _ _ _).mono ?_
    rintro e w1 ⟨rfl, hb1⟩
    have hk1 := fun o : Nat => hb1.cell (p := ⟨w.heap.size, o, none⟩) (by simp)
    have HB1 := Aside0.mk (below_then (HB0 _).out (HB0 _).out.size hb1)
    have hz1 : w.heap.size < w1.heap.size := by have := hb1.size; simp at this; omega
    clear hb1
    go_wp2_with fail
    refine (right_calls _ _ _).mono ?_
    rintro e w2 ⟨rfl, hb2⟩
    have hk2 := fun o : Nat => (hb2.cell (p := ⟨w.heap.size, o, none⟩) hz1).trans (hk1 o)
    have HB2 := Aside0.mk (below_then HB1.out HB1.out.size hb2)
    clear hb2
    go_wp2
    go_ret
    exact ⟨by rw [HE.out]; rfl, HB2.out⟩
  · have HE := Aside0.mk (show termOk p o t = decide (t.f2.f1 < t.f3.f0) by unfold termOk; rw [h1, h2, h3, h4]; rfl)
    go_enter Try.func83, Try.ntmps83
    go_wp2_with (first | (go_at_call 82; (with_reducible refine (check1_calls _ p b _ HP.out (hc02 _)).mono ?_); rintro e w' ⟨rfl, rfl⟩) | (go_at_call 73; (with_reducible refine (within_calls _ _ _ _).mono ?_); rintro e w' ⟨rfl, rfl⟩))
    refine (right_calls _ _ _).mono ?_
    rintro e w1 ⟨rfl, hb1⟩
    have hk1 := fun o : Nat => hb1.cell (p := ⟨w.heap.size, o, none⟩) (by simp)
    have HB1 := Aside0.mk (below_then (HB0 _).out (HB0 _).out.size hb1)
    have hz1 : w.heap.size < w1.heap.size := by have := hb1.size; simp at this; omega
    clear hb1
    go_wp2_with fail
    refine (right_calls _ _ _).mono ?_
    rintro e w2 ⟨rfl, hb2⟩
    have hk2 := fun o : Nat => (hb2.cell (p := ⟨w.heap.size, o, none⟩) hz1).trans (hk1 o)
    have HB2 := Aside0.mk (below_then HB1.out HB1.out.size hb2)
    clear hb2
    go_wp2
    go_ret
    exact ⟨by rw [HE.out]; rfl, HB2.out⟩

/-- Is a name as described? -/
def nameOk (p : Int) (n : S109) : Bool := withinB n.f0 0 (p - 1) && (withinB n.f1 0 100000 && textOk 32 n.f2)
set_option maxHeartbeats 4000000 in
set_option maxRecDepth 100000 in
theorem check3_calls (n : S109) (p : Int) (q b : Nat) (w : World) (hp : 1 ≤ p ∧ p ≤ 20)
    (hq : w.cell? ⟨q, 0, none⟩ = some (.func (.func 82) #[] #[.pointer (some ⟨b, 0, none⟩)])) (hc0 : w.cell? ⟨b, 0, none⟩ = some (.int .i64 p)) :
    Calls Try.prog 85 #[.agg #[.int .i64 n.f0, .int .i64 n.f1, .string n.f2], .pointer (some ⟨q, 0, none⟩)] w fun e w' => e = .returned (.bool (nameOk p n)) ∧ Below w.heap.size w w' := by
  have hu109 := Try.underlying109
  have hq2 := fun O => pw_cell_below ((Below.refl w.heap.size w).alloc (Nat.le_refl _) O) hq
  have hc02 := fun O => pw_cell_below ((Below.refl w.heap.size w).alloc (Nat.le_refl _) O) hc0
  have HP := Aside0.mk hp
  clear hp hq hc0
  have HB0 := fun O => Aside0.mk ((Below.refl w.heap.size w).alloc (Nat.le_refl _) O)
  cases h1 : withinB n.f0 0 (p - 1)
  · have HE := Aside0.mk (show nameOk p n = false by unfold nameOk; rw [h1, Bool.false_and])
    go_enter Try.func85, Try.ntmps85
    go_wp2_with (first | (go_at_call 82; (with_reducible refine (check1_calls _ p b _ HP.out (hc02 _)).mono ?_); rintro e w' ⟨rfl, rfl⟩))
    go_ret
    exact ⟨by rw [HE.out]; rfl, (HB0 _).out⟩
  cases h2 : withinB n.f1 0 100000
  · have HE := Aside0.mk (show nameOk p n = false by unfold nameOk; rw [h1, h2]; rfl)
    go_enter Try.func85, Try.ntmps85
    go_wp2_with (first | (go_at_call 82; (with_reducible refine (check1_calls _ p b _ HP.out (hc02 _)).mono ?_); rintro e w' ⟨rfl, rfl⟩) | (go_at_call 73; (with_reducible refine (within_calls _ _ _ _).mono ?_); rintro e w' ⟨rfl, rfl⟩))
    go_ret
    exact ⟨by rw [HE.out]; rfl, (HB0 _).out⟩
  · have HE := Aside0.mk (show nameOk p n = textOk 32 n.f2 by unfold nameOk; rw [h1, h2]; rfl)
    go_enter Try.func85, Try.ntmps85
    go_wp2_with (first | (go_at_call 82; (with_reducible refine (check1_calls _ p b _ HP.out (hc02 _)).mono ?_); rintro e w' ⟨rfl, rfl⟩) | (go_at_call 73; (with_reducible refine (within_calls _ _ _ _).mono ?_); rintro e w' ⟨rfl, rfl⟩))
    refine (text_calls _ _ _).mono ?_
    rintro e w1 ⟨rfl, hb1⟩
    have HB1 := Aside0.mk (below_then (HB0 _).out (HB0 _).out.size hb1)
    clear hb1
    go_wp2
    go_ret
    exact ⟨by rw [HE.out]; rfl, HB1.out⟩
end Go.Proofs.Ythpheknchikodaa.P

/- The walk of 'all' at elements of type 59: it reports whether each element of a list is right, whatever closure says so. Conditions: none beyond the list's being readable. -/
namespace Go.Proofs.Ythpheknchikodaa.P
open Go.RowKit Go.Proofs.YthpheknchikodaaW.PrintWords Go.Proofs.YthpheknchikodaaW.PrintLast
set_option linter.unusedVariables false
set_option linter.unusedSimpArgs false

theorem idx_stepTerm (p : S59 → Bool) (l : List S59) (i : Int) (h0 : 0 ≤ i) (h : i < (l.length : Int)) : idxFrom p (l.drop i.toNat) i = if p (rd_T59 l i) = true then i else idxFrom p (l.drop (i + 1).toNat) (i + 1) := by
  have h' : i.toNat < l.length := by omega
  rw [List.drop_eq_getElem_cons h', show (i + 1).toNat = i.toNat + 1 by omega]
  simp only [idxFrom, rd_T59, List.getD_eq_getElem?_getD, List.getElem?_eq_getElem h', Option.getD_some]
set_option maxHeartbeats 1000000 in
set_option maxRecDepth 100000 in
theorem indexFuncTerm (g : Nat) (caps : Array Value) (p : S59 → Bool) (A : Option Addr) (c : Nat) (l : List S59) (w : World) (hr : Kd.C k59 w A l.length l) (hm : l.length ≤ 9223372036854775806)
    (heg : ∀ (args : Array Value) (W : World), Sem.run Try.prog (callFunc g args) W = .ok (.enter g args) W)
    (hF : ∀ x W, Below w.heap.size w W → Calls Try.prog g (#[.agg #[.int .i64 x.f0, .int .i64 x.f1, .int .i64 x.f2.f0, .int .i64 x.f2.f1, .int .i64 x.f3.f0, .int .i64 x.f3.f1]] ++ caps) W fun e W' => e = .returned (.bool (p x)) ∧ Below W.heap.size W W') :
    Calls Try.prog 123 #[.slice A l.length c, .func (.func g) #[] caps] w fun e w' => e = .returned (.int .i64 (idxFrom p l 0)) ∧ Below w.heap.size w w' := by
  have HR := Aside0.mk hr
  have HF := Aside0.mk hF
  clear hr hF
  have hu59 := Try.underlying59
  go_enter Try.func123, Try.ntmps123
  go_wp2
  go_loopg [8] l.length (fun kq v8 w' => ∃ i : Int, v8 = .int .i64 i ∧ Aside0 (0 ≤ i ∧ kq + i.toNat = l.length) ∧ Aside0 (idxFrom p l 0 = idxFrom p (l.drop i.toNat) i) ∧ Aside0 (Below w.heap.size w w'))
  case atStart => exact ⟨0, rfl, ⟨by omega⟩, ⟨rfl⟩, ⟨Below.refl _ _⟩⟩
  case round =>
    obtain ⟨i, rfl, HK, HI, HB⟩ := hrel
    by_cases hlt : i < (l.length : Int)
    · have c0 : decide (i < (l.length : Int)) = true := decide_eq_true hlt
      have p1 : 0 ≤ i := HK.out.1
      obtain ⟨ad, hA, h0, h1, h2, h3, h4, h5⟩ := at_T59 (Kd.C_below HR.out HB.out) i p1 hlt
      cases hA
      replace p1 := eq_true p1
      replace hlt := eq_true hlt
      go_wp2_with fail
      refine (HF.out (rd_T59 l i) _ HB.out).mono ?_
      rintro e w1 ⟨rfl, hb1⟩
      have HB1 := Aside0.mk (below_then HB.out HB.out.size hb1)
      clear hb1
      have hst := idx_stepTerm p l i HK.out.1 (of_eq_true hlt)
      by_cases hp : p (rd_T59 l i) = true
      · have HE := Aside0.mk (HI.out.trans (hst.trans (if_pos hp)))
        clear hst
        go_wp2
        go_ret
        exact ⟨by rw [HE.out]; rfl, HB1.out⟩
      · have HE := Aside0.mk (HI.out.trans (hst.trans (if_neg hp)))
        replace hp := Bool.eq_false_iff.mpr hp
        clear hst
        have hw : wrap64 (i + 1) = i + 1 := by unfold wrap64; have := HK.out; have := of_eq_true hlt; omega
        go_wp2
        go_roundg (gk - 1)
        case measure => have := HK.out; have := of_eq_true hlt; omega
        case rel => exact ⟨i + 1, by first | rfl | rw [hw], ⟨by have := HK.out; have := of_eq_true hlt; omega⟩, HE, HB1⟩
    · have c0 : decide (i < (l.length : Int)) = false := decide_eq_false hlt
      have HE := Aside0.mk (HI.out.trans (by rw [List.drop_eq_nil_of_le (by have := HK.out; omega)]))
      clear hlt
      go_wp2
      go_ret
      exact ⟨by rw [HE.out]; rfl, HB.out⟩
set_option maxHeartbeats 1000000 in
set_option maxRecDepth 100000 in
theorem containsFuncTerm (g : Nat) (caps : Array Value) (p : S59 → Bool) (A : Option Addr) (c : Nat) (l : List S59) (w : World) (hr : Kd.C k59 w A l.length l) (hm : l.length ≤ 9223372036854775806)
    (heg : ∀ (args : Array Value) (W : World), Sem.run Try.prog (callFunc g args) W = .ok (.enter g args) W)
    (hF : ∀ x W, Below w.heap.size w W → Calls Try.prog g (#[.agg #[.int .i64 x.f0, .int .i64 x.f1, .int .i64 x.f2.f0, .int .i64 x.f2.f1, .int .i64 x.f3.f0, .int .i64 x.f3.f1]] ++ caps) W fun e W' => e = .returned (.bool (p x)) ∧ Below W.heap.size W W') :
    Calls Try.prog 103 #[.slice A l.length c, .func (.func g) #[] caps] w fun e w' => e = .returned (.bool (l.any p)) ∧ Below w.heap.size w w' := by
  have HR := Aside0.mk hr
  have HF := Aside0.mk hF
  have HG := Aside0.mk heg
  clear hr hF heg
  have HE := Aside0.mk (idxFrom_any p l)
  go_enter Try.func103, Try.ntmps103
  go_wp2_with fail
  refine (indexFuncTerm g caps p A c l w HR.out hm HG.out HF.out).mono ?_
  rintro e w1 ⟨rfl, hb1⟩
  have HB1 := Aside0.mk hb1
  clear hb1
  go_wp2
  go_ret
  exact ⟨by rw [HE.out]; rfl, HB1.out⟩
set_option maxHeartbeats 1000000 in
set_option maxRecDepth 100000 in
theorem notRightTerm (g b : Nat) (caps : Array Value) (p : S59 → Bool) (x : S59) (w : World) (hc : w.cell? ⟨b, 0, none⟩ = some (.func (.func g) #[] caps))
    (heg : ∀ (args : Array Value) (W : World), Sem.run Try.prog (callFunc g args) W = .ok (.enter g args) W)
    (hF : ∀ W, Below w.heap.size w W → Calls Try.prog g (#[.agg #[.int .i64 x.f0, .int .i64 x.f1, .int .i64 x.f2.f0, .int .i64 x.f2.f1, .int .i64 x.f3.f0, .int .i64 x.f3.f1]] ++ caps) W fun e W' => e = .returned (.bool (p x)) ∧ Below W.heap.size W W') :
    Calls Try.prog 104 #[.agg #[.int .i64 x.f0, .int .i64 x.f1, .int .i64 x.f2.f0, .int .i64 x.f2.f1, .int .i64 x.f3.f0, .int .i64 x.f3.f1], .pointer (some ⟨b, 0, none⟩)] w fun e w' => e = .returned (.bool (!p x)) ∧ Below w.heap.size w w' := by
  have HF := Aside0.mk hF
  clear hF
  have hu59 := Try.underlying59
  have hc2 := fun o => pw_cell_below ((Below.refl w.heap.size w).alloc (Nat.le_refl _) o) hc
  go_enter Try.func104, Try.ntmps104
  go_wp2_with fail
  refine (HF.out _ ((Below.refl _ _).alloc (Nat.le_refl _) _)).mono ?_
  rintro e w1 ⟨rfl, hb1⟩
  have HB1 := Aside0.mk (((Below.refl _ _).alloc (Nat.le_refl _) _).trans (hb1.mono (by simp)))
  clear hb1
  go_wp2
  go_ret
  exact ⟨rfl, HB1.out⟩
set_option maxHeartbeats 1000000 in
set_option maxRecDepth 100000 in
theorem allTerm (g : Nat) (caps : Array Value) (p : S59 → Bool) (A : Option Addr) (c : Nat) (l : List S59) (w : World) (hr : Kd.C k59 w A l.length l) (hm : l.length ≤ 9223372036854775806)
    (heg : ∀ (args : Array Value) (W : World), Sem.run Try.prog (callFunc g args) W = .ok (.enter g args) W)
    (hF : ∀ x W, Below w.heap.size w W → Calls Try.prog g (#[.agg #[.int .i64 x.f0, .int .i64 x.f1, .int .i64 x.f2.f0, .int .i64 x.f2.f1, .int .i64 x.f3.f0, .int .i64 x.f3.f1]] ++ caps) W fun e W' => e = .returned (.bool (p x)) ∧ Below W.heap.size W W') :
    Calls Try.prog 87 #[.slice A l.length c, .func (.func g) #[] caps] w fun e w' => e = .returned (.bool (l.all p)) ∧ Below w.heap.size w w' := by
  have HR := Aside0.mk hr
  have HF := Aside0.mk hF
  have HG := Aside0.mk heg
  clear hr hF heg
  have HE := Aside0.mk (any_not_all p l)
  go_enter Try.func87, Try.ntmps87
  go_wp2_with fail
  have HB0 := Aside0.mk ((Below.refl w.heap.size w).alloc (Nat.le_refl _) (.cells #[.func (.func g) #[] caps] 151 (0, 0)))
  refine (containsFuncTerm 104 #[.pointer (some ⟨w.heap.size, 0, none⟩)] (fun x => !p x) A c l _ (Kd.C_below HR.out HB0.out) hm (enters_ Try.func104 (by kernel_rfl) rfl) ?_).mono ?_
  · intro x W hb
    refine notRightTerm g w.heap.size caps p x W ((hb.cell (p := ⟨w.heap.size, 0, none⟩) (by simp)).trans (by simp)) HG.out (fun W' hb' => HF.out x W' ?_)
    exact below_then (below_then HB0.out HB0.out.size hb) (below_then HB0.out HB0.out.size hb).size hb'
  rintro e w1 ⟨rfl, hb1⟩
  have HB1 := Aside0.mk (below_then HB0.out HB0.out.size hb1)
  clear hb1
  go_wp2
  go_ret
  exact ⟨by rw [HE.out]; rfl, HB1.out⟩
end Go.Proofs.Ythpheknchikodaa.P

/- The walk of 'all' at elements of type 109: it reports whether each element of a list is right, whatever closure says so. Conditions: none beyond the list's being readable. -/
namespace Go.Proofs.Ythpheknchikodaa.P
open Go.RowKit Go.Proofs.YthpheknchikodaaW.PrintWords Go.Proofs.YthpheknchikodaaW.PrintLast
set_option linter.unusedVariables false
set_option linter.unusedSimpArgs false

theorem idx_stepCalled (p : S109 → Bool) (l : List S109) (i : Int) (h0 : 0 ≤ i) (h : i < (l.length : Int)) : idxFrom p (l.drop i.toNat) i = if p (rd_T109 l i) = true then i else idxFrom p (l.drop (i + 1).toNat) (i + 1) := by
  have h' : i.toNat < l.length := by omega
  rw [List.drop_eq_getElem_cons h', show (i + 1).toNat = i.toNat + 1 by omega]
  simp only [idxFrom, rd_T109, List.getD_eq_getElem?_getD, List.getElem?_eq_getElem h', Option.getD_some]
set_option maxHeartbeats 1000000 in
set_option maxRecDepth 100000 in
theorem indexFuncCalled (g : Nat) (caps : Array Value) (p : S109 → Bool) (A : Option Addr) (c : Nat) (l : List S109) (w : World) (hr : Kd.C k109 w A l.length l) (hm : l.length ≤ 9223372036854775806)
    (heg : ∀ (args : Array Value) (W : World), Sem.run Try.prog (callFunc g args) W = .ok (.enter g args) W)
    (hF : ∀ x W, Below w.heap.size w W → Calls Try.prog g (#[.agg #[.int .i64 x.f0, .int .i64 x.f1, .string x.f2]] ++ caps) W fun e W' => e = .returned (.bool (p x)) ∧ Below W.heap.size W W') :
    Calls Try.prog 124 #[.slice A l.length c, .func (.func g) #[] caps] w fun e w' => e = .returned (.int .i64 (idxFrom p l 0)) ∧ Below w.heap.size w w' := by
  have HR := Aside0.mk hr
  have HF := Aside0.mk hF
  clear hr hF
  have hu109 := Try.underlying109
  go_enter Try.func124, Try.ntmps124
  go_wp2
  go_loopg [8] l.length (fun kq v8 w' => ∃ i : Int, v8 = .int .i64 i ∧ Aside0 (0 ≤ i ∧ kq + i.toNat = l.length) ∧ Aside0 (idxFrom p l 0 = idxFrom p (l.drop i.toNat) i) ∧ Aside0 (Below w.heap.size w w'))
  case atStart => exact ⟨0, rfl, ⟨by omega⟩, ⟨rfl⟩, ⟨Below.refl _ _⟩⟩
  case round =>
    obtain ⟨i, rfl, HK, HI, HB⟩ := hrel
    by_cases hlt : i < (l.length : Int)
    · have c0 : decide (i < (l.length : Int)) = true := decide_eq_true hlt
      have p1 : 0 ≤ i := HK.out.1
      obtain ⟨ad, hA, h0, h1, h2⟩ := at_T109 (Kd.C_below HR.out HB.out) i p1 hlt
      cases hA
      replace p1 := eq_true p1
      replace hlt := eq_true hlt
      go_wp2_with fail
      refine (HF.out (rd_T109 l i) _ HB.out).mono ?_
      rintro e w1 ⟨rfl, hb1⟩
      have HB1 := Aside0.mk (below_then HB.out HB.out.size hb1)
      clear hb1
      have hst := idx_stepCalled p l i HK.out.1 (of_eq_true hlt)
      by_cases hp : p (rd_T109 l i) = true
      · have HE := Aside0.mk (HI.out.trans (hst.trans (if_pos hp)))
        clear hst
        go_wp2
        go_ret
        exact ⟨by rw [HE.out]; rfl, HB1.out⟩
      · have HE := Aside0.mk (HI.out.trans (hst.trans (if_neg hp)))
        replace hp := Bool.eq_false_iff.mpr hp
        clear hst
        have hw : wrap64 (i + 1) = i + 1 := by unfold wrap64; have := HK.out; have := of_eq_true hlt; omega
        go_wp2
        go_roundg (gk - 1)
        case measure => have := HK.out; have := of_eq_true hlt; omega
        case rel => exact ⟨i + 1, by first | rfl | rw [hw], ⟨by have := HK.out; have := of_eq_true hlt; omega⟩, HE, HB1⟩
    · have c0 : decide (i < (l.length : Int)) = false := decide_eq_false hlt
      have HE := Aside0.mk (HI.out.trans (by rw [List.drop_eq_nil_of_le (by have := HK.out; omega)]))
      clear hlt
      go_wp2
      go_ret
      exact ⟨by rw [HE.out]; rfl, HB.out⟩
set_option maxHeartbeats 1000000 in
set_option maxRecDepth 100000 in
theorem containsFuncCalled (g : Nat) (caps : Array Value) (p : S109 → Bool) (A : Option Addr) (c : Nat) (l : List S109) (w : World) (hr : Kd.C k109 w A l.length l) (hm : l.length ≤ 9223372036854775806)
    (heg : ∀ (args : Array Value) (W : World), Sem.run Try.prog (callFunc g args) W = .ok (.enter g args) W)
    (hF : ∀ x W, Below w.heap.size w W → Calls Try.prog g (#[.agg #[.int .i64 x.f0, .int .i64 x.f1, .string x.f2]] ++ caps) W fun e W' => e = .returned (.bool (p x)) ∧ Below W.heap.size W W') :
    Calls Try.prog 105 #[.slice A l.length c, .func (.func g) #[] caps] w fun e w' => e = .returned (.bool (l.any p)) ∧ Below w.heap.size w w' := by
  have HR := Aside0.mk hr
  have HF := Aside0.mk hF
  have HG := Aside0.mk heg
  clear hr hF heg
  have HE := Aside0.mk (idxFrom_any p l)
  go_enter Try.func105, Try.ntmps105
  go_wp2_with fail
  refine (indexFuncCalled g caps p A c l w HR.out hm HG.out HF.out).mono ?_
  rintro e w1 ⟨rfl, hb1⟩
  have HB1 := Aside0.mk hb1
  clear hb1
  go_wp2
  go_ret
  exact ⟨by rw [HE.out]; rfl, HB1.out⟩
set_option maxHeartbeats 1000000 in
set_option maxRecDepth 100000 in
theorem notRightCalled (g b : Nat) (caps : Array Value) (p : S109 → Bool) (x : S109) (w : World) (hc : w.cell? ⟨b, 0, none⟩ = some (.func (.func g) #[] caps))
    (heg : ∀ (args : Array Value) (W : World), Sem.run Try.prog (callFunc g args) W = .ok (.enter g args) W)
    (hF : ∀ W, Below w.heap.size w W → Calls Try.prog g (#[.agg #[.int .i64 x.f0, .int .i64 x.f1, .string x.f2]] ++ caps) W fun e W' => e = .returned (.bool (p x)) ∧ Below W.heap.size W W') :
    Calls Try.prog 106 #[.agg #[.int .i64 x.f0, .int .i64 x.f1, .string x.f2], .pointer (some ⟨b, 0, none⟩)] w fun e w' => e = .returned (.bool (!p x)) ∧ Below w.heap.size w w' := by
  have HF := Aside0.mk hF
  clear hF
  have hu109 := Try.underlying109
  have hc2 := fun o => pw_cell_below ((Below.refl w.heap.size w).alloc (Nat.le_refl _) o) hc
  go_enter Try.func106, Try.ntmps106
  go_wp2_with fail
  refine (HF.out _ ((Below.refl _ _).alloc (Nat.le_refl _) _)).mono ?_
  rintro e w1 ⟨rfl, hb1⟩
  have HB1 := Aside0.mk (((Below.refl _ _).alloc (Nat.le_refl _) _).trans (hb1.mono (by simp)))
  clear hb1
  go_wp2
  go_ret
  exact ⟨rfl, HB1.out⟩
set_option maxHeartbeats 1000000 in
set_option maxRecDepth 100000 in
theorem allCalled (g : Nat) (caps : Array Value) (p : S109 → Bool) (A : Option Addr) (c : Nat) (l : List S109) (w : World) (hr : Kd.C k109 w A l.length l) (hm : l.length ≤ 9223372036854775806)
    (heg : ∀ (args : Array Value) (W : World), Sem.run Try.prog (callFunc g args) W = .ok (.enter g args) W)
    (hF : ∀ x W, Below w.heap.size w W → Calls Try.prog g (#[.agg #[.int .i64 x.f0, .int .i64 x.f1, .string x.f2]] ++ caps) W fun e W' => e = .returned (.bool (p x)) ∧ Below W.heap.size W W') :
    Calls Try.prog 88 #[.slice A l.length c, .func (.func g) #[] caps] w fun e w' => e = .returned (.bool (l.all p)) ∧ Below w.heap.size w w' := by
  have HR := Aside0.mk hr
  have HF := Aside0.mk hF
  have HG := Aside0.mk heg
  clear hr hF heg
  have HE := Aside0.mk (any_not_all p l)
  go_enter Try.func88, Try.ntmps88
  go_wp2_with fail
  have HB0 := Aside0.mk ((Below.refl w.heap.size w).alloc (Nat.le_refl _) (.cells #[.func (.func g) #[] caps] 152 (0, 0)))
  refine (containsFuncCalled 106 #[.pointer (some ⟨w.heap.size, 0, none⟩)] (fun x => !p x) A c l _ (Kd.C_below HR.out HB0.out) hm (enters_ Try.func106 (by kernel_rfl) rfl) ?_).mono ?_
  · intro x W hb
    refine notRightCalled g w.heap.size caps p x W ((hb.cell (p := ⟨w.heap.size, 0, none⟩) (by simp)).trans (by simp)) HG.out (fun W' hb' => HF.out x W' ?_)
    exact below_then (below_then HB0.out HB0.out.size hb) (below_then HB0.out HB0.out.size hb).size hb'
  rintro e w1 ⟨rfl, hb1⟩
  have HB1 := Aside0.mk (below_then HB0.out HB0.out.size hb1)
  clear hb1
  go_wp2
  go_ret
  exact ⟨by rw [HE.out]; rfl, HB1.out⟩
end Go.Proofs.Ythpheknchikodaa.P

/- Maps that a call makes, entry by entry in the order in which they came: look-up, store, length. Conditions: equality of two keys is decided by the machine without a halt. -/
namespace Go.Proofs.Ythpheknchikodaa.P
open Go.RowKit Go.Proofs.YthpheknchikodaaW.PrintWords Go.Proofs.YthpheknchikodaaW.PrintLast
set_option linter.unusedVariables false
set_option linter.unusedSimpArgs false

/-- Where a key stands first, and its value. -/
def kfind {κ : Type} [DecidableEq κ] (x : κ) : List (κ × Value) → Nat → Option (Nat × Value)
  | [], _ => none
  | (k, v) :: l, i => if x = k then some (i, v) else kfind x l (i + 1)
/-- The value of a key, or another one. -/
def kget {κ : Type} [DecidableEq κ] (x : κ) (z : Value) (l : List (κ × Value)) : Value := ((kfind x l 0).map (·.2)).getD z
/-- A key's value is set: in its place, or at the end. -/
def kput {κ : Type} [DecidableEq κ] (x : κ) (v : Value) : List (κ × Value) → List (κ × Value)
  | [] => [(x, v)]
  | (k, u) :: l => if x = k then (k, v) :: l else (k, u) :: kput x v l
/-- Block b is a map of these entries. -/
def MapIs {κ : Type} (w : World) (b : Nat) (ek : κ → Value) (l : List (κ × Value)) : Prop :=
  ∃ es clock, w.heap[b]? = some (.map es clock) ∧ es.toList.map (fun e => (e.key, e.val)) = l.map fun p => (ek p.1, p.2)
/-- How the machine compares keys of a type. -/
structure KeyFit (P : Program) (k : TypeId) {κ : Type} [DecidableEq κ] (ek : κ → Value) : Prop where
  find : ∀ (x : κ) (es : List MapEntry) (l : List (κ × Value)) (W : World), es.map (fun e => (e.key, e.val)) = l.map (fun p => (ek p.1, p.2)) → (Instr.findKey k (ek x) es).run P W = .ok (kfind x l 0) W
  check : ∀ (x : κ) (e : Bool) (W : World), (Instr.checkKey e 10000 k (ek x)).run P W = .ok () W
  same : ∀ x, Instr.sameBits 10000 (ek x) (ek x) = true
section
variable {κ : Type} {w w1 : World} {b : Nat} {ek : κ → Value} {l : List (κ × Value)}
theorem MapIs.lt (h : MapIs w b ek l) : b < w.heap.size := by
  obtain ⟨es, c, hb, _⟩ := h
  exact (Array.getElem?_eq_some_iff.1 hb).1
theorem MapIs.of_block (h : MapIs w b ek l) (hk : w1.heap[b]? = w.heap[b]?) : MapIs w1 b ek l := by
  obtain ⟨es, c, hb, hl⟩ := h
  exact ⟨es, c, hk.trans hb, hl⟩
theorem MapIs.below (h : MapIs w b ek l) (hb : Below w.heap.size w w1) : MapIs w1 b ek l := h.of_block (hb.block b h.lt)
theorem MapIs.made (w : World) (ek : κ → Value) : MapIs (w.alloc (.map #[] 0)) w.heap.size ek [] := ⟨#[], 0, by simp [World.alloc, -World.alloc_eq], rfl⟩
end
section
variable {κ : Type} [DecidableEq κ] {P : Program} {w w1 : World} {b : Nat} {ek : κ → Value} {l : List (κ × Value)}
theorem kfind_mem (x : κ) : ∀ (l : List (κ × Value)) (i j : Nat) (v : Value), kfind x l i = some (j, v) → i ≤ j ∧ l[j - i]? = some (x, v)
  | [], _, _, _, h => by simp [kfind] at h
  | (k, u) :: l, i, j, v, h => by
    unfold kfind at h
    by_cases e : x = k
    · rw [if_pos e] at h
      obtain ⟨rfl, rfl⟩ := (by simpa using h : i = j ∧ u = v)
      subst e
      simp
    · rw [if_neg e] at h
      obtain ⟨h1, h2⟩ := kfind_mem x l (i + 1) j v h
      refine ⟨by omega, ?_⟩
      rw [show j - i = (j - (i + 1)) + 1 by omega, List.getElem?_cons_succ]
      exact h2
theorem kput_none (x : κ) (v : Value) : ∀ (l : List (κ × Value)) (i : Nat), kfind x l i = none → kput x v l = l ++ [(x, v)]
  | [], _, _ => rfl
  | (k, u) :: l, i, h => by
    unfold kfind at h
    by_cases e : x = k
    · rw [if_pos e] at h; simp at h
    · rw [if_neg e] at h
      unfold kput
      rw [if_neg e, kput_none x v l (i + 1) h]
      rfl
theorem kput_some (x : κ) (v : Value) : ∀ (l : List (κ × Value)) (i j : Nat) (u : Value), kfind x l i = some (j, u) → kput x v l = l.set (j - i) (x, v)
  | [], _, _, _, h => by simp [kfind] at h
  | (k, u') :: l, i, j, u, h => by
    unfold kfind at h
    unfold kput
    by_cases e : x = k
    · rw [if_pos e] at h
      obtain ⟨rfl, rfl⟩ := (by simpa using h : i = j ∧ u' = u)
      rw [if_pos e]
      subst e
      simp
    · rw [if_neg e] at h
      obtain ⟨h1, _⟩ := kfind_mem x l (i + 1) j u h
      rw [if_neg e, kput_some x v l (i + 1) j u h, show j - i = (j - (i + 1)) + 1 by omega, List.set_cons_succ]

theorem MapIs.lookup (h : MapIs w b ek l) {t k e : TypeId} (K : KeyFit P k ek) (ht : P.underlying t = some (.map k e)) {z : Value} (hz : (zeroValue e).run P w = .ok z w) (x : κ) :
    (Instr.lookup t (.map (some b)) (ek x) false).run P w = .ok (kget x z l) w := by
  obtain ⟨es, c, hb, hl⟩ := h
  have hf := K.find x es.toList l w hl
  have hc := K.check x es.isEmpty w
  unfold kget
  cases hk : kfind x l 0 with
  | none =>
    rw [hk] at hf
    simp [Instr.lookup, run_underlying ht, MapKept.run_getObj_map hb, hc, hf, hz, Result.andThen]
  | some p =>
    obtain ⟨j, v⟩ := p
    rw [hk] at hf
    simp [Instr.lookup, run_underlying ht, MapKept.run_getObj_map hb, hc, hf, Result.andThen]
theorem MapIs.update (h : MapIs w b ek l) {t k e : TypeId} (K : KeyFit P k ek) (ht : P.underlying t = some (.map k e)) (x : κ) (v : Value) :
    ∃ w', (Instr.mapUpdate t (.map (some b)) (ek x) v).run P w = .ok () w' ∧ MapIs w' b ek (kput x v l) ∧ w.grownBy w' (some b) := by
  obtain ⟨es, c, hb, hl⟩ := h
  have hf := K.find x es.toList l w hl
  have hc := K.check x false w
  have hlt : b < w.heap.size := (Array.getElem?_eq_some_iff.1 hb).1
  cases hk : kfind x l 0 with
  | none =>
    rw [hk] at hf
    refine ⟨{ w with heap := w.heap.setIfInBounds b (.map (es.push { key := ek x, val := v, born := c }) (c + 1)) }, ?_, ⟨es.push { key := ek x, val := v, born := c }, c + 1, by simp [hlt], ?_⟩, ⟨rfl, rfl, rfl, by simp, fun i _ hi => ?_⟩⟩
    · simp [Instr.mapUpdate, run_underlying ht, MapKept.run_getObj_map hb, MapKept.run_setObj_map _ hb, hc, hf, Result.andThen]
    · rw [kput_none x v l 0 hk]
      simp [hl]
    · have : b ≠ i := fun e => hi (by rw [e])
      simp [this]
  | some p =>
    obtain ⟨j, u⟩ := p
    rw [hk] at hf
    obtain ⟨_, hj⟩ := kfind_mem x l 0 j u hk
    have hj' : l[j]? = some (x, u) := by simpa using hj
    have he : (es.toList.map fun e => (e.key, e.val))[j]? = some (ek x, u) := by rw [hl, List.getElem?_map, hj']; rfl
    rw [List.getElem?_map] at he
    obtain ⟨e0, he0, he1⟩ := Option.map_eq_some_iff.1 he
    have he2 : es[j]? = some e0 := by rw [← he0, Array.getElem?_toList]
    have he3 : e0.key = ek x := congrArg Prod.fst he1
    have hjl : j < es.size := (Array.getElem?_eq_some_iff.1 he2).1
    refine ⟨{ w with heap := w.heap.setIfInBounds b (.map (es.modify j fun e => { e with key := ek x, val := v }) c) }, ?_, ⟨es.modify j fun e => { e with key := ek x, val := v }, c, by simp [hlt], ?_⟩, ⟨rfl, rfl, rfl, by simp, fun i _ hi => ?_⟩⟩
    · simp [Instr.mapUpdate, run_underlying ht, MapKept.run_getObj_map hb, MapKept.run_setObj_map _ hb, hc, hf, Result.andThen, he2, he3, Instr.keyThatStays, K.same x]
    · rw [kput_some x v l 0 j u hk]
      apply List.ext_getElem?
      intro i
      have hli := congrArg (fun z => z[i]?) hl
      simp only [List.getElem?_map] at hli
      by_cases hij : j = i
      · subst hij
        simp only [List.getElem?_map, Nat.sub_zero]
        rw [List.getElem?_set_self (by rw [← List.length_map (f := fun p => (ek p.1, p.2)), ← hl]; simpa using hjl)]
        simp [Array.getElem?_modify, he2]
      · simp only [List.getElem?_map, Nat.sub_zero]
        rw [List.getElem?_set_ne hij]
        simp only [Array.getElem?_toList, Array.getElem?_modify, if_neg hij] at hli ⊢
        exact hli
    · have : b ≠ i := fun e => hi (by rw [e])
      simp [this]
end
section
variable {κ : Type} [DecidableEq κ] {P : Program} {ops : Array Oper} {rest : List Oper} {o : Oper} {a : Act} {Q : Exit → Act → World → Prop}
/-- A look-up, at the operation. -/
theorem map_lookup (w : World) (hg : o.guard = none) (m x : Operand) (t k e : TypeId) (hop : o.op = Op.lookup t m x false) (ek : κ → Value) (b : Nat) (l : List (κ × Value)) (y : κ) (z : Value)
    (hm : a.eval m = .map (some b)) (hx : a.eval x = ek y) (ht : P.underlying t = some (.map k e)) (hz : (zeroValue e).run P w = .ok z w) (K : KeyFit P k ek) (h : MapIs w b ek l)
    (hK : wpList P ops Q rest (a.put o.dst (kget y z l)) w) : wpList P ops Q (o :: rest) a w := by
  refine wpList_plain hg fun K' hK' => ?_
  have hrun := h.lookup K ht hz y
  unfold Oper.wp
  simp [execOp, hop, hm, hx, hrun, Result.andThen]
  exact hK' _ _ hK
/-- A store, at the operation. -/
theorem map_store (w : World) (hg : o.guard = none) (m x v : Operand) (t k e : TypeId) (hop : o.op = Op.mapUpdate t m x v) (ek : κ → Value) (b : Nat) (l : List (κ × Value)) (y : κ) (u : Value)
    (hm : a.eval m = .map (some b)) (hx : a.eval x = ek y) (hv : a.eval v = u) (ht : P.underlying t = some (.map k e)) (K : KeyFit P k ek) (h : MapIs w b ek l)
    (hK : ∀ w', MapIs w' b ek (kput y u l) → w.grownBy w' (some b) → wpList P ops Q rest (a.put o.dst undef) w') : wpList P ops Q (o :: rest) a w := by
  refine wpList_plain hg fun K' hK' => ?_
  obtain ⟨w', hrun, r1, r2⟩ := h.update K ht y u
  unfold Oper.wp
  simp [execOp, hop, hm, hx, hv, hrun, Result.andThen]
  exact hK' _ _ (hK w' r1 r2)
end
/-- Keys of a type whose equality the machine asks step by step. -/
theorem findAsking_of {κ : Type} [DecidableEq κ] {P : Program} {k : TypeId} {ek : κ → Value} (heq : ∀ x y W, (Op.equal k (ek x) (ek y)).run P W = .ok (decide (x = y)) W) (x : κ) (W : World) :
    ∀ (es : List MapEntry) (l : List (κ × Value)) (i : Nat), es.map (fun e => (e.key, e.val)) = l.map (fun p => (ek p.1, p.2)) → (Instr.findAsking k (ek x) es i).run P W = .ok (kfind x l i) W
  | [], [], i, _ => by simp [Instr.findAsking, kfind]
  | [], _ :: _, _, h => by simp at h
  | _ :: _, [], _, h => by simp at h
  | e :: es, (y, v) :: l, i, h => by
    obtain ⟨⟨h1, h2⟩, h3⟩ := (by simpa using h : (e.key = ek y ∧ e.val = v) ∧ es.map (fun e => (e.key, e.val)) = l.map (fun p => (ek p.1, p.2)))
    have ih := findAsking_of heq x W es l (i + 1) h3
    unfold kfind
    by_cases hxy : x = y
    · simp [Instr.findAsking, h1, heq, hxy, h2, Result.andThen]
    · simp [Instr.findAsking, h1, heq, hxy, Result.andThen, ih]
/-- A struct of a type of two whole numbers. -/
def of2 (p : Int × Int) : Value := .agg #[.int .i64 p.1, .int .i64 p.2]
/-- Keys that are whole numbers. -/
theorem findNow_int (q : TypeDesc) (kq : IntKind) (hq : q = .int kq) (x : Int) :
    ∀ (es : List MapEntry) (l : List (Int × Value)) (i : Nat), es.map (fun e => (e.key, e.val)) = l.map (fun p => (Value.int .i64 p.1, p.2)) → Instr.findNow q (.int .i64 x) es i = some (kfind x l i)
  | [], [], i, _ => by simp [Instr.findNow, kfind]
  | [], _ :: _, _, h => by simp at h
  | _ :: _, [], _, h => by simp at h
  | e :: es, (y, v) :: l, i, h => by
    obtain ⟨⟨h1, h2⟩, h3⟩ := (by simpa using h : (e.key = .int .i64 y ∧ e.val = v) ∧ es.map (fun e => (e.key, e.val)) = l.map (fun p => (Value.int .i64 p.1, p.2)))
    have ih := findNow_int q kq hq x es l (i + 1) h3
    unfold kfind
    subst hq
    by_cases hxy : x = y
    · simp [Instr.findNow, Instr.sameNow, h1, hxy, h2]
    · have : (x == y) = false := by simpa using hxy
      simp [Instr.findNow, Instr.sameNow, h1, this, hxy, ih]
end Go.Proofs.Ythpheknchikodaa.P
