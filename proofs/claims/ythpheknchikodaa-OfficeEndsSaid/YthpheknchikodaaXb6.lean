/- Contracts of functions that the laws reach, part Xb6. Conditions: each theorem names its own. -/
import Derived.Test.YthpheknchikodaaXb5
/- The walk of office.quote: the pieces of a quotation. Conditions: none beyond the lists' being readable. -/
namespace Go.Proofs.Ythpheknchikodaa.P
open Go.RowKit Go.Proofs.YthpheknchikodaaW.PrintWords Go.Proofs.YthpheknchikodaaW.PrintLast
set_option linter.unusedVariables false
set_option linter.unusedSimpArgs false

def wordOk (s : ByteArray) : Bool := textOk 33 s
theorem word_calls (s : ByteArray) (w : World) : Calls Try.prog 90 #[.string s] w fun e w' => e = .returned (.bool (wordOk s)) ∧ Below w.heap.size w w' := by
  go_enter Try.func90, Try.ntmps90
  go_wp2_with fail
  refine (text_calls s 33 w).mono ?_
  rintro e w' ⟨rfl, hb⟩
  have HB := Aside0.mk hb
  clear hb
  go_wp2
  go_ret
  exact ⟨rfl, HB.out⟩
def quoteOk (paper quotation kept : List ByteArray) : Bool :=
  withinB paper.length 1 80 && withinB quotation.length 1 80 && decide (kept.length ≤ 20) && paper.all wordOk && quotation.all wordOk && kept.all wordOk
set_option maxHeartbeats 4000000 in
set_option maxRecDepth 100000 in
theorem quoteBad1 (paper quotation kept : List ByteArray) (A0 : Option Addr) (c0 : Nat) (A1 : Option Addr) (c1 : Nat) (A2 : Option Addr) (c2 : Nat) (w : World)
    (h0 : Kd.C Kd.string w A0 paper.length paper) (h1 : Kd.C Kd.string w A1 quotation.length quotation) (h2 : Kd.C Kd.string w A2 kept.length kept) (b1 : withinB paper.length 1 80 = false)  :
    Calls Try.prog 64 #[.slice A0 paper.length c0, .slice A1 quotation.length c1, .slice A2 kept.length c2] w fun e w' => e = .returned (.tuple #[.pointer none, .bool false]) ∧ Below w.heap.size w w' := by
  have HR0 := Aside0.mk h0
  have HR1 := Aside0.mk h1
  have HR2 := Aside0.mk h2
  have HL0 := Aside0.mk h0.2.1
  have HL1 := Aside0.mk h1.2.1
  have HL2 := Aside0.mk h2.2.1
  clear h0 h1 h2
  have HB := Aside0.mk (Below.refl w.heap.size w)
  go_enter Try.func64, Try.ntmps64
  go_wp2_with (first | (go_at_call 73; (with_reducible refine (within_calls _ _ _ _).mono ?_); rintro e w' ⟨rfl, rfl⟩; (first | rw [b1])))
  refine bodyPost_ret (results_tmp2 rfl _ _ _) rfl ?_
  exact ⟨rfl, HB.out⟩
set_option maxHeartbeats 4000000 in
set_option maxRecDepth 100000 in
theorem quoteBad2 (paper quotation kept : List ByteArray) (A0 : Option Addr) (c0 : Nat) (A1 : Option Addr) (c1 : Nat) (A2 : Option Addr) (c2 : Nat) (w : World)
    (h0 : Kd.C Kd.string w A0 paper.length paper) (h1 : Kd.C Kd.string w A1 quotation.length quotation) (h2 : Kd.C Kd.string w A2 kept.length kept) (b1 : withinB paper.length 1 80 = true) (b2 : withinB quotation.length 1 80 = false)  :
    Calls Try.prog 64 #[.slice A0 paper.length c0, .slice A1 quotation.length c1, .slice A2 kept.length c2] w fun e w' => e = .returned (.tuple #[.pointer none, .bool false]) ∧ Below w.heap.size w w' := by
  have HR0 := Aside0.mk h0
  have HR1 := Aside0.mk h1
  have HR2 := Aside0.mk h2
  have HL0 := Aside0.mk h0.2.1
  have HL1 := Aside0.mk h1.2.1
  have HL2 := Aside0.mk h2.2.1
  clear h0 h1 h2
  have HB := Aside0.mk (Below.refl w.heap.size w)
  go_enter Try.func64, Try.ntmps64
  go_wp2_with (first | (go_at_call 73; (with_reducible refine (within_calls _ _ _ _).mono ?_); rintro e w' ⟨rfl, rfl⟩; (first | rw [b1] | rw [b2])))
  refine bodyPost_ret (results_tmp2 rfl _ _ _) rfl ?_
  exact ⟨rfl, HB.out⟩
set_option maxHeartbeats 4000000 in
set_option maxRecDepth 100000 in
theorem quoteBad3 (paper quotation kept : List ByteArray) (A0 : Option Addr) (c0 : Nat) (A1 : Option Addr) (c1 : Nat) (A2 : Option Addr) (c2 : Nat) (w : World)
    (h0 : Kd.C Kd.string w A0 paper.length paper) (h1 : Kd.C Kd.string w A1 quotation.length quotation) (h2 : Kd.C Kd.string w A2 kept.length kept) (b1 : withinB paper.length 1 80 = true) (b2 : withinB quotation.length 1 80 = true) (b3 : decide (20 < (kept.length : Int)) = true)  :
    Calls Try.prog 64 #[.slice A0 paper.length c0, .slice A1 quotation.length c1, .slice A2 kept.length c2] w fun e w' => e = .returned (.tuple #[.pointer none, .bool false]) ∧ Below w.heap.size w w' := by
  have HR0 := Aside0.mk h0
  have HR1 := Aside0.mk h1
  have HR2 := Aside0.mk h2
  have HL0 := Aside0.mk h0.2.1
  have HL1 := Aside0.mk h1.2.1
  have HL2 := Aside0.mk h2.2.1
  clear h0 h1 h2
  have HB := Aside0.mk (Below.refl w.heap.size w)
  go_enter Try.func64, Try.ntmps64
  go_wp2_with (first | (go_at_call 73; (with_reducible refine (within_calls _ _ _ _).mono ?_); rintro e w' ⟨rfl, rfl⟩; (first | rw [b1] | rw [b2])))
  refine bodyPost_ret (results_tmp2 rfl _ _ _) rfl ?_
  exact ⟨rfl, HB.out⟩
set_option maxHeartbeats 4000000 in
set_option maxRecDepth 100000 in
theorem quoteBad4 (paper quotation kept : List ByteArray) (A0 : Option Addr) (c0 : Nat) (A1 : Option Addr) (c1 : Nat) (A2 : Option Addr) (c2 : Nat) (w : World)
    (h0 : Kd.C Kd.string w A0 paper.length paper) (h1 : Kd.C Kd.string w A1 quotation.length quotation) (h2 : Kd.C Kd.string w A2 kept.length kept) (b1 : withinB paper.length 1 80 = true) (b2 : withinB quotation.length 1 80 = true) (b3 : decide (20 < (kept.length : Int)) = false) (b4 : paper.all wordOk = false)  :
    Calls Try.prog 64 #[.slice A0 paper.length c0, .slice A1 quotation.length c1, .slice A2 kept.length c2] w fun e w' => e = .returned (.tuple #[.pointer none, .bool false]) ∧ Below w.heap.size w w' := by
  have HR0 := Aside0.mk h0
  have HR1 := Aside0.mk h1
  have HR2 := Aside0.mk h2
  have HL0 := Aside0.mk h0.2.1
  have HL1 := Aside0.mk h1.2.1
  have HL2 := Aside0.mk h2.2.1
  clear h0 h1 h2
  have HS0 := Aside0.mk (show paper.length ≤ 80 by unfold withinB at b1; simp at b1; omega)
  have HB := Aside0.mk (Below.refl w.heap.size w)
  go_enter Try.func64, Try.ntmps64
  go_wp2_with (first | (go_at_call 73; (with_reducible refine (within_calls _ _ _ _).mono ?_); rintro e w' ⟨rfl, rfl⟩; (first | rw [b1] | rw [b2])) | (go_at_call 91; (refine (allStr 90 #[] wordOk A0 c0 paper _ (Kd.C_below HR0.out HB.out) (by have := HS0.out; omega) (enters_ Try.func90 (by kernel_rfl) rfl) (fun x W _ => word_calls x W)).mono ?_); rintro e w2 ⟨rfl, hb⟩; have n0_ := Aside0.mk (below_then HB.out HB.out.size hb); clear HB; have HB := n0_; clear n0_ hb; rw [b4]))
  refine bodyPost_ret (results_tmp2 rfl _ _ _) rfl ?_
  exact ⟨rfl, HB.out⟩
set_option maxHeartbeats 4000000 in
set_option maxRecDepth 100000 in
theorem quoteBad5 (paper quotation kept : List ByteArray) (A0 : Option Addr) (c0 : Nat) (A1 : Option Addr) (c1 : Nat) (A2 : Option Addr) (c2 : Nat) (w : World)
    (h0 : Kd.C Kd.string w A0 paper.length paper) (h1 : Kd.C Kd.string w A1 quotation.length quotation) (h2 : Kd.C Kd.string w A2 kept.length kept) (b1 : withinB paper.length 1 80 = true) (b2 : withinB quotation.length 1 80 = true) (b3 : decide (20 < (kept.length : Int)) = false) (b4 : paper.all wordOk = true) (b5 : quotation.all wordOk = false)  :
    Calls Try.prog 64 #[.slice A0 paper.length c0, .slice A1 quotation.length c1, .slice A2 kept.length c2] w fun e w' => e = .returned (.tuple #[.pointer none, .bool false]) ∧ Below w.heap.size w w' := by
  have HR0 := Aside0.mk h0
  have HR1 := Aside0.mk h1
  have HR2 := Aside0.mk h2
  have HL0 := Aside0.mk h0.2.1
  have HL1 := Aside0.mk h1.2.1
  have HL2 := Aside0.mk h2.2.1
  clear h0 h1 h2
  have HS0 := Aside0.mk (show paper.length ≤ 80 by unfold withinB at b1; simp at b1; omega)
  have HS1 := Aside0.mk (show quotation.length ≤ 80 by unfold withinB at b2; simp at b2; omega)
  have HB := Aside0.mk (Below.refl w.heap.size w)
  go_enter Try.func64, Try.ntmps64
  go_wp2_with (first | (go_at_call 73; (with_reducible refine (within_calls _ _ _ _).mono ?_); rintro e w' ⟨rfl, rfl⟩; (first | rw [b1] | rw [b2])) | (go_at_call 91; (refine (allStr 90 #[] wordOk A0 c0 paper _ (Kd.C_below HR0.out HB.out) (by have := HS0.out; omega) (enters_ Try.func90 (by kernel_rfl) rfl) (fun x W _ => word_calls x W)).mono ?_); rintro e w2 ⟨rfl, hb⟩; have n0_ := Aside0.mk (below_then HB.out HB.out.size hb); clear HB; have HB := n0_; clear n0_ hb; rw [b4]) | (go_at_call 91; (refine (allStr 90 #[] wordOk A1 c1 quotation _ (Kd.C_below HR1.out HB.out) (by have := HS1.out; omega) (enters_ Try.func90 (by kernel_rfl) rfl) (fun x W _ => word_calls x W)).mono ?_); rintro e w3 ⟨rfl, hb⟩; have n0_ := Aside0.mk (below_then HB.out HB.out.size hb); clear HB; have HB := n0_; clear n0_ hb; rw [b5]))
  refine bodyPost_ret (results_tmp2 rfl _ _ _) rfl ?_
  exact ⟨rfl, HB.out⟩
set_option maxHeartbeats 4000000 in
set_option maxRecDepth 100000 in
theorem quoteBad6 (paper quotation kept : List ByteArray) (A0 : Option Addr) (c0 : Nat) (A1 : Option Addr) (c1 : Nat) (A2 : Option Addr) (c2 : Nat) (w : World)
    (h0 : Kd.C Kd.string w A0 paper.length paper) (h1 : Kd.C Kd.string w A1 quotation.length quotation) (h2 : Kd.C Kd.string w A2 kept.length kept) (b1 : withinB paper.length 1 80 = true) (b2 : withinB quotation.length 1 80 = true) (b3 : decide (20 < (kept.length : Int)) = false) (b4 : paper.all wordOk = true) (b5 : quotation.all wordOk = true) (b6 : kept.all wordOk = false)  :
    Calls Try.prog 64 #[.slice A0 paper.length c0, .slice A1 quotation.length c1, .slice A2 kept.length c2] w fun e w' => e = .returned (.tuple #[.pointer none, .bool false]) ∧ Below w.heap.size w w' := by
  have HR0 := Aside0.mk h0
  have HR1 := Aside0.mk h1
  have HR2 := Aside0.mk h2
  have HL0 := Aside0.mk h0.2.1
  have HL1 := Aside0.mk h1.2.1
  have HL2 := Aside0.mk h2.2.1
  clear h0 h1 h2
  have HS0 := Aside0.mk (show paper.length ≤ 80 by unfold withinB at b1; simp at b1; omega)
  have HS1 := Aside0.mk (show quotation.length ≤ 80 by unfold withinB at b2; simp at b2; omega)
  have HS2 := Aside0.mk (show kept.length ≤ 20 by have h := of_decide_eq_false b3; omega)
  have HB := Aside0.mk (Below.refl w.heap.size w)
  go_enter Try.func64, Try.ntmps64
  go_wp2_with (first | (go_at_call 73; (with_reducible refine (within_calls _ _ _ _).mono ?_); rintro e w' ⟨rfl, rfl⟩; (first | rw [b1] | rw [b2])) | (go_at_call 91; (refine (allStr 90 #[] wordOk A0 c0 paper _ (Kd.C_below HR0.out HB.out) (by have := HS0.out; omega) (enters_ Try.func90 (by kernel_rfl) rfl) (fun x W _ => word_calls x W)).mono ?_); rintro e w2 ⟨rfl, hb⟩; have n0_ := Aside0.mk (below_then HB.out HB.out.size hb); clear HB; have HB := n0_; clear n0_ hb; rw [b4]) | (go_at_call 91; (refine (allStr 90 #[] wordOk A1 c1 quotation _ (Kd.C_below HR1.out HB.out) (by have := HS1.out; omega) (enters_ Try.func90 (by kernel_rfl) rfl) (fun x W _ => word_calls x W)).mono ?_); rintro e w3 ⟨rfl, hb⟩; have n0_ := Aside0.mk (below_then HB.out HB.out.size hb); clear HB; have HB := n0_; clear n0_ hb; rw [b5]) | (go_at_call 91; (refine (allStr 90 #[] wordOk A2 c2 kept _ (Kd.C_below HR2.out HB.out) (by have := HS2.out; omega) (enters_ Try.func90 (by kernel_rfl) rfl) (fun x W _ => word_calls x W)).mono ?_); rintro e w4 ⟨rfl, hb⟩; have n0_ := Aside0.mk (below_then HB.out HB.out.size hb); clear HB; have HB := n0_; clear n0_ hb; rw [b6]))
  refine bodyPost_ret (results_tmp2 rfl _ _ _) rfl ?_
  exact ⟨rfl, HB.out⟩
end Go.Proofs.Ythpheknchikodaa.P

/- The walk of office.quote: a quotation with its pieces. Conditions: the lists are readable. -/
namespace Go.Proofs.Ythpheknchikodaa.P
open Go.RowKit Go.Proofs.YthpheknchikodaaW.PrintWords Go.Proofs.YthpheknchikodaaW.PrintLast
set_option linter.unusedVariables false
set_option linter.unusedSimpArgs false

theorem info157 : (Try.prog.info? 157).map (fun i => (i.zero, i.size, i.bytes)) = some (some (.agg #[.string ⟨#[]⟩, .bool false]), 2, 24) := by kernel_rfl
def isGap (s : ByteArray) : Bool := s.toList == [46, 46, 46]
/-- The pieces of the rest of a quotation: what stands already, and whether a gap stands before. -/
def piecesFrom : Bool → List S157 → List ByteArray → List S157
  | _, L, [] => L
  | b, L, s :: l => if isGap s = true then piecesFrom true L l else piecesFrom false (L ++ [⟨s, b || decide (L.length = 0)⟩]) l
def piecesOf (quotation : List ByteArray) : List S157 := piecesFrom false [] quotation
def QBox (qb : Nat) (A0 : Option Addr) (n0 c0 : Nat) (A2 : Option Addr) (n2 c2 : Nat) (v : Value) (W : World) : Prop := W.heap[qb]? = some (.cells #[.slice A0 n0 c0, .slice A2 n2 c2, v] 134 (0, 0))
set_option maxHeartbeats 4000000 in
set_option maxRecDepth 100000 in
theorem quoteGood (R : List S157) (paper quotation kept : List ByteArray) (A0 : Option Addr) (c0 : Nat) (A1 : Option Addr) (c1 : Nat) (A2 : Option Addr) (c2 : Nat) (w : World)
    (h0 : Kd.C Kd.string w A0 paper.length paper) (h1 : Kd.C Kd.string w A1 quotation.length quotation) (h2 : Kd.C Kd.string w A2 kept.length kept) (b1 : withinB paper.length 1 80 = true) (b2 : withinB quotation.length 1 80 = true) (b3 : decide (20 < (kept.length : Int)) = false) (b4 : paper.all wordOk = true) (b5 : quotation.all wordOk = true) (b6 : kept.all wordOk = true) (hR : piecesOf quotation = R) :
    Calls Try.prog 64 #[.slice A0 paper.length c0, .slice A1 quotation.length c1, .slice A2 kept.length c2] w fun e w' => ∃ (qb : Nat) (Aq : Option Addr) (cq : Nat), e = .returned (.tuple #[.pointer (some ⟨qb, 0, none⟩), .bool (decide (0 < R.length))]) ∧
      QBox qb A0 paper.length c0 A2 kept.length c2 (.slice Aq R.length cq) w' ∧ Kd.R k157 157 w' w.heap.size (fun _ => True) (.slice Aq R.length cq) R ∧ Below w.heap.size w w' := by
  have HRR := Aside0.mk hR
  have HR0 := Aside0.mk h0
  clear hR
  have HR1 := Aside0.mk h1
  have HR2 := Aside0.mk h2
  have HL0 := Aside0.mk h0.2.1
  have HL1 := Aside0.mk h1.2.1
  have HL2 := Aside0.mk h2.2.1
  clear h0 h1 h2
  have HS0 := Aside0.mk (show paper.length ≤ 80 by unfold withinB at b1; simp at b1; omega)
  have HS1 := Aside0.mk (show quotation.length ≤ 80 by unfold withinB at b2; simp at b2; omega)
  have HS2 := Aside0.mk (show kept.length ≤ 20 by have h := of_decide_eq_false b3; omega)
  have HB := Aside0.mk (Below.refl w.heap.size w)
  have hu134 := Try.underlying134
  go_enter Try.func64, Try.ntmps64
  go_wp2_with (first | (go_at_call 73; (with_reducible refine (within_calls _ _ _ _).mono ?_); rintro e w' ⟨rfl, rfl⟩; (first | rw [b1] | rw [b2])) | (go_at_call 91; (refine (allStr 90 #[] wordOk A0 c0 paper _ (Kd.C_below HR0.out HB.out) (by have := HS0.out; omega) (enters_ Try.func90 (by kernel_rfl) rfl) (fun x W _ => word_calls x W)).mono ?_); rintro e w2 ⟨rfl, hb⟩; have n0_ := Aside0.mk (below_then HB.out HB.out.size hb); clear HB; have HB := n0_; clear n0_ hb; rw [b4]) | (go_at_call 91; (refine (allStr 90 #[] wordOk A1 c1 quotation _ (Kd.C_below HR1.out HB.out) (by have := HS1.out; omega) (enters_ Try.func90 (by kernel_rfl) rfl) (fun x W _ => word_calls x W)).mono ?_); rintro e w3 ⟨rfl, hb⟩; have n0_ := Aside0.mk (below_then HB.out HB.out.size hb); clear HB; have HB := n0_; clear n0_ hb; rw [b5]) | (go_at_call 91; (refine (allStr 90 #[] wordOk A2 c2 kept _ (Kd.C_below HR2.out HB.out) (by have := HS2.out; omega) (enters_ Try.func90 (by kernel_rfl) rfl) (fun x W _ => word_calls x W)).mono ?_); rintro e w4 ⟨rfl, hb⟩; have n0_ := Aside0.mk (below_then HB.out HB.out.size hb); clear HB; have HB := n0_; clear n0_ hb; rw [b6]))
  obtain ⟨qb, hqb⟩ : ∃ qb, w4.heap.size = qb := ⟨_, rfl⟩
  have HX0 := Aside0.mk (show QBox qb A0 paper.length c0 A2 kept.length c2 (.slice none 0 0) (w4.alloc (.cells #[.slice A0 paper.length c0, .slice A2 kept.length c2, .slice none 0 0] 134)) by
    rw [← hqb]; exact blk_new w4 _)
  have HQB := Aside0.mk (show w.heap.size ≤ qb by rw [← hqb]; exact HB.out.size)
  have HB1 := Aside0.mk (below_alloc HB.out (.cells #[.slice A0 paper.length c0, .slice A2 kept.length c2, .slice none 0 0] 134))
  rw [hqb]
  clear HB
  generalize w4.alloc (.cells #[.slice A0 paper.length c0, .slice A2 kept.length c2, .slice none 0 0] 134) = w5 at HX0 HB1 ⊢
  clear hqb
  go_loopg [10, 52] quotation.length (fun kq v10 v52 w' => ∃ (b : Bool) (i : Int) (L : List S157) (Al : Option Addr) (cl : Nat), v10 = .bool b ∧ v52 = .int .i64 i ∧ Aside0 (0 ≤ i ∧ kq + i.toNat = quotation.length ∧ (L.length : Int) ≤ i) ∧ Aside0 (piecesFrom b L (quotation.drop i.toNat) = R) ∧
    Aside0 (QBox qb A0 paper.length c0 A2 kept.length c2 (.slice Al L.length cl) w') ∧ Aside0 (Kd.R k157 157 w' w.heap.size (fun _ => True) (.slice Al L.length cl) L) ∧ Aside0 (Below w.heap.size w w'))
  case atStart => exact ⟨false, 0, [], none, 0, rfl, rfl, ⟨by simp⟩, ⟨HRR.out⟩, HX0, ⟨Kd.R_nil _ _ _ _ _⟩, HB1⟩
  case round =>
    clear HX0 HB1
    obtain ⟨b, i, L, Al, cl, rfl, rfl, HI, HP, HX, HO, HB⟩ := hrel
    have hX := HX.out
    have hc := (blk_cell hX 2).trans (show _ = some (Value.slice Al L.length cl) from rfl)
    clear hX
    by_cases hlt : i < (quotation.length : Int)
    case neg =>
      have t0 : decide (i < (quotation.length : Int)) = false := decide_eq_false hlt
      have hF : R = L := by rw [← HP.out, List.drop_eq_nil_of_le (by have := HI.out; omega)]; rfl
      subst hF
      clear hlt
      go_wp2
      go_quiet (fail)
      go_wp2
      refine bodyPost_ret (results_tmp2 rfl _ _ _) rfl ?_
      exact ⟨qb, Al, cl, rfl, HX.out, Kd.R_drewN HO.out _, pw_below_drewN HB.out _⟩
    case pos =>
      have t0 : decide (i < (quotation.length : Int)) = true := decide_eq_true hlt
      have i0 : 0 ≤ i := HI.out.1
      have hw : wrap64 (i + 1) = i + 1 := by unfold wrap64; have := HS1.out; omega
      have HLT := Aside0.mk hlt
      obtain ⟨ad, hA, g0⟩ := Kd.at_string (Kd.C_below HR1.out HB.out) i i0 hlt
      obtain ⟨s, hs⟩ : ∃ s, rdOf ByteArray.empty quotation i = s := ⟨_, rfl⟩
      rw [hs] at g0
      have HD := Aside0.mk (show quotation.drop i.toNat = s :: quotation.drop (i + 1).toNat by
        have h' : i.toNat < quotation.length := by omega
        rw [List.drop_eq_getElem_cons h', show (i + 1).toNat = i.toNat + 1 by omega, ← hs]
        simp [rdOf, h'])
      cases hA
      clear hs
      replace i0 := eq_true i0
      replace hlt := eq_true hlt
      cases hg : isGap s
      · have HPN := Aside0.mk (show piecesFrom false (L ++ [⟨s, b || decide (L.length = 0)⟩]) (quotation.drop (i + 1).toNat) = R by rw [← HP.out, HD.out, piecesFrom, if_neg (by rw [hg]; simp)])
        have g1 : (s.toList == [46, 46, 46]) = false := hg
        have g2 : (s.toList = [46, 46, 46]) = False := by simpa using g1
        have HLL := Aside0.mk (show quotation.length ≤ 80 from HS1.out)
        clear hg
        cases b
        · obtain ⟨z, hz⟩ : ∃ z, decide (L.length = 0) = z := ⟨_, rfl⟩
          have z1 : (L.length == 0) = z := by rw [← hz]; rfl
          have z2 : ((L.length : Int) == 0) = z := by rw [← z1, Bool.eq_iff_iff]; simp
          have z3 : decide ((L.length : Int) = 0) = z := by rw [← hz, Bool.eq_iff_iff]; simp
          have z4 : L.isEmpty = z := by rw [← hz, Bool.eq_iff_iff]; simp
          rw [Bool.false_or, hz] at HPN
          go_wp2
          have HB5 := Aside0.mk (below_drew1 HB.out)
          have HO5 := Aside0.mk (Kd.R_drew HO.out)
          have HX5 := Aside0.mk (show QBox qb A0 paper.length c0 A2 kept.length c2 (.slice Al L.length cl) wr.drew from HX.out)
          refine start_ (n := 21) (S := fun w' => w'.cell? ⟨qb, 2, none⟩ = some (.slice Al L.length cl)) (ds := [20]) #[false, false, false, false, false, false, false, false, false, false, false, false, false, false, false, false, false, false, false, false, false] (by kernel_rfl) rfl rfl (hc) (fun hHeld => ?_)
          generalize wr.drew = w5 at HB5 HO5 HX5 hHeld ⊢
          refine pure_ (i := 0) (N := some 58) (v := ?_) (a' := ?_) #[true, false, false, false, false, false, false, false, false, false, false, false, false, false, false, false, false, false, false, false, false] rfl rfl (by kernel_rfl) (fun _ _ _ h => h) (Or.inl ⟨by rfl, ?_⟩) ?_ ?_
          rotate_left
          · intro w'
            go_simp
            with_reducible rfl
          rotate_left
          · simp only [Act.put, List.setIfInBounds_toArray, List.set_cons_zero, List.set_cons_succ, i64_w, i32_w]
            rfl
          refine pure_ (i := 1) (N := some 59) (v := ?_) (a' := ?_) #[true, true, false, false, false, false, false, false, false, false, false, false, false, false, false, false, false, false, false, false, false] rfl rfl (by kernel_rfl) (fun _ _ _ h => h) (Or.inl ⟨by rfl, ?_⟩) ?_ ?_
          rotate_left
          · intro w'
            go_simp
            with_reducible rfl
          rotate_left
          · simp only [Act.put, List.setIfInBounds_toArray, List.set_cons_zero, List.set_cons_succ, i64_w, i32_w]
            rfl
          refine pure_ (i := 2) (N := some 60) (v := ?_) (a' := ?_) #[true, true, true, false, false, false, false, false, false, false, false, false, false, false, false, false, false, false, false, false, false] rfl rfl (by kernel_rfl) (fun _ _ _ h => h) (Or.inl ⟨by rfl, ?_⟩) ?_ ?_
          rotate_left
          · intro w'
            go_simp
            with_reducible rfl
          rotate_left
          · simp only [Act.put, List.setIfInBounds_toArray, List.set_cons_zero, List.set_cons_succ, i64_w, i32_w]
            rfl
          refine pure_ (i := 3) (N := some 61) (v := ?_) (a' := ?_) #[true, true, true, true, false, false, false, false, false, false, false, false, false, false, false, false, false, false, false, false, false] rfl rfl (by kernel_rfl) (fun _ _ _ h => h) (Or.inl ⟨by rfl, ?_⟩) ?_ ?_
          rotate_left
          · intro w'
            go_simp
            with_reducible rfl
          rotate_left
          · simp only [Act.put, List.setIfInBounds_toArray, List.set_cons_zero, List.set_cons_succ, i64_w, i32_w]
            rfl
          refine pure_ (i := 5) (N := some 63) (v := ?_) (a' := ?_) #[true, true, true, true, false, true, false, false, false, false, false, false, false, false, false, false, false, false, false, false, false] rfl rfl (by kernel_rfl) (fun _ _ _ h => h) (Or.inl ⟨by rfl, ?_⟩) ?_ ?_
          rotate_left
          · intro w'
            go_simp
            with_reducible rfl
          rotate_left
          · simp only [Act.put, List.setIfInBounds_toArray, List.set_cons_zero, List.set_cons_succ, i64_w, i32_w]
            rfl
          refine pure_ (i := 6) (N := some 64) (v := ?_) (a' := ?_) #[true, true, true, true, false, true, true, false, false, false, false, false, false, false, false, false, false, false, false, false, false] rfl rfl (by kernel_rfl) (fun _ _ _ h => h) (Or.inl ⟨by rfl, ?_⟩) ?_ ?_
          rotate_left
          · intro w'
            go_simp
            with_reducible rfl
          rotate_left
          · simp only [Act.put, List.setIfInBounds_toArray, List.set_cons_zero, List.set_cons_succ, i64_w, i32_w]
            rfl
          refine pure_ (i := 7) (N := some 65) (v := ?_) (a' := ?_) #[true, true, true, true, false, true, true, true, false, false, false, false, false, false, false, false, false, false, false, false, false] rfl rfl (by kernel_rfl) (fun _ _ _ h => h) (Or.inl ⟨by rfl, ?_⟩) ?_ ?_
          rotate_left
          · intro w'
            go_simp
            with_reducible rfl
          rotate_left
          · simp only [Act.put, List.setIfInBounds_toArray, List.set_cons_zero, List.set_cons_succ, i64_w, i32_w]
            rfl
          refine pure_ (i := 8) (N := some 66) (v := ?_) (a' := ?_) #[true, true, true, true, false, true, true, true, true, false, false, false, false, false, false, false, false, false, false, false, false] rfl rfl (by kernel_rfl) (fun _ _ _ h => h) (Or.inl ⟨by rfl, ?_⟩) ?_ ?_
          rotate_left
          · intro w'
            go_simp
            with_reducible rfl
          rotate_left
          · simp only [Act.put, List.setIfInBounds_toArray, List.set_cons_zero, List.set_cons_succ, i64_w, i32_w]
            rfl
          refine pure_ (i := 9) (N := some 67) (v := ?_) (a' := ?_) #[true, true, true, true, false, true, true, true, true, true, false, false, false, false, false, false, false, false, false, false, false] rfl rfl (by kernel_rfl) (fun _ _ _ h => h) (Or.inl ⟨by rfl, ?_⟩) ?_ ?_
          rotate_left
          · intro w'
            go_simp
            with_reducible rfl
          rotate_left
          · simp only [Act.put, List.setIfInBounds_toArray, List.set_cons_zero, List.set_cons_succ, i64_w, i32_w]
            rfl
          refine pure_ (i := 10) (N := some 68) (v := ?_) (a' := ?_) #[true, true, true, true, false, true, true, true, true, true, true, false, false, false, false, false, false, false, false, false, false] rfl rfl (by kernel_rfl) (fun _ _ _ h => h) (Or.inl ⟨by rfl, ?_⟩) ?_ ?_
          rotate_left
          · intro w'
            go_simp
            with_reducible rfl
          rotate_left
          · simp only [Act.put, List.setIfInBounds_toArray, List.set_cons_zero, List.set_cons_succ, i64_w, i32_w]
            rfl
          refine take_ (i := 4) (N := some 62) (v := ?_) (a' := ?_) #[true, true, true, true, true, true, true, true, true, true, true, false, false, false, false, false, false, false, false, false, false] rfl rfl (by kernel_rfl) (fun _ _ _ h => h) (Or.inl ⟨by rfl, ?_⟩) hHeld ?_ ?_
          rotate_left
          · intro w' s0
            go_simp
            with_reducible rfl
          rotate_left
          · simp only [Act.put, List.setIfInBounds_toArray, List.set_cons_zero, List.set_cons_succ, i64_w, i32_w]
            rfl
          refine take_ (i := 11) (N := some 69) (v := ?_) (a' := ?_) #[true, true, true, true, true, true, true, true, true, true, true, true, false, false, false, false, false, false, false, false, false] rfl rfl (by kernel_rfl) (fun _ _ _ h => h) (Or.inl ⟨by rfl, ?_⟩) hHeld ?_ ?_
          rotate_left
          · intro w' s0
            go_simp
            with_reducible rfl
          rotate_left
          · simp only [Act.put, List.setIfInBounds_toArray, List.set_cons_zero, List.set_cons_succ, i64_w, i32_w]
            rfl
          refine pure_ (i := 12) (N := some 70) (v := ?_) (a' := ?_) #[true, true, true, true, true, true, true, true, true, true, true, true, true, false, false, false, false, false, false, false, false] rfl rfl (by kernel_rfl) (fun _ _ _ h => h) (Or.inl ⟨by rfl, ?_⟩) ?_ ?_
          rotate_left
          · intro w'
            go_simp
            with_reducible rfl
          rotate_left
          · simp only [Act.put, List.setIfInBounds_toArray, List.set_cons_zero, List.set_cons_succ, i64_w, i32_w]
            rfl
          refine pure_ (i := 13) (N := some 71) (v := ?_) (a' := ?_) #[true, true, true, true, true, true, true, true, true, true, true, true, true, true, false, false, false, false, false, false, false] rfl rfl (by kernel_rfl) (fun _ _ _ h => h) (Or.inl ⟨by rfl, ?_⟩) ?_ ?_
          rotate_left
          · intro w'
            go_simp
            with_reducible rfl
          rotate_left
          · simp only [Act.put, List.setIfInBounds_toArray, List.set_cons_zero, List.set_cons_succ, i64_w, i32_w]
            rfl
          refine pure_ (i := 14) (N := some 72) (v := ?_) (a' := ?_) #[true, true, true, true, true, true, true, true, true, true, true, true, true, true, true, false, false, false, false, false, false] rfl rfl (by kernel_rfl) (fun _ _ _ h => h) (Or.inl ⟨by rfl, ?_⟩) ?_ ?_
          rotate_left
          · intro w'
            go_simp
            with_reducible rfl
          rotate_left
          · simp only [Act.put, List.setIfInBounds_toArray, List.set_cons_zero, List.set_cons_succ, i64_w, i32_w]
            rfl
          refine pure_ (i := 15) (N := some 73) (v := ?_) (a' := ?_) #[true, true, true, true, true, true, true, true, true, true, true, true, true, true, true, true, false, false, false, false, false] rfl rfl (by kernel_rfl) (fun _ _ _ h => h) (Or.inl ⟨by rfl, ?_⟩) ?_ ?_
          rotate_left
          · intro w'
            go_simp
            with_reducible rfl
          rotate_left
          · simp only [Act.put, List.setIfInBounds_toArray, List.set_cons_zero, List.set_cons_succ, i64_w, i32_w]
            rfl
          refine one_ (i := 16) (N := some 74) #[true, true, true, true, true, true, true, true, true, true, true, true, true, true, true, true, true, false, false, false, false] rfl rfl (by kernel_rfl) (by decide) (fun K hK => ?_)
          refine value_ (w1 := ?_) (v := ?_) (by rfl) rfl ?_ ?_
          rotate_left 2
          · go_simp
            constructor
            · rfl
            · rfl
          refine hK.out _ _ (pw_cell_below ((Below.refl _ _).alloc (Nat.le_refl _) _) hHeld) (fun hHeld => ?_)
          clear hK K
          refine norm_ (a' := ?_) ?_ ?_
          rotate_left
          · show Act.put _ (some 74) _ = _
            simp only [Act.put, List.setIfInBounds_toArray, List.set_cons_zero, List.set_cons_succ, i64_w, i32_w]
            rfl
          refine one_ (i := 17) (N := some 75) #[true, true, true, true, true, true, true, true, true, true, true, true, true, true, true, true, true, true, false, false, false] rfl rfl (by kernel_rfl) (by decide) (fun K hK => ?_)
          refine Kd.R_append_step k157 (w0 := w) w.heap.size (by rfl) (.tmp 62) (.tmp 74) 132 157 (.agg #[.string ⟨#[]⟩, .bool false]) 24 rfl Try.underlying132 info157 rfl (by decide) (by omega) (.slice Al L.length cl) L (⟨s, z⟩ : S157) [.string s, .bool z] (fun _ => True) (fun _ => False) rfl rfl ?aP (fun _ hk => hk.elim) ?aF ?aO ?aB ?aS ?aL ?_
          (case aP => exact k157_mkM _ _ _ (⟨s, z⟩ : S157))
          (case aB => exact HB5.out)
          (case aF => exact (fun _ _ => trivial))
          (case aO => exact HO5.out)
          (case aS => exact HB5.out.size)
          (case aL => have := HLL.out; have := HI.out; omega)
          intro v6 w6 ho hb hg hat
          obtain ⟨A6, c6, e6⟩ := Kd.R_slice ho
          rw [List.length_append, List.length_singleton] at e6
          subst e6
          have hbx6 := blk_grown HX5.out hg (Kd.R_ne HO5.out HX5.out (by decide))
          have x0 := (blk_cell hbx6 2).trans (show _ = some (Value.slice Al L.length cl) from rfl)
          have x1 := blk_frozen hbx6 2
          have HX6 := Aside0.mk (show QBox qb A0 paper.length c0 A2 kept.length c2 (.slice A6 (L.length + 1) c6) (w6.setCell ⟨qb, 2, none⟩ (.slice A6 (L.length + 1) c6)) from blk_set hbx6 2 _)
          have HO6 := Aside0.mk (Kd.R_set ho hbx6 (by intro q hq; simp [k157, Kd.iso, Kd.pair, Kd.string, Kd.bool, Kd.scalar] at hq; subst hq; decide) 2 (.slice A6 (L.length + 1) c6))
          have HB6 := Aside0.mk (hb.setCell (p := ⟨qb, 2, none⟩) HQB.out (.slice A6 (L.length + 1) c6))
          clear ho hb hg hat hbx6
          refine hK.out _ _ (x0) (fun hHeld => ?_)
          clear hK K
          refine norm_ (a' := ?_) ?_ ?_
          rotate_left
          · show Act.put _ (some 75) _ = _
            simp only [Act.put, List.setIfInBounds_toArray, List.set_cons_zero, List.set_cons_succ, i64_w, i32_w]
            rfl
          refine pure_ (i := 18) (N := some 76) (v := ?_) (a' := ?_) #[true, true, true, true, true, true, true, true, true, true, true, true, true, true, true, true, true, true, true, false, false] rfl rfl (by kernel_rfl) (fun _ _ _ h => h) (Or.inl ⟨by rfl, ?_⟩) ?_ ?_
          rotate_left
          · intro w'
            go_simp
            with_reducible rfl
          rotate_left
          · simp only [Act.put, List.setIfInBounds_toArray, List.set_cons_zero, List.set_cons_succ, i64_w, i32_w]
            rfl
          refine pure_ (i := 19) (N := some 77) (v := ?_) (a' := ?_) #[true, true, true, true, true, true, true, true, true, true, true, true, true, true, true, true, true, true, true, true, false] rfl rfl (by kernel_rfl) (fun _ _ _ h => h) (Or.inl ⟨by rfl, ?_⟩) ?_ ?_
          rotate_left
          · intro w'
            go_simp
            with_reducible rfl
          rotate_left
          · simp only [Act.put, List.setIfInBounds_toArray, List.set_cons_zero, List.set_cons_succ, i64_w, i32_w]
            rfl
          refine last_ (i := 20) (N := none) #[true, true, true, true, true, true, true, true, true, true, true, true, true, true, true, true, true, true, true, true, true] rfl rfl (by kernel_rfl) (by decide) (fun K hK => ?_)
          refine skip_ (w1 := ?_) (by rfl) rfl ?_ ?_
          rotate_left
          · go_simp
            rfl
          refine hK.out _ _ ?_
          clear hK K
          refine done_ (by kernel_rfl) ?_
          go_wp2
          go_roundg (gk - 1)
          case measure => have := HI.out; have := HLT.out; omega
          case rel => exact ⟨false, i + 1, L ++ [⟨s, z⟩], A6, c6, by first | rfl | (simp; done), by first | rfl | rw [hw], ⟨by have := HI.out; have := HLT.out; simp; omega⟩, HPN, ⟨by rw [List.length_append, List.length_singleton]; exact HX6.out⟩, ⟨by rw [List.length_append, List.length_singleton]; exact HO6.out⟩, HB6⟩
        · rw [Bool.true_or] at HPN
          go_wp2
          have HB5 := Aside0.mk (below_drew1 HB.out)
          have HO5 := Aside0.mk (Kd.R_drew HO.out)
          have HX5 := Aside0.mk (show QBox qb A0 paper.length c0 A2 kept.length c2 (.slice Al L.length cl) wr.drew from HX.out)
          refine start_ (n := 21) (S := fun w' => w'.cell? ⟨qb, 2, none⟩ = some (.slice Al L.length cl)) (ds := [20]) #[false, false, false, false, false, false, false, false, false, false, false, false, false, false, false, false, false, false, false, false, false] (by kernel_rfl) rfl rfl (hc) (fun hHeld => ?_)
          generalize wr.drew = w5 at HB5 HO5 HX5 hHeld ⊢
          refine pure_ (i := 0) (N := some 58) (v := ?_) (a' := ?_) #[true, false, false, false, false, false, false, false, false, false, false, false, false, false, false, false, false, false, false, false, false] rfl rfl (by kernel_rfl) (fun _ _ _ h => h) (Or.inl ⟨by rfl, ?_⟩) ?_ ?_
          rotate_left
          · intro w'
            go_simp
            with_reducible rfl
          rotate_left
          · simp only [Act.put, List.setIfInBounds_toArray, List.set_cons_zero, List.set_cons_succ, i64_w, i32_w]
            rfl
          refine pure_ (i := 1) (N := some 59) (v := ?_) (a' := ?_) #[true, true, false, false, false, false, false, false, false, false, false, false, false, false, false, false, false, false, false, false, false] rfl rfl (by kernel_rfl) (fun _ _ _ h => h) (Or.inl ⟨by rfl, ?_⟩) ?_ ?_
          rotate_left
          · intro w'
            go_simp
            with_reducible rfl
          rotate_left
          · simp only [Act.put, List.setIfInBounds_toArray, List.set_cons_zero, List.set_cons_succ, i64_w, i32_w]
            rfl
          refine pure_ (i := 2) (N := some 60) (v := ?_) (a' := ?_) #[true, true, true, false, false, false, false, false, false, false, false, false, false, false, false, false, false, false, false, false, false] rfl rfl (by kernel_rfl) (fun _ _ _ h => h) (Or.inl ⟨by rfl, ?_⟩) ?_ ?_
          rotate_left
          · intro w'
            go_simp
            with_reducible rfl
          rotate_left
          · simp only [Act.put, List.setIfInBounds_toArray, List.set_cons_zero, List.set_cons_succ, i64_w, i32_w]
            rfl
          refine pure_ (i := 3) (N := some 61) (v := ?_) (a' := ?_) #[true, true, true, true, false, false, false, false, false, false, false, false, false, false, false, false, false, false, false, false, false] rfl rfl (by kernel_rfl) (fun _ _ _ h => h) (Or.inl ⟨by rfl, ?_⟩) ?_ ?_
          rotate_left
          · intro w'
            go_simp
            with_reducible rfl
          rotate_left
          · simp only [Act.put, List.setIfInBounds_toArray, List.set_cons_zero, List.set_cons_succ, i64_w, i32_w]
            rfl
          refine pure_ (i := 5) (N := some 63) (v := ?_) (a' := ?_) #[true, true, true, true, false, true, false, false, false, false, false, false, false, false, false, false, false, false, false, false, false] rfl rfl (by kernel_rfl) (fun _ _ _ h => h) (Or.inl ⟨by rfl, ?_⟩) ?_ ?_
          rotate_left
          · intro w'
            go_simp
            with_reducible rfl
          rotate_left
          · simp only [Act.put, List.setIfInBounds_toArray, List.set_cons_zero, List.set_cons_succ, i64_w, i32_w]
            rfl
          refine pure_ (i := 6) (N := some 64) (v := ?_) (a' := ?_) #[true, true, true, true, false, true, true, false, false, false, false, false, false, false, false, false, false, false, false, false, false] rfl rfl (by kernel_rfl) (fun _ _ _ h => h) (Or.inl ⟨by rfl, ?_⟩) ?_ ?_
          rotate_left
          · intro w'
            go_simp
            with_reducible rfl
          rotate_left
          · simp only [Act.put, List.setIfInBounds_toArray, List.set_cons_zero, List.set_cons_succ, i64_w, i32_w]
            rfl
          refine pure_ (i := 7) (N := some 65) (v := ?_) (a' := ?_) #[true, true, true, true, false, true, true, true, false, false, false, false, false, false, false, false, false, false, false, false, false] rfl rfl (by kernel_rfl) (fun _ _ _ h => h) (Or.inl ⟨by rfl, ?_⟩) ?_ ?_
          rotate_left
          · intro w'
            go_simp
            with_reducible rfl
          rotate_left
          · simp only [Act.put, List.setIfInBounds_toArray, List.set_cons_zero, List.set_cons_succ, i64_w, i32_w]
            rfl
          refine pure_ (i := 8) (N := some 66) (v := undef) (a' := ?_) #[true, true, true, true, false, true, true, true, true, false, false, false, false, false, false, false, false, false, false, false, false] rfl rfl (by kernel_rfl) (fun _ _ _ h => h) (Or.inr ⟨by rfl, rfl⟩) ?_ ?_
          rotate_left
          · simp only [Act.put, List.setIfInBounds_toArray, List.set_cons_zero, List.set_cons_succ, i64_w, i32_w]
            rfl
          refine pure_ (i := 9) (N := some 67) (v := undef) (a' := ?_) #[true, true, true, true, false, true, true, true, true, true, false, false, false, false, false, false, false, false, false, false, false] rfl rfl (by kernel_rfl) (fun _ _ _ h => h) (Or.inr ⟨by rfl, rfl⟩) ?_ ?_
          rotate_left
          · simp only [Act.put, List.setIfInBounds_toArray, List.set_cons_zero, List.set_cons_succ, i64_w, i32_w]
            rfl
          refine pure_ (i := 10) (N := some 68) (v := undef) (a' := ?_) #[true, true, true, true, false, true, true, true, true, true, true, false, false, false, false, false, false, false, false, false, false] rfl rfl (by kernel_rfl) (fun _ _ _ h => h) (Or.inr ⟨by rfl, rfl⟩) ?_ ?_
          rotate_left
          · simp only [Act.put, List.setIfInBounds_toArray, List.set_cons_zero, List.set_cons_succ, i64_w, i32_w]
            rfl
          refine pure_ (i := 11) (N := some 69) (v := undef) (a' := ?_) #[true, true, true, true, false, true, true, true, true, true, true, true, false, false, false, false, false, false, false, false, false] rfl rfl (by kernel_rfl) (fun _ _ _ h => h) (Or.inr ⟨by rfl, rfl⟩) ?_ ?_
          rotate_left
          · simp only [Act.put, List.setIfInBounds_toArray, List.set_cons_zero, List.set_cons_succ, i64_w, i32_w]
            rfl
          refine pure_ (i := 12) (N := some 70) (v := undef) (a' := ?_) #[true, true, true, true, false, true, true, true, true, true, true, true, true, false, false, false, false, false, false, false, false] rfl rfl (by kernel_rfl) (fun _ _ _ h => h) (Or.inr ⟨by rfl, rfl⟩) ?_ ?_
          rotate_left
          · simp only [Act.put, List.setIfInBounds_toArray, List.set_cons_zero, List.set_cons_succ, i64_w, i32_w]
            rfl
          refine pure_ (i := 13) (N := some 71) (v := undef) (a' := ?_) #[true, true, true, true, false, true, true, true, true, true, true, true, true, true, false, false, false, false, false, false, false] rfl rfl (by kernel_rfl) (fun _ _ _ h => h) (Or.inr ⟨by rfl, rfl⟩) ?_ ?_
          rotate_left
          · simp only [Act.put, List.setIfInBounds_toArray, List.set_cons_zero, List.set_cons_succ, i64_w, i32_w]
            rfl
          refine pure_ (i := 14) (N := some 72) (v := ?_) (a' := ?_) #[true, true, true, true, false, true, true, true, true, true, true, true, true, true, true, false, false, false, false, false, false] rfl rfl (by kernel_rfl) (fun _ _ _ h => h) (Or.inl ⟨by rfl, ?_⟩) ?_ ?_
          rotate_left
          · intro w'
            go_simp
            with_reducible rfl
          rotate_left
          · simp only [Act.put, List.setIfInBounds_toArray, List.set_cons_zero, List.set_cons_succ, i64_w, i32_w]
            rfl
          refine pure_ (i := 15) (N := some 73) (v := ?_) (a' := ?_) #[true, true, true, true, false, true, true, true, true, true, true, true, true, true, true, true, false, false, false, false, false] rfl rfl (by kernel_rfl) (fun _ _ _ h => h) (Or.inl ⟨by rfl, ?_⟩) ?_ ?_
          rotate_left
          · intro w'
            go_simp
            with_reducible rfl
          rotate_left
          · simp only [Act.put, List.setIfInBounds_toArray, List.set_cons_zero, List.set_cons_succ, i64_w, i32_w]
            rfl
          refine take_ (i := 4) (N := some 62) (v := ?_) (a' := ?_) #[true, true, true, true, true, true, true, true, true, true, true, true, true, true, true, true, false, false, false, false, false] rfl rfl (by kernel_rfl) (fun _ _ _ h => h) (Or.inl ⟨by rfl, ?_⟩) hHeld ?_ ?_
          rotate_left
          · intro w' s0
            go_simp
            with_reducible rfl
          rotate_left
          · simp only [Act.put, List.setIfInBounds_toArray, List.set_cons_zero, List.set_cons_succ, i64_w, i32_w]
            rfl
          refine one_ (i := 16) (N := some 74) #[true, true, true, true, true, true, true, true, true, true, true, true, true, true, true, true, true, false, false, false, false] rfl rfl (by kernel_rfl) (by decide) (fun K hK => ?_)
          refine value_ (w1 := ?_) (v := ?_) (by rfl) rfl ?_ ?_
          rotate_left 2
          · go_simp
            constructor
            · rfl
            · rfl
          refine hK.out _ _ (pw_cell_below ((Below.refl _ _).alloc (Nat.le_refl _) _) hHeld) (fun hHeld => ?_)
          clear hK K
          refine norm_ (a' := ?_) ?_ ?_
          rotate_left
          · show Act.put _ (some 74) _ = _
            simp only [Act.put, List.setIfInBounds_toArray, List.set_cons_zero, List.set_cons_succ, i64_w, i32_w]
            rfl
          refine one_ (i := 17) (N := some 75) #[true, true, true, true, true, true, true, true, true, true, true, true, true, true, true, true, true, true, false, false, false] rfl rfl (by kernel_rfl) (by decide) (fun K hK => ?_)
          refine Kd.R_append_step k157 (w0 := w) w.heap.size (by rfl) (.tmp 62) (.tmp 74) 132 157 (.agg #[.string ⟨#[]⟩, .bool false]) 24 rfl Try.underlying132 info157 rfl (by decide) (by omega) (.slice Al L.length cl) L (⟨s, true⟩ : S157) [.string s, .bool true] (fun _ => True) (fun _ => False) rfl rfl ?aP2 (fun _ hk => hk.elim) ?aF2 ?aO2 ?aB2 ?aS2 ?aL2 ?_
          (case aP2 => exact k157_mkM _ _ _ (⟨s, true⟩ : S157))
          (case aB2 => exact HB5.out)
          (case aF2 => exact (fun _ _ => trivial))
          (case aO2 => exact HO5.out)
          (case aS2 => exact HB5.out.size)
          (case aL2 => have := HLL.out; have := HI.out; omega)
          intro v6 w6 ho hb hg hat
          obtain ⟨A6, c6, e6⟩ := Kd.R_slice ho
          rw [List.length_append, List.length_singleton] at e6
          subst e6
          have hbx6 := blk_grown HX5.out hg (Kd.R_ne HO5.out HX5.out (by decide))
          have x0 := (blk_cell hbx6 2).trans (show _ = some (Value.slice Al L.length cl) from rfl)
          have x1 := blk_frozen hbx6 2
          have HX6 := Aside0.mk (show QBox qb A0 paper.length c0 A2 kept.length c2 (.slice A6 (L.length + 1) c6) (w6.setCell ⟨qb, 2, none⟩ (.slice A6 (L.length + 1) c6)) from blk_set hbx6 2 _)
          have HO6 := Aside0.mk (Kd.R_set ho hbx6 (by intro q hq; simp [k157, Kd.iso, Kd.pair, Kd.string, Kd.bool, Kd.scalar] at hq; subst hq; decide) 2 (.slice A6 (L.length + 1) c6))
          have HB6 := Aside0.mk (hb.setCell (p := ⟨qb, 2, none⟩) HQB.out (.slice A6 (L.length + 1) c6))
          clear ho hb hg hat hbx6
          refine hK.out _ _ (x0) (fun hHeld => ?_)
          clear hK K
          refine norm_ (a' := ?_) ?_ ?_
          rotate_left
          · show Act.put _ (some 75) _ = _
            simp only [Act.put, List.setIfInBounds_toArray, List.set_cons_zero, List.set_cons_succ, i64_w, i32_w]
            rfl
          refine pure_ (i := 18) (N := some 76) (v := ?_) (a' := ?_) #[true, true, true, true, true, true, true, true, true, true, true, true, true, true, true, true, true, true, true, false, false] rfl rfl (by kernel_rfl) (fun _ _ _ h => h) (Or.inl ⟨by rfl, ?_⟩) ?_ ?_
          rotate_left
          · intro w'
            go_simp
            with_reducible rfl
          rotate_left
          · simp only [Act.put, List.setIfInBounds_toArray, List.set_cons_zero, List.set_cons_succ, i64_w, i32_w]
            rfl
          refine pure_ (i := 19) (N := some 77) (v := ?_) (a' := ?_) #[true, true, true, true, true, true, true, true, true, true, true, true, true, true, true, true, true, true, true, true, false] rfl rfl (by kernel_rfl) (fun _ _ _ h => h) (Or.inl ⟨by rfl, ?_⟩) ?_ ?_
          rotate_left
          · intro w'
            go_simp
            with_reducible rfl
          rotate_left
          · simp only [Act.put, List.setIfInBounds_toArray, List.set_cons_zero, List.set_cons_succ, i64_w, i32_w]
            rfl
          refine last_ (i := 20) (N := none) #[true, true, true, true, true, true, true, true, true, true, true, true, true, true, true, true, true, true, true, true, true] rfl rfl (by kernel_rfl) (by decide) (fun K hK => ?_)
          refine skip_ (w1 := ?_) (by rfl) rfl ?_ ?_
          rotate_left
          · go_simp
            rfl
          refine hK.out _ _ ?_
          clear hK K
          refine done_ (by kernel_rfl) ?_
          go_wp2
          go_roundg (gk - 1)
          case measure => have := HI.out; have := HLT.out; omega
          case rel => exact ⟨false, i + 1, L ++ [⟨s, true⟩], A6, c6, by first | rfl | (simp; done), by first | rfl | rw [hw], ⟨by have := HI.out; have := HLT.out; simp; omega⟩, HPN, ⟨by rw [List.length_append, List.length_singleton]; exact HX6.out⟩, ⟨by rw [List.length_append, List.length_singleton]; exact HO6.out⟩, HB6⟩
      · have HPN := Aside0.mk (show piecesFrom true L (quotation.drop (i + 1).toNat) = R by rw [← HP.out, HD.out, piecesFrom, if_pos hg])
        have g1 : (s.toList == [46, 46, 46]) = true := hg
        have g2 : (s.toList = [46, 46, 46]) = True := by simpa using g1
        clear hg
        go_wp2
        go_roundg (gk - 1)
        case measure => have := HI.out; have := HLT.out; omega
        case rel => exact ⟨true, i + 1, L, Al, cl, by first | rfl | (simp; done), by first | rfl | rw [hw], ⟨by have := HI.out; have := HLT.out; omega⟩, HPN, HX, HO, HB⟩
theorem quote_bad (paper quotation kept : List ByteArray) (A0 : Option Addr) (c0 : Nat) (A1 : Option Addr) (c1 : Nat) (A2 : Option Addr) (c2 : Nat) (w : World)
    (h0 : Kd.C Kd.string w A0 paper.length paper) (h1 : Kd.C Kd.string w A1 quotation.length quotation) (h2 : Kd.C Kd.string w A2 kept.length kept) (h : quoteOk paper quotation kept = false) :
    Calls Try.prog 64 #[.slice A0 paper.length c0, .slice A1 quotation.length c1, .slice A2 kept.length c2] w fun e w' => e = .returned (.tuple #[.pointer none, .bool false]) ∧ Below w.heap.size w w' := by
  unfold quoteOk at h
  cases b1 : withinB paper.length 1 80
  · exact quoteBad1 paper quotation kept A0 c0 A1 c1 A2 c2 w h0 h1 h2 b1
  cases b2 : withinB quotation.length 1 80
  · exact quoteBad2 paper quotation kept A0 c0 A1 c1 A2 c2 w h0 h1 h2 b1 b2
  by_cases h3 : kept.length ≤ 20
  case neg => exact quoteBad3 paper quotation kept A0 c0 A1 c1 A2 c2 w h0 h1 h2 b1 b2 (decide_eq_true (by omega))
  have b3 : decide (20 < (kept.length : Int)) = false := decide_eq_false (by omega)
  cases b4 : paper.all wordOk
  · exact quoteBad4 paper quotation kept A0 c0 A1 c1 A2 c2 w h0 h1 h2 b1 b2 b3 b4
  cases b5 : quotation.all wordOk
  · exact quoteBad5 paper quotation kept A0 c0 A1 c1 A2 c2 w h0 h1 h2 b1 b2 b3 b4 b5
  cases b6 : kept.all wordOk
  · exact quoteBad6 paper quotation kept A0 c0 A1 c1 A2 c2 w h0 h1 h2 b1 b2 b3 b4 b5 b6
  rw [b1, b2, b4, b5, b6, decide_eq_true h3] at h
  cases h
theorem quote_good (paper quotation kept : List ByteArray) (A0 : Option Addr) (c0 : Nat) (A1 : Option Addr) (c1 : Nat) (A2 : Option Addr) (c2 : Nat) (w : World)
    (h0 : Kd.C Kd.string w A0 paper.length paper) (h1 : Kd.C Kd.string w A1 quotation.length quotation) (h2 : Kd.C Kd.string w A2 kept.length kept) (h : quoteOk paper quotation kept = true) :
    Calls Try.prog 64 #[.slice A0 paper.length c0, .slice A1 quotation.length c1, .slice A2 kept.length c2] w fun e w' => ∃ (qb : Nat) (Aq : Option Addr) (cq : Nat), e = .returned (.tuple #[.pointer (some ⟨qb, 0, none⟩), .bool (decide (0 < (piecesOf quotation).length))]) ∧
      QBox qb A0 paper.length c0 A2 kept.length c2 (.slice Aq (piecesOf quotation).length cq) w' ∧ Kd.R k157 157 w' w.heap.size (fun _ => True) (.slice Aq (piecesOf quotation).length cq) (piecesOf quotation) ∧ Below w.heap.size w w' := by
  unfold quoteOk at h
  simp only [Bool.and_eq_true] at h
  obtain ⟨⟨⟨⟨⟨b1, b2⟩, b3⟩, b4⟩, b5⟩, b6⟩ := h
  exact quoteGood _ paper quotation kept A0 c0 A1 c1 A2 c2 w h0 h1 h2 b1 b2 (decide_eq_false (by have := of_decide_eq_true b3; omega)) b4 b5 b6 rfl
end Go.Proofs.Ythpheknchikodaa.P
