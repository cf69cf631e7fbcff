-- Laid by this session's program out of the translation (gen.sh).
import Derived.Test.YtgdafcakefnpdaaPFnExactSerialOnex0
namespace Go.Proofs.Ytgdafcakefnpdaa.PFnExactSerialOne
open Go.RowKit Go.Proofs.YtgdafcakefnpdaaW.PrintWords Go.Proofs.YtgdafcakefnpdaaW.PrintLast Go.Proofs.YtgdafcakefnpdaaW.PrintMore
attribute [local go_sem] max2_int min2_int max_two min_two max_three min_three max_four min_four   -- for this text's walks alone
set_option linter.unusedVariables false
set_option linter.unusedSimpArgs false

/-! ### laws_szBoxS: function 29 -/
def laws_szBoxS.f (l0 : List (S101)) (a1 : Int) : Option (Int) := if (wrap64 (a1 - (l0.length : Int))) < 0 then (some (-1)) else (some (wrap64 (a1 - (l0.length : Int))))
set_option maxHeartbeats 8000000 in
set_option maxRecDepth 100000 in
theorem laws_szBoxS.calls (A0 : Option Addr) (c0 : Nat) (l0 : List (S101)) (a1 : Int) (r : Int) (w : World) (V0 : Kd.C k101 w A0 l0.length l0) (S0 : l0.length ≤ c0) (h : laws_szBoxS.f l0 a1 = some r) :
  Calls Try.prog 29 #[.slice A0 l0.length c0, .int .i64 a1] w fun e w' => e = .returned (.int .i64 r) ∧ Drawn0 w w' := by
 have R0 := Aside0.mk V0; have X0 := Aside0.mk S0; clear V0 S0; have H : (if (wrap64 (a1 - (l0.length : Int))) < 0 then (some (-1)) else (some (wrap64 (a1 - (l0.length : Int))))) = some r := h; clear h; replace H := ifc_ H
 rcases H with ⟨c3b0, H⟩ | ⟨c3b0, H⟩
 ·obtain rfl := Option.some.inj H
  go_enter Try.func29, Try.ntmps29
  go_wp2
  go_ret
  exact ⟨zq45_, zq67_⟩
 ·obtain rfl := Option.some.inj H
  go_enter Try.func29, Try.ntmps29
  go_wp2
  go_ret
  exact ⟨zq45_, zq67_⟩

/-! ### laws_szInsS: function 30 -/
def laws_szInsS.f (l0 : List (S103)) (a1 : Int) : Option (Int) := if (wrap64 (a1 - (l0.length : Int))) < 0 then (some (-1)) else (some (wrap64 (a1 - (l0.length : Int))))
set_option maxHeartbeats 8000000 in
set_option maxRecDepth 100000 in
theorem laws_szInsS.calls (A0 : Option Addr) (c0 : Nat) (l0 : List (S103)) (a1 : Int) (r : Int) (w : World) (V0 : Kd.C k103 w A0 l0.length l0) (S0 : l0.length ≤ c0) (h : laws_szInsS.f l0 a1 = some r) :
  Calls Try.prog 30 #[.slice A0 l0.length c0, .int .i64 a1] w fun e w' => e = .returned (.int .i64 r) ∧ Drawn0 w w' := by
 have R0 := Aside0.mk V0; have X0 := Aside0.mk S0; clear V0 S0; have H : (if (wrap64 (a1 - (l0.length : Int))) < 0 then (some (-1)) else (some (wrap64 (a1 - (l0.length : Int))))) = some r := h; clear h; replace H := ifc_ H
 rcases H with ⟨c3b0, H⟩ | ⟨c3b0, H⟩
 ·obtain rfl := Option.some.inj H
  go_enter Try.func30, Try.ntmps30
  go_wp2
  go_ret
  exact ⟨zq45_, zq67_⟩
 ·obtain rfl := Option.some.inj H
  go_enter Try.func30, Try.ntmps30
  go_wp2
  go_ret
  exact ⟨zq45_, zq67_⟩

/-! ### spec_l1Num: function 74 -/
def spec_l1Num.f (a0 : Int) : Option (Bool) := if a0 ≥ (-1000000) then (some (decide (a0 ≤ 1000000))) else (some false)
set_option maxHeartbeats 8000000 in
set_option maxRecDepth 100000 in
theorem spec_l1Num.calls (a0 : Int) (r : Bool) (w : World) (h : spec_l1Num.f a0 = some r) :
  Calls Try.prog 74 #[.int .i64 a0] w fun e w' => e = .returned (.bool r) ∧ Drawn0 w w' := by
 have H : (if a0 ≥ (-1000000) then (some (decide (a0 ≤ 1000000))) else (some false)) = some r := h; clear h; replace H := ifc_ H
 rcases H with ⟨c2b0, H⟩ | ⟨c2b0, H⟩
 ·change decide ((-1000000) ≤ a0) = true at c2b0; obtain rfl := Option.some.inj H
  go_enter Try.func74, Try.ntmps74
  go_wp2
  go_ret
  exact ⟨zq45_, zq67_⟩
 ·change decide ((-1000000) ≤ a0) = false at c2b0; obtain rfl := Option.some.inj H
  go_enter Try.func74, Try.ntmps74
  go_wp2
  go_ret
  exact ⟨zq45_, zq67_⟩

/-! ### spec_BoxOk: function 24 -/
def spec_BoxOk.l0 : Nat → List (S46) → Int → Option (Bool)
 | 0, _, _ => none
 | k + 1, x0, x3 => if x3 < (x0.length : Int) then (if 0 ≤ x3 then (if ((rd_T46 x0 x3).f0) < 0 then (some false) else (if ((rd_T46 x0 x3).f0) > 1000000 then (some false) else ((spec_l1Num.f ((rd_T46 x0 x3).f1)).bind fun t104 => (if t104 = true then (spec_BoxOk.l0 k x0 (wrap64 (x3 + 1))) else (some false))))) else (none)) else (some true)
def spec_BoxOk.f (k : Nat) (l0 : List (S46)) : Option (Bool) := if (l0.length : Int) = 4 then (spec_BoxOk.l0 k l0 0) else (some false)
theorem spec_BoxOk.mono_l : ∀ k, (∀ y0 y1, LeO (spec_BoxOk.l0 k y0 y1) (spec_BoxOk.l0 (k + 1) y0 y1))
 | 0 => fun _ _ r h => by simp [spec_BoxOk.l0] at h
 | k + 1 => by
  have E0 := spec_BoxOk.mono_l k
  ·intro y0 y1
   unfold spec_BoxOk.l0
   repeat' first
   | (with_reducible exact E0 _ _)
   | (with_reducible exact LeO.refl _)
   | (with_reducible exact LeO.none _)
   | (with_reducible refine LeO.ite ?_ ?_)
   | (with_reducible refine LeO.bind ?_ (fun _ => ?_))
   | exact E0 _ _
   | exact LeO.none _
   | refine LeO.ite ?_ ?_
   | refine LeO.bind ?_ (fun _ => ?_)
theorem spec_BoxOk.mono : ∀ a0 k, LeO (spec_BoxOk.f k a0) (spec_BoxOk.f (k + 1) a0) := by
 intro a0 k
 have E0 := spec_BoxOk.mono_l k
 unfold spec_BoxOk.f
 repeat' first
   | (with_reducible exact E0 _ _)
   | (with_reducible exact LeO.refl _)
   | (with_reducible exact LeO.none _)
   | (with_reducible refine LeO.ite ?_ ?_)
   | (with_reducible refine LeO.bind ?_ (fun _ => ?_))
   | exact E0 _ _
   | exact LeO.none _
   | refine LeO.ite ?_ ?_
   | refine LeO.bind ?_ (fun _ => ?_)
set_option maxHeartbeats 8000000 in
set_option maxRecDepth 100000 in
theorem spec_BoxOk.calls (k : Nat) (A0 : Option Addr) (c0 : Nat) (l0 : List (S46)) (r : Bool) (w : World) (V0 : Kd.C k46 w A0 l0.length l0) (S0 : l0.length ≤ c0) (h : spec_BoxOk.f k l0 = some r) :
  Calls Try.prog 24 #[.slice A0 l0.length c0] w fun e w' => e = .returned (.bool r) ∧ Drawn0 w w' := by
 have R0 := Aside0.mk V0; have X0 := Aside0.mk S0; clear V0 S0; have H : (if (l0.length : Int) = 4 then (spec_BoxOk.l0 k l0 0) else (some false)) = some r := h; clear h; by_cases c2 : (l0.length : Int) = 4
 ·rw [if_pos c2] at H; have r0 : ((l0.length : Int) == 4) = true := beq_iff_eq.mpr c2; have r1 : ((l0.length : Int) != 4) = false := bne_eq_false_iff_eq.mpr c2; clear c2; have H' := Aside0.mk H; clear H
  go_enter Try.func24, Try.ntmps24
  go_wp2
  go_loopg [3] k (fun kq v3 w' => ∃ (a0 : Int), v3 = .int .i64 a0 ∧ Aside0 (spec_BoxOk.l0 kq l0 a0 = some r) ∧ Aside0 (kq ≤ k) ∧ Drawn0 w w')
  case atStart => exact ⟨(0), zq45_, H', ⟨Nat.le_refl _⟩, zq67_⟩
  case round =>
   clear H'
   try clear c2
   try clear r0
   try clear r1
   try clear p2
   obtain ⟨a0, rfl, HA, ae0, ⟨m1, rfl⟩⟩ := hrel
   cases gk with
   | zero => exact absurd HA.out (by simp [spec_BoxOk.l0])
   | succ k1 =>
    have H := HA.out; clear HA; simp only [spec_BoxOk.l0] at H; replace H := ifc_ H
    rcases H with ⟨c3b0, H⟩ | ⟨c3b0, H⟩
    ·replace H := ifd_ H; obtain ⟨r2, H⟩ := H; replace H := ifc_ H
     rcases H with ⟨c5b0, H⟩ | ⟨c5b0, H⟩
     ·obtain rfl := Option.some.inj H; have s0 : 0 ≤ (a0 : Int) := of_decide_eq_true zq40_; have t0 : a0 < (l0.length : Int) := of_decide_eq_true zq40_; obtain ⟨y0, N0, p0, p1⟩ := at_T46 R0.out a0 s0 t0; cases N0; replace s0 := eq_true s0; replace t0 := eq_true t0
      go_wp2
      go_ret
      exact ⟨zq45_, zq67_⟩
     ·replace H := ifc_ H
      rcases H with ⟨c6b0, H⟩ | ⟨c6b0, H⟩
      ·change decide (1000000 < ((rd_T46 l0 a0).f0)) = true at c6b0; obtain rfl := Option.some.inj H; have s0 : 0 ≤ (a0 : Int) := of_decide_eq_true zq40_; have t0 : a0 < (l0.length : Int) := of_decide_eq_true zq40_; obtain ⟨y0, N0, p0, p1⟩ := at_T46 R0.out a0 s0 t0; cases N0; replace s0 := eq_true s0; replace t0 := eq_true t0; have s1 : 0 ≤ (a0 : Int) := of_decide_eq_true zq40_; have t1 : a0 < (l0.length : Int) := of_decide_eq_true zq40_; obtain ⟨y1, N1, p3, p4⟩ := at_T46 R0.out a0 s1 t1; obtain rfl : y0 = y1 := (by injection N1); replace s1 := eq_true s1; replace t1 := eq_true t1
       go_wp2
       go_ret
       exact ⟨zq45_, zq67_⟩
      ·change decide (1000000 < ((rd_T46 l0 a0).f0)) = false at c6b0; replace H := bs_ H; obtain ⟨i0, A7, H⟩ := H; (try dsimp only at H); replace H := ifB_ H
       rcases H with ⟨rfl, H⟩ | ⟨rfl, H⟩
       ·have H' := Aside0.mk H; clear H; have s0 : 0 ≤ (a0 : Int) := of_decide_eq_true zq40_; have t0 : a0 < (l0.length : Int) := of_decide_eq_true zq40_; obtain ⟨y0, N0, p0, p1⟩ := at_T46 R0.out a0 s0 t0; cases N0; replace s0 := eq_true s0; replace t0 := eq_true t0; have s1 : 0 ≤ (a0 : Int) := of_decide_eq_true zq40_; have t1 : a0 < (l0.length : Int) := of_decide_eq_true zq40_; obtain ⟨y1, N1, p3, p4⟩ := at_T46 R0.out a0 s1 t1; obtain rfl : y0 = y1 := (by injection N1); replace s1 := eq_true s1; replace t1 := eq_true t1; have s2 : 0 ≤ (a0 : Int) := of_decide_eq_true zq40_; have t2 : a0 < (l0.length : Int) := of_decide_eq_true zq40_; obtain ⟨y2, N2, p5, p6⟩ := at_T46 R0.out a0 s2 t2; obtain rfl : y0 = y2 := (by injection N2); replace s2 := eq_true s2; replace t2 := eq_true t2
        go_wp2_with (first | (go_at_call 74; (with_reducible refine (spec_l1Num.calls ((rd_T46 l0 a0).f1) true _ A7.out).mono ?_); rintro e w' ⟨rfl, ⟨nd, rfl⟩⟩; (try clear A7)))
        go_roundg k1
        case measure => have := ae0.out; omega
        case rel => exact ⟨(wrap64 (a0 + 1)), zq45_, H', ⟨by have := ae0.out; omega⟩, zq67_⟩
       ·obtain rfl := Option.some.inj H; have s0 : 0 ≤ (a0 : Int) := of_decide_eq_true zq40_; have t0 : a0 < (l0.length : Int) := of_decide_eq_true zq40_; obtain ⟨y0, N0, p0, p1⟩ := at_T46 R0.out a0 s0 t0; cases N0; replace s0 := eq_true s0; replace t0 := eq_true t0; have s1 : 0 ≤ (a0 : Int) := of_decide_eq_true zq40_; have t1 : a0 < (l0.length : Int) := of_decide_eq_true zq40_; obtain ⟨y1, N1, p3, p4⟩ := at_T46 R0.out a0 s1 t1; obtain rfl : y0 = y1 := (by injection N1); replace s1 := eq_true s1; replace t1 := eq_true t1; have s2 : 0 ≤ (a0 : Int) := of_decide_eq_true zq40_; have t2 : a0 < (l0.length : Int) := of_decide_eq_true zq40_; obtain ⟨y2, N2, p5, p6⟩ := at_T46 R0.out a0 s2 t2; obtain rfl : y0 = y2 := (by injection N2); replace s2 := eq_true s2; replace t2 := eq_true t2
        go_wp2_with (first | (go_at_call 74; (with_reducible refine (spec_l1Num.calls ((rd_T46 l0 a0).f1) false _ A7.out).mono ?_); rintro e w' ⟨rfl, ⟨nd, rfl⟩⟩; (try clear A7)))
        go_ret
        exact ⟨zq45_, zq67_⟩
    ·obtain rfl := Option.some.inj H
     go_wp2
     go_ret
     exact ⟨zq45_, zq67_⟩
 ·rw [if_neg c2] at H; have r0 : ((l0.length : Int) == 4) = false := beq_eq_false_iff_ne.mpr c2; have r1 : ((l0.length : Int) != 4) = true := bne_iff_ne.mpr c2; obtain rfl := Option.some.inj H
  go_enter Try.func24, Try.ntmps24
  go_wp2
  go_ret
  exact ⟨zq45_, zq67_⟩

/-! ### spec_l2Box: function 75 -/
def spec_l2Box.f (a0 : Int) : Option (Bool) := if a0 ≥ 0 then (some (decide (a0 < 4))) else (some false)
set_option maxHeartbeats 8000000 in
set_option maxRecDepth 100000 in
theorem spec_l2Box.calls (a0 : Int) (r : Bool) (w : World) (h : spec_l2Box.f a0 = some r) :
  Calls Try.prog 75 #[.int .i64 a0] w fun e w' => e = .returned (.bool r) ∧ Drawn0 w w' := by
 have H : (if a0 ≥ 0 then (some (decide (a0 < 4))) else (some false)) = some r := h; clear h; replace H := ifc_ H
 rcases H with ⟨c2b0, H⟩ | ⟨c2b0, H⟩
 ·change decide (0 ≤ a0) = true at c2b0; obtain rfl := Option.some.inj H
  go_enter Try.func75, Try.ntmps75
  go_wp2
  go_ret
  exact ⟨zq45_, zq67_⟩
 ·change decide (0 ≤ a0) = false at c2b0; obtain rfl := Option.some.inj H
  go_enter Try.func75, Try.ntmps75
  go_wp2
  go_ret
  exact ⟨zq45_, zq67_⟩

/-! ### spec_l2Reg: function 103 -/
def spec_l2Reg.f (a0 : Int) : Option (Bool) := if a0 ≥ 0 then (some (decide (a0 < 4))) else (some false)
set_option maxHeartbeats 8000000 in
set_option maxRecDepth 100000 in
theorem spec_l2Reg.calls (a0 : Int) (r : Bool) (w : World) (h : spec_l2Reg.f a0 = some r) :
  Calls Try.prog 103 #[.int .i64 a0] w fun e w' => e = .returned (.bool r) ∧ Drawn0 w w' := by
 have H : (if a0 ≥ 0 then (some (decide (a0 < 4))) else (some false)) = some r := h; clear h; replace H := ifc_ H
 rcases H with ⟨c2b0, H⟩ | ⟨c2b0, H⟩
 ·change decide (0 ≤ a0) = true at c2b0; obtain rfl := Option.some.inj H
  go_enter Try.func103, Try.ntmps103
  go_wp2
  go_ret
  exact ⟨zq45_, zq67_⟩
 ·change decide (0 ≤ a0) = false at c2b0; obtain rfl := Option.some.inj H
  go_enter Try.func103, Try.ntmps103
  go_wp2
  go_ret
  exact ⟨zq45_, zq67_⟩

end Go.Proofs.Ytgdafcakefnpdaa.PFnExactSerialOne
