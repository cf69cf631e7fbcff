-- Laid by this session's program out of the translation (gen.sh).
import Derived.Test.YtgdafcakefnpdaaPFnExactExecRunx0
import Derived.Test.YtgdafcakefnpdaaPFnExactExecRunx4
namespace Go.Proofs.Ytgdafcakefnpdaa.PFnExactExecRun
open Go.RowKit Go.Proofs.YtgdafcakefnpdaaW.PrintWords Go.Proofs.YtgdafcakefnpdaaW.PrintLast Go.Proofs.YtgdafcakefnpdaaW.PrintMore
attribute [local go_sem] max2_int min2_int max_two min_two max_three min_three max_four min_four   -- for this text's walks alone
set_option linter.unusedVariables false
set_option linter.unusedSimpArgs false

/-! ### spec_ProgOk: function 26 -/
def spec_ProgOk.l0 : Nat → List (S34) → Int → Option (Bool)
 | 0, _, _ => none
 | k + 1, x0, x3 => if x3 < (x0.length : Int) then (if 0 ≤ x3 then ((spec_l2Ins.f k ((rd_T34 x0 x3).f0) ((rd_T34 x0 x3).f1) ((rd_T34 x0 x3).f2) ((rd_T34 x0 x3).f3)).bind fun t179 => (if t179 = true then (spec_ProgOk.l0 k x0 (wrap64 (x3 + 1))) else (some false))) else (none)) else (some true)
def spec_ProgOk.f (k : Nat) (l0 : List (S34)) : Option (Bool) := if (l0.length : Int) > 10 then (some false) else (spec_ProgOk.l0 k l0 0)
theorem spec_ProgOk.mono_l : ∀ k, (∀ y0 y1, LeO (spec_ProgOk.l0 k y0 y1) (spec_ProgOk.l0 (k + 1) y0 y1))
 | 0 => fun _ _ r h => by simp [spec_ProgOk.l0] at h
 | k + 1 => by
  have ih0 := spec_ProgOk.mono_l k
  ·intro y0 y1
   unfold spec_ProgOk.l0
   repeat' first
   | (with_reducible exact ih0 _ _)
   | (with_reducible exact spec_l2Ins.mono _ _ _ _ _)
   | (with_reducible exact LeO.refl _)
   | (with_reducible exact LeO.none _)
   | (with_reducible refine LeO.ite ?_ ?_)
   | (with_reducible refine LeO.bind ?_ (fun _ => ?_))
   | exact ih0 _ _
   | exact spec_l2Ins.mono _ _ _ _ _
   | exact LeO.none _
   | refine LeO.ite ?_ ?_
   | refine LeO.bind ?_ (fun _ => ?_)
theorem spec_ProgOk.mono : ∀ a0 k, LeO (spec_ProgOk.f k a0) (spec_ProgOk.f (k + 1) a0) := by
 intro a0 k
 have ih0 := spec_ProgOk.mono_l k
 unfold spec_ProgOk.f
 repeat' first
   | (with_reducible exact ih0 _ _)
   | (with_reducible exact spec_l2Ins.mono _ _ _ _ _)
   | (with_reducible exact LeO.refl _)
   | (with_reducible exact LeO.none _)
   | (with_reducible refine LeO.ite ?_ ?_)
   | (with_reducible refine LeO.bind ?_ (fun _ => ?_))
   | exact ih0 _ _
   | exact spec_l2Ins.mono _ _ _ _ _
   | exact LeO.none _
   | refine LeO.ite ?_ ?_
   | refine LeO.bind ?_ (fun _ => ?_)
set_option maxHeartbeats 8000000 in
set_option maxRecDepth 100000 in
theorem spec_ProgOk.calls (k : Nat) (A0 : Option Addr) (c0 : Nat) (l0 : List (S34)) (r : Bool) (w : World) (hr0 : Kd.C k34 w A0 l0.length l0) (hc0 : l0.length ≤ c0) (h : spec_ProgOk.f k l0 = some r) :
  Calls Try.prog 26 #[.slice A0 l0.length c0] w fun e w' => e = .returned (.bool r) ∧ Below w.heap.size w w' := by
 have hu34 := Try.underlying34
 have HR0 := Aside0.mk hr0
 have HC0 := Aside0.mk hc0
 clear hr0 hc0
 have HB := Aside0.mk (Below.refl w.heap.size w)
 have H : (if (l0.length : Int) > 10 then (some false) else (spec_ProgOk.l0 k l0 0)) = some r := h
 clear h
 by_cases c2 : (l0.length : Int) > 10
 ·rw [if_pos c2] at H
  have c2b0 : decide (10 < (l0.length : Int)) = true := decide_eq_true c2
  have c2b1 : decide (10 < l0.length) = true := decide_eq_true (by omega)
  clear c2
  obtain rfl := Option.some.inj H
  go_enter Try.func26, Try.ntmps26
  go_wp2
  go_ret
  exact ⟨zq75_, zqa3_⟩
 ·rw [if_neg c2] at H
  have c2b0 : decide (10 < (l0.length : Int)) = false := decide_eq_false c2
  have c2b1 : decide (10 < l0.length) = false := decide_eq_false (by omega)
  clear c2
  have H' := Aside0.mk H
  clear H
  go_enter Try.func26, Try.ntmps26
  go_wp2
  go_loopg [3] k (fun kq v3 w' => ∃ (x3_1 : Int), v3 = .int .i64 x3_1 ∧ Aside0 (spec_ProgOk.l0 kq l0 x3_1 = some r) ∧ Aside0 (kq ≤ k) ∧ Aside0 (Below w.heap.size w w'))
  case atStart => exact ⟨(0), zq76_, H', ⟨Nat.le_refl _⟩, ⟨zqa3_⟩⟩
  case round =>
   clear H'
   try clear c2
   try clear c2b0
   try clear c2b1
   try clear p2
   obtain ⟨x3_1, rfl, HA, HK1, HB⟩ := hrel
   cases gk with
   | zero => exact absurd HA.out (by simp [spec_ProgOk.l0])
   | succ k1 =>
    have H := HA.out
    clear HA
    simp only [spec_ProgOk.l0] at H
    by_cases c3 : x3_1 < (l0.length : Int)
    ·rw [if_pos c3] at H
     have c3b0 : decide (x3_1 < (l0.length : Int)) = true := decide_eq_true c3
     clear c3
     by_cases c4 : 0 ≤ x3_1
     ·rw [if_pos c4] at H
      have c4b0 : decide (0 ≤ x3_1) = true := decide_eq_true c4
      clear c4
      replace H := Option.bind_eq_some_iff.mp H
      obtain ⟨t179, A50, H⟩ := H
      (try dsimp only at H)
      have A5 := Aside0.mk A50
      clear A50
      by_cases c6 : t179 = true
      ·subst c6
       rw [if_pos rfl] at H
       have H' := Aside0.mk H
       clear H
       have p178 : 0 ≤ (x3_1 : Int) := of_decide_eq_true zq71_
       have q178 : x3_1 < (l0.length : Int) := of_decide_eq_true zq71_
       obtain ⟨ad178, e178, hx178_0, hx178_1, hx178_2, hx178_3⟩ := at_T34 HR0.out x3_1 p178 q178
       cases e178
       replace hx178_0 := (HB.out.cell (World.block_lt_of_cell? w _ hx178_0)).trans hx178_0
       replace hx178_1 := (HB.out.cell (World.block_lt_of_cell? w _ hx178_1)).trans hx178_1
       replace hx178_2 := (HB.out.cell (World.block_lt_of_cell? w _ hx178_2)).trans hx178_2
       replace hx178_3 := (HB.out.cell (World.block_lt_of_cell? w _ hx178_3)).trans hx178_3
       replace p178 := eq_true p178
       replace q178 := eq_true q178
       go_wp2_with (first | ((with_reducible refine gate_callee (f := 78) rfl ?_); refine goesL_ (some 17) rfl rfl Try.func78 (by kernel_rfl) rfl #[.agg #[.int .i64 ((rd_T34 l0 x3_1).f0), .int .i64 ((rd_T34 l0 x3_1).f1), .int .i64 ((rd_T34 l0 x3_1).f2), .int .i64 ((rd_T34 l0 x3_1).f3)]] rfl zq1_ ?_; (with_reducible refine (spec_l2Ins.calls k1 ((rd_T34 l0 x3_1).f0) ((rd_T34 l0 x3_1).f1) ((rd_T34 l0 x3_1).f2) ((rd_T34 l0 x3_1).f3) true _ A5.out).mono ?_); rintro e w7 ⟨rfl, hb⟩; refine ⟨_, rfl, ?_⟩; replace HB := Aside0.mk (below_step zqa3_ hb); (try clear hb)))
       go_roundg k1
       case measure => have := HK1.out; omega
       case rel => exact ⟨(wrap64 (x3_1 + 1)), zq76_, H', ⟨by have := HK1.out; omega⟩, ⟨zqa3_⟩⟩
      ·replace c6 := Bool.eq_false_iff.mpr c6
       subst c6
       rw [if_neg (show ¬ (false = true) by decide)] at H
       obtain rfl := Option.some.inj H
       have p178 : 0 ≤ (x3_1 : Int) := of_decide_eq_true zq71_
       have q178 : x3_1 < (l0.length : Int) := of_decide_eq_true zq71_
       obtain ⟨ad178, e178, hx178_0, hx178_1, hx178_2, hx178_3⟩ := at_T34 HR0.out x3_1 p178 q178
       cases e178
       replace hx178_0 := (HB.out.cell (World.block_lt_of_cell? w _ hx178_0)).trans hx178_0
       replace hx178_1 := (HB.out.cell (World.block_lt_of_cell? w _ hx178_1)).trans hx178_1
       replace hx178_2 := (HB.out.cell (World.block_lt_of_cell? w _ hx178_2)).trans hx178_2
       replace hx178_3 := (HB.out.cell (World.block_lt_of_cell? w _ hx178_3)).trans hx178_3
       replace p178 := eq_true p178
       replace q178 := eq_true q178
       go_wp2_with (first | ((with_reducible refine gate_callee (f := 78) rfl ?_); refine goesL_ (some 17) rfl rfl Try.func78 (by kernel_rfl) rfl #[.agg #[.int .i64 ((rd_T34 l0 x3_1).f0), .int .i64 ((rd_T34 l0 x3_1).f1), .int .i64 ((rd_T34 l0 x3_1).f2), .int .i64 ((rd_T34 l0 x3_1).f3)]] rfl zq1_ ?_; (with_reducible refine (spec_l2Ins.calls k1 ((rd_T34 l0 x3_1).f0) ((rd_T34 l0 x3_1).f1) ((rd_T34 l0 x3_1).f2) ((rd_T34 l0 x3_1).f3) false _ A5.out).mono ?_); rintro e w8 ⟨rfl, hb⟩; refine ⟨_, rfl, ?_⟩; replace HB := Aside0.mk (below_step zqa3_ hb); (try clear hb)))
       go_ret
       exact ⟨zq75_, zqa3_⟩
     ·rw [if_neg c4] at H
      exact absurd H (by simp)
    ·rw [if_neg c3] at H
     have c3b0 : decide (x3_1 < (l0.length : Int)) = false := decide_eq_false c3
     clear c3
     obtain rfl := Option.some.inj H
     go_wp2
     go_ret
     exact ⟨zq75_, zqa3_⟩

/-! ### spec_l3Saw: function 76 -/
def spec_l3Saw.l0 : Nat → List (S48) → Int → Int → Option (Bool)
 | 0, _, _, _ => none
 | k + 1, x0, x1, x5 => if x5 < (x0.length : Int) then (if 0 ≤ x5 then (if ((rd_T48 x0 x5).f0) = x1 then (some true) else (spec_l3Saw.l0 k x0 x1 (wrap64 (x5 + 1)))) else (none)) else (some false)
def spec_l3Saw.f (k : Nat) (l0 : List (S48)) (a1 : Int) : Option (Bool) := spec_l3Saw.l0 k l0 a1 0
theorem spec_l3Saw.mono_l : ∀ k, (∀ y0 y1 y2, LeO (spec_l3Saw.l0 k y0 y1 y2) (spec_l3Saw.l0 (k + 1) y0 y1 y2))
 | 0 => fun _ _ _ r h => by simp [spec_l3Saw.l0] at h
 | k + 1 => by
  have ih0 := spec_l3Saw.mono_l k
  ·intro y0 y1 y2
   unfold spec_l3Saw.l0
   repeat' first
   | (with_reducible exact ih0 _ _ _)
   | (with_reducible exact LeO.refl _)
   | (with_reducible exact LeO.none _)
   | (with_reducible refine LeO.ite ?_ ?_)
   | (with_reducible refine LeO.bind ?_ (fun _ => ?_))
   | exact ih0 _ _ _
   | exact LeO.none _
   | refine LeO.ite ?_ ?_
   | refine LeO.bind ?_ (fun _ => ?_)
theorem spec_l3Saw.mono : ∀ a0 a1 k, LeO (spec_l3Saw.f k a0 a1) (spec_l3Saw.f (k + 1) a0 a1) := by
 intro a0 a1 k
 have ih0 := spec_l3Saw.mono_l k
 unfold spec_l3Saw.f
 repeat' first
   | (with_reducible exact ih0 _ _ _)
   | (with_reducible exact LeO.refl _)
   | (with_reducible exact LeO.none _)
   | (with_reducible refine LeO.ite ?_ ?_)
   | (with_reducible refine LeO.bind ?_ (fun _ => ?_))
   | exact ih0 _ _ _
   | exact LeO.none _
   | refine LeO.ite ?_ ?_
   | refine LeO.bind ?_ (fun _ => ?_)
set_option maxHeartbeats 8000000 in
set_option maxRecDepth 100000 in
theorem spec_l3Saw.calls (k : Nat) (A0 : Option Addr) (c0 : Nat) (l0 : List (S48)) (a1 : Int) (r : Bool) (w : World) (hr0 : Kd.C k48 w A0 l0.length l0) (hc0 : l0.length ≤ c0) (h : spec_l3Saw.f k l0 a1 = some r) :
  Calls Try.prog 76 #[.slice A0 l0.length c0, .int .i64 a1] w fun e w' => e = .returned (.bool r) ∧ Drawn0 w w' := by
 have HR0 := Aside0.mk hr0
 have HC0 := Aside0.mk hc0
 clear hr0 hc0
 have H : (spec_l3Saw.l0 k l0 a1 0) = some r := h
 clear h
 have H' := Aside0.mk H
 clear H
 go_enter Try.func76, Try.ntmps76
 go_wp2
 go_loopg [5] k (fun kq v5 w' => ∃ (x5_1 : Int), v5 = .int .i64 x5_1 ∧ Aside0 (spec_l3Saw.l0 kq l0 a1 x5_1 = some r) ∧ Aside0 (kq ≤ k) ∧ Drawn0 w w')
 case atStart => exact ⟨(0), zq76_, H', ⟨Nat.le_refl _⟩, zqbb_⟩
 case round =>
  clear H'
  try clear p2
  obtain ⟨x5_1, rfl, HA, HK1, ⟨m1, rfl⟩⟩ := hrel
  cases gk with
  | zero => exact absurd HA.out (by simp [spec_l3Saw.l0])
  | succ k1 =>
   have H := HA.out
   clear HA
   simp only [spec_l3Saw.l0] at H
   by_cases c3 : x5_1 < (l0.length : Int)
   ·rw [if_pos c3] at H
    have c3b0 : decide (x5_1 < (l0.length : Int)) = true := decide_eq_true c3
    clear c3
    by_cases c4 : 0 ≤ x5_1
    ·rw [if_pos c4] at H
     have c4b0 : decide (0 ≤ x5_1) = true := decide_eq_true c4
     clear c4
     by_cases c5 : ((rd_T48 l0 x5_1).f0) = a1
     ·rw [if_pos c5] at H
      have c5b0 : (((rd_T48 l0 x5_1).f0) == a1) = true := beq_iff_eq.mpr c5
      have c5b1 : (((rd_T48 l0 x5_1).f0) != a1) = false := bne_eq_false_iff_eq.mpr c5
      clear c5
      obtain rfl := Option.some.inj H
      have p180 : 0 ≤ (x5_1 : Int) := of_decide_eq_true zq71_
      have q180 : x5_1 < (l0.length : Int) := of_decide_eq_true zq71_
      obtain ⟨ad180, e180, hx180_0, hx180_1⟩ := at_T48 HR0.out x5_1 p180 q180
      cases e180
      replace p180 := eq_true p180
      replace q180 := eq_true q180
      go_wp2
      go_ret
      exact ⟨zq76_, zqbb_⟩
     ·rw [if_neg c5] at H
      have c5b0 : (((rd_T48 l0 x5_1).f0) == a1) = false := beq_eq_false_iff_ne.mpr c5
      have c5b1 : (((rd_T48 l0 x5_1).f0) != a1) = true := bne_iff_ne.mpr c5
      have H' := Aside0.mk H
      clear H
      have p180 : 0 ≤ (x5_1 : Int) := of_decide_eq_true zq71_
      have q180 : x5_1 < (l0.length : Int) := of_decide_eq_true zq71_
      obtain ⟨ad180, e180, hx180_0, hx180_1⟩ := at_T48 HR0.out x5_1 p180 q180
      cases e180
      replace p180 := eq_true p180
      replace q180 := eq_true q180
      go_wp2
      go_roundg k1
      case measure => have := HK1.out; omega
      case rel => exact ⟨(wrap64 (x5_1 + 1)), zq76_, H', ⟨by have := HK1.out; omega⟩, zqbb_⟩
    ·rw [if_neg c4] at H
     exact absurd H (by simp)
   ·rw [if_neg c3] at H
    have c3b0 : decide (x5_1 < (l0.length : Int)) = false := decide_eq_false c3
    clear c3
    obtain rfl := Option.some.inj H
    go_wp2
    go_ret
    exact ⟨zq76_, zqbb_⟩

/-! ### spec_l3At: function 77 -/
def spec_l3At.l0 : Nat → List (S36) → Int → Int → Option (Int)
 | 0, _, _, _ => none
 | k + 1, x0, x1, x5 => if x5 < (x0.length : Int) then (if 0 ≤ x5 then (if ((rd_T36 x0 x5).f0) = x1 then (some x5) else (spec_l3At.l0 k x0 x1 (wrap64 (x5 + 1)))) else (none)) else (some (-1))
def spec_l3At.f (k : Nat) (l0 : List (S36)) (a1 : Int) : Option (Int) := spec_l3At.l0 k l0 a1 0
theorem spec_l3At.mono_l : ∀ k, (∀ y0 y1 y2, LeO (spec_l3At.l0 k y0 y1 y2) (spec_l3At.l0 (k + 1) y0 y1 y2))
 | 0 => fun _ _ _ r h => by simp [spec_l3At.l0] at h
 | k + 1 => by
  have ih0 := spec_l3At.mono_l k
  ·intro y0 y1 y2
   unfold spec_l3At.l0
   repeat' first
   | (with_reducible exact ih0 _ _ _)
   | (with_reducible exact LeO.refl _)
   | (with_reducible exact LeO.none _)
   | (with_reducible refine LeO.ite ?_ ?_)
   | (with_reducible refine LeO.bind ?_ (fun _ => ?_))
   | exact ih0 _ _ _
   | exact LeO.none _
   | refine LeO.ite ?_ ?_
   | refine LeO.bind ?_ (fun _ => ?_)
theorem spec_l3At.mono : ∀ a0 a1 k, LeO (spec_l3At.f k a0 a1) (spec_l3At.f (k + 1) a0 a1) := by
 intro a0 a1 k
 have ih0 := spec_l3At.mono_l k
 unfold spec_l3At.f
 repeat' first
   | (with_reducible exact ih0 _ _ _)
   | (with_reducible exact LeO.refl _)
   | (with_reducible exact LeO.none _)
   | (with_reducible refine LeO.ite ?_ ?_)
   | (with_reducible refine LeO.bind ?_ (fun _ => ?_))
   | exact ih0 _ _ _
   | exact LeO.none _
   | refine LeO.ite ?_ ?_
   | refine LeO.bind ?_ (fun _ => ?_)
set_option maxHeartbeats 8000000 in
set_option maxRecDepth 100000 in
theorem spec_l3At.calls (k : Nat) (A0 : Option Addr) (c0 : Nat) (l0 : List (S36)) (a1 : Int) (r : Int) (w : World) (hr0 : Kd.C k36 w A0 l0.length l0) (hc0 : l0.length ≤ c0) (h : spec_l3At.f k l0 a1 = some r) :
  Calls Try.prog 77 #[.slice A0 l0.length c0, .int .i64 a1] w fun e w' => e = .returned (.int .i64 r) ∧ Drawn0 w w' := by
 have HR0 := Aside0.mk hr0
 have HC0 := Aside0.mk hc0
 clear hr0 hc0
 have H : (spec_l3At.l0 k l0 a1 0) = some r := h
 clear h
 have H' := Aside0.mk H
 clear H
 go_enter Try.func77, Try.ntmps77
 go_wp2
 go_loopg [5] k (fun kq v5 w' => ∃ (x5_1 : Int), v5 = .int .i64 x5_1 ∧ Aside0 (spec_l3At.l0 kq l0 a1 x5_1 = some r) ∧ Aside0 (kq ≤ k) ∧ Drawn0 w w')
 case atStart => exact ⟨(0), zq76_, H', ⟨Nat.le_refl _⟩, zqbb_⟩
 case round =>
  clear H'
  try clear p2
  obtain ⟨x5_1, rfl, HA, HK1, ⟨m1, rfl⟩⟩ := hrel
  cases gk with
  | zero => exact absurd HA.out (by simp [spec_l3At.l0])
  | succ k1 =>
   have H := HA.out
   clear HA
   simp only [spec_l3At.l0] at H
   by_cases c3 : x5_1 < (l0.length : Int)
   ·rw [if_pos c3] at H
    have c3b0 : decide (x5_1 < (l0.length : Int)) = true := decide_eq_true c3
    clear c3
    by_cases c4 : 0 ≤ x5_1
    ·rw [if_pos c4] at H
     have c4b0 : decide (0 ≤ x5_1) = true := decide_eq_true c4
     clear c4
     by_cases c5 : ((rd_T36 l0 x5_1).f0) = a1
     ·rw [if_pos c5] at H
      have c5b0 : (((rd_T36 l0 x5_1).f0) == a1) = true := beq_iff_eq.mpr c5
      have c5b1 : (((rd_T36 l0 x5_1).f0) != a1) = false := bne_eq_false_iff_eq.mpr c5
      clear c5
      obtain rfl := Option.some.inj H
      have p181 : 0 ≤ (x5_1 : Int) := of_decide_eq_true zq71_
      have q181 : x5_1 < (l0.length : Int) := of_decide_eq_true zq71_
      obtain ⟨ad181, e181, hx181_0, hx181_1⟩ := at_T36 HR0.out x5_1 p181 q181
      cases e181
      replace p181 := eq_true p181
      replace q181 := eq_true q181
      go_wp2
      go_ret
      exact ⟨zq76_, zqbb_⟩
     ·rw [if_neg c5] at H
      have c5b0 : (((rd_T36 l0 x5_1).f0) == a1) = false := beq_eq_false_iff_ne.mpr c5
      have c5b1 : (((rd_T36 l0 x5_1).f0) != a1) = true := bne_iff_ne.mpr c5
      have H' := Aside0.mk H
      clear H
      have p181 : 0 ≤ (x5_1 : Int) := of_decide_eq_true zq71_
      have q181 : x5_1 < (l0.length : Int) := of_decide_eq_true zq71_
      obtain ⟨ad181, e181, hx181_0, hx181_1⟩ := at_T36 HR0.out x5_1 p181 q181
      cases e181
      replace p181 := eq_true p181
      replace q181 := eq_true q181
      go_wp2
      go_roundg k1
      case measure => have := HK1.out; omega
      case rel => exact ⟨(wrap64 (x5_1 + 1)), zq76_, H', ⟨by have := HK1.out; omega⟩, zqbb_⟩
    ·rw [if_neg c4] at H
     exact absurd H (by simp)
   ·rw [if_neg c3] at H
    have c3b0 : decide (x5_1 < (l0.length : Int)) = false := decide_eq_false c3
    clear c3
    obtain rfl := Option.some.inj H
    go_wp2
    go_ret
    exact ⟨zq76_, zqbb_⟩

/-! ### spec_l3Look: function 100 -/
def spec_l3Look.f (k : Nat) (l0 : List (S46)) (l1_0 : List (S48)) (l1_1 : List (S36)) (a1_2 : Int) (a1_3 : Int) (a2 : Int) : Option (Int × (List (S48)) × (List (S36)) × Int × Int) := (spec_l3At.f k l1_1 a2).bind fun t184 => (if t184 ≥ 0 then (if 0 ≤ t184 then (if t184 < (l1_1.length : Int) then (some ((rd_T36 l1_1 t184).f1, l1_0, l1_1, a1_2, a1_3)) else (none)) else (none)) else ((spec_l3Saw.f k l1_0 a2).bind fun t186 => (if t186 = true then (if 0 ≤ a2 then (if a2 < (l0.length : Int) then (some ((rd_T46 l0 a2).f1, l1_0, l1_1, a1_2, a1_3)) else (none)) else (none)) else (if 0 ≤ a2 then (if a2 < (l0.length : Int) then (if l1_0.length < 8796093022208 then (some ((rd_T46 l0 a2).f1, (l1_0 ++ [(⟨a2, (rd_T46 l0 a2).f0⟩ : S48)]), l1_1, a1_2, a1_3)) else (none)) else (none)) else (none)))))
theorem spec_l3Look.mono : ∀ a0 a1 a2 a3 a4 a5 k, LeO (spec_l3Look.f k a0 a1 a2 a3 a4 a5) (spec_l3Look.f (k + 1) a0 a1 a2 a3 a4 a5) := by
 intro a0 a1 a2 a3 a4 a5 k
 unfold spec_l3Look.f
 repeat' first
   | (with_reducible exact spec_l3At.mono _ _ _)
   | (with_reducible exact spec_l3Saw.mono _ _ _)
   | (with_reducible exact LeO.refl _)
   | (with_reducible exact LeO.none _)
   | (with_reducible refine LeO.ite ?_ ?_)
   | (with_reducible refine LeO.bind ?_ (fun _ => ?_))
   | exact spec_l3At.mono _ _ _
   | exact spec_l3Saw.mono _ _ _
   | exact LeO.none _
   | refine LeO.ite ?_ ?_
   | refine LeO.bind ?_ (fun _ => ?_)
def spec_l3Look.T3 : Bool × List (List Nat × List Nat) := (true, [([], []), ([0], [0]), ([], []), ([1, 2], [1, 2]), ([3], [3]), ([4], [4]), ([], []), ([5, 0, 1, 2, 3, 4, 5], [5]), ([6, 7, 0, 1, 2, 3, 4, 5, 6, 7], [6])])
def spec_l3Look.B3 : List Nat := [0, 1, 0, 7, 15, 31, 0, 63, 255]
theorem spec_l3Look.tab3 : rtab .any (opsOf Try.f100 3) = spec_l3Look.T3 := by kernel_rfl
theorem spec_l3Look.bits3 : waitsOk spec_l3Look.T3.2 spec_l3Look.B3 = true := by kernel_rfl
def spec_l3Look.T5 : Bool × List (List Nat × List Nat) := (true, [([], []), ([0], [0]), ([], []), ([], []), ([], []), ([3, 4], [3, 4]), ([5], [5]), ([6], [6]), ([2, 7], [2, 7]), ([8], [8]), ([1, 9], [1, 9]), ([0, 1, 2, 3, 4, 5, 6, 7, 8, 9, 10], []), ([11, 10, 10, 0, 1, 2, 3, 4, 5, 6, 7, 8, 9, 10], [10, 11])])
def spec_l3Look.B5 : List Nat := [0, 1, 0, 0, 0, 24, 56, 120, 252, 508, 1023, 2047, 4095]
theorem spec_l3Look.tab5 : rtab .any (opsOf Try.f100 5) = spec_l3Look.T5 := by kernel_rfl
theorem spec_l3Look.bits5 : waitsOk spec_l3Look.T5.2 spec_l3Look.B5 = true := by kernel_rfl
def spec_l3Look.T6 : Bool × List (List Nat × List Nat) := (true, [([], []), ([], []), ([0, 1], [0, 1]), ([2], [2]), ([3], [3]), ([], []), ([4, 0, 1, 2, 3, 4], [4]), ([5, 6, 0, 1, 2, 3, 4, 5, 6], [5])])
def spec_l3Look.B6 : List Nat := [0, 0, 3, 7, 15, 0, 31, 127]
theorem spec_l3Look.tab6 : rtab .any (opsOf Try.f100 6) = spec_l3Look.T6 := by kernel_rfl
theorem spec_l3Look.bits6 : waitsOk spec_l3Look.T6.2 spec_l3Look.B6 = true := by kernel_rfl
set_option maxHeartbeats 8000000 in
set_option maxRecDepth 100000 in
theorem spec_l3Look.calls (k : Nat) (A0 : Option Addr) (c0 : Nat) (l0 : List (S46)) (P1_0_ : Nat → Prop) (u9000_ : Value) (l1_0 : List (S48)) (P1_1_ : Nat → Prop) (u9001_ : Value) (l1_1 : List (S36)) (a1_2 : Int) (a1_3 : Int) (a2 : Int) (r1 : Int) (r2 : List (S48)) (r3 : List (S36)) (r4 : Int) (r5 : Int) (w0 w : World) (hB : Below w0.heap.size w0 w) (hr0 : ∀ W_, Kept w W_ (fun k_ => P1_0_ k_ ∨ P1_1_ k_) → Kd.C k46 W_ A0 l0.length l0) (hc0 : l0.length ≤ c0) (ho1_0 : Kd.R k48 48 w w0.heap.size P1_0_ u9000_ l1_0) (ho1_1 : Kd.R k36 36 w w0.heap.size P1_1_ u9001_ l1_1) (h : spec_l3Look.f k l0 l1_0 l1_1 a1_2 a1_3 a2 = some (r1, r2, r3, r4, r5)) :
  Calls Try.prog 100 #[.slice A0 l0.length c0, .agg #[u9000_, u9001_, .int .i64 a1_2, .int .i64 a1_3], .int .i64 a2] w fun e w' => ∃ v1_ v2_ : Value, e = .returned (.tuple #[.int .i64 r1, .agg #[v1_, v2_, .int .i64 r4, .int .i64 r5]]) ∧ Kd.R k48 48 w' w0.heap.size (fun k_ => ((P1_0_ k_ ∨ P1_1_ k_) ∨ w.heap.size ≤ k_)) v1_ r2 ∧ Kd.R k36 36 w' w0.heap.size (fun k_ => ((P1_0_ k_ ∨ P1_1_ k_) ∨ w.heap.size ≤ k_)) v2_ r3 ∧ Below w0.heap.size w0 w' ∧ Kept w w' (fun k_ => P1_0_ k_ ∨ P1_1_ k_) := by
 have hu30 := Try.underlying30
 have hu48 := Try.underlying48
 have HR0 := Aside0.mk hr0
 have HC0 := Aside0.mk hc0
 clear hr0 hc0
 have HO1_0 := Aside0.mk (show Kd.R k48 48 w w0.heap.size (fun k_ => ((P1_0_ k_ ∨ P1_1_ k_) ∨ w.heap.size ≤ k_)) u9000_ l1_0 from Kd.R_mono ho1_0 (fun k_ hk => (.inl (.inl hk))))
 have HO1_1 := Aside0.mk (show Kd.R k36 36 w w0.heap.size (fun k_ => ((P1_0_ k_ ∨ P1_1_ k_) ∨ w.heap.size ≤ k_)) u9001_ l1_1 from Kd.R_mono ho1_1 (fun k_ hk => (.inl (.inr hk))))
 have HK := Aside0.mk (Kept.refl w (fun k_ => P1_0_ k_ ∨ P1_1_ k_))
 have HW0 := Aside0.mk hB.size
 have HB := Aside0.mk hB
 clear hB
 have H : ((spec_l3At.f k l1_1 a2).bind fun t184 => (if t184 ≥ 0 then (if 0 ≤ t184 then (if t184 < (l1_1.length : Int) then (some ((rd_T36 l1_1 t184).f1, l1_0, l1_1, a1_2, a1_3)) else (none)) else (none)) else ((spec_l3Saw.f k l1_0 a2).bind fun t186 => (if t186 = true then (if 0 ≤ a2 then (if a2 < (l0.length : Int) then (some ((rd_T46 l0 a2).f1, l1_0, l1_1, a1_2, a1_3)) else (none)) else (none)) else (if 0 ≤ a2 then (if a2 < (l0.length : Int) then (if l1_0.length < 8796093022208 then (some ((rd_T46 l0 a2).f1, (l1_0 ++ [(⟨a2, (rd_T46 l0 a2).f0⟩ : S48)]), l1_1, a1_2, a1_3)) else (none)) else (none)) else (none)))))) = some (r1, r2, r3, r4, r5) := h
 clear h
 replace H := Option.bind_eq_some_iff.mp H
 obtain ⟨t184, A40, H⟩ := H
 (try dsimp only at H)
 have A4 := Aside0.mk A40
 clear A40
 by_cases c5 : t184 ≥ 0
 ·rw [if_pos c5] at H
  have c5b0 : decide (0 ≤ t184) = true := decide_eq_true c5
  clear c5
  by_cases c6 : 0 ≤ t184
  ·rw [if_pos c6] at H
   have c6b0 : decide (0 ≤ t184) = true := decide_eq_true c6
   clear c6
   by_cases c7 : t184 < (l1_1.length : Int)
   ·rw [if_pos c7] at H
    have c7b0 : decide (t184 < (l1_1.length : Int)) = true := decide_eq_true c7
    clear c7
    simp only [Option.some.injEq, Prod.mk.injEq] at H
    obtain ⟨rfl, rfl, rfl, rfl, rfl⟩ := H
    obtain ⟨Ao8, co8, eo8⟩ := Kd.R_slice HO1_0.out
    subst eo8
    obtain ⟨Ao9, co9, eo9⟩ := Kd.R_slice HO1_1.out
    subst eo9
    go_enter Try.func100, Try.ntmps100
    try go_wp2_with (first | ((with_reducible refine gate_dst (N := 4) rfl ?_); refine bxe_ (N := 4) (cs := #[.slice Ao8 l1_0.length co8, .slice Ao9 l1_1.length co9, .int .i64 a1_2, .int .i64 a1_3]) (t := 30) ?_; intro gb182 hg w10 hbox hb; have n_ := A7_ (Kd.R_below zq10_ hb) (Kd.R_below zq11_ hb) (Kept.below (S := (fun k_ => P1_0_ k_ ∨ P1_1_ k_)) zqab_ hb) (below_step zqa3_ hb) (hbox) ((by rw [hg]; exact zqc8_ : w.heap.size ≤ gb182)) ((zqd6_ : w0.heap.size ≤ gb182)); clear HO1_0 HO1_1 HK HB; obtain ⟨HO1_0, HO1_1, HK, HB, BK182, GW182, GE182⟩ := n_; clear hb hbox hg) | ((with_reducible refine gate_dst (N := 7) rfl ?_); refine bxe_ (N := 7) (cs := #[.slice none 0 0, .slice none 0 0, .int .i64 0, .int .i64 0]) (t := 30) ?_; intro gb183 hg w11 hbox hb; have n0_ := Aside0.mk (Kd.R_below zq10_ hb); have n1_ := Aside0.mk (Kd.R_below zq11_ hb); have n2_ := Aside0.mk (blk_below (g := gb182) (o := .cells #[.slice Ao8 l1_0.length co8, .slice Ao9 l1_1.length co9, .int .i64 a1_2, .int .i64 a1_3] 30 (0, 0)) zq3b_ hb); have n3_ := Aside0.mk (Kept.below (S := (fun k_ => P1_0_ k_ ∨ P1_1_ k_)) zqa5_ hb); have n4_ := Aside0.mk (below_step zq86_ hb); have n5_ := Aside0.mk (hbox); have n6_ := Aside0.mk ((by rw [hg]; exact zqc7_ : w.heap.size ≤ gb183)); have n7_ := Aside0.mk ((by rw [hg]; exact (below_size zq86_) : w0.heap.size ≤ gb183)); have n8_ := Aside0.mk ((by rw [hg]; exact Nat.ne_of_lt (blk_lt (g := gb182) (o := .cells #[.slice Ao8 l1_0.length co8, .slice Ao9 l1_1.length co9, .int .i64 a1_2, .int .i64 a1_3] 30 (0, 0)) zq3b_) : gb182 ≠ gb183)); have n9_ := Aside0.mk ((by rw [hg]; exact Nat.ne_of_gt (blk_lt (g := gb182) (o := .cells #[.slice Ao8 l1_0.length co8, .slice Ao9 l1_1.length co9, .int .i64 a1_2, .int .i64 a1_3] 30 (0, 0)) zq3b_) : gb183 ≠ gb182)); clear HO1_0; clear HO1_1; clear BK182; clear HK; clear HB; have HO1_0 := n0_; have HO1_1 := n1_; have BK182 := n2_; have HK := n3_; have HB := n4_; have BK183 := n5_; have GW183 := n6_; have GE183 := n7_; have NB182_183 := n8_; have NB183_182 := n9_; clear n0_ n1_ n2_ n3_ n4_ n5_ n6_ n7_ n8_ n9_; clear hb hbox hg; have hnb12 := NB182_183.out; have hnc12 := NB183_182.out; have hcz13_0 := bc0_ BK182.out; have hcz13_1 := bc1_ BK182.out; have hcz13_2 := bc2_ BK182.out; have hcz13_3 := bc3_ BK182.out; have hfz13_0 := blk_frozen BK182.out 0; have hfz13_1 := blk_frozen BK182.out 1; have hfz13_2 := blk_frozen BK182.out 2; have hfz13_3 := blk_frozen BK182.out 3) | ((with_reducible refine gate_callee (f := 77) rfl ?_); refine goesL_ (some 12) rfl rfl Try.func77 (by kernel_rfl) rfl #[.slice Ao9 l1_1.length co9, .int .i64 a2] rfl zq1_ ?_; (with_reducible refine (spec_l3At.calls k _ _ l1_1 a2 t184 _ ?side1 ?side2 A4.out).mono ?_); (case side1 => exact zqb4_); (case side2 => exact (Kd.R_reads' HO1_1.out).2.1); rintro e w' ⟨rfl, ⟨nd, rfl⟩⟩; refine ⟨_, rfl, ?_⟩; (try (rw [drewN_self w11]; generalize hq_ : World.drewN w11 _ = w11; have n0_ : Aside0 (Kd.R k48 48 w11 w0.heap.size (fun k_ => ((P1_0_ k_ ∨ P1_1_ k_) ∨ w.heap.size ≤ k_)) (.slice Ao8 l1_0.length co8) l1_0) := ⟨by rw [← hq_]; exact zq10_⟩; have n1_ : Aside0 (Kd.R k36 36 w11 w0.heap.size (fun k_ => ((P1_0_ k_ ∨ P1_1_ k_) ∨ w.heap.size ≤ k_)) (.slice Ao9 l1_1.length co9) l1_1) := ⟨by rw [← hq_]; exact zq11_⟩; have n2_ : Aside0 (w11.heap[gb182]? = some (.cells #[.slice Ao8 l1_0.length co8, .slice Ao9 l1_1.length co9, .int .i64 a1_2, .int .i64 a1_3] 30 (0, 0))) := ⟨by rw [← hq_]; exact zq3b_⟩; have n3_ : Aside0 (w11.heap[gb183]? = some (.cells #[.slice none 0 0, .slice none 0 0, .int .i64 0, .int .i64 0] 30 (0, 0))) := ⟨by rw [← hq_]; exact zq3c_⟩; have n4_ : Aside0 (Kept w w11 (fun k_ => P1_0_ k_ ∨ P1_1_ k_)) := ⟨by rw [← hq_]; exact zqa4_⟩; have n5_ : Aside0 (Below w0.heap.size w0 w11) := ⟨by rw [← hq_]; exact zq85_⟩; clear HO1_0 HO1_1 BK182 BK183 HK HB hq_; have HO1_0 := n0_; have HO1_1 := n1_; have BK182 := n2_; have BK183 := n3_; have HK := n4_; have HB := n5_; clear n0_ n1_ n2_ n3_ n4_ n5_; have hcz13_0 := bc0_ BK182.out; have hfz13_0 := blk_frozen BK182.out 0; have hcz13_1 := bc1_ BK182.out; have hfz13_1 := blk_frozen BK182.out 1; have hcz13_2 := bc2_ BK182.out; have hfz13_2 := blk_frozen BK182.out 2; have hcz13_3 := bc3_ BK182.out; have hfz13_3 := blk_frozen BK182.out 3))))
    have n_ := A6_ (Kd.R_drew HO1_0.out) (Kd.R_drew HO1_1.out) (blk_drew BK182.out) (blk_drew BK183.out) (Kept.drew HK.out) (below_drew1 HB.out)
    clear HO1_0 HO1_1 BK182 BK183 HK HB
    obtain ⟨HO1_0, HO1_1, BK182, BK183, HK, HB⟩ := n_
    have p185 : 0 ≤ (t184 : Int) := of_decide_eq_true zq71_
    have q185 : t184 < (l1_1.length : Int) := of_decide_eq_true zq71_
    obtain ⟨ad185, e185, hx185_0, hx185_1⟩ := at_T36 (Kd.R_reads' HO1_1.out).2.2 t184 p185 q185
    cases e185
    replace p185 := eq_true p185
    replace q185 := eq_true q185
    refine start_ (n := 9) (S := fun w' => w'.cell? ⟨gb182, 0, none⟩ = some (.slice Ao8 l1_0.length co8) ∧ w'.cell? ⟨gb182, 1, none⟩ = some (.slice (some ad185) l1_1.length co9) ∧ w'.cell? ⟨gb182, 2, none⟩ = some (.int .i64 a1_2) ∧ w'.cell? ⟨gb182, 3, none⟩ = some (.int .i64 a1_3) ∧ w'.cell? (ad185.add ((t184).toNat * 2)) = some (.int .i64 ((rd_T36 l1_1 t184).f0)) ∧ w'.cell? ⟨(ad185.add ((t184).toNat * 2)).block, (ad185.add ((t184).toNat * 2)).off + 1, none⟩ = some (.int .i64 ((rd_T36 l1_1 t184).f1))) (ds := []) #[false, false, false, false, false, false, false, false, false] (by kernel_rfl) rfl rfl ⟨(blk_cell BK182.out 0).trans rfl, (blk_cell BK182.out 1).trans rfl, (blk_cell BK182.out 2).trans rfl, (blk_cell BK182.out 3).trans rfl, hx185_0, hx185_1⟩ (fun hHeld => ?_); refine with_tabW spec_l3Look.tab3 spec_l3Look.bits3 (fun HT_ HW_ => ?_)
    generalize w11.drew = w14 at HO1_0 HO1_1 BK182 BK183 HK HB hx185_0 hx185_1 hHeld ⊢
    refine pv_ (i := 0) (N := some 15) rfl rfl ?_
    refine pv_ (i := 2) (N := some 17) rfl rfl ?_
    refine tv_ (i := 1) (N := some 16) rfl rfl ?_
    refine pv_ (i := 3) (N := some 18) rfl rfl ?_
    refine pv_ (i := 4) (N := some 19) rfl rfl ?_
    refine tv_ (i := 5) (N := some 20) rfl rfl ?_
    refine pv_ (i := 7) (N := some 6) rfl rfl ?_
    refine tv_ (i := 6) (N := some 21) rfl rfl ?_
    refine on_ (i := 8) (N := none) rfl rfl (one_of HT_.out (by kernel_rfl)) (by decide) (fun K hK => ?_)
    have hs15 : w14.cell? ⟨gb183, 0, none⟩ = some (.slice none 0 0) := (blk_cell BK183.out 0).trans rfl
    have hfs15 := blk_frozen BK183.out 0
    have hns15_0 := NB182_183.out
    have hms15_0 := NB183_182.out
    have hs16 : w14.cell? ⟨gb183, 1, none⟩ = some (.slice none 0 0) := (blk_cell BK183.out 1).trans rfl
    have hfs16 := blk_frozen BK183.out 1
    have hns16_0 := NB182_183.out
    have hms16_0 := NB183_182.out
    have hs17 : w14.cell? ⟨gb183, 2, none⟩ = some (.int .i64 0) := (blk_cell BK183.out 2).trans rfl
    have hfs17 := blk_frozen BK183.out 2
    have hns17_0 := NB182_183.out
    have hms17_0 := NB183_182.out
    have hs18 : w14.cell? ⟨gb183, 3, none⟩ = some (.int .i64 0) := (blk_cell BK183.out 3).trans rfl
    have hfs18 := blk_frozen BK183.out 3
    have hns18_0 := NB182_183.out
    have hms18_0 := NB183_182.out
    refine skip_ (w1 := ?_) (by rfl) rfl ?_ ?_
    rotate_left
    ·go_simp
     rfl
    refine hK.out _ _ ⟨((cell_far (p := ⟨gb183, _, none⟩) NB182_183.out _).trans (((cell_far (p := ⟨gb183, _, none⟩) NB182_183.out _).trans (((cell_far (p := ⟨gb183, _, none⟩) NB182_183.out _).trans (((cell_far (p := ⟨gb183, _, none⟩) NB182_183.out _).trans (hHeld.1)))))))), ((cell_far (p := ⟨gb183, _, none⟩) NB182_183.out _).trans (((cell_far (p := ⟨gb183, _, none⟩) NB182_183.out _).trans (((cell_far (p := ⟨gb183, _, none⟩) NB182_183.out _).trans (((cell_far (p := ⟨gb183, _, none⟩) NB182_183.out _).trans (hHeld.2.1)))))))), ((cell_far (p := ⟨gb183, _, none⟩) NB182_183.out _).trans (((cell_far (p := ⟨gb183, _, none⟩) NB182_183.out _).trans (((cell_far (p := ⟨gb183, _, none⟩) NB182_183.out _).trans (((cell_far (p := ⟨gb183, _, none⟩) NB182_183.out _).trans (hHeld.2.2.1)))))))), ((cell_far (p := ⟨gb183, _, none⟩) NB182_183.out _).trans (((cell_far (p := ⟨gb183, _, none⟩) NB182_183.out _).trans (((cell_far (p := ⟨gb183, _, none⟩) NB182_183.out _).trans (((cell_far (p := ⟨gb183, _, none⟩) NB182_183.out _).trans (hHeld.2.2.2.1)))))))), ((cell_far (p := ⟨gb183, _, none⟩) zq73_ _).trans (((cell_far (p := ⟨gb183, _, none⟩) zq73_ _).trans (((cell_far (p := ⟨gb183, _, none⟩) zq73_ _).trans (((cell_far (p := ⟨gb183, _, none⟩) zq73_ _).trans (hHeld.2.2.2.2.1)))))))), ((cell_far (p := ⟨gb183, _, none⟩) zq73_ _).trans (((cell_far (p := ⟨gb183, _, none⟩) zq73_ _).trans (((cell_far (p := ⟨gb183, _, none⟩) zq73_ _).trans (((cell_far (p := ⟨gb183, _, none⟩) zq73_ _).trans (hHeld.2.2.2.2.2))))))))⟩ (fun hHeld => ?_)
    clear hK K
    refine done_ (done_of HT_.out (by kernel_rfl)) ?_
    try go_wp2
    refine bodyPost_ret (results_tc rfl _ _ gb183 30 #[.slice Ao8 l1_0.length co8, .slice (some ad185) l1_1.length co9, .int .i64 a1_2, .int .i64 a1_3] (0, 0) _ rfl (by (with_reducible repeat (first | refine blk_drewN ?_ _ | refine blk_drew ?_ | refine blk_alloc ?_ _)); refine blk_put (cs := #[.slice Ao8 l1_0.length co8, .slice (some ad185) l1_1.length co9, .int .i64 a1_2, .int .i64 0]) ?_ 3 _ rfl; (with_reducible repeat (first | refine blk_drewN ?_ _ | refine blk_drew ?_ | refine blk_alloc ?_ _)); refine blk_put (cs := #[.slice Ao8 l1_0.length co8, .slice (some ad185) l1_1.length co9, .int .i64 0, .int .i64 0]) ?_ 2 _ rfl; (with_reducible repeat (first | refine blk_drewN ?_ _ | refine blk_drew ?_ | refine blk_alloc ?_ _)); refine blk_put (cs := #[.slice Ao8 l1_0.length co8, .slice none 0 0, .int .i64 0, .int .i64 0]) ?_ 1 _ rfl; (with_reducible repeat (first | refine blk_drewN ?_ _ | refine blk_drew ?_ | refine blk_alloc ?_ _)); refine blk_put (cs := #[.slice none 0 0, .slice none 0 0, .int .i64 0, .int .i64 0]) ?_ 0 _ rfl; (with_reducible repeat (first | refine blk_drewN ?_ _ | refine blk_drew ?_ | refine blk_alloc ?_ _)); exact BK183.out) Try.underlying30 rfl (by kernel_rfl)) rfl ?_
    exact ⟨_, _, zq75_, by (with_reducible repeat (first | apply Kd.R_alloc | apply Kd.R_drewN | apply Kd.R_drew)); exact Kd.R_mono (Kd.R_far (p := ⟨gb183, 3, none⟩) (Kd.R_far (p := ⟨gb183, 2, none⟩) (Kd.R_far (p := ⟨gb183, 1, none⟩) (Kd.R_far (p := ⟨gb183, 0, none⟩) (Kd.R_types HO1_0.out BK183.out (by decide)) (fun _ hk => hk.2) (.slice Ao8 l1_0.length co8)) (fun _ hk => hk.2) (.slice (some ad185) l1_1.length co9)) (fun _ hk => hk.2) (.int .i64 a1_2)) (fun _ hk => hk.2) (.int .i64 a1_3)) (fun _ hk => hk.1), by (with_reducible repeat (first | apply Kd.R_alloc | apply Kd.R_drewN | apply Kd.R_drew)); exact Kd.R_mono (Kd.R_far (p := ⟨gb183, 3, none⟩) (Kd.R_far (p := ⟨gb183, 2, none⟩) (Kd.R_far (p := ⟨gb183, 1, none⟩) (Kd.R_far (p := ⟨gb183, 0, none⟩) (Kd.R_types HO1_1.out BK183.out (by decide)) (fun _ hk => hk.2) (.slice Ao8 l1_0.length co8)) (fun _ hk => hk.2) (.slice (some ad185) l1_1.length co9)) (fun _ hk => hk.2) (.int .i64 a1_2)) (fun _ hk => hk.2) (.int .i64 a1_3)) (fun _ hk => hk.1), zq85_, zqa4_⟩
   ·rw [if_neg c7] at H
    exact absurd H (by simp)
  ·rw [if_neg c6] at H
   exact absurd H (by simp)
 ·rw [if_neg c5] at H
  have c5b0 : decide (0 ≤ t184) = false := decide_eq_false c5
  clear c5
  replace H := Option.bind_eq_some_iff.mp H
  obtain ⟨t186, A190, H⟩ := H
  (try dsimp only at H)
  have A19 := Aside0.mk A190
  clear A190
  by_cases c20 : t186 = true
  ·subst c20
   rw [if_pos rfl] at H
   by_cases c21 : 0 ≤ a2
   ·rw [if_pos c21] at H
    have c21b0 : decide (0 ≤ a2) = true := decide_eq_true c21
    clear c21
    by_cases c22 : a2 < (l0.length : Int)
    ·rw [if_pos c22] at H
     have c22b0 : decide (a2 < (l0.length : Int)) = true := decide_eq_true c22
     clear c22
     simp only [Option.some.injEq, Prod.mk.injEq] at H
     obtain ⟨rfl, rfl, rfl, rfl, rfl⟩ := H
     obtain ⟨Ao23, co23, eo23⟩ := Kd.R_slice HO1_0.out
     subst eo23
     obtain ⟨Ao24, co24, eo24⟩ := Kd.R_slice HO1_1.out
     subst eo24
     go_enter Try.func100, Try.ntmps100
     try go_wp2_with (first | ((with_reducible refine gate_dst (N := 4) rfl ?_); refine bxe_ (N := 4) (cs := #[.slice Ao23 l1_0.length co23, .slice Ao24 l1_1.length co24, .int .i64 a1_2, .int .i64 a1_3]) (t := 30) ?_; intro gb182 hg w25 hbox hb; have n_ := A7_ (Kd.R_below zq10_ hb) (Kd.R_below zq11_ hb) (Kept.below (S := (fun k_ => P1_0_ k_ ∨ P1_1_ k_)) zqab_ hb) (below_step zqa3_ hb) (hbox) ((by rw [hg]; exact zqc8_ : w.heap.size ≤ gb182)) ((zqd6_ : w0.heap.size ≤ gb182)); clear HO1_0 HO1_1 HK HB; obtain ⟨HO1_0, HO1_1, HK, HB, BK182, GW182, GE182⟩ := n_; clear hb hbox hg) | ((with_reducible refine gate_dst (N := 7) rfl ?_); refine bxe_ (N := 7) (cs := #[.slice none 0 0, .slice none 0 0, .int .i64 0, .int .i64 0]) (t := 30) ?_; intro gb183 hg w26 hbox hb; have n0_ := Aside0.mk (Kd.R_below zq10_ hb); have n1_ := Aside0.mk (Kd.R_below zq11_ hb); have n2_ := Aside0.mk (blk_below (g := gb182) (o := .cells #[.slice Ao23 l1_0.length co23, .slice Ao24 l1_1.length co24, .int .i64 a1_2, .int .i64 a1_3] 30 (0, 0)) zq3b_ hb); have n3_ := Aside0.mk (Kept.below (S := (fun k_ => P1_0_ k_ ∨ P1_1_ k_)) zqa5_ hb); have n4_ := Aside0.mk (below_step zq86_ hb); have n5_ := Aside0.mk (hbox); have n6_ := Aside0.mk ((by rw [hg]; exact zqc7_ : w.heap.size ≤ gb183)); have n7_ := Aside0.mk ((by rw [hg]; exact (below_size zq86_) : w0.heap.size ≤ gb183)); have n8_ := Aside0.mk ((by rw [hg]; exact Nat.ne_of_lt (blk_lt (g := gb182) (o := .cells #[.slice Ao23 l1_0.length co23, .slice Ao24 l1_1.length co24, .int .i64 a1_2, .int .i64 a1_3] 30 (0, 0)) zq3b_) : gb182 ≠ gb183)); have n9_ := Aside0.mk ((by rw [hg]; exact Nat.ne_of_gt (blk_lt (g := gb182) (o := .cells #[.slice Ao23 l1_0.length co23, .slice Ao24 l1_1.length co24, .int .i64 a1_2, .int .i64 a1_3] 30 (0, 0)) zq3b_) : gb183 ≠ gb182)); clear HO1_0; clear HO1_1; clear BK182; clear HK; clear HB; have HO1_0 := n0_; have HO1_1 := n1_; have BK182 := n2_; have HK := n3_; have HB := n4_; have BK183 := n5_; have GW183 := n6_; have GE183 := n7_; have NB182_183 := n8_; have NB183_182 := n9_; clear n0_ n1_ n2_ n3_ n4_ n5_ n6_ n7_ n8_ n9_; clear hb hbox hg; have hnb27 := NB182_183.out; have hnc27 := NB183_182.out; have hcz28_0 := bc0_ BK182.out; have hcz28_1 := bc1_ BK182.out; have hcz28_2 := bc2_ BK182.out; have hcz28_3 := bc3_ BK182.out; have hfz28_0 := blk_frozen BK182.out 0; have hfz28_1 := blk_frozen BK182.out 1; have hfz28_2 := blk_frozen BK182.out 2; have hfz28_3 := blk_frozen BK182.out 3) | ((with_reducible refine gate_callee (f := 77) rfl ?_); refine goesL_ (some 12) rfl rfl Try.func77 (by kernel_rfl) rfl #[.slice Ao24 l1_1.length co24, .int .i64 a2] rfl zq1_ ?_; (with_reducible refine (spec_l3At.calls k _ _ l1_1 a2 t184 _ ?side1 ?side2 A4.out).mono ?_); (case side1 => exact zqb4_); (case side2 => exact (Kd.R_reads' HO1_1.out).2.1); rintro e w' ⟨rfl, ⟨nd, rfl⟩⟩; refine ⟨_, rfl, ?_⟩; (try (rw [drewN_self w26]; generalize hq_ : World.drewN w26 _ = w26; have n0_ : Aside0 (Kd.R k48 48 w26 w0.heap.size (fun k_ => ((P1_0_ k_ ∨ P1_1_ k_) ∨ w.heap.size ≤ k_)) (.slice Ao23 l1_0.length co23) l1_0) := ⟨by rw [← hq_]; exact zq10_⟩; have n1_ : Aside0 (Kd.R k36 36 w26 w0.heap.size (fun k_ => ((P1_0_ k_ ∨ P1_1_ k_) ∨ w.heap.size ≤ k_)) (.slice Ao24 l1_1.length co24) l1_1) := ⟨by rw [← hq_]; exact zq11_⟩; have n2_ : Aside0 (w26.heap[gb182]? = some (.cells #[.slice Ao23 l1_0.length co23, .slice Ao24 l1_1.length co24, .int .i64 a1_2, .int .i64 a1_3] 30 (0, 0))) := ⟨by rw [← hq_]; exact zq3b_⟩; have n3_ : Aside0 (w26.heap[gb183]? = some (.cells #[.slice none 0 0, .slice none 0 0, .int .i64 0, .int .i64 0] 30 (0, 0))) := ⟨by rw [← hq_]; exact zq3c_⟩; have n4_ : Aside0 (Kept w w26 (fun k_ => P1_0_ k_ ∨ P1_1_ k_)) := ⟨by rw [← hq_]; exact zqa4_⟩; have n5_ : Aside0 (Below w0.heap.size w0 w26) := ⟨by rw [← hq_]; exact zq85_⟩; clear HO1_0 HO1_1 BK182 BK183 HK HB hq_; have HO1_0 := n0_; have HO1_1 := n1_; have BK182 := n2_; have BK183 := n3_; have HK := n4_; have HB := n5_; clear n0_ n1_ n2_ n3_ n4_ n5_; have hcz28_0 := bc0_ BK182.out; have hfz28_0 := blk_frozen BK182.out 0; have hcz28_1 := bc1_ BK182.out; have hfz28_1 := blk_frozen BK182.out 1; have hcz28_2 := bc2_ BK182.out; have hfz28_2 := blk_frozen BK182.out 2; have hcz28_3 := bc3_ BK182.out; have hfz28_3 := blk_frozen BK182.out 3))) | ((with_reducible refine gate_callee (f := 76) rfl ?_); refine goesL_ (some 25) rfl rfl Try.func76 (by kernel_rfl) rfl #[.slice Ao23 l1_0.length co23, .int .i64 a2] rfl zq1_ ?_; (with_reducible refine (spec_l3Saw.calls k _ _ l1_0 a2 true _ ?side1 ?side2 A19.out).mono ?_); (case side1 => exact zqb3_); (case side2 => exact (Kd.R_reads' HO1_0.out).2.1); rintro e w' ⟨rfl, ⟨nd, rfl⟩⟩; refine ⟨_, rfl, ?_⟩; (try (rw [drewN_self w26]; generalize hq_ : World.drewN w26 _ = w26; have n0_ : Aside0 (Kd.R k48 48 w26 w0.heap.size (fun k_ => ((P1_0_ k_ ∨ P1_1_ k_) ∨ w.heap.size ≤ k_)) (.slice Ao23 l1_0.length co23) l1_0) := ⟨by rw [← hq_]; exact zq10_⟩; have n1_ : Aside0 (Kd.R k36 36 w26 w0.heap.size (fun k_ => ((P1_0_ k_ ∨ P1_1_ k_) ∨ w.heap.size ≤ k_)) (.slice Ao24 l1_1.length co24) l1_1) := ⟨by rw [← hq_]; exact zq11_⟩; have n2_ : Aside0 (w26.heap[gb182]? = some (.cells #[.slice Ao23 l1_0.length co23, .slice Ao24 l1_1.length co24, .int .i64 a1_2, .int .i64 a1_3] 30 (0, 0))) := ⟨by rw [← hq_]; exact zq3b_⟩; have n3_ : Aside0 (w26.heap[gb183]? = some (.cells #[.slice none 0 0, .slice none 0 0, .int .i64 0, .int .i64 0] 30 (0, 0))) := ⟨by rw [← hq_]; exact zq3c_⟩; have n4_ : Aside0 (Kept w w26 (fun k_ => P1_0_ k_ ∨ P1_1_ k_)) := ⟨by rw [← hq_]; exact zqa4_⟩; have n5_ : Aside0 (Below w0.heap.size w0 w26) := ⟨by rw [← hq_]; exact zq85_⟩; clear HO1_0 HO1_1 BK182 BK183 HK HB hq_; have HO1_0 := n0_; have HO1_1 := n1_; have BK182 := n2_; have BK183 := n3_; have HK := n4_; have HB := n5_; clear n0_ n1_ n2_ n3_ n4_ n5_; have hcz28_0 := bc0_ BK182.out; have hfz28_0 := blk_frozen BK182.out 0; have hcz28_1 := bc1_ BK182.out; have hfz28_1 := blk_frozen BK182.out 1; have hcz28_2 := bc2_ BK182.out; have hfz28_2 := blk_frozen BK182.out 2; have hcz28_3 := bc3_ BK182.out; have hfz28_3 := blk_frozen BK182.out 3))))
     have n_ := A6_ (Kd.R_drew HO1_0.out) (Kd.R_drew HO1_1.out) (blk_drew BK182.out) (blk_drew BK183.out) (Kept.drew HK.out) (below_drew1 HB.out)
     clear HO1_0 HO1_1 BK182 BK183 HK HB
     obtain ⟨HO1_0, HO1_1, BK182, BK183, HK, HB⟩ := n_
     have p187 : 0 ≤ (a2 : Int) := of_decide_eq_true zq71_
     have q187 : a2 < (l0.length : Int) := of_decide_eq_true zq71_
     obtain ⟨ad187, e187, hx187_0, hx187_1⟩ := at_T46 (Kd.C_kept_now HR0.out HK.out) a2 p187 q187
     have hw187_1 := hx187_1
     have hw187_0 := hx187_0
     cases e187
     replace p187 := eq_true p187
     replace q187 := eq_true q187
     refine start_ (n := 8) (S := fun w' => w'.cell? ⟨gb182, 0, none⟩ = some (.slice Ao23 l1_0.length co23) ∧ w'.cell? ⟨gb182, 1, none⟩ = some (.slice Ao24 l1_1.length co24) ∧ w'.cell? ⟨gb182, 2, none⟩ = some (.int .i64 a1_2) ∧ w'.cell? ⟨gb182, 3, none⟩ = some (.int .i64 a1_3) ∧ w'.cell? (ad187.add ((a2).toNat * 2)) = some (.int .i64 ((rd_T46 l0 a2).f0)) ∧ w'.cell? ⟨(ad187.add ((a2).toNat * 2)).block, (ad187.add ((a2).toNat * 2)).off + 1, none⟩ = some (.int .i64 ((rd_T46 l0 a2).f1))) (ds := []) #[false, false, false, false, false, false, false, false] (by kernel_rfl) rfl rfl ⟨(blk_cell BK182.out 0).trans rfl, (blk_cell BK182.out 1).trans rfl, (blk_cell BK182.out 2).trans rfl, (blk_cell BK182.out 3).trans rfl, (ft_T46_0 (HR0.out _ zqbd_) a2 (of_eq_true p187) (of_eq_true q187)), (ft_T46_1 (HR0.out _ zqbd_) a2 (of_eq_true p187) (of_eq_true q187))⟩ (fun hHeld => ?_); refine with_tabW spec_l3Look.tab6 spec_l3Look.bits6 (fun HT_ HW_ => ?_)
     generalize w26.drew = w29 at HO1_0 HO1_1 BK182 BK183 HK HB hx187_0 hx187_1 hHeld ⊢
     refine pv_ (i := 0) (N := some 39) rfl rfl ?_
     refine pv_ (i := 1) (N := some 40) rfl rfl ?_
     refine pv_ (i := 2) (N := some 41) rfl rfl ?_
     refine pv_ (i := 3) (N := some 42) rfl rfl ?_
     refine tv_ (i := 4) (N := some 43) rfl rfl ?_
     refine pv_ (i := 6) (N := some 6) rfl rfl ?_
     refine tv_ (i := 5) (N := some 44) rfl rfl ?_
     refine on_ (i := 7) (N := none) rfl rfl (one_of HT_.out (by kernel_rfl)) (by decide) (fun K hK => ?_)
     have hs30 : w29.cell? ⟨gb183, 0, none⟩ = some (.slice none 0 0) := (blk_cell BK183.out 0).trans rfl
     have hfs30 := blk_frozen BK183.out 0
     have hns30_0 := NB182_183.out
     have hms30_0 := NB183_182.out
     have hs31 : w29.cell? ⟨gb183, 1, none⟩ = some (.slice none 0 0) := (blk_cell BK183.out 1).trans rfl
     have hfs31 := blk_frozen BK183.out 1
     have hns31_0 := NB182_183.out
     have hms31_0 := NB183_182.out
     have hs32 : w29.cell? ⟨gb183, 2, none⟩ = some (.int .i64 0) := (blk_cell BK183.out 2).trans rfl
     have hfs32 := blk_frozen BK183.out 2
     have hns32_0 := NB182_183.out
     have hms32_0 := NB183_182.out
     have hs33 : w29.cell? ⟨gb183, 3, none⟩ = some (.int .i64 0) := (blk_cell BK183.out 3).trans rfl
     have hfs33 := blk_frozen BK183.out 3
     have hns33_0 := NB182_183.out
     have hms33_0 := NB183_182.out
     refine skip_ (w1 := ?_) (by rfl) rfl ?_ ?_
     rotate_left
     ·go_simp
      rfl
     refine hK.out _ _ ⟨((cell_far (p := ⟨gb183, _, none⟩) NB182_183.out _).trans (((cell_far (p := ⟨gb183, _, none⟩) NB182_183.out _).trans (((cell_far (p := ⟨gb183, _, none⟩) NB182_183.out _).trans (((cell_far (p := ⟨gb183, _, none⟩) NB182_183.out _).trans (hHeld.1)))))))), ((cell_far (p := ⟨gb183, _, none⟩) NB182_183.out _).trans (((cell_far (p := ⟨gb183, _, none⟩) NB182_183.out _).trans (((cell_far (p := ⟨gb183, _, none⟩) NB182_183.out _).trans (((cell_far (p := ⟨gb183, _, none⟩) NB182_183.out _).trans (hHeld.2.1)))))))), ((cell_far (p := ⟨gb183, _, none⟩) NB182_183.out _).trans (((cell_far (p := ⟨gb183, _, none⟩) NB182_183.out _).trans (((cell_far (p := ⟨gb183, _, none⟩) NB182_183.out _).trans (((cell_far (p := ⟨gb183, _, none⟩) NB182_183.out _).trans (hHeld.2.2.1)))))))), ((cell_far (p := ⟨gb183, _, none⟩) NB182_183.out _).trans (((cell_far (p := ⟨gb183, _, none⟩) NB182_183.out _).trans (((cell_far (p := ⟨gb183, _, none⟩) NB182_183.out _).trans (((cell_far (p := ⟨gb183, _, none⟩) NB182_183.out _).trans (hHeld.2.2.2.1)))))))), (ft_T46_0 (HR0.out _ zqbd_) a2 (of_eq_true p187) (of_eq_true q187)), (ft_T46_1 (HR0.out _ zqbd_) a2 (of_eq_true p187) (of_eq_true q187))⟩ (fun hHeld => ?_)
     clear hK K
     refine done_ (done_of HT_.out (by kernel_rfl)) ?_
     try go_wp2
     refine bodyPost_ret (results_tc rfl _ _ gb183 30 #[.slice Ao23 l1_0.length co23, .slice Ao24 l1_1.length co24, .int .i64 a1_2, .int .i64 a1_3] (0, 0) _ rfl (by (with_reducible repeat (first | refine blk_drewN ?_ _ | refine blk_drew ?_ | refine blk_alloc ?_ _)); refine blk_put (cs := #[.slice Ao23 l1_0.length co23, .slice Ao24 l1_1.length co24, .int .i64 a1_2, .int .i64 0]) ?_ 3 _ rfl; (with_reducible repeat (first | refine blk_drewN ?_ _ | refine blk_drew ?_ | refine blk_alloc ?_ _)); refine blk_put (cs := #[.slice Ao23 l1_0.length co23, .slice Ao24 l1_1.length co24, .int .i64 0, .int .i64 0]) ?_ 2 _ rfl; (with_reducible repeat (first | refine blk_drewN ?_ _ | refine blk_drew ?_ | refine blk_alloc ?_ _)); refine blk_put (cs := #[.slice Ao23 l1_0.length co23, .slice none 0 0, .int .i64 0, .int .i64 0]) ?_ 1 _ rfl; (with_reducible repeat (first | refine blk_drewN ?_ _ | refine blk_drew ?_ | refine blk_alloc ?_ _)); refine blk_put (cs := #[.slice none 0 0, .slice none 0 0, .int .i64 0, .int .i64 0]) ?_ 0 _ rfl; (with_reducible repeat (first | refine blk_drewN ?_ _ | refine blk_drew ?_ | refine blk_alloc ?_ _)); exact BK183.out) Try.underlying30 rfl (by kernel_rfl)) rfl ?_
     exact ⟨_, _, zq75_, by (with_reducible repeat (first | apply Kd.R_alloc | apply Kd.R_drewN | apply Kd.R_drew)); exact Kd.R_mono (Kd.R_far (p := ⟨gb183, 3, none⟩) (Kd.R_far (p := ⟨gb183, 2, none⟩) (Kd.R_far (p := ⟨gb183, 1, none⟩) (Kd.R_far (p := ⟨gb183, 0, none⟩) (Kd.R_types HO1_0.out BK183.out (by decide)) (fun _ hk => hk.2) (.slice Ao23 l1_0.length co23)) (fun _ hk => hk.2) (.slice Ao24 l1_1.length co24)) (fun _ hk => hk.2) (.int .i64 a1_2)) (fun _ hk => hk.2) (.int .i64 a1_3)) (fun _ hk => hk.1), by (with_reducible repeat (first | apply Kd.R_alloc | apply Kd.R_drewN | apply Kd.R_drew)); exact Kd.R_mono (Kd.R_far (p := ⟨gb183, 3, none⟩) (Kd.R_far (p := ⟨gb183, 2, none⟩) (Kd.R_far (p := ⟨gb183, 1, none⟩) (Kd.R_far (p := ⟨gb183, 0, none⟩) (Kd.R_types HO1_1.out BK183.out (by decide)) (fun _ hk => hk.2) (.slice Ao23 l1_0.length co23)) (fun _ hk => hk.2) (.slice Ao24 l1_1.length co24)) (fun _ hk => hk.2) (.int .i64 a1_2)) (fun _ hk => hk.2) (.int .i64 a1_3)) (fun _ hk => hk.1), zq85_, zqa4_⟩
    ·rw [if_neg c22] at H
     exact absurd H (by simp)
   ·rw [if_neg c21] at H
    exact absurd H (by simp)
  ·replace c20 := Bool.eq_false_iff.mpr c20
   subst c20
   rw [if_neg (show ¬ (false = true) by decide)] at H
   by_cases c34 : 0 ≤ a2
   ·rw [if_pos c34] at H
    have c34b0 : decide (0 ≤ a2) = true := decide_eq_true c34
    clear c34
    by_cases c35 : a2 < (l0.length : Int)
    ·rw [if_pos c35] at H
     have c35b0 : decide (a2 < (l0.length : Int)) = true := decide_eq_true c35
     clear c35
     by_cases c36 : l1_0.length < 8796093022208
     ·rw [if_pos c36] at H
      have LMc36 := Aside0.mk c36
      clear c36
      obtain ⟨y189, hy189⟩ : ∃ y_ : List (S48), y_ = (l1_0 ++ [(⟨a2, (rd_T46 l0 a2).f0⟩ : S48)]) := ⟨_, rfl⟩
      replace H : (some ((rd_T46 l0 a2).f1, y189, l1_1, a1_2, a1_3)) = some (r1, r2, r3, r4, r5) := by first | (rw [hy189]; with_reducible exact H) | (have H2_ := (Option.bind_some _ _).symm.trans H; rw [hy189]; with_reducible exact H2_) | (have H2_ := (Option.bind_some _ _).symm.trans H; with_reducible exact H2_) | with_reducible exact H | (rw [hy189]; exact H) | exact H
      have Ny189 := Aside0.mk hy189
      clear hy189
      simp only [Option.some.injEq, Prod.mk.injEq] at H
      obtain ⟨rfl, rfl, rfl, rfl, rfl⟩ := H
      obtain ⟨Ao37, co37, eo37⟩ := Kd.R_slice HO1_0.out
      subst eo37
      obtain ⟨Ao38, co38, eo38⟩ := Kd.R_slice HO1_1.out
      subst eo38
      go_enter Try.func100, Try.ntmps100
      try go_wp2_with (first | ((with_reducible refine gate_dst (N := 4) rfl ?_); refine bxe_ (N := 4) (cs := #[.slice Ao37 l1_0.length co37, .slice Ao38 l1_1.length co38, .int .i64 a1_2, .int .i64 a1_3]) (t := 30) ?_; intro gb182 hg w39 hbox hb; have n_ := A7_ (Kd.R_below zq10_ hb) (Kd.R_below zq11_ hb) (Kept.below (S := (fun k_ => P1_0_ k_ ∨ P1_1_ k_)) zqab_ hb) (below_step zqa3_ hb) (hbox) ((by rw [hg]; exact zqc8_ : w.heap.size ≤ gb182)) ((zqd6_ : w0.heap.size ≤ gb182)); clear HO1_0 HO1_1 HK HB; obtain ⟨HO1_0, HO1_1, HK, HB, BK182, GW182, GE182⟩ := n_; clear hb hbox hg) | ((with_reducible refine gate_dst (N := 7) rfl ?_); refine bxe_ (N := 7) (cs := #[.slice none 0 0, .slice none 0 0, .int .i64 0, .int .i64 0]) (t := 30) ?_; intro gb183 hg w40 hbox hb; have n0_ := Aside0.mk (Kd.R_below zq10_ hb); have n1_ := Aside0.mk (Kd.R_below zq11_ hb); have n2_ := Aside0.mk (blk_below (g := gb182) (o := .cells #[.slice Ao37 l1_0.length co37, .slice Ao38 l1_1.length co38, .int .i64 a1_2, .int .i64 a1_3] 30 (0, 0)) zq3b_ hb); have n3_ := Aside0.mk (Kept.below (S := (fun k_ => P1_0_ k_ ∨ P1_1_ k_)) zqa5_ hb); have n4_ := Aside0.mk (below_step zq86_ hb); have n5_ := Aside0.mk (hbox); have n6_ := Aside0.mk ((by rw [hg]; exact zqc7_ : w.heap.size ≤ gb183)); have n7_ := Aside0.mk ((by rw [hg]; exact (below_size zq86_) : w0.heap.size ≤ gb183)); have n8_ := Aside0.mk ((by rw [hg]; exact Nat.ne_of_lt (blk_lt (g := gb182) (o := .cells #[.slice Ao37 l1_0.length co37, .slice Ao38 l1_1.length co38, .int .i64 a1_2, .int .i64 a1_3] 30 (0, 0)) zq3b_) : gb182 ≠ gb183)); have n9_ := Aside0.mk ((by rw [hg]; exact Nat.ne_of_gt (blk_lt (g := gb182) (o := .cells #[.slice Ao37 l1_0.length co37, .slice Ao38 l1_1.length co38, .int .i64 a1_2, .int .i64 a1_3] 30 (0, 0)) zq3b_) : gb183 ≠ gb182)); clear HO1_0; clear HO1_1; clear BK182; clear HK; clear HB; have HO1_0 := n0_; have HO1_1 := n1_; have BK182 := n2_; have HK := n3_; have HB := n4_; have BK183 := n5_; have GW183 := n6_; have GE183 := n7_; have NB182_183 := n8_; have NB183_182 := n9_; clear n0_ n1_ n2_ n3_ n4_ n5_ n6_ n7_ n8_ n9_; clear hb hbox hg; have hnb41 := NB182_183.out; have hnc41 := NB183_182.out; have hcz42_0 := bc0_ BK182.out; have hcz42_1 := bc1_ BK182.out; have hcz42_2 := bc2_ BK182.out; have hcz42_3 := bc3_ BK182.out; have hfz42_0 := blk_frozen BK182.out 0; have hfz42_1 := blk_frozen BK182.out 1; have hfz42_2 := blk_frozen BK182.out 2; have hfz42_3 := blk_frozen BK182.out 3) | ((with_reducible refine gate_callee (f := 77) rfl ?_); refine goesL_ (some 12) rfl rfl Try.func77 (by kernel_rfl) rfl #[.slice Ao38 l1_1.length co38, .int .i64 a2] rfl zq1_ ?_; (with_reducible refine (spec_l3At.calls k _ _ l1_1 a2 t184 _ ?side1 ?side2 A4.out).mono ?_); (case side1 => exact zqb4_); (case side2 => exact (Kd.R_reads' HO1_1.out).2.1); rintro e w' ⟨rfl, ⟨nd, rfl⟩⟩; refine ⟨_, rfl, ?_⟩; (try (rw [drewN_self w40]; generalize hq_ : World.drewN w40 _ = w40; have n0_ : Aside0 (Kd.R k48 48 w40 w0.heap.size (fun k_ => ((P1_0_ k_ ∨ P1_1_ k_) ∨ w.heap.size ≤ k_)) (.slice Ao37 l1_0.length co37) l1_0) := ⟨by rw [← hq_]; exact zq10_⟩; have n1_ : Aside0 (Kd.R k36 36 w40 w0.heap.size (fun k_ => ((P1_0_ k_ ∨ P1_1_ k_) ∨ w.heap.size ≤ k_)) (.slice Ao38 l1_1.length co38) l1_1) := ⟨by rw [← hq_]; exact zq11_⟩; have n2_ : Aside0 (w40.heap[gb182]? = some (.cells #[.slice Ao37 l1_0.length co37, .slice Ao38 l1_1.length co38, .int .i64 a1_2, .int .i64 a1_3] 30 (0, 0))) := ⟨by rw [← hq_]; exact zq3b_⟩; have n3_ : Aside0 (w40.heap[gb183]? = some (.cells #[.slice none 0 0, .slice none 0 0, .int .i64 0, .int .i64 0] 30 (0, 0))) := ⟨by rw [← hq_]; exact zq3c_⟩; have n4_ : Aside0 (Kept w w40 (fun k_ => P1_0_ k_ ∨ P1_1_ k_)) := ⟨by rw [← hq_]; exact zqa4_⟩; have n5_ : Aside0 (Below w0.heap.size w0 w40) := ⟨by rw [← hq_]; exact zq85_⟩; clear HO1_0 HO1_1 BK182 BK183 HK HB hq_; have HO1_0 := n0_; have HO1_1 := n1_; have BK182 := n2_; have BK183 := n3_; have HK := n4_; have HB := n5_; clear n0_ n1_ n2_ n3_ n4_ n5_; have hcz42_0 := bc0_ BK182.out; have hfz42_0 := blk_frozen BK182.out 0; have hcz42_1 := bc1_ BK182.out; have hfz42_1 := blk_frozen BK182.out 1; have hcz42_2 := bc2_ BK182.out; have hfz42_2 := blk_frozen BK182.out 2; have hcz42_3 := bc3_ BK182.out; have hfz42_3 := blk_frozen BK182.out 3))) | ((with_reducible refine gate_callee (f := 76) rfl ?_); refine goesL_ (some 25) rfl rfl Try.func76 (by kernel_rfl) rfl #[.slice Ao37 l1_0.length co37, .int .i64 a2] rfl zq1_ ?_; (with_reducible refine (spec_l3Saw.calls k _ _ l1_0 a2 false _ ?side1 ?side2 A19.out).mono ?_); (case side1 => exact zqb3_); (case side2 => exact (Kd.R_reads' HO1_0.out).2.1); rintro e w' ⟨rfl, ⟨nd, rfl⟩⟩; refine ⟨_, rfl, ?_⟩; (try (rw [drewN_self w40]; generalize hq_ : World.drewN w40 _ = w40; have n0_ : Aside0 (Kd.R k48 48 w40 w0.heap.size (fun k_ => ((P1_0_ k_ ∨ P1_1_ k_) ∨ w.heap.size ≤ k_)) (.slice Ao37 l1_0.length co37) l1_0) := ⟨by rw [← hq_]; exact zq10_⟩; have n1_ : Aside0 (Kd.R k36 36 w40 w0.heap.size (fun k_ => ((P1_0_ k_ ∨ P1_1_ k_) ∨ w.heap.size ≤ k_)) (.slice Ao38 l1_1.length co38) l1_1) := ⟨by rw [← hq_]; exact zq11_⟩; have n2_ : Aside0 (w40.heap[gb182]? = some (.cells #[.slice Ao37 l1_0.length co37, .slice Ao38 l1_1.length co38, .int .i64 a1_2, .int .i64 a1_3] 30 (0, 0))) := ⟨by rw [← hq_]; exact zq3b_⟩; have n3_ : Aside0 (w40.heap[gb183]? = some (.cells #[.slice none 0 0, .slice none 0 0, .int .i64 0, .int .i64 0] 30 (0, 0))) := ⟨by rw [← hq_]; exact zq3c_⟩; have n4_ : Aside0 (Kept w w40 (fun k_ => P1_0_ k_ ∨ P1_1_ k_)) := ⟨by rw [← hq_]; exact zqa4_⟩; have n5_ : Aside0 (Below w0.heap.size w0 w40) := ⟨by rw [← hq_]; exact zq85_⟩; clear HO1_0 HO1_1 BK182 BK183 HK HB hq_; have HO1_0 := n0_; have HO1_1 := n1_; have BK182 := n2_; have BK183 := n3_; have HK := n4_; have HB := n5_; clear n0_ n1_ n2_ n3_ n4_ n5_; have hcz42_0 := bc0_ BK182.out; have hfz42_0 := blk_frozen BK182.out 0; have hcz42_1 := bc1_ BK182.out; have hfz42_1 := blk_frozen BK182.out 1; have hcz42_2 := bc2_ BK182.out; have hfz42_2 := blk_frozen BK182.out 2; have hcz42_3 := bc3_ BK182.out; have hfz42_3 := blk_frozen BK182.out 3))))
      have n_ := A6_ (Kd.R_drew HO1_0.out) (Kd.R_drew HO1_1.out) (blk_drew BK182.out) (blk_drew BK183.out) (Kept.drew HK.out) (below_drew1 HB.out)
      clear HO1_0 HO1_1 BK182 BK183 HK HB
      obtain ⟨HO1_0, HO1_1, BK182, BK183, HK, HB⟩ := n_
      have p188 : 0 ≤ (a2 : Int) := of_decide_eq_true zq71_
      have q188 : a2 < (l0.length : Int) := of_decide_eq_true zq71_
      obtain ⟨ad188, e188, hx188_0, hx188_1⟩ := at_T46 (Kd.C_kept_now HR0.out HK.out) a2 p188 q188
      have hw188_1 := hx188_1
      have hw188_0 := hx188_0
      cases e188
      replace p188 := eq_true p188
      replace q188 := eq_true q188
      refine start_ (n := 13) (S := fun w' => w'.cell? ⟨gb182, 0, none⟩ = some (.slice Ao37 l1_0.length co37) ∧ w'.cell? ⟨gb182, 1, none⟩ = some (.slice Ao38 l1_1.length co38) ∧ w'.cell? ⟨gb182, 2, none⟩ = some (.int .i64 a1_2) ∧ w'.cell? ⟨gb182, 3, none⟩ = some (.int .i64 a1_3) ∧ w'.cell? (ad188.add ((a2).toNat * 2)) = some (.int .i64 ((rd_T46 l0 a2).f0)) ∧ w'.cell? ⟨(ad188.add ((a2).toNat * 2)).block, (ad188.add ((a2).toNat * 2)).off + 1, none⟩ = some (.int .i64 ((rd_T46 l0 a2).f1))) (ds := [12]) #[false, false, false, false, false, false, false, false, false, false, false, false, false] (by kernel_rfl) rfl rfl ⟨(blk_cell BK182.out 0).trans rfl, (blk_cell BK182.out 1).trans rfl, (blk_cell BK182.out 2).trans rfl, (blk_cell BK182.out 3).trans rfl, (ft_T46_0 (HR0.out _ zqbc_) a2 (of_eq_true p188) (of_eq_true q188)), (ft_T46_1 (HR0.out _ zqbc_) a2 (of_eq_true p188) (of_eq_true q188))⟩ (fun hHeld => ?_); refine with_tabW spec_l3Look.tab5 spec_l3Look.bits5 (fun HT_ HW_ => ?_)
      generalize w40.drew = w43 at HO1_0 HO1_1 BK182 BK183 HK HB hx188_0 hx188_1 hHeld ⊢
      refine pv_ (i := 0) (N := some 27) rfl rfl ?_
      refine pv_ (i := 2) (N := some 29) rfl rfl ?_
      refine pv_ (i := 3) (N := some 30) rfl rfl ?_
      refine pv_ (i := 4) (N := some 31) rfl rfl ?_
      refine pv_ (i := 5) (N := some 32) rfl rfl ?_
      refine pv_ (i := 6) (N := some 33) rfl rfl ?_
      refine tv_ (i := 1) (N := some 28) rfl rfl ?_
      refine tv_ (i := 7) (N := some 34) rfl rfl ?_
      refine pv_ (i := 8) (N := some 35) rfl rfl ?_
      refine on_ (i := 9) (N := some 36) rfl rfl (one_of HT_.out (by kernel_rfl)) (by decide) (fun K hK => ?_)
      refine value_ (w1 := ?_) (v := ?_) (by rfl) rfl ?_ ?_
      rotate_left 2
      ·go_simp
       constructor
       ·rfl
       ·rfl
      refine hK.out _ _ ⟨(blk_cell (blk_alloc BK182.out _) 0).trans rfl, (blk_cell (blk_alloc BK182.out _) 1).trans rfl, (blk_cell (blk_alloc BK182.out _) 2).trans rfl, (blk_cell (blk_alloc BK182.out _) 3).trans rfl, (World.cell?_alloc_lt _ _ _ (World.block_lt_of_cell? _ _ ((ft_T46_0 (HR0.out _ zqbc_) a2 (of_eq_true p188) (of_eq_true q188))))).trans ((ft_T46_0 (HR0.out _ zqbc_) a2 (of_eq_true p188) (of_eq_true q188))), (World.cell?_alloc_lt _ _ _ (World.block_lt_of_cell? _ _ ((ft_T46_1 (HR0.out _ zqbc_) a2 (of_eq_true p188) (of_eq_true q188))))).trans ((ft_T46_1 (HR0.out _ zqbc_) a2 (of_eq_true p188) (of_eq_true q188)))⟩ (fun hHeld => ?_)
      clear hK K
      refine norm_ (a' := ?_) ?_ ?_
      rotate_left
      ·show Act.put _ (some 36) _ = _
       simp only [Act.put, List.setIfInBounds_toArray, List.set_cons_zero, List.set_cons_succ, i64_w, i32_w]
       rfl
      refine on_ (i := 10) (N := some 37) rfl rfl (one_of HT_.out (by kernel_rfl)) (by decide) (fun K hK => ?_)
      refine Kd.R_append_step k48 (w0 := w0) w0.heap.size (by rfl) (.tmp 28) (.tmp 36) 27 48 (.agg #[(.int .i64 0), (.int .i64 0)]) 16 rfl Try.underlying27 info48 rfl (by decide) (by omega) (.slice Ao37 l1_0.length co37) l1_0 (⟨a2, (rd_T46 l0 a2).f0⟩ : S48) [.int .i64 a2, .int .i64 ((rd_T46 l0 a2).f0)] (fun k_ => ((P1_0_ k_ ∨ P1_1_ k_) ∨ w.heap.size ≤ k_)) (fun _ => False) rfl rfl ?aP (fun _ hk => hk.elim) ?aF ?aO ?aB ?aS ?aL ?_
      (case aP => exact k48_mkM _ _ _ (⟨a2, (rd_T46 l0 a2).f0⟩ : S48))
      (case aB => exact zq85_)
      (case aF => exact (fun k_ hk => (.inr (Nat.le_trans (by first | exact HK.out.1 | exact (show Kept w _ (fun k_ => P1_0_ k_ ∨ P1_1_ k_) from by repeat (first | (with_reducible first | exact HK.out | apply Kept.alloc | apply Kept.drewN | apply Kept.drew | refine Kept.setCell ?_ (.inr GW182.out) _ | refine Kept.setCell ?_ (.inr GW183.out) _) | exact HK.out)).1) hk))))
      (case aO => exact zq10_)
      (case aS => exact (below_size zq85_))
      (case aL => have := LMc36.out; omega)
      intro v190 w44 ho hb hg hat
      rw [← Ny189.out] at ho
      have n_ := A6_ (Kd.R_over' zq11_ (Kd.R_typed zq10_) (by decide) hg) (blk_grown (g := gb182) (o := .cells #[.slice Ao37 l1_0.length co37, .slice Ao38 l1_1.length co38, .int .i64 a1_2, .int .i64 a1_3] 30 (0, 0)) zq3b_ hg (Kd.R_ne HO1_0.out BK182.out (by decide))) (blk_grown (g := gb183) (o := .cells #[.slice none 0 0, .slice none 0 0, .int .i64 0, .int .i64 0] 30 (0, 0)) zq3c_ hg (Kd.R_ne HO1_0.out BK183.out (by decide))) (hb) (Kept.of_grown (S := (fun k_ => P1_0_ k_ ∨ P1_1_ k_)) hg zqa4_ (fun k_ e_ => (HO1_0.out.1 k_ e_))) (ho)
      clear HO1_1 BK182 BK183 HB HK HO1_0
      obtain ⟨HO1_1, BK182, BK183, HB, HK, HO191⟩ := n_
      clear ho hb hg hat
      obtain ⟨Ao45, co45, eo45⟩ := Kd.R_slice HO191.out
      (first | subst eo45 | (injection eo45 with f1_ f2_ f3_; have f4_ := f1_.symm; have f5_ := f3_.symm; clear f1_ f2_ f3_; subst f4_; subst f5_))
      refine hK.out _ _ ⟨(blk_cell BK182.out 0).trans rfl, (blk_cell BK182.out 1).trans rfl, (blk_cell BK182.out 2).trans rfl, (blk_cell BK182.out 3).trans rfl, (ft_T46_0 (HR0.out _ zqbc_) a2 (of_eq_true p188) (of_eq_true q188)), (ft_T46_1 (HR0.out _ zqbc_) a2 (of_eq_true p188) (of_eq_true q188))⟩ (fun hHeld => ?_)
      clear hK K
      refine norm_ (a' := ?_) ?_ ?_
      rotate_left
      ·show Act.put _ (some 37) _ = _
       simp only [Act.put, List.setIfInBounds_toArray, List.set_cons_zero, List.set_cons_succ, i64_w, i32_w]
       rfl
      refine pv_ (i := 11) (N := some 38) rfl rfl ?_
      refine last_ (i := 12) (N := none) #[true, true, true, true, true, true, true, true, true, true, true, true, true] rfl rfl (one_of HT_.out (by kernel_rfl)) (by decide) (fun K hK => ?_)
      have hs46 : w44.cell? ⟨gb182, 0, none⟩ = some (.slice Ao37 l1_0.length co37) := (blk_cell BK182.out 0).trans rfl
      have hfs46 := blk_frozen BK182.out 0
      have hns46_1 := NB183_182.out
      have hms46_1 := NB182_183.out
      refine skip_ (w1 := ?_) (by rfl) rfl ?_ ?_
      rotate_left
      ·go_simp
       rfl
      refine hK.out _ _ ?_
      clear hK K
      refine done_ (done_of HT_.out (by kernel_rfl)) ?_
      try go_wp2
      have n0_ : Aside0 (Kd.R k36 36 (w44.setCell ⟨gb182, 0, none⟩ (.slice Ao45 y189.length co45)) w0.heap.size (fun k_ => ((P1_0_ k_ ∨ P1_1_ k_) ∨ w.heap.size ≤ k_)) (.slice Ao38 l1_1.length co38) l1_1) := ⟨by (with_reducible repeat (first | apply Kd.R_alloc | apply Kd.R_drewN | apply Kd.R_drew)); exact Kd.R_mono (Kd.R_far (p := ⟨gb182, 0, none⟩) (Kd.R_types HO1_1.out BK182.out (by decide)) (fun _ hk => hk.2) (.slice Ao45 y189.length co45)) (fun _ hk => hk.1)⟩
      have n1_ : Aside0 (Kd.R k48 48 (w44.setCell ⟨gb182, 0, none⟩ (.slice Ao45 y189.length co45)) w0.heap.size (fun k_ => ((P1_0_ k_ ∨ P1_1_ k_) ∨ w.heap.size ≤ k_)) (.slice Ao45 y189.length co45) y189) := ⟨by (with_reducible repeat (first | apply Kd.R_alloc | apply Kd.R_drewN | apply Kd.R_drew)); exact Kd.R_mono (Kd.R_far (p := ⟨gb182, 0, none⟩) (Kd.R_types HO191.out BK182.out (by decide)) (fun _ hk => hk.2) (.slice Ao45 y189.length co45)) (fun _ hk => hk.1)⟩
      have n2_ : Aside0 ((w44.setCell ⟨gb182, 0, none⟩ (.slice Ao45 y189.length co45)).heap[gb182]? = some (.cells #[.slice Ao45 y189.length co45, .slice Ao38 l1_1.length co38, .int .i64 a1_2, .int .i64 a1_3] 30 (0, 0))) := ⟨by (with_reducible repeat (first | refine blk_drewN ?_ _ | refine blk_drew ?_ | refine blk_alloc ?_ _)); refine blk_put (cs := #[.slice Ao37 l1_0.length co37, .slice Ao38 l1_1.length co38, .int .i64 a1_2, .int .i64 a1_3]) ?_ 0 _ rfl; (with_reducible repeat (first | refine blk_drewN ?_ _ | refine blk_drew ?_ | refine blk_alloc ?_ _)); exact BK182.out⟩
      have n3_ : Aside0 ((w44.setCell ⟨gb182, 0, none⟩ (.slice Ao45 y189.length co45)).heap[gb183]? = some (.cells #[.slice none 0 0, .slice none 0 0, .int .i64 0, .int .i64 0] 30 (0, 0))) := ⟨by (with_reducible repeat (first | refine blk_drewN ?_ _ | refine blk_drew ?_ | refine blk_alloc ?_ _)); refine blk_far ?_ NB183_182.out _; (with_reducible repeat (first | refine blk_drewN ?_ _ | refine blk_drew ?_ | refine blk_alloc ?_ _)); exact BK183.out⟩
      have n4_ : Aside0 (Kept w (w44.setCell ⟨gb182, 0, none⟩ (.slice Ao45 y189.length co45)) (fun k_ => P1_0_ k_ ∨ P1_1_ k_)) := ⟨zqa4_⟩
      have n5_ : Aside0 (Below w0.heap.size w0 (w44.setCell ⟨gb182, 0, none⟩ (.slice Ao45 y189.length co45))) := ⟨zq85_⟩
      (try clear HO1_1)
      (try clear HO191)
      (try clear BK182)
      (try clear BK183)
      (try clear HK)
      (try clear HB)
      generalize (w44.setCell ⟨gb182, 0, none⟩ (.slice Ao45 y189.length co45)) = w47 at n0_ n1_ n2_ n3_ n4_ n5_ ⊢
      have HO1_1 := n0_
      have HO191 := n1_
      have BK182 := n2_
      have BK183 := n3_
      have HK := n4_
      have HB := n5_
      clear n0_ n1_ n2_ n3_ n4_ n5_
      have n_ := A6_ (Kd.R_drew HO1_1.out) (Kd.R_drew HO191.out) (blk_drew BK182.out) (blk_drew BK183.out) (Kept.drew HK.out) (below_drew1 HB.out)
      clear HO1_1 HO191 BK182 BK183 HK HB
      obtain ⟨HO1_1, HO191, BK182, BK183, HK, HB⟩ := n_
      have p192 : 0 ≤ (a2 : Int) := of_decide_eq_true zq71_
      have q192 : a2 < (l0.length : Int) := of_decide_eq_true zq71_
      obtain ⟨ad192, e192, hx192_0, hx192_1⟩ := at_T46 (Kd.C_kept_now HR0.out HK.out) a2 p192 q192
      have hw192_1 := hx192_1
      have hw192_0 := hx192_0
      obtain rfl : ad188 = ad192 := (by injection e192)
      replace p192 := eq_true p192
      replace q192 := eq_true q192
      refine start_ (n := 8) (S := fun w' => w'.cell? ⟨gb182, 0, none⟩ = some (.slice Ao45 y189.length co45) ∧ w'.cell? ⟨gb182, 1, none⟩ = some (.slice Ao38 l1_1.length co38) ∧ w'.cell? ⟨gb182, 2, none⟩ = some (.int .i64 a1_2) ∧ w'.cell? ⟨gb182, 3, none⟩ = some (.int .i64 a1_3) ∧ w'.cell? (ad188.add ((a2).toNat * 2)) = some (.int .i64 ((rd_T46 l0 a2).f0)) ∧ w'.cell? ⟨(ad188.add ((a2).toNat * 2)).block, (ad188.add ((a2).toNat * 2)).off + 1, none⟩ = some (.int .i64 ((rd_T46 l0 a2).f1))) (ds := []) #[false, false, false, false, false, false, false, false] (by kernel_rfl) rfl rfl ⟨(blk_cell BK182.out 0).trans rfl, (blk_cell BK182.out 1).trans rfl, (blk_cell BK182.out 2).trans rfl, (blk_cell BK182.out 3).trans rfl, (ft_T46_0 (HR0.out _ zqbd_) a2 (of_eq_true p192) (of_eq_true q192)), (ft_T46_1 (HR0.out _ zqbd_) a2 (of_eq_true p192) (of_eq_true q192))⟩ (fun hHeld => ?_); refine with_tabW spec_l3Look.tab6 spec_l3Look.bits6 (fun HT_ HW_ => ?_)
      generalize w47.drew = w48 at HO1_1 HO191 BK182 BK183 HK HB hx192_0 hx192_1 hHeld ⊢
      refine pv_ (i := 0) (N := some 39) rfl rfl ?_
      refine pv_ (i := 1) (N := some 40) rfl rfl ?_
      refine pv_ (i := 2) (N := some 41) rfl rfl ?_
      refine pv_ (i := 3) (N := some 42) rfl rfl ?_
      refine tv_ (i := 4) (N := some 43) rfl rfl ?_
      refine pv_ (i := 6) (N := some 6) rfl rfl ?_
      refine tv_ (i := 5) (N := some 44) rfl rfl ?_
      refine on_ (i := 7) (N := none) rfl rfl (one_of HT_.out (by kernel_rfl)) (by decide) (fun K hK => ?_)
      have hs49 : w48.cell? ⟨gb183, 0, none⟩ = some (.slice none 0 0) := (blk_cell BK183.out 0).trans rfl
      have hfs49 := blk_frozen BK183.out 0
      have hns49_0 := NB182_183.out
      have hms49_0 := NB183_182.out
      have hs50 : w48.cell? ⟨gb183, 1, none⟩ = some (.slice none 0 0) := (blk_cell BK183.out 1).trans rfl
      have hfs50 := blk_frozen BK183.out 1
      have hns50_0 := NB182_183.out
      have hms50_0 := NB183_182.out
      have hs51 : w48.cell? ⟨gb183, 2, none⟩ = some (.int .i64 0) := (blk_cell BK183.out 2).trans rfl
      have hfs51 := blk_frozen BK183.out 2
      have hns51_0 := NB182_183.out
      have hms51_0 := NB183_182.out
      have hs52 : w48.cell? ⟨gb183, 3, none⟩ = some (.int .i64 0) := (blk_cell BK183.out 3).trans rfl
      have hfs52 := blk_frozen BK183.out 3
      have hns52_0 := NB182_183.out
      have hms52_0 := NB183_182.out
      refine skip_ (w1 := ?_) (by rfl) rfl ?_ ?_
      rotate_left
      ·go_simp
       rfl
      refine hK.out _ _ ⟨((cell_far (p := ⟨gb183, _, none⟩) NB182_183.out _).trans (((cell_far (p := ⟨gb183, _, none⟩) NB182_183.out _).trans (((cell_far (p := ⟨gb183, _, none⟩) NB182_183.out _).trans (((cell_far (p := ⟨gb183, _, none⟩) NB182_183.out _).trans (hHeld.1)))))))), ((cell_far (p := ⟨gb183, _, none⟩) NB182_183.out _).trans (((cell_far (p := ⟨gb183, _, none⟩) NB182_183.out _).trans (((cell_far (p := ⟨gb183, _, none⟩) NB182_183.out _).trans (((cell_far (p := ⟨gb183, _, none⟩) NB182_183.out _).trans (hHeld.2.1)))))))), ((cell_far (p := ⟨gb183, _, none⟩) NB182_183.out _).trans (((cell_far (p := ⟨gb183, _, none⟩) NB182_183.out _).trans (((cell_far (p := ⟨gb183, _, none⟩) NB182_183.out _).trans (((cell_far (p := ⟨gb183, _, none⟩) NB182_183.out _).trans (hHeld.2.2.1)))))))), ((cell_far (p := ⟨gb183, _, none⟩) NB182_183.out _).trans (((cell_far (p := ⟨gb183, _, none⟩) NB182_183.out _).trans (((cell_far (p := ⟨gb183, _, none⟩) NB182_183.out _).trans (((cell_far (p := ⟨gb183, _, none⟩) NB182_183.out _).trans (hHeld.2.2.2.1)))))))), (ft_T46_0 (HR0.out _ zqbd_) a2 (of_eq_true p192) (of_eq_true q192)), (ft_T46_1 (HR0.out _ zqbd_) a2 (of_eq_true p192) (of_eq_true q192))⟩ (fun hHeld => ?_)
      clear hK K
      refine done_ (done_of HT_.out (by kernel_rfl)) ?_
      try go_wp2
      refine bodyPost_ret (results_tc rfl _ _ gb183 30 #[.slice Ao45 y189.length co45, .slice Ao38 l1_1.length co38, .int .i64 a1_2, .int .i64 a1_3] (0, 0) _ rfl (by (with_reducible repeat (first | refine blk_drewN ?_ _ | refine blk_drew ?_ | refine blk_alloc ?_ _)); refine blk_put (cs := #[.slice Ao45 y189.length co45, .slice Ao38 l1_1.length co38, .int .i64 a1_2, .int .i64 0]) ?_ 3 _ rfl; (with_reducible repeat (first | refine blk_drewN ?_ _ | refine blk_drew ?_ | refine blk_alloc ?_ _)); refine blk_put (cs := #[.slice Ao45 y189.length co45, .slice Ao38 l1_1.length co38, .int .i64 0, .int .i64 0]) ?_ 2 _ rfl; (with_reducible repeat (first | refine blk_drewN ?_ _ | refine blk_drew ?_ | refine blk_alloc ?_ _)); refine blk_put (cs := #[.slice Ao45 y189.length co45, .slice none 0 0, .int .i64 0, .int .i64 0]) ?_ 1 _ rfl; (with_reducible repeat (first | refine blk_drewN ?_ _ | refine blk_drew ?_ | refine blk_alloc ?_ _)); refine blk_put (cs := #[.slice none 0 0, .slice none 0 0, .int .i64 0, .int .i64 0]) ?_ 0 _ rfl; (with_reducible repeat (first | refine blk_drewN ?_ _ | refine blk_drew ?_ | refine blk_alloc ?_ _)); exact BK183.out) Try.underlying30 rfl (by kernel_rfl)) rfl ?_
      exact ⟨_, _, zq75_, by (with_reducible repeat (first | apply Kd.R_alloc | apply Kd.R_drewN | apply Kd.R_drew)); exact Kd.R_mono (Kd.R_far (p := ⟨gb183, 3, none⟩) (Kd.R_far (p := ⟨gb183, 2, none⟩) (Kd.R_far (p := ⟨gb183, 1, none⟩) (Kd.R_far (p := ⟨gb183, 0, none⟩) (Kd.R_types HO191.out BK183.out (by decide)) (fun _ hk => hk.2) (.slice Ao45 y189.length co45)) (fun _ hk => hk.2) (.slice Ao38 l1_1.length co38)) (fun _ hk => hk.2) (.int .i64 a1_2)) (fun _ hk => hk.2) (.int .i64 a1_3)) (fun _ hk => hk.1), by (with_reducible repeat (first | apply Kd.R_alloc | apply Kd.R_drewN | apply Kd.R_drew)); exact Kd.R_mono (Kd.R_far (p := ⟨gb183, 3, none⟩) (Kd.R_far (p := ⟨gb183, 2, none⟩) (Kd.R_far (p := ⟨gb183, 1, none⟩) (Kd.R_far (p := ⟨gb183, 0, none⟩) (Kd.R_types HO1_1.out BK183.out (by decide)) (fun _ hk => hk.2) (.slice Ao45 y189.length co45)) (fun _ hk => hk.2) (.slice Ao38 l1_1.length co38)) (fun _ hk => hk.2) (.int .i64 a1_2)) (fun _ hk => hk.2) (.int .i64 a1_3)) (fun _ hk => hk.1), zq85_, zqa4_⟩
     ·rw [if_neg c36] at H
      exact absurd H (by simp)
    ·rw [if_neg c35] at H
     exact absurd H (by simp)
   ·rw [if_neg c34] at H
    exact absurd H (by simp)

end Go.Proofs.Ytgdafcakefnpdaa.PFnExactExecRun
