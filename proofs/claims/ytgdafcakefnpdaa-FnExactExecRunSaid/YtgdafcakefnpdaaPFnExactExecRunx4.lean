-- Laid by this session's program out of the translation (gen.sh).
import Derived.Test.YtgdafcakefnpdaaPFnExactExecRunx0
namespace Go.Proofs.Ytgdafcakefnpdaa.PFnExactExecRun
open Go.RowKit Go.Proofs.YtgdafcakefnpdaaW.PrintWords Go.Proofs.YtgdafcakefnpdaaW.PrintLast Go.Proofs.YtgdafcakefnpdaaW.PrintMore
attribute [local go_sem] max2_int min2_int max_two min_two max_three min_three max_four min_four   -- for this text's walks alone
set_option linter.unusedVariables false
set_option linter.unusedSimpArgs false

/-! ### spec_l1Num: function 74 -/
def spec_l1Num.f (a0 : Int) : Option (Bool) := if a0 ≥ (-1000000) then (some (decide (a0 ≤ 1000000))) else (some false)
set_option maxHeartbeats 8000000 in
set_option maxRecDepth 100000 in
theorem spec_l1Num.calls (a0 : Int) (r : Bool) (w : World) (h : spec_l1Num.f a0 = some r) :
  Calls Try.prog 74 #[.int .i64 a0] w fun e w' => e = .returned (.bool r) ∧ Drawn0 w w' := by
 have H : (if a0 ≥ (-1000000) then (some (decide (a0 ≤ 1000000))) else (some false)) = some r := h
 clear h
 by_cases c2 : a0 ≥ (-1000000)
 ·rw [if_pos c2] at H
  have c2b0 : decide ((-1000000) ≤ a0) = true := decide_eq_true c2
  clear c2
  obtain rfl := Option.some.inj H
  go_enter Try.func74, Try.ntmps74
  go_wp2
  go_ret
  exact ⟨zq76_, zqbb_⟩
 ·rw [if_neg c2] at H
  have c2b0 : decide ((-1000000) ≤ a0) = false := decide_eq_false c2
  clear c2
  obtain rfl := Option.some.inj H
  go_enter Try.func74, Try.ntmps74
  go_wp2
  go_ret
  exact ⟨zq76_, zqbb_⟩

/-! ### spec_BoxOk: function 24 -/
def spec_BoxOk.l0 : Nat → List (S46) → Int → Option (Bool)
 | 0, _, _ => none
 | k + 1, x0, x3 => if x3 < (x0.length : Int) then (if 0 ≤ x3 then (if ((rd_T46 x0 x3).f0) < 0 then (some false) else (if ((rd_T46 x0 x3).f0) > 1000000 then (some false) else ((spec_l1Num.f ((rd_T46 x0 x3).f1)).bind fun t166 => (if t166 = true then (spec_BoxOk.l0 k x0 (wrap64 (x3 + 1))) else (some false))))) else (none)) else (some true)
def spec_BoxOk.f (k : Nat) (l0 : List (S46)) : Option (Bool) := if (l0.length : Int) = 4 then (spec_BoxOk.l0 k l0 0) else (some false)
theorem spec_BoxOk.mono_l : ∀ k, (∀ y0 y1, LeO (spec_BoxOk.l0 k y0 y1) (spec_BoxOk.l0 (k + 1) y0 y1))
 | 0 => fun _ _ r h => by simp [spec_BoxOk.l0] at h
 | k + 1 => by
  have ih0 := spec_BoxOk.mono_l k
  ·intro y0 y1
   unfold spec_BoxOk.l0
   repeat' first
   | (with_reducible exact ih0 _ _)
   | (with_reducible exact LeO.refl _)
   | (with_reducible exact LeO.none _)
   | (with_reducible refine LeO.ite ?_ ?_)
   | (with_reducible refine LeO.bind ?_ (fun _ => ?_))
   | exact ih0 _ _
   | exact LeO.none _
   | refine LeO.ite ?_ ?_
   | refine LeO.bind ?_ (fun _ => ?_)
theorem spec_BoxOk.mono : ∀ a0 k, LeO (spec_BoxOk.f k a0) (spec_BoxOk.f (k + 1) a0) := by
 intro a0 k
 have ih0 := spec_BoxOk.mono_l k
 unfold spec_BoxOk.f
 repeat' first
   | (with_reducible exact ih0 _ _)
   | (with_reducible exact LeO.refl _)
   | (with_reducible exact LeO.none _)
   | (with_reducible refine LeO.ite ?_ ?_)
   | (with_reducible refine LeO.bind ?_ (fun _ => ?_))
   | exact ih0 _ _
   | exact LeO.none _
   | refine LeO.ite ?_ ?_
   | refine LeO.bind ?_ (fun _ => ?_)
set_option maxHeartbeats 8000000 in
set_option maxRecDepth 100000 in
theorem spec_BoxOk.calls (k : Nat) (A0 : Option Addr) (c0 : Nat) (l0 : List (S46)) (r : Bool) (w : World) (hr0 : Kd.C k46 w A0 l0.length l0) (hc0 : l0.length ≤ c0) (h : spec_BoxOk.f k l0 = some r) :
  Calls Try.prog 24 #[.slice A0 l0.length c0] w fun e w' => e = .returned (.bool r) ∧ Drawn0 w w' := by
 have HR0 := Aside0.mk hr0
 have HC0 := Aside0.mk hc0
 clear hr0 hc0
 have H : (if (l0.length : Int) = 4 then (spec_BoxOk.l0 k l0 0) else (some false)) = some r := h
 clear h
 by_cases c2 : (l0.length : Int) = 4
 ·rw [if_pos c2] at H
  have c2b0 : ((l0.length : Int) == 4) = true := beq_iff_eq.mpr c2
  have c2b1 : ((l0.length : Int) != 4) = false := bne_eq_false_iff_eq.mpr c2
  clear c2
  have H' := Aside0.mk H
  clear H
  go_enter Try.func24, Try.ntmps24
  go_wp2
  go_loopg [3] k (fun kq v3 w' => ∃ (x3_1 : Int), v3 = .int .i64 x3_1 ∧ Aside0 (spec_BoxOk.l0 kq l0 x3_1 = some r) ∧ Aside0 (kq ≤ k) ∧ Drawn0 w w')
  case atStart => exact ⟨(0), zq76_, H', ⟨Nat.le_refl _⟩, zqbb_⟩
  case round =>
   clear H'
   try clear c2
   try clear c2b0
   try clear c2b1
   try clear p2
   obtain ⟨x3_1, rfl, HA, HK1, ⟨m1, rfl⟩⟩ := hrel
   cases gk with
   | zero => exact absurd HA.out (by simp [spec_BoxOk.l0])
   | succ k1 =>
    have H := HA.out
    clear HA
    simp only [spec_BoxOk.l0] at H
    by_cases c3 : x3_1 < (l0.length : Int)
    ·rw [if_pos c3] at H
     have c3b0 : decide (x3_1 < (l0.length : Int)) = true := decide_eq_true c3
     clear c3
     by_cases c4 : 0 ≤ x3_1
     ·rw [if_pos c4] at H
      have c4b0 : decide (0 ≤ x3_1) = true := decide_eq_true c4
      clear c4
      by_cases c5 : ((rd_T46 l0 x3_1).f0) < 0
      ·rw [if_pos c5] at H
       have c5b0 : decide (((rd_T46 l0 x3_1).f0) < 0) = true := decide_eq_true c5
       clear c5
       obtain rfl := Option.some.inj H
       have p163 : 0 ≤ (x3_1 : Int) := of_decide_eq_true zq71_
       have q163 : x3_1 < (l0.length : Int) := of_decide_eq_true zq71_
       obtain ⟨ad163, e163, hx163_0, hx163_1⟩ := at_T46 HR0.out x3_1 p163 q163
       cases e163
       replace p163 := eq_true p163
       replace q163 := eq_true q163
       go_wp2
       go_ret
       exact ⟨zq76_, zqbb_⟩
      ·rw [if_neg c5] at H
       have c5b0 : decide (((rd_T46 l0 x3_1).f0) < 0) = false := decide_eq_false c5
       clear c5
       by_cases c6 : ((rd_T46 l0 x3_1).f0) > 1000000
       ·rw [if_pos c6] at H
        have c6b0 : decide (1000000 < ((rd_T46 l0 x3_1).f0)) = true := decide_eq_true c6
        clear c6
        obtain rfl := Option.some.inj H
        have p163 : 0 ≤ (x3_1 : Int) := of_decide_eq_true zq71_
        have q163 : x3_1 < (l0.length : Int) := of_decide_eq_true zq71_
        obtain ⟨ad163, e163, hx163_0, hx163_1⟩ := at_T46 HR0.out x3_1 p163 q163
        cases e163
        replace p163 := eq_true p163
        replace q163 := eq_true q163
        have p164 : 0 ≤ (x3_1 : Int) := of_decide_eq_true zq71_
        have q164 : x3_1 < (l0.length : Int) := of_decide_eq_true zq71_
        obtain ⟨ad164, e164, hx164_0, hx164_1⟩ := at_T46 HR0.out x3_1 p164 q164
        obtain rfl : ad163 = ad164 := (by injection e164)
        replace p164 := eq_true p164
        replace q164 := eq_true q164
        go_wp2
        go_ret
        exact ⟨zq76_, zqbb_⟩
       ·rw [if_neg c6] at H
        have c6b0 : decide (1000000 < ((rd_T46 l0 x3_1).f0)) = false := decide_eq_false c6
        clear c6
        replace H := Option.bind_eq_some_iff.mp H
        obtain ⟨t166, A70, H⟩ := H
        (try dsimp only at H)
        have A7 := Aside0.mk A70
        clear A70
        by_cases c8 : t166 = true
        ·subst c8
         rw [if_pos rfl] at H
         have H' := Aside0.mk H
         clear H
         have p163 : 0 ≤ (x3_1 : Int) := of_decide_eq_true zq71_
         have q163 : x3_1 < (l0.length : Int) := of_decide_eq_true zq71_
         obtain ⟨ad163, e163, hx163_0, hx163_1⟩ := at_T46 HR0.out x3_1 p163 q163
         cases e163
         replace p163 := eq_true p163
         replace q163 := eq_true q163
         have p164 : 0 ≤ (x3_1 : Int) := of_decide_eq_true zq71_
         have q164 : x3_1 < (l0.length : Int) := of_decide_eq_true zq71_
         obtain ⟨ad164, e164, hx164_0, hx164_1⟩ := at_T46 HR0.out x3_1 p164 q164
         obtain rfl : ad163 = ad164 := (by injection e164)
         replace p164 := eq_true p164
         replace q164 := eq_true q164
         have p165 : 0 ≤ (x3_1 : Int) := of_decide_eq_true zq71_
         have q165 : x3_1 < (l0.length : Int) := of_decide_eq_true zq71_
         obtain ⟨ad165, e165, hx165_0, hx165_1⟩ := at_T46 HR0.out x3_1 p165 q165
         obtain rfl : ad163 = ad165 := (by injection e165)
         replace p165 := eq_true p165
         replace q165 := eq_true q165
         go_wp2_with (first | (go_at_call 74; (with_reducible refine (spec_l1Num.calls ((rd_T46 l0 x3_1).f1) true _ A7.out).mono ?_); rintro e w' ⟨rfl, ⟨nd, rfl⟩⟩; (try clear A7)))
         go_roundg k1
         case measure => have := HK1.out; omega
         case rel => exact ⟨(wrap64 (x3_1 + 1)), zq76_, H', ⟨by have := HK1.out; omega⟩, zqbb_⟩
        ·replace c8 := Bool.eq_false_iff.mpr c8
         subst c8
         rw [if_neg (show ¬ (false = true) by decide)] at H
         obtain rfl := Option.some.inj H
         have p163 : 0 ≤ (x3_1 : Int) := of_decide_eq_true zq71_
         have q163 : x3_1 < (l0.length : Int) := of_decide_eq_true zq71_
         obtain ⟨ad163, e163, hx163_0, hx163_1⟩ := at_T46 HR0.out x3_1 p163 q163
         cases e163
         replace p163 := eq_true p163
         replace q163 := eq_true q163
         have p164 : 0 ≤ (x3_1 : Int) := of_decide_eq_true zq71_
         have q164 : x3_1 < (l0.length : Int) := of_decide_eq_true zq71_
         obtain ⟨ad164, e164, hx164_0, hx164_1⟩ := at_T46 HR0.out x3_1 p164 q164
         obtain rfl : ad163 = ad164 := (by injection e164)
         replace p164 := eq_true p164
         replace q164 := eq_true q164
         have p165 : 0 ≤ (x3_1 : Int) := of_decide_eq_true zq71_
         have q165 : x3_1 < (l0.length : Int) := of_decide_eq_true zq71_
         obtain ⟨ad165, e165, hx165_0, hx165_1⟩ := at_T46 HR0.out x3_1 p165 q165
         obtain rfl : ad163 = ad165 := (by injection e165)
         replace p165 := eq_true p165
         replace q165 := eq_true q165
         go_wp2_with (first | (go_at_call 74; (with_reducible refine (spec_l1Num.calls ((rd_T46 l0 x3_1).f1) false _ A7.out).mono ?_); rintro e w' ⟨rfl, ⟨nd, rfl⟩⟩; (try clear A7)))
         go_ret
         exact ⟨zq76_, zqbb_⟩
     ·rw [if_neg c4] at H
      exact absurd H (by simp)
    ·rw [if_neg c3] at H
     have c3b0 : decide (x3_1 < (l0.length : Int)) = false := decide_eq_false c3
     clear c3
     obtain rfl := Option.some.inj H
     go_wp2
     go_ret
     exact ⟨zq76_, zqbb_⟩
 ·rw [if_neg c2] at H
  have c2b0 : ((l0.length : Int) == 4) = false := beq_eq_false_iff_ne.mpr c2
  have c2b1 : ((l0.length : Int) != 4) = true := bne_iff_ne.mpr c2
  obtain rfl := Option.some.inj H
  go_enter Try.func24, Try.ntmps24
  go_wp2
  go_ret
  exact ⟨zq76_, zqbb_⟩

/-! ### spec_l2Box: function 75 -/
def spec_l2Box.f (a0 : Int) : Option (Bool) := if a0 ≥ 0 then (some (decide (a0 < 4))) else (some false)
set_option maxHeartbeats 8000000 in
set_option maxRecDepth 100000 in
theorem spec_l2Box.calls (a0 : Int) (r : Bool) (w : World) (h : spec_l2Box.f a0 = some r) :
  Calls Try.prog 75 #[.int .i64 a0] w fun e w' => e = .returned (.bool r) ∧ Drawn0 w w' := by
 have H : (if a0 ≥ 0 then (some (decide (a0 < 4))) else (some false)) = some r := h
 clear h
 by_cases c2 : a0 ≥ 0
 ·rw [if_pos c2] at H
  have c2b0 : decide (0 ≤ a0) = true := decide_eq_true c2
  clear c2
  obtain rfl := Option.some.inj H
  go_enter Try.func75, Try.ntmps75
  go_wp2
  go_ret
  exact ⟨zq76_, zqbb_⟩
 ·rw [if_neg c2] at H
  have c2b0 : decide (0 ≤ a0) = false := decide_eq_false c2
  clear c2
  obtain rfl := Option.some.inj H
  go_enter Try.func75, Try.ntmps75
  go_wp2
  go_ret
  exact ⟨zq76_, zqbb_⟩

/-! ### spec_l2Reg: function 103 -/
def spec_l2Reg.f (a0 : Int) : Option (Bool) := if a0 ≥ 0 then (some (decide (a0 < 4))) else (some false)
set_option maxHeartbeats 8000000 in
set_option maxRecDepth 100000 in
theorem spec_l2Reg.calls (a0 : Int) (r : Bool) (w : World) (h : spec_l2Reg.f a0 = some r) :
  Calls Try.prog 103 #[.int .i64 a0] w fun e w' => e = .returned (.bool r) ∧ Drawn0 w w' := by
 have H : (if a0 ≥ 0 then (some (decide (a0 < 4))) else (some false)) = some r := h
 clear h
 by_cases c2 : a0 ≥ 0
 ·rw [if_pos c2] at H
  have c2b0 : decide (0 ≤ a0) = true := decide_eq_true c2
  clear c2
  obtain rfl := Option.some.inj H
  go_enter Try.func103, Try.ntmps103
  go_wp2
  go_ret
  exact ⟨zq76_, zqbb_⟩
 ·rw [if_neg c2] at H
  have c2b0 : decide (0 ≤ a0) = false := decide_eq_false c2
  clear c2
  obtain rfl := Option.some.inj H
  go_enter Try.func103, Try.ntmps103
  go_wp2
  go_ret
  exact ⟨zq76_, zqbb_⟩

/-! ### spec_l2Ins: function 78 -/
def spec_l2Ins.j0 : Nat → Int → Bool → Int → Int → Int → Int → Option (Bool)
 | 0, _, _, _, _, _, _ => none
 | k + 1, x4, x50, x168000, x168001, x168002, x168003 => if x50 = true then ((spec_l2Reg.f x168001).bind fun t174 => (if t174 = true then ((spec_l2Reg.f x168002).bind fun t175 => (if t175 = true then (some (x168003 == 0)) else (some false))) else (some false))) else (if x4 = 6 then ((spec_l2Reg.f x168001).bind fun t176 => (if t176 = true then ((spec_l2Reg.f x168002).bind fun t177 => (if t177 = true then (if x168003 ≥ 1 then (some (decide (x168003 ≤ 10))) else (some false)) else (some false))) else (some false))) else (if x4 = 7 then (if x168001 = 0 then (if x168002 = 0 then (some (x168003 == 0)) else (some false)) else (some false)) else (some false)))
def spec_l2Ins.f (k : Nat) (a0_0 : Int) (a0_1 : Int) (a0_2 : Int) (a0_3 : Int) : Option (Bool) := if a0_0 = 1 then ((spec_l2Reg.f a0_1).bind fun t168 => (if t168 = true then ((spec_l2Box.f a0_2).bind fun t169 => (if t169 = true then (some (a0_3 == 0)) else (some false))) else (some false))) else (if a0_0 = 2 then ((spec_l2Box.f a0_1).bind fun t170 => (if t170 = true then ((spec_l2Reg.f a0_2).bind fun t171 => (if t171 = true then (some (a0_3 == 0)) else (some false))) else (some false))) else (if a0_0 = 3 then ((spec_l2Reg.f a0_1).bind fun t172 => (if t172 = true then (if a0_2 = 0 then ((spec_l1Num.f a0_3).bind fun t173 => (some t173)) else (some false)) else (some false))) else (if a0_0 = 4 then (spec_l2Ins.j0 k a0_0 (a0_0 == 4) a0_0 a0_1 a0_2 a0_3) else (spec_l2Ins.j0 k a0_0 (a0_0 == 5) a0_0 a0_1 a0_2 a0_3))))
theorem spec_l2Ins.mono_l : ∀ k, (∀ y0 y1 y2 y3 y4 y5, LeO (spec_l2Ins.j0 k y0 y1 y2 y3 y4 y5) (spec_l2Ins.j0 (k + 1) y0 y1 y2 y3 y4 y5))
 | 0 => fun _ _ _ _ _ _ r h => by simp [spec_l2Ins.j0] at h
 | k + 1 => by
  have ih0 := spec_l2Ins.mono_l k
  ·intro y0 y1 y2 y3 y4 y5
   unfold spec_l2Ins.j0
   repeat' first
   | (with_reducible exact ih0 _ _ _ _ _ _)
   | (with_reducible exact LeO.refl _)
   | (with_reducible exact LeO.none _)
   | (with_reducible refine LeO.ite ?_ ?_)
   | (with_reducible refine LeO.bind ?_ (fun _ => ?_))
   | exact ih0 _ _ _ _ _ _
   | exact LeO.none _
   | refine LeO.ite ?_ ?_
   | refine LeO.bind ?_ (fun _ => ?_)
theorem spec_l2Ins.mono : ∀ a0 a1 a2 a3 k, LeO (spec_l2Ins.f k a0 a1 a2 a3) (spec_l2Ins.f (k + 1) a0 a1 a2 a3) := by
 intro a0 a1 a2 a3 k
 have ih0 := spec_l2Ins.mono_l k
 unfold spec_l2Ins.f
 repeat' first
   | (with_reducible exact ih0 _ _ _ _ _ _)
   | (with_reducible exact LeO.refl _)
   | (with_reducible exact LeO.none _)
   | (with_reducible refine LeO.ite ?_ ?_)
   | (with_reducible refine LeO.bind ?_ (fun _ => ?_))
   | exact ih0 _ _ _ _ _ _
   | exact LeO.none _
   | refine LeO.ite ?_ ?_
   | refine LeO.bind ?_ (fun _ => ?_)
set_option maxHeartbeats 8000000 in
set_option maxRecDepth 100000 in
theorem spec_l2Ins.calls (k : Nat) (a0_0 : Int) (a0_1 : Int) (a0_2 : Int) (a0_3 : Int) (r : Bool) (w : World) (h : spec_l2Ins.f k a0_0 a0_1 a0_2 a0_3 = some r) :
  Calls Try.prog 78 #[.agg #[.int .i64 a0_0, .int .i64 a0_1, .int .i64 a0_2, .int .i64 a0_3]] w fun e w' => e = .returned (.bool r) ∧ Below w.heap.size w w' := by
 have hu34 := Try.underlying34
 have HB := Aside0.mk (Below.refl w.heap.size w)
 have H : (if a0_0 = 1 then ((spec_l2Reg.f a0_1).bind fun t168 => (if t168 = true then ((spec_l2Box.f a0_2).bind fun t169 => (if t169 = true then (some (a0_3 == 0)) else (some false))) else (some false))) else (if a0_0 = 2 then ((spec_l2Box.f a0_1).bind fun t170 => (if t170 = true then ((spec_l2Reg.f a0_2).bind fun t171 => (if t171 = true then (some (a0_3 == 0)) else (some false))) else (some false))) else (if a0_0 = 3 then ((spec_l2Reg.f a0_1).bind fun t172 => (if t172 = true then (if a0_2 = 0 then ((spec_l1Num.f a0_3).bind fun t173 => (some t173)) else (some false)) else (some false))) else (if a0_0 = 4 then (spec_l2Ins.j0 k a0_0 (a0_0 == 4) a0_0 a0_1 a0_2 a0_3) else (spec_l2Ins.j0 k a0_0 (a0_0 == 5) a0_0 a0_1 a0_2 a0_3))))) = some r := h
 clear h
 by_cases c2 : a0_0 = 1
 ·rw [if_pos c2] at H
  have c2b0 : (a0_0 == 1) = true := beq_iff_eq.mpr c2
  have c2b1 : (a0_0 != 1) = false := bne_eq_false_iff_eq.mpr c2
  clear c2
  replace H := Option.bind_eq_some_iff.mp H
  obtain ⟨t168, A30, H⟩ := H
  (try dsimp only at H)
  have A3 := Aside0.mk A30
  clear A30
  by_cases c4 : t168 = true
  ·subst c4
   rw [if_pos rfl] at H
   replace H := Option.bind_eq_some_iff.mp H
   obtain ⟨t169, A50, H⟩ := H
   (try dsimp only at H)
   have A5 := Aside0.mk A50
   clear A50
   by_cases c6 : t169 = true
   ·subst c6
    rw [if_pos rfl] at H
    obtain rfl := Option.some.inj H
    go_enter Try.func78, Try.ntmps78
    go_wp2_with (first | ((with_reducible refine gate_dst (N := 1) rfl ?_); refine bxe_ (N := 1) (cs := #[.int .i64 a0_0, .int .i64 a0_1, .int .i64 a0_2, .int .i64 a0_3]) (t := 34) ?_; intro gb167 hg w7 hbox hb; have n_ := A4_ (below_step zqa3_ hb) (hbox) ((zqd6_ : w.heap.size ≤ gb167)) ((zqd6_ : w.heap.size ≤ gb167)); clear HB; obtain ⟨HB, BK167, GW167, GE167⟩ := n_; clear hb hbox hg; have hcz8_0 := bc0_ BK167.out; have hcz8_1 := bc1_ BK167.out; have hcz8_2 := bc2_ BK167.out; have hcz8_3 := bc3_ BK167.out; have hfz8_0 := blk_frozen BK167.out 0; have hfz8_1 := blk_frozen BK167.out 1; have hfz8_2 := blk_frozen BK167.out 2; have hfz8_3 := blk_frozen BK167.out 3) | ((with_reducible refine gate_callee (f := 103) rfl ?_); refine goesL_ (some 9) rfl rfl Try.func103 (by kernel_rfl) rfl #[.int .i64 a0_1] rfl zq1_ ?_; (with_reducible refine (spec_l2Reg.calls a0_1 true _ A3.out).mono ?_); rintro e w' ⟨rfl, ⟨nd, rfl⟩⟩; refine ⟨_, rfl, ?_⟩) | (go_at_call 75; (with_reducible refine (spec_l2Box.calls a0_2 true _ A5.out).mono ?_); rintro e w' ⟨rfl, ⟨nd, rfl⟩⟩; (try clear A5)))
    go_ret
    exact ⟨zq75_, zq84_⟩
   ·replace c6 := Bool.eq_false_iff.mpr c6
    subst c6
    rw [if_neg (show ¬ (false = true) by decide)] at H
    obtain rfl := Option.some.inj H
    go_enter Try.func78, Try.ntmps78
    go_wp2_with (first | ((with_reducible refine gate_dst (N := 1) rfl ?_); refine bxe_ (N := 1) (cs := #[.int .i64 a0_0, .int .i64 a0_1, .int .i64 a0_2, .int .i64 a0_3]) (t := 34) ?_; intro gb167 hg w9 hbox hb; have n_ := A4_ (below_step zqa3_ hb) (hbox) ((zqd6_ : w.heap.size ≤ gb167)) ((zqd6_ : w.heap.size ≤ gb167)); clear HB; obtain ⟨HB, BK167, GW167, GE167⟩ := n_; clear hb hbox hg; have hcz10_0 := bc0_ BK167.out; have hcz10_1 := bc1_ BK167.out; have hcz10_2 := bc2_ BK167.out; have hcz10_3 := bc3_ BK167.out; have hfz10_0 := blk_frozen BK167.out 0; have hfz10_1 := blk_frozen BK167.out 1; have hfz10_2 := blk_frozen BK167.out 2; have hfz10_3 := blk_frozen BK167.out 3) | ((with_reducible refine gate_callee (f := 103) rfl ?_); refine goesL_ (some 9) rfl rfl Try.func103 (by kernel_rfl) rfl #[.int .i64 a0_1] rfl zq1_ ?_; (with_reducible refine (spec_l2Reg.calls a0_1 true _ A3.out).mono ?_); rintro e w' ⟨rfl, ⟨nd, rfl⟩⟩; refine ⟨_, rfl, ?_⟩) | (go_at_call 75; (with_reducible refine (spec_l2Box.calls a0_2 false _ A5.out).mono ?_); rintro e w' ⟨rfl, ⟨nd, rfl⟩⟩; (try clear A5)))
    go_ret
    exact ⟨zq75_, zq84_⟩
  ·replace c4 := Bool.eq_false_iff.mpr c4
   subst c4
   rw [if_neg (show ¬ (false = true) by decide)] at H
   obtain rfl := Option.some.inj H
   go_enter Try.func78, Try.ntmps78
   go_wp2_with (first | ((with_reducible refine gate_dst (N := 1) rfl ?_); refine bxe_ (N := 1) (cs := #[.int .i64 a0_0, .int .i64 a0_1, .int .i64 a0_2, .int .i64 a0_3]) (t := 34) ?_; intro gb167 hg w11 hbox hb; have n_ := A4_ (below_step zqa3_ hb) (hbox) ((zqd6_ : w.heap.size ≤ gb167)) ((zqd6_ : w.heap.size ≤ gb167)); clear HB; obtain ⟨HB, BK167, GW167, GE167⟩ := n_; clear hb hbox hg; have hcz12_0 := bc0_ BK167.out; have hcz12_1 := bc1_ BK167.out; have hcz12_2 := bc2_ BK167.out; have hcz12_3 := bc3_ BK167.out; have hfz12_0 := blk_frozen BK167.out 0; have hfz12_1 := blk_frozen BK167.out 1; have hfz12_2 := blk_frozen BK167.out 2; have hfz12_3 := blk_frozen BK167.out 3) | ((with_reducible refine gate_callee (f := 103) rfl ?_); refine goesL_ (some 9) rfl rfl Try.func103 (by kernel_rfl) rfl #[.int .i64 a0_1] rfl zq1_ ?_; (with_reducible refine (spec_l2Reg.calls a0_1 false _ A3.out).mono ?_); rintro e w' ⟨rfl, ⟨nd, rfl⟩⟩; refine ⟨_, rfl, ?_⟩))
   go_ret
   exact ⟨zq75_, zq84_⟩
 ·rw [if_neg c2] at H
  have c2b0 : (a0_0 == 1) = false := beq_eq_false_iff_ne.mpr c2
  have c2b1 : (a0_0 != 1) = true := bne_iff_ne.mpr c2
  by_cases c13 : a0_0 = 2
  ·rw [if_pos c13] at H
   have c13b0 : (a0_0 == 2) = true := beq_iff_eq.mpr c13
   have c13b1 : (a0_0 != 2) = false := bne_eq_false_iff_eq.mpr c13
   clear c13
   replace H := Option.bind_eq_some_iff.mp H
   obtain ⟨t170, A140, H⟩ := H
   (try dsimp only at H)
   have A14 := Aside0.mk A140
   clear A140
   by_cases c15 : t170 = true
   ·subst c15
    rw [if_pos rfl] at H
    replace H := Option.bind_eq_some_iff.mp H
    obtain ⟨t171, A160, H⟩ := H
    (try dsimp only at H)
    have A16 := Aside0.mk A160
    clear A160
    by_cases c17 : t171 = true
    ·subst c17
     rw [if_pos rfl] at H
     obtain rfl := Option.some.inj H
     go_enter Try.func78, Try.ntmps78
     go_wp2_with (first | ((with_reducible refine gate_dst (N := 1) rfl ?_); refine bxe_ (N := 1) (cs := #[.int .i64 a0_0, .int .i64 a0_1, .int .i64 a0_2, .int .i64 a0_3]) (t := 34) ?_; intro gb167 hg w18 hbox hb; have n_ := A4_ (below_step zqa3_ hb) (hbox) ((zqd6_ : w.heap.size ≤ gb167)) ((zqd6_ : w.heap.size ≤ gb167)); clear HB; obtain ⟨HB, BK167, GW167, GE167⟩ := n_; clear hb hbox hg; have hcz19_0 := bc0_ BK167.out; have hcz19_1 := bc1_ BK167.out; have hcz19_2 := bc2_ BK167.out; have hcz19_3 := bc3_ BK167.out; have hfz19_0 := blk_frozen BK167.out 0; have hfz19_1 := blk_frozen BK167.out 1; have hfz19_2 := blk_frozen BK167.out 2; have hfz19_3 := blk_frozen BK167.out 3) | ((with_reducible refine gate_callee (f := 75) rfl ?_); refine goesL_ (some 24) rfl rfl Try.func75 (by kernel_rfl) rfl #[.int .i64 a0_1] rfl zq1_ ?_; (with_reducible refine (spec_l2Box.calls a0_1 true _ A14.out).mono ?_); rintro e w' ⟨rfl, ⟨nd, rfl⟩⟩; refine ⟨_, rfl, ?_⟩) | (go_at_call 103; (with_reducible refine (spec_l2Reg.calls a0_2 true _ A16.out).mono ?_); rintro e w' ⟨rfl, ⟨nd, rfl⟩⟩; (try clear A16)))
     go_ret
     exact ⟨zq75_, zq84_⟩
    ·replace c17 := Bool.eq_false_iff.mpr c17
     subst c17
     rw [if_neg (show ¬ (false = true) by decide)] at H
     obtain rfl := Option.some.inj H
     go_enter Try.func78, Try.ntmps78
     go_wp2_with (first | ((with_reducible refine gate_dst (N := 1) rfl ?_); refine bxe_ (N := 1) (cs := #[.int .i64 a0_0, .int .i64 a0_1, .int .i64 a0_2, .int .i64 a0_3]) (t := 34) ?_; intro gb167 hg w20 hbox hb; have n_ := A4_ (below_step zqa3_ hb) (hbox) ((zqd6_ : w.heap.size ≤ gb167)) ((zqd6_ : w.heap.size ≤ gb167)); clear HB; obtain ⟨HB, BK167, GW167, GE167⟩ := n_; clear hb hbox hg; have hcz21_0 := bc0_ BK167.out; have hcz21_1 := bc1_ BK167.out; have hcz21_2 := bc2_ BK167.out; have hcz21_3 := bc3_ BK167.out; have hfz21_0 := blk_frozen BK167.out 0; have hfz21_1 := blk_frozen BK167.out 1; have hfz21_2 := blk_frozen BK167.out 2; have hfz21_3 := blk_frozen BK167.out 3) | ((with_reducible refine gate_callee (f := 75) rfl ?_); refine goesL_ (some 24) rfl rfl Try.func75 (by kernel_rfl) rfl #[.int .i64 a0_1] rfl zq1_ ?_; (with_reducible refine (spec_l2Box.calls a0_1 true _ A14.out).mono ?_); rintro e w' ⟨rfl, ⟨nd, rfl⟩⟩; refine ⟨_, rfl, ?_⟩) | (go_at_call 103; (with_reducible refine (spec_l2Reg.calls a0_2 false _ A16.out).mono ?_); rintro e w' ⟨rfl, ⟨nd, rfl⟩⟩; (try clear A16)))
     go_ret
     exact ⟨zq75_, zq84_⟩
   ·replace c15 := Bool.eq_false_iff.mpr c15
    subst c15
    rw [if_neg (show ¬ (false = true) by decide)] at H
    obtain rfl := Option.some.inj H
    go_enter Try.func78, Try.ntmps78
    go_wp2_with (first | ((with_reducible refine gate_dst (N := 1) rfl ?_); refine bxe_ (N := 1) (cs := #[.int .i64 a0_0, .int .i64 a0_1, .int .i64 a0_2, .int .i64 a0_3]) (t := 34) ?_; intro gb167 hg w22 hbox hb; have n_ := A4_ (below_step zqa3_ hb) (hbox) ((zqd6_ : w.heap.size ≤ gb167)) ((zqd6_ : w.heap.size ≤ gb167)); clear HB; obtain ⟨HB, BK167, GW167, GE167⟩ := n_; clear hb hbox hg; have hcz23_0 := bc0_ BK167.out; have hcz23_1 := bc1_ BK167.out; have hcz23_2 := bc2_ BK167.out; have hcz23_3 := bc3_ BK167.out; have hfz23_0 := blk_frozen BK167.out 0; have hfz23_1 := blk_frozen BK167.out 1; have hfz23_2 := blk_frozen BK167.out 2; have hfz23_3 := blk_frozen BK167.out 3) | ((with_reducible refine gate_callee (f := 75) rfl ?_); refine goesL_ (some 24) rfl rfl Try.func75 (by kernel_rfl) rfl #[.int .i64 a0_1] rfl zq1_ ?_; (with_reducible refine (spec_l2Box.calls a0_1 false _ A14.out).mono ?_); rintro e w' ⟨rfl, ⟨nd, rfl⟩⟩; refine ⟨_, rfl, ?_⟩))
    go_ret
    exact ⟨zq75_, zq84_⟩
  ·rw [if_neg c13] at H
   have c13b0 : (a0_0 == 2) = false := beq_eq_false_iff_ne.mpr c13
   have c13b1 : (a0_0 != 2) = true := bne_iff_ne.mpr c13
   by_cases c24 : a0_0 = 3
   ·rw [if_pos c24] at H
    have c24b0 : (a0_0 == 3) = true := beq_iff_eq.mpr c24
    have c24b1 : (a0_0 != 3) = false := bne_eq_false_iff_eq.mpr c24
    clear c24
    replace H := Option.bind_eq_some_iff.mp H
    obtain ⟨t172, A250, H⟩ := H
    (try dsimp only at H)
    have A25 := Aside0.mk A250
    clear A250
    by_cases c26 : t172 = true
    ·subst c26
     rw [if_pos rfl] at H
     by_cases c27 : a0_2 = 0
     ·rw [if_pos c27] at H
      have c27b0 : (a0_2 == 0) = true := beq_iff_eq.mpr c27
      have c27b1 : (a0_2 != 0) = false := bne_eq_false_iff_eq.mpr c27
      clear c27
      replace H := Option.bind_eq_some_iff.mp H
      obtain ⟨t173, A280, H⟩ := H
      (try dsimp only at H)
      have A28 := Aside0.mk A280
      clear A280
      obtain rfl := Option.some.inj H
      go_enter Try.func78, Try.ntmps78
      go_wp2_with (first | ((with_reducible refine gate_dst (N := 1) rfl ?_); refine bxe_ (N := 1) (cs := #[.int .i64 a0_0, .int .i64 a0_1, .int .i64 a0_2, .int .i64 a0_3]) (t := 34) ?_; intro gb167 hg w29 hbox hb; have n_ := A4_ (below_step zqa3_ hb) (hbox) ((zqd6_ : w.heap.size ≤ gb167)) ((zqd6_ : w.heap.size ≤ gb167)); clear HB; obtain ⟨HB, BK167, GW167, GE167⟩ := n_; clear hb hbox hg; have hcz30_0 := bc0_ BK167.out; have hcz30_1 := bc1_ BK167.out; have hcz30_2 := bc2_ BK167.out; have hcz30_3 := bc3_ BK167.out; have hfz30_0 := blk_frozen BK167.out 0; have hfz30_1 := blk_frozen BK167.out 1; have hfz30_2 := blk_frozen BK167.out 2; have hfz30_3 := blk_frozen BK167.out 3) | ((with_reducible refine gate_callee (f := 103) rfl ?_); refine goesL_ (some 39) rfl rfl Try.func103 (by kernel_rfl) rfl #[.int .i64 a0_1] rfl zq1_ ?_; (with_reducible refine (spec_l2Reg.calls a0_1 true _ A25.out).mono ?_); rintro e w' ⟨rfl, ⟨nd, rfl⟩⟩; refine ⟨_, rfl, ?_⟩) | (go_at_call 74; (with_reducible refine (spec_l1Num.calls a0_3 t173 _ A28.out).mono ?_); rintro e w' ⟨rfl, ⟨nd, rfl⟩⟩; (try clear A28)))
      go_ret
      exact ⟨zq75_, zq84_⟩
     ·rw [if_neg c27] at H
      have c27b0 : (a0_2 == 0) = false := beq_eq_false_iff_ne.mpr c27
      have c27b1 : (a0_2 != 0) = true := bne_iff_ne.mpr c27
      obtain rfl := Option.some.inj H
      go_enter Try.func78, Try.ntmps78
      go_wp2_with (first | ((with_reducible refine gate_dst (N := 1) rfl ?_); refine bxe_ (N := 1) (cs := #[.int .i64 a0_0, .int .i64 a0_1, .int .i64 a0_2, .int .i64 a0_3]) (t := 34) ?_; intro gb167 hg w31 hbox hb; have n_ := A4_ (below_step zqa3_ hb) (hbox) ((zqd6_ : w.heap.size ≤ gb167)) ((zqd6_ : w.heap.size ≤ gb167)); clear HB; obtain ⟨HB, BK167, GW167, GE167⟩ := n_; clear hb hbox hg; have hcz32_0 := bc0_ BK167.out; have hcz32_1 := bc1_ BK167.out; have hcz32_2 := bc2_ BK167.out; have hcz32_3 := bc3_ BK167.out; have hfz32_0 := blk_frozen BK167.out 0; have hfz32_1 := blk_frozen BK167.out 1; have hfz32_2 := blk_frozen BK167.out 2; have hfz32_3 := blk_frozen BK167.out 3) | ((with_reducible refine gate_callee (f := 103) rfl ?_); refine goesL_ (some 39) rfl rfl Try.func103 (by kernel_rfl) rfl #[.int .i64 a0_1] rfl zq1_ ?_; (with_reducible refine (spec_l2Reg.calls a0_1 true _ A25.out).mono ?_); rintro e w' ⟨rfl, ⟨nd, rfl⟩⟩; refine ⟨_, rfl, ?_⟩))
      go_ret
      exact ⟨zq75_, zq84_⟩
    ·replace c26 := Bool.eq_false_iff.mpr c26
     subst c26
     rw [if_neg (show ¬ (false = true) by decide)] at H
     obtain rfl := Option.some.inj H
     go_enter Try.func78, Try.ntmps78
     go_wp2_with (first | ((with_reducible refine gate_dst (N := 1) rfl ?_); refine bxe_ (N := 1) (cs := #[.int .i64 a0_0, .int .i64 a0_1, .int .i64 a0_2, .int .i64 a0_3]) (t := 34) ?_; intro gb167 hg w33 hbox hb; have n_ := A4_ (below_step zqa3_ hb) (hbox) ((zqd6_ : w.heap.size ≤ gb167)) ((zqd6_ : w.heap.size ≤ gb167)); clear HB; obtain ⟨HB, BK167, GW167, GE167⟩ := n_; clear hb hbox hg; have hcz34_0 := bc0_ BK167.out; have hcz34_1 := bc1_ BK167.out; have hcz34_2 := bc2_ BK167.out; have hcz34_3 := bc3_ BK167.out; have hfz34_0 := blk_frozen BK167.out 0; have hfz34_1 := blk_frozen BK167.out 1; have hfz34_2 := blk_frozen BK167.out 2; have hfz34_3 := blk_frozen BK167.out 3) | ((with_reducible refine gate_callee (f := 103) rfl ?_); refine goesL_ (some 39) rfl rfl Try.func103 (by kernel_rfl) rfl #[.int .i64 a0_1] rfl zq1_ ?_; (with_reducible refine (spec_l2Reg.calls a0_1 false _ A25.out).mono ?_); rintro e w' ⟨rfl, ⟨nd, rfl⟩⟩; refine ⟨_, rfl, ?_⟩))
     go_ret
     exact ⟨zq75_, zq84_⟩
   ·rw [if_neg c24] at H
    have c24b0 : (a0_0 == 3) = false := beq_eq_false_iff_ne.mpr c24
    have c24b1 : (a0_0 != 3) = true := bne_iff_ne.mpr c24
    have HC35 := Aside0.mk H
    clear H
    go_enter Try.func78, Try.ntmps78
    go_upto_if 50 with (first | ((with_reducible refine gate_dst (N := 1) rfl ?_); refine bxe_ (N := 1) (cs := #[.int .i64 a0_0, .int .i64 a0_1, .int .i64 a0_2, .int .i64 a0_3]) (t := 34) ?_; intro gb167 hg w36 hbox hb; have n_ := A4_ (below_step zqa3_ hb) (hbox) ((zqd6_ : w.heap.size ≤ gb167)) ((zqd6_ : w.heap.size ≤ gb167)); clear HB; obtain ⟨HB, BK167, GW167, GE167⟩ := n_; clear hb hbox hg; have hcz37_0 := bc0_ BK167.out; have hcz37_1 := bc1_ BK167.out; have hcz37_2 := bc2_ BK167.out; have hcz37_3 := bc3_ BK167.out; have hfz37_0 := blk_frozen BK167.out 0; have hfz37_1 := blk_frozen BK167.out 1; have hfz37_2 := blk_frozen BK167.out 2; have hfz37_3 := blk_frozen BK167.out 3))
    (try simp only [Act.put, List.setIfInBounds_toArray, List.set_cons_zero, List.set_cons_succ])
    go_cut [50] (fun v50 wc => ∃ (kq : Nat) (x50_34 : Bool), v50 = .bool x50_34 ∧ Aside0 (spec_l2Ins.j0 kq a0_0 x50_34 a0_0 a0_1 a0_2 a0_3 = some r) ∧ Aside0 (kq ≤ k) ∧ Aside0 (wc.heap[gb167]? = some (.cells #[.int .i64 a0_0, .int .i64 a0_1, .int .i64 a0_2, .int .i64 a0_3] 34 (0, 0))) ∧ Aside0 (Below w.heap.size w wc))
    case first =>
     have H := HC35.out
     clear HC35
     by_cases c38 : a0_0 = 4
     ·rw [if_pos c38] at H
      have c38b0 : (a0_0 == 4) = true := beq_iff_eq.mpr c38
      have c38b1 : (a0_0 != 4) = false := bne_eq_false_iff_eq.mpr c38
      clear c38
      (first | rw [c38b0] | (simp only [i64_w, i32_w]; rw [c38b0]) | skip)
      have H' := Aside0.mk H
      clear H
      go_wp2
      go_meet
      case rel => exact ⟨_, ((a0_0 == 4)), zq76_, H', ⟨zq74_⟩, ⟨zq3a_⟩, ⟨zq84_⟩⟩
     ·rw [if_neg c38] at H
      have c38b0 : (a0_0 == 4) = false := beq_eq_false_iff_ne.mpr c38
      have c38b1 : (a0_0 != 4) = true := bne_iff_ne.mpr c38
      (first | rw [c38b0] | (simp only [i64_w, i32_w]; rw [c38b0]) | skip)
      have H' := Aside0.mk H
      clear H
      go_wp2
      go_meet
      case rel => exact ⟨_, ((a0_0 == 5)), zq76_, H', ⟨zq74_⟩, ⟨zq3a_⟩, ⟨zq84_⟩⟩
    case rest =>
     clear HC35
     try clear c1
     try clear c2
     try clear c2b0
     try clear c2b1
     try clear p2
     try clear c3
     try clear c4
     try clear c6
     try clear c7
     try clear c10
     try clear c13
     try clear c13b0
     try clear c13b1
     try clear c15
     try clear c17
     try clear c24
     try clear c24b0
     try clear c24b1
     try clear c26
     try clear c27
     try clear c27b0
     try clear c27b1
     try clear c38
     try clear c38b0
     try clear c38b1
     try clear hcz10_0 hcz10_1 hcz10_2 hcz10_3 hfz10_0 hfz10_1 hfz10_2 hfz10_3
     try clear hcz12_0 hcz12_1 hcz12_2 hcz12_3 hfz12_0 hfz12_1 hfz12_2 hfz12_3
     try clear hcz19_0 hcz19_1 hcz19_2 hcz19_3 hfz19_0 hfz19_1 hfz19_2 hfz19_3
     try clear hcz21_0 hcz21_1 hcz21_2 hcz21_3 hfz21_0 hfz21_1 hfz21_2 hfz21_3
     try clear hcz23_0 hcz23_1 hcz23_2 hcz23_3 hfz23_0 hfz23_1 hfz23_2 hfz23_3
     try clear hcz30_0 hcz30_1 hcz30_2 hcz30_3 hfz30_0 hfz30_1 hfz30_2 hfz30_3
     try clear hcz32_0 hcz32_1 hcz32_2 hcz32_3 hfz32_0 hfz32_1 hfz32_2 hfz32_3
     try clear hcz34_0 hcz34_1 hcz34_2 hcz34_3 hfz34_0 hfz34_1 hfz34_2 hfz34_3
     try clear hcz37_0 hcz37_1 hcz37_2 hcz37_3 hfz37_0 hfz37_1 hfz37_2 hfz37_3
     try clear hcz8_0 hcz8_1 hcz8_2 hcz8_3 hfz8_0 hfz8_1 hfz8_2 hfz8_3
     obtain ⟨kq, x50_34, rfl, HA, HJ34, BK167, HB⟩ := hcut
     cases kq with
     | zero => exact absurd HA.out (by simp [spec_l2Ins.j0])
     | succ kj34 =>
      have H := HA.out
      clear HA
      simp only [spec_l2Ins.j0] at H
      by_cases c39 : x50_34 = true
      ·subst c39
       rw [if_pos rfl] at H
       replace H := Option.bind_eq_some_iff.mp H
       obtain ⟨t174, A400, H⟩ := H
       (try dsimp only at H)
       have A40 := Aside0.mk A400
       clear A400
       by_cases c41 : t174 = true
       ·subst c41
        rw [if_pos rfl] at H
        replace H := Option.bind_eq_some_iff.mp H
        obtain ⟨t175, A420, H⟩ := H
        (try dsimp only at H)
        have A42 := Aside0.mk A420
        clear A420
        by_cases c43 : t175 = true
        ·subst c43
         rw [if_pos rfl] at H
         obtain rfl := Option.some.inj H
         have hcz44_0 := bc0_ BK167.out
         have hcz44_1 := bc1_ BK167.out
         have hcz44_2 := bc2_ BK167.out
         have hcz44_3 := bc3_ BK167.out
         have hfz44_0 := blk_frozen BK167.out 0
         have hfz44_1 := blk_frozen BK167.out 1
         have hfz44_2 := blk_frozen BK167.out 2
         have hfz44_3 := blk_frozen BK167.out 3
         go_wp2_with (first | ((with_reducible refine gate_callee (f := 103) rfl ?_); refine goesL_ (some 55) rfl rfl Try.func103 (by kernel_rfl) rfl #[.int .i64 a0_1] rfl zq1_ ?_; (with_reducible refine (spec_l2Reg.calls a0_1 true _ A40.out).mono ?_); rintro e w' ⟨rfl, ⟨nd, rfl⟩⟩; refine ⟨_, rfl, ?_⟩) | (go_at_call 103; (with_reducible refine (spec_l2Reg.calls a0_2 true _ A42.out).mono ?_); rintro e w' ⟨rfl, ⟨nd, rfl⟩⟩; (try clear A42)))
         go_ret
         exact ⟨zq75_, zq84_⟩
        ·replace c43 := Bool.eq_false_iff.mpr c43
         subst c43
         rw [if_neg (show ¬ (false = true) by decide)] at H
         obtain rfl := Option.some.inj H
         have hcz45_0 := bc0_ BK167.out
         have hcz45_1 := bc1_ BK167.out
         have hcz45_2 := bc2_ BK167.out
         have hcz45_3 := bc3_ BK167.out
         have hfz45_0 := blk_frozen BK167.out 0
         have hfz45_1 := blk_frozen BK167.out 1
         have hfz45_2 := blk_frozen BK167.out 2
         have hfz45_3 := blk_frozen BK167.out 3
         go_wp2_with (first | ((with_reducible refine gate_callee (f := 103) rfl ?_); refine goesL_ (some 55) rfl rfl Try.func103 (by kernel_rfl) rfl #[.int .i64 a0_1] rfl zq1_ ?_; (with_reducible refine (spec_l2Reg.calls a0_1 true _ A40.out).mono ?_); rintro e w' ⟨rfl, ⟨nd, rfl⟩⟩; refine ⟨_, rfl, ?_⟩) | (go_at_call 103; (with_reducible refine (spec_l2Reg.calls a0_2 false _ A42.out).mono ?_); rintro e w' ⟨rfl, ⟨nd, rfl⟩⟩; (try clear A42)))
         go_ret
         exact ⟨zq75_, zq84_⟩
       ·replace c41 := Bool.eq_false_iff.mpr c41
        subst c41
        rw [if_neg (show ¬ (false = true) by decide)] at H
        obtain rfl := Option.some.inj H
        have hcz46_0 := bc0_ BK167.out
        have hcz46_1 := bc1_ BK167.out
        have hcz46_2 := bc2_ BK167.out
        have hcz46_3 := bc3_ BK167.out
        have hfz46_0 := blk_frozen BK167.out 0
        have hfz46_1 := blk_frozen BK167.out 1
        have hfz46_2 := blk_frozen BK167.out 2
        have hfz46_3 := blk_frozen BK167.out 3
        go_wp2_with (first | ((with_reducible refine gate_callee (f := 103) rfl ?_); refine goesL_ (some 55) rfl rfl Try.func103 (by kernel_rfl) rfl #[.int .i64 a0_1] rfl zq1_ ?_; (with_reducible refine (spec_l2Reg.calls a0_1 false _ A40.out).mono ?_); rintro e w' ⟨rfl, ⟨nd, rfl⟩⟩; refine ⟨_, rfl, ?_⟩))
        go_ret
        exact ⟨zq75_, zq84_⟩
      ·replace c39 := Bool.eq_false_iff.mpr c39
       subst c39
       rw [if_neg (show ¬ (false = true) by decide)] at H
       by_cases c47 : a0_0 = 6
       ·rw [if_pos c47] at H
        have c47b0 : (a0_0 == 6) = true := beq_iff_eq.mpr c47
        have c47b1 : (a0_0 != 6) = false := bne_eq_false_iff_eq.mpr c47
        clear c47
        replace H := Option.bind_eq_some_iff.mp H
        obtain ⟨t176, A480, H⟩ := H
        (try dsimp only at H)
        have A48 := Aside0.mk A480
        clear A480
        by_cases c49 : t176 = true
        ·subst c49
         rw [if_pos rfl] at H
         replace H := Option.bind_eq_some_iff.mp H
         obtain ⟨t177, A500, H⟩ := H
         (try dsimp only at H)
         have A50 := Aside0.mk A500
         clear A500
         by_cases c51 : t177 = true
         ·subst c51
          rw [if_pos rfl] at H
          by_cases c52 : a0_3 ≥ 1
          ·rw [if_pos c52] at H
           have c52b0 : decide (1 ≤ a0_3) = true := decide_eq_true c52
           clear c52
           obtain rfl := Option.some.inj H
           have hcz53_0 := bc0_ BK167.out
           have hcz53_1 := bc1_ BK167.out
           have hcz53_2 := bc2_ BK167.out
           have hcz53_3 := bc3_ BK167.out
           have hfz53_0 := blk_frozen BK167.out 0
           have hfz53_1 := blk_frozen BK167.out 1
           have hfz53_2 := blk_frozen BK167.out 2
           have hfz53_3 := blk_frozen BK167.out 3
           go_wp2_with (first | ((with_reducible refine gate_callee (f := 103) rfl ?_); refine goesL_ (some 70) rfl rfl Try.func103 (by kernel_rfl) rfl #[.int .i64 a0_1] rfl zq1_ ?_; (with_reducible refine (spec_l2Reg.calls a0_1 true _ A48.out).mono ?_); rintro e w' ⟨rfl, ⟨nd, rfl⟩⟩; refine ⟨_, rfl, ?_⟩) | (go_at_call 103; (with_reducible refine (spec_l2Reg.calls a0_2 true _ A50.out).mono ?_); rintro e w' ⟨rfl, ⟨nd, rfl⟩⟩; (try clear A50)))
           go_ret
           exact ⟨zq75_, zq84_⟩
          ·rw [if_neg c52] at H
           have c52b0 : decide (1 ≤ a0_3) = false := decide_eq_false c52
           clear c52
           obtain rfl := Option.some.inj H
           have hcz54_0 := bc0_ BK167.out
           have hcz54_1 := bc1_ BK167.out
           have hcz54_2 := bc2_ BK167.out
           have hcz54_3 := bc3_ BK167.out
           have hfz54_0 := blk_frozen BK167.out 0
           have hfz54_1 := blk_frozen BK167.out 1
           have hfz54_2 := blk_frozen BK167.out 2
           have hfz54_3 := blk_frozen BK167.out 3
           go_wp2_with (first | ((with_reducible refine gate_callee (f := 103) rfl ?_); refine goesL_ (some 70) rfl rfl Try.func103 (by kernel_rfl) rfl #[.int .i64 a0_1] rfl zq1_ ?_; (with_reducible refine (spec_l2Reg.calls a0_1 true _ A48.out).mono ?_); rintro e w' ⟨rfl, ⟨nd, rfl⟩⟩; refine ⟨_, rfl, ?_⟩) | (go_at_call 103; (with_reducible refine (spec_l2Reg.calls a0_2 true _ A50.out).mono ?_); rintro e w' ⟨rfl, ⟨nd, rfl⟩⟩; (try clear A50)))
           go_ret
           exact ⟨zq75_, zq84_⟩
         ·replace c51 := Bool.eq_false_iff.mpr c51
          subst c51
          rw [if_neg (show ¬ (false = true) by decide)] at H
          obtain rfl := Option.some.inj H
          have hcz55_0 := bc0_ BK167.out
          have hcz55_1 := bc1_ BK167.out
          have hcz55_2 := bc2_ BK167.out
          have hcz55_3 := bc3_ BK167.out
          have hfz55_0 := blk_frozen BK167.out 0
          have hfz55_1 := blk_frozen BK167.out 1
          have hfz55_2 := blk_frozen BK167.out 2
          have hfz55_3 := blk_frozen BK167.out 3
          go_wp2_with (first | ((with_reducible refine gate_callee (f := 103) rfl ?_); refine goesL_ (some 70) rfl rfl Try.func103 (by kernel_rfl) rfl #[.int .i64 a0_1] rfl zq1_ ?_; (with_reducible refine (spec_l2Reg.calls a0_1 true _ A48.out).mono ?_); rintro e w' ⟨rfl, ⟨nd, rfl⟩⟩; refine ⟨_, rfl, ?_⟩) | (go_at_call 103; (with_reducible refine (spec_l2Reg.calls a0_2 false _ A50.out).mono ?_); rintro e w' ⟨rfl, ⟨nd, rfl⟩⟩; (try clear A50)))
          go_ret
          exact ⟨zq75_, zq84_⟩
        ·replace c49 := Bool.eq_false_iff.mpr c49
         subst c49
         rw [if_neg (show ¬ (false = true) by decide)] at H
         obtain rfl := Option.some.inj H
         have hcz56_0 := bc0_ BK167.out
         have hcz56_1 := bc1_ BK167.out
         have hcz56_2 := bc2_ BK167.out
         have hcz56_3 := bc3_ BK167.out
         have hfz56_0 := blk_frozen BK167.out 0
         have hfz56_1 := blk_frozen BK167.out 1
         have hfz56_2 := blk_frozen BK167.out 2
         have hfz56_3 := blk_frozen BK167.out 3
         go_wp2_with (first | ((with_reducible refine gate_callee (f := 103) rfl ?_); refine goesL_ (some 70) rfl rfl Try.func103 (by kernel_rfl) rfl #[.int .i64 a0_1] rfl zq1_ ?_; (with_reducible refine (spec_l2Reg.calls a0_1 false _ A48.out).mono ?_); rintro e w' ⟨rfl, ⟨nd, rfl⟩⟩; refine ⟨_, rfl, ?_⟩))
         go_ret
         exact ⟨zq75_, zq84_⟩
       ·rw [if_neg c47] at H
        have c47b0 : (a0_0 == 6) = false := beq_eq_false_iff_ne.mpr c47
        have c47b1 : (a0_0 != 6) = true := bne_iff_ne.mpr c47
        by_cases c57 : a0_0 = 7
        ·rw [if_pos c57] at H
         have c57b0 : (a0_0 == 7) = true := beq_iff_eq.mpr c57
         have c57b1 : (a0_0 != 7) = false := bne_eq_false_iff_eq.mpr c57
         clear c57
         by_cases c58 : a0_1 = 0
         ·rw [if_pos c58] at H
          have c58b0 : (a0_1 == 0) = true := beq_iff_eq.mpr c58
          have c58b1 : (a0_1 != 0) = false := bne_eq_false_iff_eq.mpr c58
          clear c58
          by_cases c59 : a0_2 = 0
          ·rw [if_pos c59] at H
           have c59b0 : (a0_2 == 0) = true := beq_iff_eq.mpr c59
           have c59b1 : (a0_2 != 0) = false := bne_eq_false_iff_eq.mpr c59
           clear c59
           obtain rfl := Option.some.inj H
           have hcz60_0 := bc0_ BK167.out
           have hcz60_1 := bc1_ BK167.out
           have hcz60_2 := bc2_ BK167.out
           have hcz60_3 := bc3_ BK167.out
           have hfz60_0 := blk_frozen BK167.out 0
           have hfz60_1 := blk_frozen BK167.out 1
           have hfz60_2 := blk_frozen BK167.out 2
           have hfz60_3 := blk_frozen BK167.out 3
           go_wp2
           go_ret
           exact ⟨zq75_, zq84_⟩
          ·rw [if_neg c59] at H
           have c59b0 : (a0_2 == 0) = false := beq_eq_false_iff_ne.mpr c59
           have c59b1 : (a0_2 != 0) = true := bne_iff_ne.mpr c59
           obtain rfl := Option.some.inj H
           have hcz61_0 := bc0_ BK167.out
           have hcz61_1 := bc1_ BK167.out
           have hcz61_2 := bc2_ BK167.out
           have hcz61_3 := bc3_ BK167.out
           have hfz61_0 := blk_frozen BK167.out 0
           have hfz61_1 := blk_frozen BK167.out 1
           have hfz61_2 := blk_frozen BK167.out 2
           have hfz61_3 := blk_frozen BK167.out 3
           go_wp2
           go_ret
           exact ⟨zq75_, zq84_⟩
         ·rw [if_neg c58] at H
          have c58b0 : (a0_1 == 0) = false := beq_eq_false_iff_ne.mpr c58
          have c58b1 : (a0_1 != 0) = true := bne_iff_ne.mpr c58
          obtain rfl := Option.some.inj H
          have hcz62_0 := bc0_ BK167.out
          have hcz62_1 := bc1_ BK167.out
          have hcz62_2 := bc2_ BK167.out
          have hcz62_3 := bc3_ BK167.out
          have hfz62_0 := blk_frozen BK167.out 0
          have hfz62_1 := blk_frozen BK167.out 1
          have hfz62_2 := blk_frozen BK167.out 2
          have hfz62_3 := blk_frozen BK167.out 3
          go_wp2
          go_ret
          exact ⟨zq75_, zq84_⟩
        ·rw [if_neg c57] at H
         have c57b0 : (a0_0 == 7) = false := beq_eq_false_iff_ne.mpr c57
         have c57b1 : (a0_0 != 7) = true := bne_iff_ne.mpr c57
         obtain rfl := Option.some.inj H
         go_wp2
         go_ret
         exact ⟨zq75_, zq84_⟩

end Go.Proofs.Ytgdafcakefnpdaa.PFnExactExecRun
