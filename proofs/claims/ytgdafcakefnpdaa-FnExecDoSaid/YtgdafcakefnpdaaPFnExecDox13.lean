-- Laid by this session's program out of the translation (gen.sh).
import Derived.Test.YtgdafcakefnpdaaPFnExecDox0
import Derived.Test.YtgdafcakefnpdaaPFnExecDox2
import Derived.Test.YtgdafcakefnpdaaPFnExecDox3
import Derived.Test.YtgdafcakefnpdaaPFnExecDox4
namespace Go.Proofs.Ytgdafcakefnpdaa.PFnExecDo
open Go.RowKit Go.Proofs.YtgdafcakefnpdaaW.PrintWords Go.Proofs.YtgdafcakefnpdaaW.PrintLast Go.Proofs.YtgdafcakefnpdaaW.PrintMore
attribute [local go_sem] max2_int min2_int max_two min_two max_three min_three max_four min_four   -- for this text's walks alone
set_option linter.unusedVariables false
set_option linter.unusedSimpArgs false

/-! ### spec_ExecOk: function 21 -/
mutual
def spec_ExecOk.j0 : Nat → Bool → List (S48) → List (S36) → Int → Int → Option (Bool)
 | 0, _, _, _, _, _ => none
 | k + 1, x45, x395000, x395001, x395002, x395003 => if x45 = true then (some false) else (spec_ExecOk.l0 k 0 x395000 x395001 x395002 x395003)
def spec_ExecOk.l0 : Nat → Int → List (S48) → List (S36) → Int → Int → Option (Bool)
 | 0, _, _, _, _, _ => none
 | k + 1, x3, x395000, x395001, x395002, x395003 => if x3 < (x395000.length : Int) then (if 0 ≤ x3 then ((spec_l2Box.f ((rd_T48 x395000 x3).f0)).bind fun t397 => (if t397 = true then (if ((rd_T48 x395000 x3).f1) < 0 then (some false) else (if ((rd_T48 x395000 x3).f1) > 1000000 then (some false) else (if x3 ≤ (x395000.length : Int) then ((spec_l3Saw.f k (x395000.take (x3 : Int).toNat) ((rd_T48 x395000 x3).f0)).bind fun t405 => (if t405 = true then (some false) else (spec_ExecOk.l0 k (wrap64 (x3 + 1)) x395000 x395001 x395002 x395003))) else (none)))) else (some false))) else (none)) else (spec_ExecOk.l1 k 0 x395000 x395001 x395002 x395003)
def spec_ExecOk.l1 : Nat → Int → List (S48) → List (S36) → Int → Int → Option (Bool)
 | 0, _, _, _, _, _ => none
 | k + 1, x4, x395000, x395001, x395002, x395003 => if x4 < (x395001.length : Int) then (if 0 ≤ x4 then ((spec_l2Box.f ((rd_T36 x395001 x4).f0)).bind fun t407 => (if t407 = true then ((spec_l1Num.f ((rd_T36 x395001 x4).f1)).bind fun t409 => (if t409 = true then (if x4 ≤ (x395001.length : Int) then ((spec_l3At.f k (x395001.take (x4 : Int).toNat) ((rd_T36 x395001 x4).f0)).bind fun t415 => (if t415 ≥ 0 then (some false) else (spec_ExecOk.l1 k (wrap64 (x4 + 1)) x395000 x395001 x395002 x395003))) else (none)) else (some false))) else (some false))) else (none)) else (some true)
end
def spec_ExecOk.f (k : Nat) (l0_0 : List (S48)) (l0_1 : List (S36)) (a0_2 : Int) (a0_3 : Int) : Option (Bool) := if a0_3 < 0 then (spec_ExecOk.j0 k true l0_0 l0_1 a0_2 a0_3) else (if a0_3 > 3 then (spec_ExecOk.j0 k true l0_0 l0_1 a0_2 a0_3) else ((spec_l1Num.f a0_2).bind fun t395 => (if t395 = true then (if a0_3 = 0 then (if a0_3 = 3 then (spec_ExecOk.j0 k (decide ((l0_0.length : Int) > 0)) l0_0 l0_1 a0_2 a0_3) else (spec_ExecOk.j0 k false l0_0 l0_1 a0_2 a0_3)) else (if a0_2 = 0 then (if (l0_1.length : Int) > 0 then (spec_ExecOk.j0 k true l0_0 l0_1 a0_2 a0_3) else (if a0_3 = 3 then (spec_ExecOk.j0 k (decide ((l0_0.length : Int) > 0)) l0_0 l0_1 a0_2 a0_3) else (spec_ExecOk.j0 k false l0_0 l0_1 a0_2 a0_3))) else (spec_ExecOk.j0 k true l0_0 l0_1 a0_2 a0_3))) else (spec_ExecOk.j0 k true l0_0 l0_1 a0_2 a0_3))))
theorem spec_ExecOk.mono_l : ∀ k, (∀ y0 y1 y2 y3 y4, LeO (spec_ExecOk.j0 k y0 y1 y2 y3 y4) (spec_ExecOk.j0 (k + 1) y0 y1 y2 y3 y4)) ∧ (∀ y0 y1 y2 y3 y4, LeO (spec_ExecOk.l0 k y0 y1 y2 y3 y4) (spec_ExecOk.l0 (k + 1) y0 y1 y2 y3 y4)) ∧ (∀ y0 y1 y2 y3 y4, LeO (spec_ExecOk.l1 k y0 y1 y2 y3 y4) (spec_ExecOk.l1 (k + 1) y0 y1 y2 y3 y4))
 | 0 => ⟨fun _ _ _ _ _ r h => by simp [spec_ExecOk.j0] at h, fun _ _ _ _ _ r h => by simp [spec_ExecOk.l0] at h, fun _ _ _ _ _ r h => by simp [spec_ExecOk.l1] at h⟩
 | k + 1 => by
  obtain ⟨J0, J1, J2⟩ := spec_ExecOk.mono_l k
  refine ⟨?_, ?_, ?_⟩
  ·intro y0 y1 y2 y3 y4
   unfold spec_ExecOk.j0
   repeat' first
   | (with_reducible exact J0 _ _ _ _ _)
   | (with_reducible exact J1 _ _ _ _ _)
   | (with_reducible exact J2 _ _ _ _ _)
   | (with_reducible exact spec_l3At.mono _ _ _)
   | (with_reducible exact spec_l3Saw.mono _ _ _)
   | (with_reducible exact LeO.refl _)
   | (with_reducible exact LeO.none _)
   | (with_reducible refine LeO.ite ?_ ?_)
   | (with_reducible refine LeO.bind ?_ (fun _ => ?_))
   | exact J0 _ _ _ _ _
   | exact J1 _ _ _ _ _
   | exact J2 _ _ _ _ _
   | exact spec_l3At.mono _ _ _
   | exact spec_l3Saw.mono _ _ _
   | exact LeO.none _
   | refine LeO.ite ?_ ?_
   | refine LeO.bind ?_ (fun _ => ?_)
  ·intro y0 y1 y2 y3 y4
   unfold spec_ExecOk.l0
   repeat' first
   | (with_reducible exact J0 _ _ _ _ _)
   | (with_reducible exact J1 _ _ _ _ _)
   | (with_reducible exact J2 _ _ _ _ _)
   | (with_reducible exact spec_l3At.mono _ _ _)
   | (with_reducible exact spec_l3Saw.mono _ _ _)
   | (with_reducible exact LeO.refl _)
   | (with_reducible exact LeO.none _)
   | (with_reducible refine LeO.ite ?_ ?_)
   | (with_reducible refine LeO.bind ?_ (fun _ => ?_))
   | exact J0 _ _ _ _ _
   | exact J1 _ _ _ _ _
   | exact J2 _ _ _ _ _
   | exact spec_l3At.mono _ _ _
   | exact spec_l3Saw.mono _ _ _
   | exact LeO.none _
   | refine LeO.ite ?_ ?_
   | refine LeO.bind ?_ (fun _ => ?_)
  ·intro y0 y1 y2 y3 y4
   unfold spec_ExecOk.l1
   repeat' first
   | (with_reducible exact J0 _ _ _ _ _)
   | (with_reducible exact J1 _ _ _ _ _)
   | (with_reducible exact J2 _ _ _ _ _)
   | (with_reducible exact spec_l3At.mono _ _ _)
   | (with_reducible exact spec_l3Saw.mono _ _ _)
   | (with_reducible exact LeO.refl _)
   | (with_reducible exact LeO.none _)
   | (with_reducible refine LeO.ite ?_ ?_)
   | (with_reducible refine LeO.bind ?_ (fun _ => ?_))
   | exact J0 _ _ _ _ _
   | exact J1 _ _ _ _ _
   | exact J2 _ _ _ _ _
   | exact spec_l3At.mono _ _ _
   | exact spec_l3Saw.mono _ _ _
   | exact LeO.none _
   | refine LeO.ite ?_ ?_
   | refine LeO.bind ?_ (fun _ => ?_)
theorem spec_ExecOk.mono : ∀ a0 a1 a2 a3 k, LeO (spec_ExecOk.f k a0 a1 a2 a3) (spec_ExecOk.f (k + 1) a0 a1 a2 a3) := by
 intro a0 a1 a2 a3 k
 obtain ⟨J0, J1, J2⟩ := spec_ExecOk.mono_l k
 unfold spec_ExecOk.f
 repeat' first
   | (with_reducible exact J0 _ _ _ _ _)
   | (with_reducible exact J1 _ _ _ _ _)
   | (with_reducible exact J2 _ _ _ _ _)
   | (with_reducible exact spec_l3At.mono _ _ _)
   | (with_reducible exact spec_l3Saw.mono _ _ _)
   | (with_reducible exact LeO.refl _)
   | (with_reducible exact LeO.none _)
   | (with_reducible refine LeO.ite ?_ ?_)
   | (with_reducible refine LeO.bind ?_ (fun _ => ?_))
   | exact J0 _ _ _ _ _
   | exact J1 _ _ _ _ _
   | exact J2 _ _ _ _ _
   | exact spec_l3At.mono _ _ _
   | exact spec_l3Saw.mono _ _ _
   | exact LeO.none _
   | refine LeO.ite ?_ ?_
   | refine LeO.bind ?_ (fun _ => ?_)
def spec_ExecOk.T6 : Bool × List (List Nat × List Nat) := (true, [([], []), ([0], [0]), ([], []), ([1, 2], [1, 2]), ([3], [3]), ([4], [4]), ([5], [5]), ([6], [6]), ([7, 6], [7]), ([8], [8]), ([9, 8], [8, 9]), ([8], [8]), ([10, 11, 8], [8, 10, 11]), ([12, 8], [8, 12]), ([13, 8], [8, 13]), ([14, 8], [8, 14]), ([8, 15], [8, 15]), ([16, 8], [16]), ([17], [17]), ([18, 17], [17, 18]), ([17], [17]), ([19, 20, 17], [17, 19, 20]), ([21, 17], [17, 21]), ([22, 17], [17, 22]), ([23, 17], [17, 23]), ([17, 24], [17, 24]), ([25, 17], [25]), ([26], [26]), ([27, 26], [26, 27]), ([26], [26]), ([28, 29, 26], [26, 28, 29]), ([26], [26]), ([31, 26], [26, 31]), ([26], [26]), ([32, 33, 26], [26, 32, 33]), ([34, 26], [26, 34]), ([35, 26], [26, 35]), ([30, 36, 26, 26], [26, 30, 36]), ([26, 37], [26, 37])])
def spec_ExecOk.B6 : List Nat := [0, 1, 0, 7, 15, 31, 63, 127, 255, 511, 1023, 511, 4095, 8191, 16383, 32767, 65535, 131071, 262143, 524287, 262143, 2097151, 4194303, 8388607, 16777215, 33554431, 67108863, 134217727, 268435455, 134217727, 1073741823, 134217727, 2281701375, 134217727, 15166603263, 32346472447, 66706210815, 137438953471, 274877906943]
theorem spec_ExecOk.tab6 : rtab .any (opsOf Try.f21 6) = spec_ExecOk.T6 := by kernel_rfl
theorem spec_ExecOk.bits6 : waitsOk spec_ExecOk.T6.2 spec_ExecOk.B6 = true := by kernel_rfl
def spec_ExecOk.T11 : Bool × List (List Nat × List Nat) := (true, [([], []), ([0], [0]), ([], []), ([1, 2], [1, 2]), ([3], [3]), ([4], [4]), ([5], [5]), ([6], [6]), ([7, 6], [7]), ([8], [8]), ([9, 8], [8, 9]), ([8], [8]), ([10, 11, 8], [8, 10, 11]), ([12, 8], [8, 12]), ([13, 8], [8, 13]), ([14, 8, 8], [8, 14]), ([15, 8], [8, 15]), ([8, 16], [8, 16]), ([17, 15], [17]), ([18], [18]), ([19, 18], [18, 19]), ([18], [18]), ([20, 21, 18], [18, 20, 21]), ([18], [18]), ([23, 18], [18, 23]), ([18], [18]), ([24, 25, 18], [18, 24, 25]), ([26, 18], [18, 26]), ([27, 18], [18, 27]), ([22, 28, 18, 18], [18, 22, 28]), ([29, 18], [18, 29]), ([18, 30], [18, 30])])
def spec_ExecOk.B11 : List Nat := [0, 1, 0, 7, 15, 31, 63, 127, 255, 511, 1023, 511, 4095, 8191, 16383, 32767, 65535, 131071, 262143, 524287, 1048575, 524287, 4194303, 524287, 8912895, 524287, 59244543, 126353407, 260571135, 536870911, 1073741823, 2147483647]
theorem spec_ExecOk.tab11 : rtab .any (opsOf Try.f21 11) = spec_ExecOk.T11 := by kernel_rfl
theorem spec_ExecOk.bits11 : waitsOk spec_ExecOk.T11.2 spec_ExecOk.B11 = true := by kernel_rfl
set_option maxHeartbeats 8000000 in
set_option maxRecDepth 100000 in
theorem spec_ExecOk.calls (k : Nat) (O0 : Option Addr) (I0 : Nat) (g0 : List (S48)) (O1 : Option Addr) (I1 : Nat) (g1 : List (S36)) (h0 : Int) (h1 : Int) (r : Bool) (w : World) (ar0 : Kd.C k48 w O0 g0.length g0) (au0 : g0.length ≤ I0) (ar1 : Kd.C k36 w O1 g1.length g1) (au1 : g1.length ≤ I1) (h : spec_ExecOk.f k g0 g1 h0 h1 = some r) :
  Calls Try.prog 21 #[.agg #[.slice O0 g0.length I0, .slice O1 g1.length I1, .int .i64 h0, .int .i64 h1]] w fun e w' => e = .returned (.bool r) ∧ Below w.heap.size w w' := by
 have aB0 := Try.underlying30; have af0 := Aside0.mk ar0; have aC0 := Aside0.mk au0; clear ar0 au0; have af1 := Aside0.mk ar1; have aC1 := Aside0.mk au1; clear ar1 au1; have HB := Aside0.mk (Below.refl w.heap.size w); have H : (if h1 < 0 then (spec_ExecOk.j0 k true g0 g1 h0 h1) else (if h1 > 3 then (spec_ExecOk.j0 k true g0 g1 h0 h1) else ((spec_l1Num.f h0).bind fun a0 => (if a0 = true then (if h1 = 0 then (if h1 = 3 then (spec_ExecOk.j0 k (decide ((g0.length : Int) > 0)) g0 g1 h0 h1) else (spec_ExecOk.j0 k false g0 g1 h0 h1)) else (if h0 = 0 then (if (g1.length : Int) > 0 then (spec_ExecOk.j0 k true g0 g1 h0 h1) else (if h1 = 3 then (spec_ExecOk.j0 k (decide ((g0.length : Int) > 0)) g0 g1 h0 h1) else (spec_ExecOk.j0 k false g0 g1 h0 h1))) else (spec_ExecOk.j0 k true g0 g1 h0 h1))) else (spec_ExecOk.j0 k true g0 g1 h0 h1))))) = some r := h; clear h; have X0 := Aside0.mk H; clear H
 go_enter Try.func21, Try.ntmps21
 go_upto_region 1 with (first | ((with_reducible refine gate_dst (N := 1) rfl ?_); (try (refine gate_guard (by rfl) ?_; dsimp only)); refine bxe_ (N := 1) (cs := #[.slice O0 g0.length I0, .slice O1 g1.length I1, .int .i64 h0, .int .i64 h1]) (t := 30) ?_; intro c0 hg w3 H_ hb; have n_ := A4_ (below_step zq59_ hb) (H_) ((zq95_ : w.heap.size ≤ c0)) ((zq95_ : w.heap.size ≤ c0)); clear HB; obtain ⟨HB, b0, y0, p0⟩ := n_; clear hb H_ hg))
 (try simp only [Act.put, List.setIfInBounds_toArray, List.set_cons_zero, List.set_cons_succ])
 go_cut [45] (fun S0 wc => ∃ (kq : Nat) (e0 : Bool), S0 = .bool e0 ∧ Aside0 (spec_ExecOk.j0 kq e0 g0 g1 h0 h1 = some r) ∧ Aside0 (kq ≤ k) ∧ Aside0 (wc.heap[c0]? = some (.cells #[(.slice O0 g0.length I0), (.slice O1 g1.length I1), .int .i64 h0, .int .i64 h1] 30 (0, 0))) ∧ Aside0 (Below w.heap.size w wc))
 case first =>
  have H := X0.out; clear X0; replace H := ifc_ H
  rcases H with ⟨c4b0, H⟩ | ⟨c4b0, H⟩
  ·(first | rw [c4b0] | (simp only [i64_w, i32_w]; rw [c4b0]) | skip); have H' := Aside0.mk H; clear H; obtain ⟨k0, k1, k4, k5, l2, l3, l4, l5⟩ := bz4_ b0.out
   go_wp2
   go_meet
   case rel => exact ⟨_, (true), zq46_, H', ⟨zq44_⟩, ⟨zq1c_⟩, ⟨zq58_⟩⟩
  ·(first | rw [c4b0] | (simp only [i64_w, i32_w]; rw [c4b0]) | skip); replace H := ifc_ H
   rcases H with ⟨c6b0, H⟩ | ⟨c6b0, H⟩
   ·change decide (3 < h1) = true at c6b0; have H' := Aside0.mk H; clear H; obtain ⟨k0, k1, k4, k5, l2, l3, l4, l5⟩ := bz4_ b0.out
    go_wp2
    go_meet
    case rel => exact ⟨_, (true), zq46_, H', ⟨zq44_⟩, ⟨zq1c_⟩, ⟨zq58_⟩⟩
   ·change decide (3 < h1) = false at c6b0; replace H := bs_ H; obtain ⟨a0, A8, H⟩ := H; (try dsimp only at H); replace H := ifB_ H
    rcases H with ⟨rfl, H⟩ | ⟨rfl, H⟩
    ·by_cases x0 : h1 = 0
     ·rw [if_pos x0] at H; have u0 : (h1 == 0) = true := beq_iff_eq.mpr x0; have u1 : (h1 != 0) = false := bne_eq_false_iff_eq.mpr x0; clear x0; by_cases x1 : h1 = 3
      ·rw [if_pos x1] at H; have u2 : (h1 == 3) = true := beq_iff_eq.mpr x1; have u3 : (h1 != 3) = false := bne_eq_false_iff_eq.mpr x1; clear x1; have H' := Aside0.mk H; clear H; obtain ⟨k0, k1, k4, k5, l2, l3, l4, l5⟩ := bz4_ b0.out
       go_wp2_with (first | (go_at_call 74; (with_reducible refine (spec_l1Num.calls h0 true _ A8.out).mono ?_); rintro e w' ⟨rfl, ⟨nd, rfl⟩⟩; (try clear A8)))
       go_meet
       case rel => exact ⟨_, (decide ((g0.length : Int) > 0)), zq46_, H', ⟨zq44_⟩, ⟨zq1c_⟩, ⟨zq58_⟩⟩
      ·rw [if_neg x1] at H; have u2 : (h1 == 3) = false := beq_eq_false_iff_ne.mpr x1; have u3 : (h1 != 3) = true := bne_iff_ne.mpr x1; have H' := Aside0.mk H; clear H; obtain ⟨k0, k1, k4, k5, l2, l3, l4, l5⟩ := bz4_ b0.out
       go_wp2_with (first | (go_at_call 74; (with_reducible refine (spec_l1Num.calls h0 true _ A8.out).mono ?_); rintro e w' ⟨rfl, ⟨nd, rfl⟩⟩; (try clear A8)))
       go_meet
       case rel => exact ⟨_, (false), zq46_, H', ⟨zq44_⟩, ⟨zq1c_⟩, ⟨zq58_⟩⟩
     ·rw [if_neg x0] at H; have u0 : (h1 == 0) = false := beq_eq_false_iff_ne.mpr x0; have u1 : (h1 != 0) = true := bne_iff_ne.mpr x0; by_cases x1 : h0 = 0
      ·rw [if_pos x1] at H; have u2 : (h0 == 0) = true := beq_iff_eq.mpr x1; have u3 : (h0 != 0) = false := bne_eq_false_iff_eq.mpr x1; clear x1; by_cases x2 : (g1.length : Int) > 0
       ·rw [if_pos x2] at H; have u4 : decide (0 < (g1.length : Int)) = true := decide_eq_true x2; have u5 : decide (0 < g1.length) = true := decide_eq_true (by omega); clear x2; have H' := Aside0.mk H; clear H; obtain ⟨k0, k1, k4, k5, l2, l3, l4, l5⟩ := bz4_ b0.out
        go_wp2_with (first | (go_at_call 74; (with_reducible refine (spec_l1Num.calls h0 true _ A8.out).mono ?_); rintro e w' ⟨rfl, ⟨nd, rfl⟩⟩; (try clear A8)))
        go_meet
        case rel => exact ⟨_, (true), zq46_, H', ⟨zq44_⟩, ⟨zq1c_⟩, ⟨zq58_⟩⟩
       ·rw [if_neg x2] at H; have u4 : decide (0 < (g1.length : Int)) = false := decide_eq_false x2; have u5 : decide (0 < g1.length) = false := decide_eq_false (by omega); clear x2; by_cases x3 : h1 = 3
        ·rw [if_pos x3] at H; have u6 : (h1 == 3) = true := beq_iff_eq.mpr x3; have u7 : (h1 != 3) = false := bne_eq_false_iff_eq.mpr x3; clear x3; have H' := Aside0.mk H; clear H; obtain ⟨k0, k1, k4, k5, l2, l3, l4, l5⟩ := bz4_ b0.out
         go_wp2_with (first | (go_at_call 74; (with_reducible refine (spec_l1Num.calls h0 true _ A8.out).mono ?_); rintro e w' ⟨rfl, ⟨nd, rfl⟩⟩; (try clear A8)))
         go_meet
         case rel => exact ⟨_, (decide ((g0.length : Int) > 0)), zq46_, H', ⟨zq44_⟩, ⟨zq1c_⟩, ⟨zq58_⟩⟩
        ·rw [if_neg x3] at H; have u6 : (h1 == 3) = false := beq_eq_false_iff_ne.mpr x3; have u7 : (h1 != 3) = true := bne_iff_ne.mpr x3; have H' := Aside0.mk H; clear H; obtain ⟨k0, k1, k4, k5, l2, l3, l4, l5⟩ := bz4_ b0.out
         go_wp2_with (first | (go_at_call 74; (with_reducible refine (spec_l1Num.calls h0 true _ A8.out).mono ?_); rintro e w' ⟨rfl, ⟨nd, rfl⟩⟩; (try clear A8)))
         go_meet
         case rel => exact ⟨_, (false), zq46_, H', ⟨zq44_⟩, ⟨zq1c_⟩, ⟨zq58_⟩⟩
      ·rw [if_neg x1] at H; have u2 : (h0 == 0) = false := beq_eq_false_iff_ne.mpr x1; have u3 : (h0 != 0) = true := bne_iff_ne.mpr x1; have H' := Aside0.mk H; clear H; obtain ⟨k0, k1, k4, k5, l2, l3, l4, l5⟩ := bz4_ b0.out
       go_wp2_with (first | (go_at_call 74; (with_reducible refine (spec_l1Num.calls h0 true _ A8.out).mono ?_); rintro e w' ⟨rfl, ⟨nd, rfl⟩⟩; (try clear A8)))
       go_meet
       case rel => exact ⟨_, (true), zq46_, H', ⟨zq44_⟩, ⟨zq1c_⟩, ⟨zq58_⟩⟩
    ·have H' := Aside0.mk H; clear H; obtain ⟨k0, k1, k4, k5, l2, l3, l4, l5⟩ := bz4_ b0.out
     go_wp2_with (first | (go_at_call 74; (with_reducible refine (spec_l1Num.calls h0 false _ A8.out).mono ?_); rintro e w' ⟨rfl, ⟨nd, rfl⟩⟩; (try clear A8)))
     go_meet
     case rel => exact ⟨_, (true), zq46_, H', ⟨zq44_⟩, ⟨zq1c_⟩, ⟨zq58_⟩⟩
 case rest =>
  clear X0
  try clear c1
  try clear c2
  try clear p2
  try clear c4
  try clear c4b0
  try clear c6
  try clear c6b0
  try clear c9
  try clear x0
  try clear u0
  try clear u1
  try clear x1
  try clear u2
  try clear u3
  try clear x2
  try clear u4
  try clear u5
  try clear x3
  try clear u6
  try clear u7
  try clear x4
  try clear u8
  try clear u9
  try clear c21
  try clear k0 k1 k4 k5 l2 l3 l4 l5
  try clear k6 k7 k8 k9 l6 l7 l8 l9
  try clear k10 k11 k12 k13 l10 l11 l12 l13
  try clear k14 k15 k16 k17 l14 l15 l16 l17
  try clear k18 k19 k20 k21 l18 l19 l20 l21
  try clear k22 k23 k24 k25 l22 l23 l24 l25
  try clear k26 k27 k28 k29 l26 l27 l28 l29
  try clear k30 k31 k32 k33 l30 l31 l32 l33
  try clear k34 k35 k37 k38 l34 l35 l36 l37
  obtain ⟨kq, e0, rfl, HA, av0, b0, HB⟩ := hcut
  cases kq with
  | zero => exact absurd HA.out (by simp [spec_ExecOk.j0])
  | succ kj1 =>
   have H := HA.out; clear HA; simp only [spec_ExecOk.j0] at H; replace H := ifB_ H
   rcases H with ⟨rfl, H⟩ | ⟨rfl, H⟩
   ·obtain rfl := Option.some.inj H
    go_wp2
    go_ret
    exact ⟨zq45_, zq58_⟩
   ·have H' := Aside0.mk H; clear H
    go_wp2
    go_loopg [3] kj1 (fun kq v3 w' => ∃ (e1 : Int), v3 = .int .i64 e1 ∧ Aside0 (spec_ExecOk.l0 kq e1 g0 g1 h0 h1 = some r) ∧ Aside0 (kq ≤ kj1) ∧ Aside0 (w'.heap[c0]? = some (.cells #[(.slice O0 g0.length I0), (.slice O1 g1.length I1), .int .i64 h0, .int .i64 h1] 30 (0, 0))) ∧ Aside0 (Below w.heap.size w w'))
    case atStart => exact ⟨(0), zq46_, H', ⟨Nat.le_refl _⟩, ⟨zq1c_⟩, ⟨zq58_⟩⟩
    case round =>
     clear H'
     try clear c1
     try clear c2
     try clear p2
     try clear c4
     try clear c4b0
     try clear c6
     try clear c6b0
     try clear c9
     try clear x0
     try clear u0
     try clear u1
     try clear x1
     try clear u2
     try clear u3
     try clear x2
     try clear u4
     try clear u5
     try clear x3
     try clear u6
     try clear u7
     try clear x4
     try clear u8
     try clear u9
     try clear c21
     try clear c22
     try clear k0 k1 k4 k5 l2 l3 l4 l5
     try clear k6 k7 k8 k9 l6 l7 l8 l9
     try clear k10 k11 k12 k13 l10 l11 l12 l13
     try clear k14 k15 k16 k17 l14 l15 l16 l17
     try clear k18 k19 k20 k21 l18 l19 l20 l21
     try clear k22 k23 k24 k25 l22 l23 l24 l25
     try clear k26 k27 k28 k29 l26 l27 l28 l29
     try clear k30 k31 k32 k33 l30 l31 l32 l33
     try clear k34 k35 k37 k38 l34 l35 l36 l37
     try clear p2
     obtain ⟨e1, rfl, HA, Z0, b0, HB⟩ := hrel
     cases gk with
     | zero => exact absurd HA.out (by simp [spec_ExecOk.l0])
     | succ k2 =>
      have H := HA.out; clear HA; simp only [spec_ExecOk.l0] at H; replace H := ifc_ H
      rcases H with ⟨c23b0, H⟩ | ⟨c23b0, H⟩
      ·replace H := ifd_ H; obtain ⟨u10, H⟩ := H; replace H := bs_ H; obtain ⟨a1, G0, H⟩ := H; (try dsimp only at H); replace H := ifB_ H
       rcases H with ⟨rfl, H⟩ | ⟨rfl, H⟩
       ·replace H := ifc_ H
        rcases H with ⟨c27b0, H⟩ | ⟨c27b0, H⟩
        ·obtain rfl := Option.some.inj H; obtain ⟨k39, k40, k41, k42, l38, l39, l40, l41⟩ := bz4_ b0.out
         try go_wp2
         have n_ := A2_ (blk_drew b0.out) (below_drew1 HB.out); clear b0 HB; obtain ⟨b0, HB⟩ := n_; have t0 : 0 ≤ (e1 : Int) := of_decide_eq_true zq41_; have s0 : e1 < (g0.length : Int) := of_decide_eq_true zq41_; obtain ⟨v0, M0, n0, n1⟩ := at_T48 af0.out e1 t0 s0; have C0 := n1; have C1 := n0; cases M0; replace n0 := pb_ HB.out n0; replace n1 := pb_ HB.out n1; replace t0 := eq_true t0; replace s0 := eq_true s0; have t1 : 0 ≤ (e1 : Int) := of_decide_eq_true zq41_; have s1 : e1 < (g0.length : Int) := of_decide_eq_true zq41_; obtain ⟨v1, M1, n2, n3⟩ := at_T48 af0.out e1 t1 s1; have C2 := n3; have C3 := n2; obtain rfl : v0 = v1 := (by injection M1); replace n2 := pb_ HB.out n2; replace n3 := pb_ HB.out n3; replace t1 := eq_true t1; replace s1 := eq_true s1; refine start_ (n := 39) (S := fun w' => w'.cell? ⟨c0, 0, none⟩ = some (.slice (some v0) g0.length I0) ∧ w'.cell? ⟨c0, 1, none⟩ = some (.slice O1 g1.length I1) ∧ w'.cell? ⟨c0, 2, none⟩ = some (.int .i64 h0) ∧ w'.cell? ⟨c0, 3, none⟩ = some (.int .i64 h1) ∧ w'.cell? (v0.add ((e1).toNat * 2)) = some (.int .i64 ((rd_T48 g0 e1).f0)) ∧ w'.cell? ⟨(v0.add ((e1).toNat * 2)).block, (v0.add ((e1).toNat * 2)).off + 1, none⟩ = some (.int .i64 ((rd_T48 g0 e1).f1)) ∧ w'.cell? (v0.add ((e1).toNat * 2)) = some (.int .i64 ((rd_T48 g0 e1).f0)) ∧ w'.cell? ⟨(v0.add ((e1).toNat * 2)).block, (v0.add ((e1).toNat * 2)).off + 1, none⟩ = some (.int .i64 ((rd_T48 g0 e1).f1))) (ds := []) #[false, false, false, false, false, false, false, false, false, false, false, false, false, false, false, false, false, false, false, false, false, false, false, false, false, false, false, false, false, false, false, false, false, false, false, false, false, false, false] (by kernel_rfl) rfl rfl ⟨(blk_cell b0.out 0).trans rfl, (blk_cell b0.out 1).trans rfl, (blk_cell b0.out 2).trans rfl, (blk_cell b0.out 3).trans rfl, ((HB.out.cell (World.block_lt_of_cell? w _ C1)).trans C1), ((HB.out.cell (World.block_lt_of_cell? w _ C0)).trans C0), ((HB.out.cell (World.block_lt_of_cell? w _ C3)).trans C3), ((HB.out.cell (World.block_lt_of_cell? w _ C2)).trans C2)⟩ (fun hHeld => ?_); refine with_tabW spec_ExecOk.tab6 spec_ExecOk.bits6 (fun HT_ HW_ => ?_); generalize wr.drew = r0 at b0 HB n0 n1 n2 n3 hHeld ⊢; refine pw_ 0 53 ?_; refine pw_ 2 55 ?_; refine tw_ 1 54 ?_; refine pw_ 3 56 ?_; refine pw_ 4 57 ?_; refine tw_ 5 58 ?_; refine on_ (i := 6) (N := some 59) rfl rfl (one_of HT_.out (by kernel_rfl)) (by decide) (fun K hK => ?_); refine goes_ Try.func75 (by kernel_rfl) rfl #[.int .i64 ((rd_T48 g0 e1).f0)] (by rfl) rfl rfl zq0_ ?_
         with_reducible refine (spec_l2Box.calls ((rd_T48 g0 e1).f0) true _ G0.out).mono ?_
         rintro e w' ⟨rfl, ⟨nd, rfl⟩⟩; refine ⟨_, rfl, ?_⟩; refine hK.out _ _ ⟨(blk_cell b0.out 0).trans rfl, (blk_cell b0.out 1).trans rfl, (blk_cell b0.out 2).trans rfl, (blk_cell b0.out 3).trans rfl, ((HB.out.cell (World.block_lt_of_cell? w _ C1)).trans C1), ((HB.out.cell (World.block_lt_of_cell? w _ C0)).trans C0), ((HB.out.cell (World.block_lt_of_cell? w _ C3)).trans C3), ((HB.out.cell (World.block_lt_of_cell? w _ C2)).trans C2)⟩ (fun hHeld => ?_); clear hK K; refine norm_ (a' := ?_) ?_ ?_
         rotate_left
         ·show Act.put _ (some 59) _ = _; simp only [Act.put, sA_, sZ_, sS_, i64_w, i32_w]; rfl
         refine pw_ 7 60 ?_; refine pw_ 8 61 ?_; refine pw_ 9 62 ?_; refine pw_ 11 64 ?_; refine tw_ 10 63 ?_; refine pw_ 12 65 ?_; refine pw_ 13 66 ?_; refine tw_ 14 67 ?_; refine pw_ 15 68 ?_; refine pw_ 16 69 ?_; refine pw_ 17 70 ?_; refine pu_ (i := 18) (N := some 71) (v := undef) (a' := ?_) rfl rfl (any_of HT_.out (by kernel_rfl)) (fun _ _ _ h => h) (Or.inr ⟨by rfl, rfl⟩) ?_ ?_; rotate_left; (· (simp only [Act.put, sA_, sZ_, sS_, i64_w, i32_w]; rfl)); refine pu_ (i := 19) (N := some 72) (v := undef) (a' := ?_) rfl rfl (any_of HT_.out (by kernel_rfl)) (fun _ _ _ h => h) (Or.inr ⟨by rfl, rfl⟩) ?_ ?_
         rotate_left; (· (simp only [Act.put, sA_, sZ_, sS_, i64_w, i32_w]; rfl))
         refine pu_ (i := 20) (N := some 73) (v := undef) (a' := ?_) rfl rfl (any_of HT_.out (by kernel_rfl)) (fun _ _ _ h => h) (Or.inr ⟨by rfl, rfl⟩) ?_ ?_; rotate_left; (· (simp only [Act.put, sA_, sZ_, sS_, i64_w, i32_w]; rfl)); refine pu_ (i := 21) (N := some 74) (v := undef) (a' := ?_) rfl rfl (any_of HT_.out (by kernel_rfl)) (fun _ _ _ h => h) (Or.inr ⟨by rfl, rfl⟩) ?_ ?_
         rotate_left; (· (simp only [Act.put, sA_, sZ_, sS_, i64_w, i32_w]; rfl))
         refine pu_ (i := 22) (N := some 75) (v := undef) (a' := ?_) rfl rfl (any_of HT_.out (by kernel_rfl)) (fun _ _ _ h => h) (Or.inr ⟨by rfl, rfl⟩) ?_ ?_; rotate_left; (· (simp only [Act.put, sA_, sZ_, sS_, i64_w, i32_w]; rfl)); refine pu_ (i := 23) (N := some 76) (v := undef) (a' := ?_) rfl rfl (any_of HT_.out (by kernel_rfl)) (fun _ _ _ h => h) (Or.inr ⟨by rfl, rfl⟩) ?_ ?_
         rotate_left; (· (simp only [Act.put, sA_, sZ_, sS_, i64_w, i32_w]; rfl))
         refine pu_ (i := 24) (N := some 77) (v := undef) (a' := ?_) rfl rfl (any_of HT_.out (by kernel_rfl)) (fun _ _ _ h => h) (Or.inr ⟨by rfl, rfl⟩) ?_ ?_; rotate_left; (· (simp only [Act.put, sA_, sZ_, sS_, i64_w, i32_w]; rfl)); refine pw_ 25 78 ?_; refine pw_ 26 79 ?_; refine pu_ (i := 27) (N := some 80) (v := undef) (a' := ?_) rfl rfl (any_of HT_.out (by kernel_rfl)) (fun _ _ _ h => h) (Or.inr ⟨by rfl, rfl⟩) ?_ ?_; rotate_left; (· (simp only [Act.put, sA_, sZ_, sS_, i64_w, i32_w]; rfl)); refine pu_ (i := 28) (N := some 81) (v := undef) (a' := ?_) rfl rfl (any_of HT_.out (by kernel_rfl)) (fun _ _ _ h => h) (Or.inr ⟨by rfl, rfl⟩) ?_ ?_
         rotate_left; (· (simp only [Act.put, sA_, sZ_, sS_, i64_w, i32_w]; rfl))
         refine pu_ (i := 29) (N := some 82) (v := undef) (a' := ?_) rfl rfl (any_of HT_.out (by kernel_rfl)) (fun _ _ _ h => h) (Or.inr ⟨by rfl, rfl⟩) ?_ ?_; rotate_left; (· (simp only [Act.put, sA_, sZ_, sS_, i64_w, i32_w]; rfl)); refine pu_ (i := 30) (N := some 83) (v := undef) (a' := ?_) rfl rfl (any_of HT_.out (by kernel_rfl)) (fun _ _ _ h => h) (Or.inr ⟨by rfl, rfl⟩) ?_ ?_
         rotate_left; (· (simp only [Act.put, sA_, sZ_, sS_, i64_w, i32_w]; rfl))
         refine pu_ (i := 31) (N := some 84) (v := undef) (a' := ?_) rfl rfl (any_of HT_.out (by kernel_rfl)) (fun _ _ _ h => h) (Or.inr ⟨by rfl, rfl⟩) ?_ ?_; rotate_left; (· (simp only [Act.put, sA_, sZ_, sS_, i64_w, i32_w]; rfl)); refine pu_ (i := 32) (N := some 85) (v := undef) (a' := ?_) rfl rfl (any_of HT_.out (by kernel_rfl)) (fun _ _ _ h => h) (Or.inr ⟨by rfl, rfl⟩) ?_ ?_
         rotate_left; (· (simp only [Act.put, sA_, sZ_, sS_, i64_w, i32_w]; rfl))
         refine pu_ (i := 33) (N := some 86) (v := undef) (a' := ?_) rfl rfl (any_of HT_.out (by kernel_rfl)) (fun _ _ _ h => h) (Or.inr ⟨by rfl, rfl⟩) ?_ ?_; rotate_left; (· (simp only [Act.put, sA_, sZ_, sS_, i64_w, i32_w]; rfl)); refine pu_ (i := 34) (N := some 87) (v := undef) (a' := ?_) rfl rfl (any_of HT_.out (by kernel_rfl)) (fun _ _ _ h => h) (Or.inr ⟨by rfl, rfl⟩) ?_ ?_
         rotate_left; (· (simp only [Act.put, sA_, sZ_, sS_, i64_w, i32_w]; rfl))
         refine pu_ (i := 35) (N := some 88) (v := undef) (a' := ?_) rfl rfl (any_of HT_.out (by kernel_rfl)) (fun _ _ _ h => h) (Or.inr ⟨by rfl, rfl⟩) ?_ ?_; rotate_left; (· (simp only [Act.put, sA_, sZ_, sS_, i64_w, i32_w]; rfl)); refine pu_ (i := 36) (N := some 89) (v := undef) (a' := ?_) rfl rfl (any_of HT_.out (by kernel_rfl)) (fun _ _ _ h => h) (Or.inr ⟨by rfl, rfl⟩) ?_ ?_
         rotate_left; (· (simp only [Act.put, sA_, sZ_, sS_, i64_w, i32_w]; rfl))
         refine pu_ (i := 37) (N := some 90) (v := undef) (a' := ?_) rfl rfl (any_of HT_.out (by kernel_rfl)) (fun _ _ _ h => h) (Or.inr ⟨by rfl, rfl⟩) ?_ ?_; rotate_left; (· (simp only [Act.put, sA_, sZ_, sS_, i64_w, i32_w]; rfl)); refine pw_ 38 91 ?_; refine done_ (done_of HT_.out (by kernel_rfl)) ?_
         try go_wp2
         go_ret
         exact ⟨zq45_, zq58_⟩
        ·replace H := ifc_ H
         rcases H with ⟨c30b0, H⟩ | ⟨c30b0, H⟩
         ·change decide (1000000 < ((rd_T48 g0 e1).f1)) = true at c30b0; obtain rfl := Option.some.inj H; obtain ⟨k39, k40, k41, k42, l38, l39, l40, l41⟩ := bz4_ b0.out
          try go_wp2
          have n_ := A2_ (blk_drew b0.out) (below_drew1 HB.out); clear b0 HB; obtain ⟨b0, HB⟩ := n_; have t0 : 0 ≤ (e1 : Int) := of_decide_eq_true zq41_; have s0 : e1 < (g0.length : Int) := of_decide_eq_true zq41_; obtain ⟨v0, M0, n0, n1⟩ := at_T48 af0.out e1 t0 s0; have C0 := n1; have C1 := n0; cases M0; replace n0 := pb_ HB.out n0; replace n1 := pb_ HB.out n1; replace t0 := eq_true t0; replace s0 := eq_true s0; have t1 : 0 ≤ (e1 : Int) := of_decide_eq_true zq41_; have s1 : e1 < (g0.length : Int) := of_decide_eq_true zq41_; obtain ⟨v1, M1, n2, n3⟩ := at_T48 af0.out e1 t1 s1; have C2 := n3; have C3 := n2; obtain rfl : v0 = v1 := (by injection M1); replace n2 := pb_ HB.out n2; replace n3 := pb_ HB.out n3; replace t1 := eq_true t1; replace s1 := eq_true s1; have t2 : 0 ≤ (e1 : Int) := of_decide_eq_true zq41_; have s2 : e1 < (g0.length : Int) := of_decide_eq_true zq41_; obtain ⟨v2, M2, n4, n5⟩ := at_T48 af0.out e1 t2 s2; have C4 := n5; have C5 := n4; obtain rfl : v0 = v2 := (by injection M2); replace n4 := pb_ HB.out n4; replace n5 := pb_ HB.out n5; replace t2 := eq_true t2; replace s2 := eq_true s2; refine start_ (n := 39) (S := fun w' => w'.cell? ⟨c0, 0, none⟩ = some (.slice (some v0) g0.length I0) ∧ w'.cell? ⟨c0, 1, none⟩ = some (.slice O1 g1.length I1) ∧ w'.cell? ⟨c0, 2, none⟩ = some (.int .i64 h0) ∧ w'.cell? ⟨c0, 3, none⟩ = some (.int .i64 h1) ∧ w'.cell? (v0.add ((e1).toNat * 2)) = some (.int .i64 ((rd_T48 g0 e1).f0)) ∧ w'.cell? ⟨(v0.add ((e1).toNat * 2)).block, (v0.add ((e1).toNat * 2)).off + 1, none⟩ = some (.int .i64 ((rd_T48 g0 e1).f1)) ∧ w'.cell? (v0.add ((e1).toNat * 2)) = some (.int .i64 ((rd_T48 g0 e1).f0)) ∧ w'.cell? ⟨(v0.add ((e1).toNat * 2)).block, (v0.add ((e1).toNat * 2)).off + 1, none⟩ = some (.int .i64 ((rd_T48 g0 e1).f1)) ∧ w'.cell? (v0.add ((e1).toNat * 2)) = some (.int .i64 ((rd_T48 g0 e1).f0)) ∧ w'.cell? ⟨(v0.add ((e1).toNat * 2)).block, (v0.add ((e1).toNat * 2)).off + 1, none⟩ = some (.int .i64 ((rd_T48 g0 e1).f1))) (ds := []) #[false, false, false, false, false, false, false, false, false, false, false, false, false, false, false, false, false, false, false, false, false, false, false, false, false, false, false, false, false, false, false, false, false, false, false, false, false, false, false] (by kernel_rfl) rfl rfl ⟨(blk_cell b0.out 0).trans rfl, (blk_cell b0.out 1).trans rfl, (blk_cell b0.out 2).trans rfl, (blk_cell b0.out 3).trans rfl, ((HB.out.cell (World.block_lt_of_cell? w _ C1)).trans C1), ((HB.out.cell (World.block_lt_of_cell? w _ C0)).trans C0), ((HB.out.cell (World.block_lt_of_cell? w _ C3)).trans C3), ((HB.out.cell (World.block_lt_of_cell? w _ C2)).trans C2), ((HB.out.cell (World.block_lt_of_cell? w _ C5)).trans C5), ((HB.out.cell (World.block_lt_of_cell? w _ C4)).trans C4)⟩ (fun hHeld => ?_); refine with_tabW spec_ExecOk.tab6 spec_ExecOk.bits6 (fun HT_ HW_ => ?_); generalize wr.drew = r0 at b0 HB n0 n1 n2 n3 n4 n5 hHeld ⊢; refine pw_ 0 53 ?_; refine pw_ 2 55 ?_; refine tw_ 1 54 ?_; refine pw_ 3 56 ?_; refine pw_ 4 57 ?_; refine tw_ 5 58 ?_; refine on_ (i := 6) (N := some 59) rfl rfl (one_of HT_.out (by kernel_rfl)) (by decide) (fun K hK => ?_); refine goes_ Try.func75 (by kernel_rfl) rfl #[.int .i64 ((rd_T48 g0 e1).f0)] (by rfl) rfl rfl zq0_ ?_
          with_reducible refine (spec_l2Box.calls ((rd_T48 g0 e1).f0) true _ G0.out).mono ?_
          rintro e w' ⟨rfl, ⟨nd, rfl⟩⟩; refine ⟨_, rfl, ?_⟩; refine hK.out _ _ ⟨(blk_cell b0.out 0).trans rfl, (blk_cell b0.out 1).trans rfl, (blk_cell b0.out 2).trans rfl, (blk_cell b0.out 3).trans rfl, ((HB.out.cell (World.block_lt_of_cell? w _ C1)).trans C1), ((HB.out.cell (World.block_lt_of_cell? w _ C0)).trans C0), ((HB.out.cell (World.block_lt_of_cell? w _ C3)).trans C3), ((HB.out.cell (World.block_lt_of_cell? w _ C2)).trans C2), ((HB.out.cell (World.block_lt_of_cell? w _ C5)).trans C5), ((HB.out.cell (World.block_lt_of_cell? w _ C4)).trans C4)⟩ (fun hHeld => ?_); clear hK K; refine norm_ (a' := ?_) ?_ ?_
          rotate_left
          ·show Act.put _ (some 59) _ = _; simp only [Act.put, sA_, sZ_, sS_, i64_w, i32_w]; rfl
          refine pw_ 7 60 ?_; refine pw_ 8 61 ?_; refine pw_ 9 62 ?_; refine pw_ 11 64 ?_; refine tw_ 10 63 ?_; refine pw_ 12 65 ?_; refine pw_ 13 66 ?_; refine tw_ 14 67 ?_; refine pw_ 15 68 ?_; refine pw_ 16 69 ?_; refine pw_ 17 70 ?_; refine pw_ 18 71 ?_; refine pw_ 20 73 ?_; refine tw_ 19 72 ?_; refine pw_ 21 74 ?_; refine pw_ 22 75 ?_; refine tw_ 23 76 ?_; refine pw_ 24 77 ?_; refine pw_ 25 78 ?_; refine pw_ 26 79 ?_; refine pu_ (i := 27) (N := some 80) (v := undef) (a' := ?_) rfl rfl (any_of HT_.out (by kernel_rfl)) (fun _ _ _ h => h) (Or.inr ⟨by rfl, rfl⟩) ?_ ?_; rotate_left; (· (simp only [Act.put, sA_, sZ_, sS_, i64_w, i32_w]; rfl)); refine pu_ (i := 28) (N := some 81) (v := undef) (a' := ?_) rfl rfl (any_of HT_.out (by kernel_rfl)) (fun _ _ _ h => h) (Or.inr ⟨by rfl, rfl⟩) ?_ ?_
          rotate_left; (· (simp only [Act.put, sA_, sZ_, sS_, i64_w, i32_w]; rfl))
          refine pu_ (i := 29) (N := some 82) (v := undef) (a' := ?_) rfl rfl (any_of HT_.out (by kernel_rfl)) (fun _ _ _ h => h) (Or.inr ⟨by rfl, rfl⟩) ?_ ?_; rotate_left; (· (simp only [Act.put, sA_, sZ_, sS_, i64_w, i32_w]; rfl)); refine pu_ (i := 30) (N := some 83) (v := undef) (a' := ?_) rfl rfl (any_of HT_.out (by kernel_rfl)) (fun _ _ _ h => h) (Or.inr ⟨by rfl, rfl⟩) ?_ ?_
          rotate_left; (· (simp only [Act.put, sA_, sZ_, sS_, i64_w, i32_w]; rfl))
          refine pu_ (i := 31) (N := some 84) (v := undef) (a' := ?_) rfl rfl (any_of HT_.out (by kernel_rfl)) (fun _ _ _ h => h) (Or.inr ⟨by rfl, rfl⟩) ?_ ?_; rotate_left; (· (simp only [Act.put, sA_, sZ_, sS_, i64_w, i32_w]; rfl)); refine pu_ (i := 32) (N := some 85) (v := undef) (a' := ?_) rfl rfl (any_of HT_.out (by kernel_rfl)) (fun _ _ _ h => h) (Or.inr ⟨by rfl, rfl⟩) ?_ ?_
          rotate_left; (· (simp only [Act.put, sA_, sZ_, sS_, i64_w, i32_w]; rfl))
          refine pu_ (i := 33) (N := some 86) (v := undef) (a' := ?_) rfl rfl (any_of HT_.out (by kernel_rfl)) (fun _ _ _ h => h) (Or.inr ⟨by rfl, rfl⟩) ?_ ?_; rotate_left; (· (simp only [Act.put, sA_, sZ_, sS_, i64_w, i32_w]; rfl)); refine pu_ (i := 34) (N := some 87) (v := undef) (a' := ?_) rfl rfl (any_of HT_.out (by kernel_rfl)) (fun _ _ _ h => h) (Or.inr ⟨by rfl, rfl⟩) ?_ ?_
          rotate_left; (· (simp only [Act.put, sA_, sZ_, sS_, i64_w, i32_w]; rfl))
          refine pu_ (i := 35) (N := some 88) (v := undef) (a' := ?_) rfl rfl (any_of HT_.out (by kernel_rfl)) (fun _ _ _ h => h) (Or.inr ⟨by rfl, rfl⟩) ?_ ?_; rotate_left; (· (simp only [Act.put, sA_, sZ_, sS_, i64_w, i32_w]; rfl)); refine pu_ (i := 36) (N := some 89) (v := undef) (a' := ?_) rfl rfl (any_of HT_.out (by kernel_rfl)) (fun _ _ _ h => h) (Or.inr ⟨by rfl, rfl⟩) ?_ ?_
          rotate_left; (· (simp only [Act.put, sA_, sZ_, sS_, i64_w, i32_w]; rfl))
          refine pu_ (i := 37) (N := some 90) (v := undef) (a' := ?_) rfl rfl (any_of HT_.out (by kernel_rfl)) (fun _ _ _ h => h) (Or.inr ⟨by rfl, rfl⟩) ?_ ?_; rotate_left; (· (simp only [Act.put, sA_, sZ_, sS_, i64_w, i32_w]; rfl)); refine pw_ 38 91 ?_; refine done_ (done_of HT_.out (by kernel_rfl)) ?_
          try go_wp2
          go_ret
          exact ⟨zq45_, zq58_⟩
         ·change decide (1000000 < ((rd_T48 g0 e1).f1)) = false at c30b0; have u11 := eq_true (of_decide_eq_true zq41_ : 0 ≤ e1); replace H := ifp_ H; obtain ⟨x5, H⟩ := H; have u12 := eq_true x5; have u13 : decide (e1 ≤ (g0.length : Int)) = true := decide_eq_true x5; clear x5; obtain ⟨N0, K0⟩ : ∃ y_ : List (S48), y_ = (g0.take (e1 : Int).toNat) := ⟨_, rfl⟩; replace H : ((spec_l3Saw.f k2 N0 ((rd_T48 g0 e1).f0)).bind fun a2 => (if a2 = true then (some false) else (spec_ExecOk.l0 k2 (wrap64 (e1 + 1)) g0 g1 h0 h1))) = some r := by first | (rw [K0]; with_reducible exact H) | (have Q0 := (Option.bind_some _ _).symm.trans H; rw [K0]; with_reducible exact Q0) | (have Q0 := (Option.bind_some _ _).symm.trans H; with_reducible exact Q0) | with_reducible exact H | (rw [K0]; exact H) | exact H
          have aa0 := Aside0.mk K0; clear K0; replace H := bs_ H; obtain ⟨a2, G1, H⟩ := H; (try dsimp only at H); replace H := ifB_ H
          rcases H with ⟨rfl, H⟩ | ⟨rfl, H⟩
          ·obtain rfl := Option.some.inj H; obtain ⟨k39, k40, k41, k42, l38, l39, l40, l41⟩ := bz4_ b0.out
           try go_wp2
           have n_ := A2_ (blk_drew b0.out) (below_drew1 HB.out); clear b0 HB; obtain ⟨b0, HB⟩ := n_; have t0 : 0 ≤ (e1 : Int) := of_decide_eq_true zq41_; have s0 : e1 < (g0.length : Int) := of_decide_eq_true zq41_; obtain ⟨v0, M0, n0, n1⟩ := at_T48 af0.out e1 t0 s0; have C0 := n1; have C1 := n0; cases M0; replace n0 := pb_ HB.out n0; replace n1 := pb_ HB.out n1; replace t0 := eq_true t0; replace s0 := eq_true s0; have t1 : 0 ≤ (e1 : Int) := of_decide_eq_true zq41_; have s1 : e1 < (g0.length : Int) := of_decide_eq_true zq41_; obtain ⟨v1, M1, n2, n3⟩ := at_T48 af0.out e1 t1 s1; have C2 := n3; have C3 := n2; obtain rfl : v0 = v1 := (by injection M1); replace n2 := pb_ HB.out n2; replace n3 := pb_ HB.out n3; replace t1 := eq_true t1; replace s1 := eq_true s1; have t2 : 0 ≤ (e1 : Int) := of_decide_eq_true zq41_; have s2 : e1 < (g0.length : Int) := of_decide_eq_true zq41_; obtain ⟨v2, M2, n4, n5⟩ := at_T48 af0.out e1 t2 s2; have C4 := n5; have C5 := n4; obtain rfl : v0 = v2 := (by injection M2); replace n4 := pb_ HB.out n4; replace n5 := pb_ HB.out n5; replace t2 := eq_true t2; replace s2 := eq_true s2; have t3 : 0 ≤ (e1 : Int) := of_decide_eq_true zq41_; have s3 : e1 < (g0.length : Int) := of_decide_eq_true zq41_; obtain ⟨v5, M3, n6, n7⟩ := at_T48 af0.out e1 t3 s3; have C6 := n7; have C7 := n6; obtain rfl : v0 = v5 := (by injection M3); replace n6 := pb_ HB.out n6; replace n7 := pb_ HB.out n7; replace t3 := eq_true t3; replace s3 := eq_true s3; refine start_ (n := 39) (S := fun w' => w'.cell? ⟨c0, 0, none⟩ = some (.slice (some v0) g0.length I0) ∧ w'.cell? ⟨c0, 1, none⟩ = some (.slice O1 g1.length I1) ∧ w'.cell? ⟨c0, 2, none⟩ = some (.int .i64 h0) ∧ w'.cell? ⟨c0, 3, none⟩ = some (.int .i64 h1) ∧ w'.cell? (v0.add ((e1).toNat * 2)) = some (.int .i64 ((rd_T48 g0 e1).f0)) ∧ w'.cell? ⟨(v0.add ((e1).toNat * 2)).block, (v0.add ((e1).toNat * 2)).off + 1, none⟩ = some (.int .i64 ((rd_T48 g0 e1).f1)) ∧ w'.cell? (v0.add ((e1).toNat * 2)) = some (.int .i64 ((rd_T48 g0 e1).f0)) ∧ w'.cell? ⟨(v0.add ((e1).toNat * 2)).block, (v0.add ((e1).toNat * 2)).off + 1, none⟩ = some (.int .i64 ((rd_T48 g0 e1).f1)) ∧ w'.cell? (v0.add ((e1).toNat * 2)) = some (.int .i64 ((rd_T48 g0 e1).f0)) ∧ w'.cell? ⟨(v0.add ((e1).toNat * 2)).block, (v0.add ((e1).toNat * 2)).off + 1, none⟩ = some (.int .i64 ((rd_T48 g0 e1).f1)) ∧ w'.cell? (v0.add ((e1).toNat * 2)) = some (.int .i64 ((rd_T48 g0 e1).f0)) ∧ w'.cell? ⟨(v0.add ((e1).toNat * 2)).block, (v0.add ((e1).toNat * 2)).off + 1, none⟩ = some (.int .i64 ((rd_T48 g0 e1).f1))) (ds := []) #[false, false, false, false, false, false, false, false, false, false, false, false, false, false, false, false, false, false, false, false, false, false, false, false, false, false, false, false, false, false, false, false, false, false, false, false, false, false, false] (by kernel_rfl) rfl rfl ⟨(blk_cell b0.out 0).trans rfl, (blk_cell b0.out 1).trans rfl, (blk_cell b0.out 2).trans rfl, (blk_cell b0.out 3).trans rfl, ((HB.out.cell (World.block_lt_of_cell? w _ C1)).trans C1), ((HB.out.cell (World.block_lt_of_cell? w _ C0)).trans C0), ((HB.out.cell (World.block_lt_of_cell? w _ C3)).trans C3), ((HB.out.cell (World.block_lt_of_cell? w _ C2)).trans C2), ((HB.out.cell (World.block_lt_of_cell? w _ C5)).trans C5), ((HB.out.cell (World.block_lt_of_cell? w _ C4)).trans C4), ((HB.out.cell (World.block_lt_of_cell? w _ C7)).trans C7), ((HB.out.cell (World.block_lt_of_cell? w _ C6)).trans C6)⟩ (fun hHeld => ?_); refine with_tabW spec_ExecOk.tab6 spec_ExecOk.bits6 (fun HT_ HW_ => ?_); generalize wr.drew = r0 at b0 HB n0 n1 n2 n3 n4 n5 n6 n7 hHeld ⊢; refine pw_ 0 53 ?_; refine pw_ 2 55 ?_; refine tw_ 1 54 ?_; refine pw_ 3 56 ?_; refine pw_ 4 57 ?_; refine tw_ 5 58 ?_; refine on_ (i := 6) (N := some 59) rfl rfl (one_of HT_.out (by kernel_rfl)) (by decide) (fun K hK => ?_); refine goes_ Try.func75 (by kernel_rfl) rfl #[.int .i64 ((rd_T48 g0 e1).f0)] (by rfl) rfl rfl zq0_ ?_
           with_reducible refine (spec_l2Box.calls ((rd_T48 g0 e1).f0) true _ G0.out).mono ?_
           rintro e w' ⟨rfl, ⟨nd, rfl⟩⟩; refine ⟨_, rfl, ?_⟩; have s4 : (e1 : Int) ≤ ((g0.length : Int) : Int) := of_decide_eq_true zq41_; obtain ⟨bA0, aU0, _, ba0, _⟩ := info_parts info48; have bf0 : g0.length ≤ I0 := aC0.out; have bb0 : Kd.C k48 _ (some v0) g0.length g0 := af0.out; have bj0 := cut_to (P := Try.prog) 27 48 .i64 Try.underlying27 aU0 (some v0) g0.length I0 e1 (of_decide_eq_true zq41_) s4 bf0; have Y0 := Kd.C_take (m := (e1 : Int).toNat) bb0 (by omega); have K1 : N0.length = (e1 : Int).toNat := zq7d_; rw [← aa0.out] at Y0; rw [← K1] at bj0; have V0 := Aside0.mk Y0; have X1 := Aside0.mk (show N0.length ≤ I0 from by omega); clear Y0 bb0 bf0 aU0 ba0; have bF0 := Aside0.mk K1; clear K1; replace s4 := eq_true s4; refine hK.out _ _ ⟨(blk_cell b0.out 0).trans rfl, (blk_cell b0.out 1).trans rfl, (blk_cell b0.out 2).trans rfl, (blk_cell b0.out 3).trans rfl, ((HB.out.cell (World.block_lt_of_cell? w _ C1)).trans C1), ((HB.out.cell (World.block_lt_of_cell? w _ C0)).trans C0), ((HB.out.cell (World.block_lt_of_cell? w _ C3)).trans C3), ((HB.out.cell (World.block_lt_of_cell? w _ C2)).trans C2), ((HB.out.cell (World.block_lt_of_cell? w _ C5)).trans C5), ((HB.out.cell (World.block_lt_of_cell? w _ C4)).trans C4), ((HB.out.cell (World.block_lt_of_cell? w _ C7)).trans C7), ((HB.out.cell (World.block_lt_of_cell? w _ C6)).trans C6)⟩ (fun hHeld => ?_); clear hK K; refine norm_ (a' := ?_) ?_ ?_
           rotate_left
           ·show Act.put _ (some 59) _ = _; simp only [Act.put, sA_, sZ_, sS_, i64_w, i32_w]; rfl
           refine pw_ 7 60 ?_; refine pw_ 8 61 ?_; refine pw_ 9 62 ?_; refine pw_ 11 64 ?_; refine tw_ 10 63 ?_; refine pw_ 12 65 ?_; refine pw_ 13 66 ?_; refine tw_ 14 67 ?_; refine pw_ 15 68 ?_; refine pw_ 16 69 ?_; refine pw_ 17 70 ?_; refine pw_ 18 71 ?_; refine pw_ 20 73 ?_; refine tw_ 19 72 ?_; refine pw_ 21 74 ?_; refine pw_ 22 75 ?_; refine tw_ 23 76 ?_; refine pw_ 24 77 ?_; refine pw_ 25 78 ?_; refine pw_ 26 79 ?_; refine pw_ 27 80 ?_; refine pw_ 29 82 ?_; refine pw_ 31 84 ?_; refine pw_ 33 86 ?_; refine tw_ 28 81 ?_; refine pw_ 30 83 ?_; refine tw_ 32 85 ?_; refine pw_ 34 87 ?_; refine pw_ 35 88 ?_; refine tw_ 36 89 ?_; refine on_ (i := 37) (N := some 90) rfl rfl (one_of HT_.out (by kernel_rfl)) (by decide) (fun K hK => ?_); refine goes_ Try.func76 (by kernel_rfl) rfl #[.slice (some v0) N0.length I0, .int .i64 ((rd_T48 g0 e1).f0)] (by rfl) rfl rfl zq0_ ?_
           with_reducible refine (spec_l3Saw.calls k2 _ _ N0 ((rd_T48 g0 e1).f0) true _ ?side1 ?side2 G1.out).mono ?_
           (case side1 => exact zq8e_); (case side2 => exact X1.out); rintro e w' ⟨rfl, ⟨nd, rfl⟩⟩; refine ⟨_, rfl, ?_⟩; refine hK.out _ _ ⟨(blk_cell b0.out 0).trans rfl, (blk_cell b0.out 1).trans rfl, (blk_cell b0.out 2).trans rfl, (blk_cell b0.out 3).trans rfl, ((HB.out.cell (World.block_lt_of_cell? w _ C1)).trans C1), ((HB.out.cell (World.block_lt_of_cell? w _ C0)).trans C0), ((HB.out.cell (World.block_lt_of_cell? w _ C3)).trans C3), ((HB.out.cell (World.block_lt_of_cell? w _ C2)).trans C2), ((HB.out.cell (World.block_lt_of_cell? w _ C5)).trans C5), ((HB.out.cell (World.block_lt_of_cell? w _ C4)).trans C4), ((HB.out.cell (World.block_lt_of_cell? w _ C7)).trans C7), ((HB.out.cell (World.block_lt_of_cell? w _ C6)).trans C6)⟩ (fun hHeld => ?_); clear hK K; refine norm_ (a' := ?_) ?_ ?_
           rotate_left
           ·show Act.put _ (some 90) _ = _; simp only [Act.put, sA_, sZ_, sS_, i64_w, i32_w]; rfl
           refine pw_ 38 91 ?_; refine done_ (done_of HT_.out (by kernel_rfl)) ?_
           try go_wp2
           go_ret
           exact ⟨zq45_, zq58_⟩
          ·have H' := Aside0.mk H; clear H; obtain ⟨k39, k40, k41, k42, l38, l39, l40, l41⟩ := bz4_ b0.out
           try go_wp2
           have n_ := A2_ (blk_drew b0.out) (below_drew1 HB.out); clear b0 HB; obtain ⟨b0, HB⟩ := n_; have t0 : 0 ≤ (e1 : Int) := of_decide_eq_true zq41_; have s0 : e1 < (g0.length : Int) := of_decide_eq_true zq41_; obtain ⟨v0, M0, n0, n1⟩ := at_T48 af0.out e1 t0 s0; have C0 := n1; have C1 := n0; cases M0; replace n0 := pb_ HB.out n0; replace n1 := pb_ HB.out n1; replace t0 := eq_true t0; replace s0 := eq_true s0; have t1 : 0 ≤ (e1 : Int) := of_decide_eq_true zq41_; have s1 : e1 < (g0.length : Int) := of_decide_eq_true zq41_; obtain ⟨v1, M1, n2, n3⟩ := at_T48 af0.out e1 t1 s1; have C2 := n3; have C3 := n2; obtain rfl : v0 = v1 := (by injection M1); replace n2 := pb_ HB.out n2; replace n3 := pb_ HB.out n3; replace t1 := eq_true t1; replace s1 := eq_true s1; have t2 : 0 ≤ (e1 : Int) := of_decide_eq_true zq41_; have s2 : e1 < (g0.length : Int) := of_decide_eq_true zq41_; obtain ⟨v2, M2, n4, n5⟩ := at_T48 af0.out e1 t2 s2; have C4 := n5; have C5 := n4; obtain rfl : v0 = v2 := (by injection M2); replace n4 := pb_ HB.out n4; replace n5 := pb_ HB.out n5; replace t2 := eq_true t2; replace s2 := eq_true s2; have t3 : 0 ≤ (e1 : Int) := of_decide_eq_true zq41_; have s3 : e1 < (g0.length : Int) := of_decide_eq_true zq41_; obtain ⟨v5, M3, n6, n7⟩ := at_T48 af0.out e1 t3 s3; have C6 := n7; have C7 := n6; obtain rfl : v0 = v5 := (by injection M3); replace n6 := pb_ HB.out n6; replace n7 := pb_ HB.out n7; replace t3 := eq_true t3; replace s3 := eq_true s3; refine start_ (n := 39) (S := fun w' => w'.cell? ⟨c0, 0, none⟩ = some (.slice (some v0) g0.length I0) ∧ w'.cell? ⟨c0, 1, none⟩ = some (.slice O1 g1.length I1) ∧ w'.cell? ⟨c0, 2, none⟩ = some (.int .i64 h0) ∧ w'.cell? ⟨c0, 3, none⟩ = some (.int .i64 h1) ∧ w'.cell? (v0.add ((e1).toNat * 2)) = some (.int .i64 ((rd_T48 g0 e1).f0)) ∧ w'.cell? ⟨(v0.add ((e1).toNat * 2)).block, (v0.add ((e1).toNat * 2)).off + 1, none⟩ = some (.int .i64 ((rd_T48 g0 e1).f1)) ∧ w'.cell? (v0.add ((e1).toNat * 2)) = some (.int .i64 ((rd_T48 g0 e1).f0)) ∧ w'.cell? ⟨(v0.add ((e1).toNat * 2)).block, (v0.add ((e1).toNat * 2)).off + 1, none⟩ = some (.int .i64 ((rd_T48 g0 e1).f1)) ∧ w'.cell? (v0.add ((e1).toNat * 2)) = some (.int .i64 ((rd_T48 g0 e1).f0)) ∧ w'.cell? ⟨(v0.add ((e1).toNat * 2)).block, (v0.add ((e1).toNat * 2)).off + 1, none⟩ = some (.int .i64 ((rd_T48 g0 e1).f1)) ∧ w'.cell? (v0.add ((e1).toNat * 2)) = some (.int .i64 ((rd_T48 g0 e1).f0)) ∧ w'.cell? ⟨(v0.add ((e1).toNat * 2)).block, (v0.add ((e1).toNat * 2)).off + 1, none⟩ = some (.int .i64 ((rd_T48 g0 e1).f1))) (ds := []) #[false, false, false, false, false, false, false, false, false, false, false, false, false, false, false, false, false, false, false, false, false, false, false, false, false, false, false, false, false, false, false, false, false, false, false, false, false, false, false] (by kernel_rfl) rfl rfl ⟨(blk_cell b0.out 0).trans rfl, (blk_cell b0.out 1).trans rfl, (blk_cell b0.out 2).trans rfl, (blk_cell b0.out 3).trans rfl, ((HB.out.cell (World.block_lt_of_cell? w _ C1)).trans C1), ((HB.out.cell (World.block_lt_of_cell? w _ C0)).trans C0), ((HB.out.cell (World.block_lt_of_cell? w _ C3)).trans C3), ((HB.out.cell (World.block_lt_of_cell? w _ C2)).trans C2), ((HB.out.cell (World.block_lt_of_cell? w _ C5)).trans C5), ((HB.out.cell (World.block_lt_of_cell? w _ C4)).trans C4), ((HB.out.cell (World.block_lt_of_cell? w _ C7)).trans C7), ((HB.out.cell (World.block_lt_of_cell? w _ C6)).trans C6)⟩ (fun hHeld => ?_); refine with_tabW spec_ExecOk.tab6 spec_ExecOk.bits6 (fun HT_ HW_ => ?_); generalize wr.drew = r0 at b0 HB n0 n1 n2 n3 n4 n5 n6 n7 hHeld ⊢; refine pw_ 0 53 ?_; refine pw_ 2 55 ?_; refine tw_ 1 54 ?_; refine pw_ 3 56 ?_; refine pw_ 4 57 ?_; refine tw_ 5 58 ?_; refine on_ (i := 6) (N := some 59) rfl rfl (one_of HT_.out (by kernel_rfl)) (by decide) (fun K hK => ?_); refine goes_ Try.func75 (by kernel_rfl) rfl #[.int .i64 ((rd_T48 g0 e1).f0)] (by rfl) rfl rfl zq0_ ?_
           with_reducible refine (spec_l2Box.calls ((rd_T48 g0 e1).f0) true _ G0.out).mono ?_
           rintro e w' ⟨rfl, ⟨nd, rfl⟩⟩; refine ⟨_, rfl, ?_⟩; have s4 : (e1 : Int) ≤ ((g0.length : Int) : Int) := of_decide_eq_true zq41_; obtain ⟨bA0, aU0, _, ba0, _⟩ := info_parts info48; have bf0 : g0.length ≤ I0 := aC0.out; have bb0 : Kd.C k48 _ (some v0) g0.length g0 := af0.out; have bj0 := cut_to (P := Try.prog) 27 48 .i64 Try.underlying27 aU0 (some v0) g0.length I0 e1 (of_decide_eq_true zq41_) s4 bf0; have Y0 := Kd.C_take (m := (e1 : Int).toNat) bb0 (by omega); have K1 : N0.length = (e1 : Int).toNat := zq7d_; rw [← aa0.out] at Y0; rw [← K1] at bj0; have V0 := Aside0.mk Y0; have X1 := Aside0.mk (show N0.length ≤ I0 from by omega); clear Y0 bb0 bf0 aU0 ba0; have bF0 := Aside0.mk K1; clear K1; replace s4 := eq_true s4; refine hK.out _ _ ⟨(blk_cell b0.out 0).trans rfl, (blk_cell b0.out 1).trans rfl, (blk_cell b0.out 2).trans rfl, (blk_cell b0.out 3).trans rfl, ((HB.out.cell (World.block_lt_of_cell? w _ C1)).trans C1), ((HB.out.cell (World.block_lt_of_cell? w _ C0)).trans C0), ((HB.out.cell (World.block_lt_of_cell? w _ C3)).trans C3), ((HB.out.cell (World.block_lt_of_cell? w _ C2)).trans C2), ((HB.out.cell (World.block_lt_of_cell? w _ C5)).trans C5), ((HB.out.cell (World.block_lt_of_cell? w _ C4)).trans C4), ((HB.out.cell (World.block_lt_of_cell? w _ C7)).trans C7), ((HB.out.cell (World.block_lt_of_cell? w _ C6)).trans C6)⟩ (fun hHeld => ?_); clear hK K; refine norm_ (a' := ?_) ?_ ?_
           rotate_left
           ·show Act.put _ (some 59) _ = _; simp only [Act.put, sA_, sZ_, sS_, i64_w, i32_w]; rfl
           refine pw_ 7 60 ?_; refine pw_ 8 61 ?_; refine pw_ 9 62 ?_; refine pw_ 11 64 ?_; refine tw_ 10 63 ?_; refine pw_ 12 65 ?_; refine pw_ 13 66 ?_; refine tw_ 14 67 ?_; refine pw_ 15 68 ?_; refine pw_ 16 69 ?_; refine pw_ 17 70 ?_; refine pw_ 18 71 ?_; refine pw_ 20 73 ?_; refine tw_ 19 72 ?_; refine pw_ 21 74 ?_; refine pw_ 22 75 ?_; refine tw_ 23 76 ?_; refine pw_ 24 77 ?_; refine pw_ 25 78 ?_; refine pw_ 26 79 ?_; refine pw_ 27 80 ?_; refine pw_ 29 82 ?_; refine pw_ 31 84 ?_; refine pw_ 33 86 ?_; refine tw_ 28 81 ?_; refine pw_ 30 83 ?_; refine tw_ 32 85 ?_; refine pw_ 34 87 ?_; refine pw_ 35 88 ?_; refine tw_ 36 89 ?_; refine on_ (i := 37) (N := some 90) rfl rfl (one_of HT_.out (by kernel_rfl)) (by decide) (fun K hK => ?_); refine goes_ Try.func76 (by kernel_rfl) rfl #[.slice (some v0) N0.length I0, .int .i64 ((rd_T48 g0 e1).f0)] (by rfl) rfl rfl zq0_ ?_
           with_reducible refine (spec_l3Saw.calls k2 _ _ N0 ((rd_T48 g0 e1).f0) false _ ?side1 ?side2 G1.out).mono ?_
           (case side1 => exact zq8e_); (case side2 => exact X1.out); rintro e w' ⟨rfl, ⟨nd, rfl⟩⟩; refine ⟨_, rfl, ?_⟩; refine hK.out _ _ ⟨(blk_cell b0.out 0).trans rfl, (blk_cell b0.out 1).trans rfl, (blk_cell b0.out 2).trans rfl, (blk_cell b0.out 3).trans rfl, ((HB.out.cell (World.block_lt_of_cell? w _ C1)).trans C1), ((HB.out.cell (World.block_lt_of_cell? w _ C0)).trans C0), ((HB.out.cell (World.block_lt_of_cell? w _ C3)).trans C3), ((HB.out.cell (World.block_lt_of_cell? w _ C2)).trans C2), ((HB.out.cell (World.block_lt_of_cell? w _ C5)).trans C5), ((HB.out.cell (World.block_lt_of_cell? w _ C4)).trans C4), ((HB.out.cell (World.block_lt_of_cell? w _ C7)).trans C7), ((HB.out.cell (World.block_lt_of_cell? w _ C6)).trans C6)⟩ (fun hHeld => ?_); clear hK K; refine norm_ (a' := ?_) ?_ ?_
           rotate_left
           ·show Act.put _ (some 90) _ = _; simp only [Act.put, sA_, sZ_, sS_, i64_w, i32_w]; rfl
           refine pw_ 38 91 ?_; refine done_ (done_of HT_.out (by kernel_rfl)) ?_
           try go_wp2
           go_roundg k2
           case measure => have := av0.out; have := Z0.out; omega
           case rel => exact ⟨(wrap64 (e1 + 1)), zq46_, H', ⟨zq4a_⟩, ⟨zq1c_⟩, ⟨zq58_⟩⟩
       ·obtain rfl := Option.some.inj H; obtain ⟨k39, k40, k41, k42, l38, l39, l40, l41⟩ := bz4_ b0.out
        try go_wp2
        have n_ := A2_ (blk_drew b0.out) (below_drew1 HB.out); clear b0 HB; obtain ⟨b0, HB⟩ := n_; have t0 : 0 ≤ (e1 : Int) := of_decide_eq_true zq41_; have s0 : e1 < (g0.length : Int) := of_decide_eq_true zq41_; obtain ⟨v0, M0, n0, n1⟩ := at_T48 af0.out e1 t0 s0; have C0 := n1; have C1 := n0; cases M0; replace n0 := pb_ HB.out n0; replace n1 := pb_ HB.out n1; replace t0 := eq_true t0; replace s0 := eq_true s0; refine start_ (n := 39) (S := fun w' => w'.cell? ⟨c0, 0, none⟩ = some (.slice (some v0) g0.length I0) ∧ w'.cell? ⟨c0, 1, none⟩ = some (.slice O1 g1.length I1) ∧ w'.cell? ⟨c0, 2, none⟩ = some (.int .i64 h0) ∧ w'.cell? ⟨c0, 3, none⟩ = some (.int .i64 h1) ∧ w'.cell? (v0.add ((e1).toNat * 2)) = some (.int .i64 ((rd_T48 g0 e1).f0)) ∧ w'.cell? ⟨(v0.add ((e1).toNat * 2)).block, (v0.add ((e1).toNat * 2)).off + 1, none⟩ = some (.int .i64 ((rd_T48 g0 e1).f1))) (ds := []) #[false, false, false, false, false, false, false, false, false, false, false, false, false, false, false, false, false, false, false, false, false, false, false, false, false, false, false, false, false, false, false, false, false, false, false, false, false, false, false] (by kernel_rfl) rfl rfl ⟨(blk_cell b0.out 0).trans rfl, (blk_cell b0.out 1).trans rfl, (blk_cell b0.out 2).trans rfl, (blk_cell b0.out 3).trans rfl, ((HB.out.cell (World.block_lt_of_cell? w _ C1)).trans C1), ((HB.out.cell (World.block_lt_of_cell? w _ C0)).trans C0)⟩ (fun hHeld => ?_); refine with_tabW spec_ExecOk.tab6 spec_ExecOk.bits6 (fun HT_ HW_ => ?_); generalize wr.drew = r0 at b0 HB n0 n1 hHeld ⊢; refine pw_ 0 53 ?_; refine pw_ 2 55 ?_; refine tw_ 1 54 ?_; refine pw_ 3 56 ?_; refine pw_ 4 57 ?_; refine tw_ 5 58 ?_; refine on_ (i := 6) (N := some 59) rfl rfl (one_of HT_.out (by kernel_rfl)) (by decide) (fun K hK => ?_); refine goes_ Try.func75 (by kernel_rfl) rfl #[.int .i64 ((rd_T48 g0 e1).f0)] (by rfl) rfl rfl zq0_ ?_
        with_reducible refine (spec_l2Box.calls ((rd_T48 g0 e1).f0) false _ G0.out).mono ?_
        rintro e w' ⟨rfl, ⟨nd, rfl⟩⟩; refine ⟨_, rfl, ?_⟩; refine hK.out _ _ ⟨(blk_cell b0.out 0).trans rfl, (blk_cell b0.out 1).trans rfl, (blk_cell b0.out 2).trans rfl, (blk_cell b0.out 3).trans rfl, ((HB.out.cell (World.block_lt_of_cell? w _ C1)).trans C1), ((HB.out.cell (World.block_lt_of_cell? w _ C0)).trans C0)⟩ (fun hHeld => ?_); clear hK K; refine norm_ (a' := ?_) ?_ ?_
        rotate_left
        ·show Act.put _ (some 59) _ = _; simp only [Act.put, sA_, sZ_, sS_, i64_w, i32_w]; rfl
        refine pw_ 7 60 ?_; refine pw_ 8 61 ?_; refine pu_ (i := 9) (N := some 62) (v := undef) (a' := ?_) rfl rfl (any_of HT_.out (by kernel_rfl)) (fun _ _ _ h => h) (Or.inr ⟨by rfl, rfl⟩) ?_ ?_; rotate_left; (· (simp only [Act.put, sA_, sZ_, sS_, i64_w, i32_w]; rfl)); refine pu_ (i := 10) (N := some 63) (v := undef) (a' := ?_) rfl rfl (any_of HT_.out (by kernel_rfl)) (fun _ _ _ h => h) (Or.inr ⟨by rfl, rfl⟩) ?_ ?_
        rotate_left; (· (simp only [Act.put, sA_, sZ_, sS_, i64_w, i32_w]; rfl))
        refine pu_ (i := 11) (N := some 64) (v := undef) (a' := ?_) rfl rfl (any_of HT_.out (by kernel_rfl)) (fun _ _ _ h => h) (Or.inr ⟨by rfl, rfl⟩) ?_ ?_; rotate_left; (· (simp only [Act.put, sA_, sZ_, sS_, i64_w, i32_w]; rfl)); refine pu_ (i := 12) (N := some 65) (v := undef) (a' := ?_) rfl rfl (any_of HT_.out (by kernel_rfl)) (fun _ _ _ h => h) (Or.inr ⟨by rfl, rfl⟩) ?_ ?_
        rotate_left; (· (simp only [Act.put, sA_, sZ_, sS_, i64_w, i32_w]; rfl))
        refine pu_ (i := 13) (N := some 66) (v := undef) (a' := ?_) rfl rfl (any_of HT_.out (by kernel_rfl)) (fun _ _ _ h => h) (Or.inr ⟨by rfl, rfl⟩) ?_ ?_; rotate_left; (· (simp only [Act.put, sA_, sZ_, sS_, i64_w, i32_w]; rfl)); refine pu_ (i := 14) (N := some 67) (v := undef) (a' := ?_) rfl rfl (any_of HT_.out (by kernel_rfl)) (fun _ _ _ h => h) (Or.inr ⟨by rfl, rfl⟩) ?_ ?_
        rotate_left; (· (simp only [Act.put, sA_, sZ_, sS_, i64_w, i32_w]; rfl))
        refine pu_ (i := 15) (N := some 68) (v := undef) (a' := ?_) rfl rfl (any_of HT_.out (by kernel_rfl)) (fun _ _ _ h => h) (Or.inr ⟨by rfl, rfl⟩) ?_ ?_; rotate_left; (· (simp only [Act.put, sA_, sZ_, sS_, i64_w, i32_w]; rfl)); refine pw_ 16 69 ?_; refine pw_ 17 70 ?_; refine pu_ (i := 18) (N := some 71) (v := undef) (a' := ?_) rfl rfl (any_of HT_.out (by kernel_rfl)) (fun _ _ _ h => h) (Or.inr ⟨by rfl, rfl⟩) ?_ ?_; rotate_left; (· (simp only [Act.put, sA_, sZ_, sS_, i64_w, i32_w]; rfl)); refine pu_ (i := 19) (N := some 72) (v := undef) (a' := ?_) rfl rfl (any_of HT_.out (by kernel_rfl)) (fun _ _ _ h => h) (Or.inr ⟨by rfl, rfl⟩) ?_ ?_
        rotate_left; (· (simp only [Act.put, sA_, sZ_, sS_, i64_w, i32_w]; rfl))
        refine pu_ (i := 20) (N := some 73) (v := undef) (a' := ?_) rfl rfl (any_of HT_.out (by kernel_rfl)) (fun _ _ _ h => h) (Or.inr ⟨by rfl, rfl⟩) ?_ ?_; rotate_left; (· (simp only [Act.put, sA_, sZ_, sS_, i64_w, i32_w]; rfl)); refine pu_ (i := 21) (N := some 74) (v := undef) (a' := ?_) rfl rfl (any_of HT_.out (by kernel_rfl)) (fun _ _ _ h => h) (Or.inr ⟨by rfl, rfl⟩) ?_ ?_
        rotate_left; (· (simp only [Act.put, sA_, sZ_, sS_, i64_w, i32_w]; rfl))
        refine pu_ (i := 22) (N := some 75) (v := undef) (a' := ?_) rfl rfl (any_of HT_.out (by kernel_rfl)) (fun _ _ _ h => h) (Or.inr ⟨by rfl, rfl⟩) ?_ ?_; rotate_left; (· (simp only [Act.put, sA_, sZ_, sS_, i64_w, i32_w]; rfl)); refine pu_ (i := 23) (N := some 76) (v := undef) (a' := ?_) rfl rfl (any_of HT_.out (by kernel_rfl)) (fun _ _ _ h => h) (Or.inr ⟨by rfl, rfl⟩) ?_ ?_
        rotate_left; (· (simp only [Act.put, sA_, sZ_, sS_, i64_w, i32_w]; rfl))
        refine pu_ (i := 24) (N := some 77) (v := undef) (a' := ?_) rfl rfl (any_of HT_.out (by kernel_rfl)) (fun _ _ _ h => h) (Or.inr ⟨by rfl, rfl⟩) ?_ ?_; rotate_left; (· (simp only [Act.put, sA_, sZ_, sS_, i64_w, i32_w]; rfl)); refine pw_ 25 78 ?_; refine pw_ 26 79 ?_; refine pu_ (i := 27) (N := some 80) (v := undef) (a' := ?_) rfl rfl (any_of HT_.out (by kernel_rfl)) (fun _ _ _ h => h) (Or.inr ⟨by rfl, rfl⟩) ?_ ?_; rotate_left; (· (simp only [Act.put, sA_, sZ_, sS_, i64_w, i32_w]; rfl)); refine pu_ (i := 28) (N := some 81) (v := undef) (a' := ?_) rfl rfl (any_of HT_.out (by kernel_rfl)) (fun _ _ _ h => h) (Or.inr ⟨by rfl, rfl⟩) ?_ ?_
        rotate_left; (· (simp only [Act.put, sA_, sZ_, sS_, i64_w, i32_w]; rfl))
        refine pu_ (i := 29) (N := some 82) (v := undef) (a' := ?_) rfl rfl (any_of HT_.out (by kernel_rfl)) (fun _ _ _ h => h) (Or.inr ⟨by rfl, rfl⟩) ?_ ?_; rotate_left; (· (simp only [Act.put, sA_, sZ_, sS_, i64_w, i32_w]; rfl)); refine pu_ (i := 30) (N := some 83) (v := undef) (a' := ?_) rfl rfl (any_of HT_.out (by kernel_rfl)) (fun _ _ _ h => h) (Or.inr ⟨by rfl, rfl⟩) ?_ ?_
        rotate_left; (· (simp only [Act.put, sA_, sZ_, sS_, i64_w, i32_w]; rfl))
        refine pu_ (i := 31) (N := some 84) (v := undef) (a' := ?_) rfl rfl (any_of HT_.out (by kernel_rfl)) (fun _ _ _ h => h) (Or.inr ⟨by rfl, rfl⟩) ?_ ?_; rotate_left; (· (simp only [Act.put, sA_, sZ_, sS_, i64_w, i32_w]; rfl)); refine pu_ (i := 32) (N := some 85) (v := undef) (a' := ?_) rfl rfl (any_of HT_.out (by kernel_rfl)) (fun _ _ _ h => h) (Or.inr ⟨by rfl, rfl⟩) ?_ ?_
        rotate_left; (· (simp only [Act.put, sA_, sZ_, sS_, i64_w, i32_w]; rfl))
        refine pu_ (i := 33) (N := some 86) (v := undef) (a' := ?_) rfl rfl (any_of HT_.out (by kernel_rfl)) (fun _ _ _ h => h) (Or.inr ⟨by rfl, rfl⟩) ?_ ?_; rotate_left; (· (simp only [Act.put, sA_, sZ_, sS_, i64_w, i32_w]; rfl)); refine pu_ (i := 34) (N := some 87) (v := undef) (a' := ?_) rfl rfl (any_of HT_.out (by kernel_rfl)) (fun _ _ _ h => h) (Or.inr ⟨by rfl, rfl⟩) ?_ ?_
        rotate_left; (· (simp only [Act.put, sA_, sZ_, sS_, i64_w, i32_w]; rfl))
        refine pu_ (i := 35) (N := some 88) (v := undef) (a' := ?_) rfl rfl (any_of HT_.out (by kernel_rfl)) (fun _ _ _ h => h) (Or.inr ⟨by rfl, rfl⟩) ?_ ?_; rotate_left; (· (simp only [Act.put, sA_, sZ_, sS_, i64_w, i32_w]; rfl)); refine pu_ (i := 36) (N := some 89) (v := undef) (a' := ?_) rfl rfl (any_of HT_.out (by kernel_rfl)) (fun _ _ _ h => h) (Or.inr ⟨by rfl, rfl⟩) ?_ ?_
        rotate_left; (· (simp only [Act.put, sA_, sZ_, sS_, i64_w, i32_w]; rfl))
        refine pu_ (i := 37) (N := some 90) (v := undef) (a' := ?_) rfl rfl (any_of HT_.out (by kernel_rfl)) (fun _ _ _ h => h) (Or.inr ⟨by rfl, rfl⟩) ?_ ?_; rotate_left; (· (simp only [Act.put, sA_, sZ_, sS_, i64_w, i32_w]; rfl)); refine pw_ 38 91 ?_; refine done_ (done_of HT_.out (by kernel_rfl)) ?_
        try go_wp2
        go_ret
        exact ⟨zq45_, zq58_⟩
      ·have H' := Aside0.mk H; clear H; obtain ⟨k39, k40, k41, k42, l38, l39, l40, l41⟩ := bz4_ b0.out
       go_wp2
       go_loopg [4] k2 (fun kq v4 w' => ∃ (e2 : Int), v4 = .int .i64 e2 ∧ Aside0 (spec_ExecOk.l1 kq e2 g0 g1 h0 h1 = some r) ∧ Aside0 (kq ≤ k2) ∧ Aside0 (w'.heap[c0]? = some (.cells #[(.slice O0 g0.length I0), (.slice O1 g1.length I1), .int .i64 h0, .int .i64 h1] 30 (0, 0))) ∧ Aside0 (Below w.heap.size w w'))
       case atStart => exact ⟨(0), zq46_, H', ⟨Nat.le_refl _⟩, ⟨zq1c_⟩, ⟨zq58_⟩⟩
       case round =>
        clear H'
        try clear c2
        try clear p2
        try clear c3
        try clear p3
        try clear q3
        try clear hx3
        try clear q4
        try clear p6
        try clear c7
        try clear c23
        try clear c23b0
        try clear c24
        try clear c26
        try clear x5
        try clear p39
        try clear s0
        try clear hx39
        try clear s1
        try clear k43 k44 k45 k46 l42 l43 l44 l45
        try clear k39 k40 k41 k42 l38 l39 l40 l41
        try clear n0
        try clear n1
        try clear t0
        try clear s2
        try clear s1
        obtain ⟨e2, rfl, HA, Z1, b0, HB⟩ := hrel
        cases gk with
        | zero => exact absurd HA.out (by simp [spec_ExecOk.l1])
        | succ k3 =>
         have H := HA.out; clear HA; simp only [spec_ExecOk.l1] at H; replace H := ifc_ H
         rcases H with ⟨c46b0, H⟩ | ⟨c46b0, H⟩
         ·replace H := ifd_ H; obtain ⟨u10, H⟩ := H; replace H := bs_ H; obtain ⟨a1, G0, H⟩ := H; (try dsimp only at H); replace H := ifB_ H
          rcases H with ⟨rfl, H⟩ | ⟨rfl, H⟩
          ·replace H := bs_ H; obtain ⟨a2, G1, H⟩ := H; (try dsimp only at H); replace H := ifB_ H
           rcases H with ⟨rfl, H⟩ | ⟨rfl, H⟩
           ·have u11 := eq_true (of_decide_eq_true zq41_ : 0 ≤ e2); replace H := ifp_ H; obtain ⟨x6, H⟩ := H; have u12 := eq_true x6; have u13 : decide (e2 ≤ (g1.length : Int)) = true := decide_eq_true x6; clear x6; obtain ⟨N0, K0⟩ : ∃ y_ : List (S36), y_ = (g1.take (e2 : Int).toNat) := ⟨_, rfl⟩; replace H : ((spec_l3At.f k3 N0 ((rd_T36 g1 e2).f0)).bind fun a3 => (if a3 ≥ 0 then (some false) else (spec_ExecOk.l1 k3 (wrap64 (e2 + 1)) g0 g1 h0 h1))) = some r := by first | (rw [K0]; with_reducible exact H) | (have Q0 := (Option.bind_some _ _).symm.trans H; rw [K0]; with_reducible exact Q0) | (have Q0 := (Option.bind_some _ _).symm.trans H; with_reducible exact Q0) | with_reducible exact H | (rw [K0]; exact H) | exact H
            have aa0 := Aside0.mk K0; clear K0; replace H := bs_ H; obtain ⟨a3, G2, H⟩ := H; (try dsimp only at H); replace H := ifc_ H
            rcases H with ⟨c55b0, H⟩ | ⟨c55b0, H⟩
            ·change decide (0 ≤ a3) = true at c55b0; obtain rfl := Option.some.inj H; obtain ⟨k47, k49, k50, k51, l46, l47, l48, l49⟩ := bz4_ b0.out
             try go_wp2
             have n_ := A2_ (blk_drew b0.out) (below_drew1 HB.out); clear b0 HB; obtain ⟨b0, HB⟩ := n_; have t1 : 0 ≤ (e2 : Int) := of_decide_eq_true zq41_; have s3 : e2 < (g1.length : Int) := of_decide_eq_true zq41_; obtain ⟨v0, M0, n2, n3⟩ := at_T36 af1.out e2 t1 s3; have C0 := n3; have C1 := n2; cases M0; replace n2 := pb_ HB.out n2; replace n3 := pb_ HB.out n3; replace t1 := eq_true t1; replace s3 := eq_true s3; have t2 : 0 ≤ (e2 : Int) := of_decide_eq_true zq41_; have s4 : e2 < (g1.length : Int) := of_decide_eq_true zq41_; obtain ⟨v1, M1, n4, n5⟩ := at_T36 af1.out e2 t2 s4; have C2 := n5; have C3 := n4; obtain rfl : v0 = v1 := (by injection M1); replace n4 := pb_ HB.out n4; replace n5 := pb_ HB.out n5; replace t2 := eq_true t2; replace s4 := eq_true s4; have t3 : 0 ≤ (e2 : Int) := of_decide_eq_true zq41_; have s5 : e2 < (g1.length : Int) := of_decide_eq_true zq41_; obtain ⟨v2, M2, n6, n7⟩ := at_T36 af1.out e2 t3 s5; have C4 := n7; have C5 := n6; obtain rfl : v0 = v2 := (by injection M2); replace n6 := pb_ HB.out n6; replace n7 := pb_ HB.out n7; replace t3 := eq_true t3; replace s5 := eq_true s5; refine start_ (n := 32) (S := fun w' => w'.cell? ⟨c0, 0, none⟩ = some (.slice O0 g0.length I0) ∧ w'.cell? ⟨c0, 1, none⟩ = some (.slice (some v0) g1.length I1) ∧ w'.cell? ⟨c0, 2, none⟩ = some (.int .i64 h0) ∧ w'.cell? ⟨c0, 3, none⟩ = some (.int .i64 h1) ∧ w'.cell? (v0.add ((e2).toNat * 2)) = some (.int .i64 ((rd_T36 g1 e2).f0)) ∧ w'.cell? ⟨(v0.add ((e2).toNat * 2)).block, (v0.add ((e2).toNat * 2)).off + 1, none⟩ = some (.int .i64 ((rd_T36 g1 e2).f1)) ∧ w'.cell? (v0.add ((e2).toNat * 2)) = some (.int .i64 ((rd_T36 g1 e2).f0)) ∧ w'.cell? ⟨(v0.add ((e2).toNat * 2)).block, (v0.add ((e2).toNat * 2)).off + 1, none⟩ = some (.int .i64 ((rd_T36 g1 e2).f1)) ∧ w'.cell? (v0.add ((e2).toNat * 2)) = some (.int .i64 ((rd_T36 g1 e2).f0)) ∧ w'.cell? ⟨(v0.add ((e2).toNat * 2)).block, (v0.add ((e2).toNat * 2)).off + 1, none⟩ = some (.int .i64 ((rd_T36 g1 e2).f1))) (ds := []) #[false, false, false, false, false, false, false, false, false, false, false, false, false, false, false, false, false, false, false, false, false, false, false, false, false, false, false, false, false, false, false, false] (by kernel_rfl) rfl rfl ⟨(blk_cell b0.out 0).trans rfl, (blk_cell b0.out 1).trans rfl, (blk_cell b0.out 2).trans rfl, (blk_cell b0.out 3).trans rfl, ((HB.out.cell (World.block_lt_of_cell? w _ C1)).trans C1), ((HB.out.cell (World.block_lt_of_cell? w _ C0)).trans C0), ((HB.out.cell (World.block_lt_of_cell? w _ C3)).trans C3), ((HB.out.cell (World.block_lt_of_cell? w _ C2)).trans C2), ((HB.out.cell (World.block_lt_of_cell? w _ C5)).trans C5), ((HB.out.cell (World.block_lt_of_cell? w _ C4)).trans C4)⟩ (fun hHeld => ?_); refine with_tabW spec_ExecOk.tab11 spec_ExecOk.bits11 (fun HT_ HW_ => ?_); generalize wr.drew = r0 at b0 HB n2 n3 n4 n5 n6 n7 hHeld ⊢; refine pw_ 0 99 ?_; refine pw_ 2 101 ?_; refine tw_ 1 100 ?_; refine pw_ 3 102 ?_; refine pw_ 4 103 ?_; refine tw_ 5 104 ?_; refine on_ (i := 6) (N := some 105) rfl rfl (one_of HT_.out (by kernel_rfl)) (by decide) (fun K hK => ?_); refine goes_ Try.func75 (by kernel_rfl) rfl #[.int .i64 ((rd_T36 g1 e2).f0)] (by rfl) rfl rfl zq0_ ?_
             with_reducible refine (spec_l2Box.calls ((rd_T36 g1 e2).f0) true _ G0.out).mono ?_
             rintro e w' ⟨rfl, ⟨nd, rfl⟩⟩; refine ⟨_, rfl, ?_⟩; refine hK.out _ _ ⟨(blk_cell b0.out 0).trans rfl, (blk_cell b0.out 1).trans rfl, (blk_cell b0.out 2).trans rfl, (blk_cell b0.out 3).trans rfl, ((HB.out.cell (World.block_lt_of_cell? w _ C1)).trans C1), ((HB.out.cell (World.block_lt_of_cell? w _ C0)).trans C0), ((HB.out.cell (World.block_lt_of_cell? w _ C3)).trans C3), ((HB.out.cell (World.block_lt_of_cell? w _ C2)).trans C2), ((HB.out.cell (World.block_lt_of_cell? w _ C5)).trans C5), ((HB.out.cell (World.block_lt_of_cell? w _ C4)).trans C4)⟩ (fun hHeld => ?_); clear hK K; refine norm_ (a' := ?_) ?_ ?_
             rotate_left
             ·show Act.put _ (some 105) _ = _; simp only [Act.put, sA_, sZ_, sS_, i64_w, i32_w]; rfl
             refine pw_ 7 106 ?_; refine pw_ 8 107 ?_; refine pw_ 9 108 ?_; refine pw_ 11 110 ?_; refine tw_ 10 109 ?_; refine pw_ 12 111 ?_; refine pw_ 13 112 ?_; refine tw_ 14 113 ?_; refine on_ (i := 15) (N := some 114) rfl rfl (one_of HT_.out (by kernel_rfl)) (by decide) (fun K hK => ?_); refine goes_ Try.func74 (by kernel_rfl) rfl #[.int .i64 ((rd_T36 g1 e2).f1)] (by rfl) rfl rfl zq0_ ?_
             with_reducible refine (spec_l1Num.calls ((rd_T36 g1 e2).f1) true _ G1.out).mono ?_
             rintro e w' ⟨rfl, ⟨nd, rfl⟩⟩; refine ⟨_, rfl, ?_⟩; have s6 : (e2 : Int) ≤ ((g1.length : Int) : Int) := of_decide_eq_true zq41_; obtain ⟨bA0, aU0, _, ba0, _⟩ := info_parts info36; have bf0 : g1.length ≤ I1 := aC1.out; have bb0 : Kd.C k36 _ (some v0) g1.length g1 := af1.out; have bj0 := cut_to (P := Try.prog) 28 36 .i64 Try.underlying28 aU0 (some v0) g1.length I1 e2 (of_decide_eq_true zq41_) s6 bf0; have Y0 := Kd.C_take (m := (e2 : Int).toNat) bb0 (by omega); have K1 : N0.length = (e2 : Int).toNat := zq7d_; rw [← aa0.out] at Y0; rw [← K1] at bj0; have V0 := Aside0.mk Y0; have X1 := Aside0.mk (show N0.length ≤ I1 from by omega); clear Y0 bb0 bf0 aU0 ba0; have bF0 := Aside0.mk K1; clear K1; replace s6 := eq_true s6; refine hK.out _ _ ⟨(blk_cell b0.out 0).trans rfl, (blk_cell b0.out 1).trans rfl, (blk_cell b0.out 2).trans rfl, (blk_cell b0.out 3).trans rfl, ((HB.out.cell (World.block_lt_of_cell? w _ C1)).trans C1), ((HB.out.cell (World.block_lt_of_cell? w _ C0)).trans C0), ((HB.out.cell (World.block_lt_of_cell? w _ C3)).trans C3), ((HB.out.cell (World.block_lt_of_cell? w _ C2)).trans C2), ((HB.out.cell (World.block_lt_of_cell? w _ C5)).trans C5), ((HB.out.cell (World.block_lt_of_cell? w _ C4)).trans C4)⟩ (fun hHeld => ?_); clear hK K; refine norm_ (a' := ?_) ?_ ?_
             rotate_left
             ·show Act.put _ (some 114) _ = _; simp only [Act.put, sA_, sZ_, sS_, i64_w, i32_w]; rfl
             refine pw_ 16 115 ?_; refine pw_ 17 116 ?_; refine pw_ 18 117 ?_; refine pw_ 19 118 ?_; refine pw_ 21 120 ?_; refine pw_ 23 122 ?_; refine pw_ 25 124 ?_; refine tw_ 20 119 ?_; refine pw_ 22 121 ?_; refine tw_ 24 123 ?_; refine pw_ 26 125 ?_; refine pw_ 27 126 ?_; refine tw_ 28 127 ?_; refine on_ (i := 29) (N := some 128) rfl rfl (one_of HT_.out (by kernel_rfl)) (by decide) (fun K hK => ?_); refine goes_ Try.func77 (by kernel_rfl) rfl #[.slice (some v0) N0.length I1, .int .i64 ((rd_T36 g1 e2).f0)] (by rfl) rfl rfl zq0_ ?_
             with_reducible refine (spec_l3At.calls k3 _ _ N0 ((rd_T36 g1 e2).f0) a3 _ ?side1 ?side2 G2.out).mono ?_
             (case side1 => exact zq8e_); (case side2 => exact X1.out); rintro e w' ⟨rfl, ⟨nd, rfl⟩⟩; refine ⟨_, rfl, ?_⟩; refine hK.out _ _ ⟨(blk_cell b0.out 0).trans rfl, (blk_cell b0.out 1).trans rfl, (blk_cell b0.out 2).trans rfl, (blk_cell b0.out 3).trans rfl, ((HB.out.cell (World.block_lt_of_cell? w _ C1)).trans C1), ((HB.out.cell (World.block_lt_of_cell? w _ C0)).trans C0), ((HB.out.cell (World.block_lt_of_cell? w _ C3)).trans C3), ((HB.out.cell (World.block_lt_of_cell? w _ C2)).trans C2), ((HB.out.cell (World.block_lt_of_cell? w _ C5)).trans C5), ((HB.out.cell (World.block_lt_of_cell? w _ C4)).trans C4)⟩ (fun hHeld => ?_); clear hK K; refine norm_ (a' := ?_) ?_ ?_
             rotate_left
             ·show Act.put _ (some 128) _ = _; simp only [Act.put, sA_, sZ_, sS_, i64_w, i32_w]; rfl
             refine pw_ 30 129 ?_; refine pw_ 31 130 ?_; refine done_ (done_of HT_.out (by kernel_rfl)) ?_
             try go_wp2
             go_ret
             exact ⟨zq45_, zq58_⟩
            ·change decide (0 ≤ a3) = false at c55b0; have H' := Aside0.mk H; clear H; obtain ⟨k47, k49, k50, k51, l46, l47, l48, l49⟩ := bz4_ b0.out
             try go_wp2
             have n_ := A2_ (blk_drew b0.out) (below_drew1 HB.out); clear b0 HB; obtain ⟨b0, HB⟩ := n_; have t1 : 0 ≤ (e2 : Int) := of_decide_eq_true zq41_; have s3 : e2 < (g1.length : Int) := of_decide_eq_true zq41_; obtain ⟨v0, M0, n2, n3⟩ := at_T36 af1.out e2 t1 s3; have C0 := n3; have C1 := n2; cases M0; replace n2 := pb_ HB.out n2; replace n3 := pb_ HB.out n3; replace t1 := eq_true t1; replace s3 := eq_true s3; have t2 : 0 ≤ (e2 : Int) := of_decide_eq_true zq41_; have s4 : e2 < (g1.length : Int) := of_decide_eq_true zq41_; obtain ⟨v1, M1, n4, n5⟩ := at_T36 af1.out e2 t2 s4; have C2 := n5; have C3 := n4; obtain rfl : v0 = v1 := (by injection M1); replace n4 := pb_ HB.out n4; replace n5 := pb_ HB.out n5; replace t2 := eq_true t2; replace s4 := eq_true s4; have t3 : 0 ≤ (e2 : Int) := of_decide_eq_true zq41_; have s5 : e2 < (g1.length : Int) := of_decide_eq_true zq41_; obtain ⟨v2, M2, n6, n7⟩ := at_T36 af1.out e2 t3 s5; have C4 := n7; have C5 := n6; obtain rfl : v0 = v2 := (by injection M2); replace n6 := pb_ HB.out n6; replace n7 := pb_ HB.out n7; replace t3 := eq_true t3; replace s5 := eq_true s5; refine start_ (n := 32) (S := fun w' => w'.cell? ⟨c0, 0, none⟩ = some (.slice O0 g0.length I0) ∧ w'.cell? ⟨c0, 1, none⟩ = some (.slice (some v0) g1.length I1) ∧ w'.cell? ⟨c0, 2, none⟩ = some (.int .i64 h0) ∧ w'.cell? ⟨c0, 3, none⟩ = some (.int .i64 h1) ∧ w'.cell? (v0.add ((e2).toNat * 2)) = some (.int .i64 ((rd_T36 g1 e2).f0)) ∧ w'.cell? ⟨(v0.add ((e2).toNat * 2)).block, (v0.add ((e2).toNat * 2)).off + 1, none⟩ = some (.int .i64 ((rd_T36 g1 e2).f1)) ∧ w'.cell? (v0.add ((e2).toNat * 2)) = some (.int .i64 ((rd_T36 g1 e2).f0)) ∧ w'.cell? ⟨(v0.add ((e2).toNat * 2)).block, (v0.add ((e2).toNat * 2)).off + 1, none⟩ = some (.int .i64 ((rd_T36 g1 e2).f1)) ∧ w'.cell? (v0.add ((e2).toNat * 2)) = some (.int .i64 ((rd_T36 g1 e2).f0)) ∧ w'.cell? ⟨(v0.add ((e2).toNat * 2)).block, (v0.add ((e2).toNat * 2)).off + 1, none⟩ = some (.int .i64 ((rd_T36 g1 e2).f1))) (ds := []) #[false, false, false, false, false, false, false, false, false, false, false, false, false, false, false, false, false, false, false, false, false, false, false, false, false, false, false, false, false, false, false, false] (by kernel_rfl) rfl rfl ⟨(blk_cell b0.out 0).trans rfl, (blk_cell b0.out 1).trans rfl, (blk_cell b0.out 2).trans rfl, (blk_cell b0.out 3).trans rfl, ((HB.out.cell (World.block_lt_of_cell? w _ C1)).trans C1), ((HB.out.cell (World.block_lt_of_cell? w _ C0)).trans C0), ((HB.out.cell (World.block_lt_of_cell? w _ C3)).trans C3), ((HB.out.cell (World.block_lt_of_cell? w _ C2)).trans C2), ((HB.out.cell (World.block_lt_of_cell? w _ C5)).trans C5), ((HB.out.cell (World.block_lt_of_cell? w _ C4)).trans C4)⟩ (fun hHeld => ?_); refine with_tabW spec_ExecOk.tab11 spec_ExecOk.bits11 (fun HT_ HW_ => ?_); generalize wr.drew = r0 at b0 HB n2 n3 n4 n5 n6 n7 hHeld ⊢; refine pw_ 0 99 ?_; refine pw_ 2 101 ?_; refine tw_ 1 100 ?_; refine pw_ 3 102 ?_; refine pw_ 4 103 ?_; refine tw_ 5 104 ?_; refine on_ (i := 6) (N := some 105) rfl rfl (one_of HT_.out (by kernel_rfl)) (by decide) (fun K hK => ?_); refine goes_ Try.func75 (by kernel_rfl) rfl #[.int .i64 ((rd_T36 g1 e2).f0)] (by rfl) rfl rfl zq0_ ?_
             with_reducible refine (spec_l2Box.calls ((rd_T36 g1 e2).f0) true _ G0.out).mono ?_
             rintro e w' ⟨rfl, ⟨nd, rfl⟩⟩; refine ⟨_, rfl, ?_⟩; refine hK.out _ _ ⟨(blk_cell b0.out 0).trans rfl, (blk_cell b0.out 1).trans rfl, (blk_cell b0.out 2).trans rfl, (blk_cell b0.out 3).trans rfl, ((HB.out.cell (World.block_lt_of_cell? w _ C1)).trans C1), ((HB.out.cell (World.block_lt_of_cell? w _ C0)).trans C0), ((HB.out.cell (World.block_lt_of_cell? w _ C3)).trans C3), ((HB.out.cell (World.block_lt_of_cell? w _ C2)).trans C2), ((HB.out.cell (World.block_lt_of_cell? w _ C5)).trans C5), ((HB.out.cell (World.block_lt_of_cell? w _ C4)).trans C4)⟩ (fun hHeld => ?_); clear hK K; refine norm_ (a' := ?_) ?_ ?_
             rotate_left
             ·show Act.put _ (some 105) _ = _; simp only [Act.put, sA_, sZ_, sS_, i64_w, i32_w]; rfl
             refine pw_ 7 106 ?_; refine pw_ 8 107 ?_; refine pw_ 9 108 ?_; refine pw_ 11 110 ?_; refine tw_ 10 109 ?_; refine pw_ 12 111 ?_; refine pw_ 13 112 ?_; refine tw_ 14 113 ?_; refine on_ (i := 15) (N := some 114) rfl rfl (one_of HT_.out (by kernel_rfl)) (by decide) (fun K hK => ?_); refine goes_ Try.func74 (by kernel_rfl) rfl #[.int .i64 ((rd_T36 g1 e2).f1)] (by rfl) rfl rfl zq0_ ?_
             with_reducible refine (spec_l1Num.calls ((rd_T36 g1 e2).f1) true _ G1.out).mono ?_
             rintro e w' ⟨rfl, ⟨nd, rfl⟩⟩; refine ⟨_, rfl, ?_⟩; have s6 : (e2 : Int) ≤ ((g1.length : Int) : Int) := of_decide_eq_true zq41_; obtain ⟨bA0, aU0, _, ba0, _⟩ := info_parts info36; have bf0 : g1.length ≤ I1 := aC1.out; have bb0 : Kd.C k36 _ (some v0) g1.length g1 := af1.out; have bj0 := cut_to (P := Try.prog) 28 36 .i64 Try.underlying28 aU0 (some v0) g1.length I1 e2 (of_decide_eq_true zq41_) s6 bf0; have Y0 := Kd.C_take (m := (e2 : Int).toNat) bb0 (by omega); have K1 : N0.length = (e2 : Int).toNat := zq7d_; rw [← aa0.out] at Y0; rw [← K1] at bj0; have V0 := Aside0.mk Y0; have X1 := Aside0.mk (show N0.length ≤ I1 from by omega); clear Y0 bb0 bf0 aU0 ba0; have bF0 := Aside0.mk K1; clear K1; replace s6 := eq_true s6; refine hK.out _ _ ⟨(blk_cell b0.out 0).trans rfl, (blk_cell b0.out 1).trans rfl, (blk_cell b0.out 2).trans rfl, (blk_cell b0.out 3).trans rfl, ((HB.out.cell (World.block_lt_of_cell? w _ C1)).trans C1), ((HB.out.cell (World.block_lt_of_cell? w _ C0)).trans C0), ((HB.out.cell (World.block_lt_of_cell? w _ C3)).trans C3), ((HB.out.cell (World.block_lt_of_cell? w _ C2)).trans C2), ((HB.out.cell (World.block_lt_of_cell? w _ C5)).trans C5), ((HB.out.cell (World.block_lt_of_cell? w _ C4)).trans C4)⟩ (fun hHeld => ?_); clear hK K; refine norm_ (a' := ?_) ?_ ?_
             rotate_left
             ·show Act.put _ (some 114) _ = _; simp only [Act.put, sA_, sZ_, sS_, i64_w, i32_w]; rfl
             refine pw_ 16 115 ?_; refine pw_ 17 116 ?_; refine pw_ 18 117 ?_; refine pw_ 19 118 ?_; refine pw_ 21 120 ?_; refine pw_ 23 122 ?_; refine pw_ 25 124 ?_; refine tw_ 20 119 ?_; refine pw_ 22 121 ?_; refine tw_ 24 123 ?_; refine pw_ 26 125 ?_; refine pw_ 27 126 ?_; refine tw_ 28 127 ?_; refine on_ (i := 29) (N := some 128) rfl rfl (one_of HT_.out (by kernel_rfl)) (by decide) (fun K hK => ?_); refine goes_ Try.func77 (by kernel_rfl) rfl #[.slice (some v0) N0.length I1, .int .i64 ((rd_T36 g1 e2).f0)] (by rfl) rfl rfl zq0_ ?_
             with_reducible refine (spec_l3At.calls k3 _ _ N0 ((rd_T36 g1 e2).f0) a3 _ ?side1 ?side2 G2.out).mono ?_
             (case side1 => exact zq8e_); (case side2 => exact X1.out); rintro e w' ⟨rfl, ⟨nd, rfl⟩⟩; refine ⟨_, rfl, ?_⟩; refine hK.out _ _ ⟨(blk_cell b0.out 0).trans rfl, (blk_cell b0.out 1).trans rfl, (blk_cell b0.out 2).trans rfl, (blk_cell b0.out 3).trans rfl, ((HB.out.cell (World.block_lt_of_cell? w _ C1)).trans C1), ((HB.out.cell (World.block_lt_of_cell? w _ C0)).trans C0), ((HB.out.cell (World.block_lt_of_cell? w _ C3)).trans C3), ((HB.out.cell (World.block_lt_of_cell? w _ C2)).trans C2), ((HB.out.cell (World.block_lt_of_cell? w _ C5)).trans C5), ((HB.out.cell (World.block_lt_of_cell? w _ C4)).trans C4)⟩ (fun hHeld => ?_); clear hK K; refine norm_ (a' := ?_) ?_ ?_
             rotate_left
             ·show Act.put _ (some 128) _ = _; simp only [Act.put, sA_, sZ_, sS_, i64_w, i32_w]; rfl
             refine pw_ 30 129 ?_; refine pw_ 31 130 ?_; refine done_ (done_of HT_.out (by kernel_rfl)) ?_
             try go_wp2
             go_roundg k3
             case measure => have := av0.out; have := Z0.out; have := Z1.out; omega
             case rel => exact ⟨(wrap64 (e2 + 1)), zq46_, H', ⟨by have := av0.out; have := Z0.out; have := Z1.out; omega⟩, ⟨zq1c_⟩, ⟨zq58_⟩⟩
           ·obtain rfl := Option.some.inj H; obtain ⟨k47, k49, k50, k51, l46, l47, l48, l49⟩ := bz4_ b0.out
            try go_wp2
            have n_ := A2_ (blk_drew b0.out) (below_drew1 HB.out); clear b0 HB; obtain ⟨b0, HB⟩ := n_; have t1 : 0 ≤ (e2 : Int) := of_decide_eq_true zq41_; have s3 : e2 < (g1.length : Int) := of_decide_eq_true zq41_; obtain ⟨v0, M0, n2, n3⟩ := at_T36 af1.out e2 t1 s3; have C0 := n3; have C1 := n2; cases M0; replace n2 := pb_ HB.out n2; replace n3 := pb_ HB.out n3; replace t1 := eq_true t1; replace s3 := eq_true s3; have t2 : 0 ≤ (e2 : Int) := of_decide_eq_true zq41_; have s4 : e2 < (g1.length : Int) := of_decide_eq_true zq41_; obtain ⟨v1, M1, n4, n5⟩ := at_T36 af1.out e2 t2 s4; have C2 := n5; have C3 := n4; obtain rfl : v0 = v1 := (by injection M1); replace n4 := pb_ HB.out n4; replace n5 := pb_ HB.out n5; replace t2 := eq_true t2; replace s4 := eq_true s4; refine start_ (n := 32) (S := fun w' => w'.cell? ⟨c0, 0, none⟩ = some (.slice O0 g0.length I0) ∧ w'.cell? ⟨c0, 1, none⟩ = some (.slice (some v0) g1.length I1) ∧ w'.cell? ⟨c0, 2, none⟩ = some (.int .i64 h0) ∧ w'.cell? ⟨c0, 3, none⟩ = some (.int .i64 h1) ∧ w'.cell? (v0.add ((e2).toNat * 2)) = some (.int .i64 ((rd_T36 g1 e2).f0)) ∧ w'.cell? ⟨(v0.add ((e2).toNat * 2)).block, (v0.add ((e2).toNat * 2)).off + 1, none⟩ = some (.int .i64 ((rd_T36 g1 e2).f1)) ∧ w'.cell? (v0.add ((e2).toNat * 2)) = some (.int .i64 ((rd_T36 g1 e2).f0)) ∧ w'.cell? ⟨(v0.add ((e2).toNat * 2)).block, (v0.add ((e2).toNat * 2)).off + 1, none⟩ = some (.int .i64 ((rd_T36 g1 e2).f1))) (ds := []) #[false, false, false, false, false, false, false, false, false, false, false, false, false, false, false, false, false, false, false, false, false, false, false, false, false, false, false, false, false, false, false, false] (by kernel_rfl) rfl rfl ⟨(blk_cell b0.out 0).trans rfl, (blk_cell b0.out 1).trans rfl, (blk_cell b0.out 2).trans rfl, (blk_cell b0.out 3).trans rfl, ((HB.out.cell (World.block_lt_of_cell? w _ C1)).trans C1), ((HB.out.cell (World.block_lt_of_cell? w _ C0)).trans C0), ((HB.out.cell (World.block_lt_of_cell? w _ C3)).trans C3), ((HB.out.cell (World.block_lt_of_cell? w _ C2)).trans C2)⟩ (fun hHeld => ?_); refine with_tabW spec_ExecOk.tab11 spec_ExecOk.bits11 (fun HT_ HW_ => ?_); generalize wr.drew = r0 at b0 HB n2 n3 n4 n5 hHeld ⊢; refine pw_ 0 99 ?_; refine pw_ 2 101 ?_; refine tw_ 1 100 ?_; refine pw_ 3 102 ?_; refine pw_ 4 103 ?_; refine tw_ 5 104 ?_; refine on_ (i := 6) (N := some 105) rfl rfl (one_of HT_.out (by kernel_rfl)) (by decide) (fun K hK => ?_); refine goes_ Try.func75 (by kernel_rfl) rfl #[.int .i64 ((rd_T36 g1 e2).f0)] (by rfl) rfl rfl zq0_ ?_
            with_reducible refine (spec_l2Box.calls ((rd_T36 g1 e2).f0) true _ G0.out).mono ?_
            rintro e w' ⟨rfl, ⟨nd, rfl⟩⟩; refine ⟨_, rfl, ?_⟩; refine hK.out _ _ ⟨(blk_cell b0.out 0).trans rfl, (blk_cell b0.out 1).trans rfl, (blk_cell b0.out 2).trans rfl, (blk_cell b0.out 3).trans rfl, ((HB.out.cell (World.block_lt_of_cell? w _ C1)).trans C1), ((HB.out.cell (World.block_lt_of_cell? w _ C0)).trans C0), ((HB.out.cell (World.block_lt_of_cell? w _ C3)).trans C3), ((HB.out.cell (World.block_lt_of_cell? w _ C2)).trans C2)⟩ (fun hHeld => ?_); clear hK K; refine norm_ (a' := ?_) ?_ ?_
            rotate_left
            ·show Act.put _ (some 105) _ = _; simp only [Act.put, sA_, sZ_, sS_, i64_w, i32_w]; rfl
            refine pw_ 7 106 ?_; refine pw_ 8 107 ?_; refine pw_ 9 108 ?_; refine pw_ 11 110 ?_; refine tw_ 10 109 ?_; refine pw_ 12 111 ?_; refine pw_ 13 112 ?_; refine tw_ 14 113 ?_; refine on_ (i := 15) (N := some 114) rfl rfl (one_of HT_.out (by kernel_rfl)) (by decide) (fun K hK => ?_); refine goes_ Try.func74 (by kernel_rfl) rfl #[.int .i64 ((rd_T36 g1 e2).f1)] (by rfl) rfl rfl zq0_ ?_
            with_reducible refine (spec_l1Num.calls ((rd_T36 g1 e2).f1) false _ G1.out).mono ?_
            rintro e w' ⟨rfl, ⟨nd, rfl⟩⟩; refine ⟨_, rfl, ?_⟩; refine hK.out _ _ ⟨(blk_cell b0.out 0).trans rfl, (blk_cell b0.out 1).trans rfl, (blk_cell b0.out 2).trans rfl, (blk_cell b0.out 3).trans rfl, ((HB.out.cell (World.block_lt_of_cell? w _ C1)).trans C1), ((HB.out.cell (World.block_lt_of_cell? w _ C0)).trans C0), ((HB.out.cell (World.block_lt_of_cell? w _ C3)).trans C3), ((HB.out.cell (World.block_lt_of_cell? w _ C2)).trans C2)⟩ (fun hHeld => ?_); clear hK K; refine norm_ (a' := ?_) ?_ ?_
            rotate_left
            ·show Act.put _ (some 114) _ = _; simp only [Act.put, sA_, sZ_, sS_, i64_w, i32_w]; rfl
            refine pw_ 16 115 ?_; refine pw_ 17 116 ?_; refine pw_ 18 117 ?_; refine pu_ (i := 19) (N := some 118) (v := undef) (a' := ?_) rfl rfl (any_of HT_.out (by kernel_rfl)) (fun _ _ _ h => h) (Or.inr ⟨by rfl, rfl⟩) ?_ ?_; rotate_left; (· (simp only [Act.put, sA_, sZ_, sS_, i64_w, i32_w]; rfl)); refine pu_ (i := 20) (N := some 119) (v := undef) (a' := ?_) rfl rfl (any_of HT_.out (by kernel_rfl)) (fun _ _ _ h => h) (Or.inr ⟨by rfl, rfl⟩) ?_ ?_
            rotate_left; (· (simp only [Act.put, sA_, sZ_, sS_, i64_w, i32_w]; rfl))
            refine pu_ (i := 21) (N := some 120) (v := undef) (a' := ?_) rfl rfl (any_of HT_.out (by kernel_rfl)) (fun _ _ _ h => h) (Or.inr ⟨by rfl, rfl⟩) ?_ ?_; rotate_left; (· (simp only [Act.put, sA_, sZ_, sS_, i64_w, i32_w]; rfl)); refine pu_ (i := 22) (N := some 121) (v := undef) (a' := ?_) rfl rfl (any_of HT_.out (by kernel_rfl)) (fun _ _ _ h => h) (Or.inr ⟨by rfl, rfl⟩) ?_ ?_
            rotate_left; (· (simp only [Act.put, sA_, sZ_, sS_, i64_w, i32_w]; rfl))
            refine pu_ (i := 23) (N := some 122) (v := undef) (a' := ?_) rfl rfl (any_of HT_.out (by kernel_rfl)) (fun _ _ _ h => h) (Or.inr ⟨by rfl, rfl⟩) ?_ ?_; rotate_left; (· (simp only [Act.put, sA_, sZ_, sS_, i64_w, i32_w]; rfl)); refine pu_ (i := 24) (N := some 123) (v := undef) (a' := ?_) rfl rfl (any_of HT_.out (by kernel_rfl)) (fun _ _ _ h => h) (Or.inr ⟨by rfl, rfl⟩) ?_ ?_
            rotate_left; (· (simp only [Act.put, sA_, sZ_, sS_, i64_w, i32_w]; rfl))
            refine pu_ (i := 25) (N := some 124) (v := undef) (a' := ?_) rfl rfl (any_of HT_.out (by kernel_rfl)) (fun _ _ _ h => h) (Or.inr ⟨by rfl, rfl⟩) ?_ ?_; rotate_left; (· (simp only [Act.put, sA_, sZ_, sS_, i64_w, i32_w]; rfl)); refine pu_ (i := 26) (N := some 125) (v := undef) (a' := ?_) rfl rfl (any_of HT_.out (by kernel_rfl)) (fun _ _ _ h => h) (Or.inr ⟨by rfl, rfl⟩) ?_ ?_
            rotate_left; (· (simp only [Act.put, sA_, sZ_, sS_, i64_w, i32_w]; rfl))
            refine pu_ (i := 27) (N := some 126) (v := undef) (a' := ?_) rfl rfl (any_of HT_.out (by kernel_rfl)) (fun _ _ _ h => h) (Or.inr ⟨by rfl, rfl⟩) ?_ ?_; rotate_left; (· (simp only [Act.put, sA_, sZ_, sS_, i64_w, i32_w]; rfl)); refine pu_ (i := 28) (N := some 127) (v := undef) (a' := ?_) rfl rfl (any_of HT_.out (by kernel_rfl)) (fun _ _ _ h => h) (Or.inr ⟨by rfl, rfl⟩) ?_ ?_
            rotate_left; (· (simp only [Act.put, sA_, sZ_, sS_, i64_w, i32_w]; rfl))
            refine pu_ (i := 29) (N := some 128) (v := undef) (a' := ?_) rfl rfl (any_of HT_.out (by kernel_rfl)) (fun _ _ _ h => h) (Or.inr ⟨by rfl, rfl⟩) ?_ ?_; rotate_left; (· (simp only [Act.put, sA_, sZ_, sS_, i64_w, i32_w]; rfl)); refine pu_ (i := 30) (N := some 129) (v := undef) (a' := ?_) rfl rfl (any_of HT_.out (by kernel_rfl)) (fun _ _ _ h => h) (Or.inr ⟨by rfl, rfl⟩) ?_ ?_
            rotate_left; (· (simp only [Act.put, sA_, sZ_, sS_, i64_w, i32_w]; rfl))
            refine pw_ 31 130 ?_; refine done_ (done_of HT_.out (by kernel_rfl)) ?_
            try go_wp2
            go_ret
            exact ⟨zq45_, zq58_⟩
          ·obtain rfl := Option.some.inj H; obtain ⟨k47, k49, k50, k51, l46, l47, l48, l49⟩ := bz4_ b0.out
           try go_wp2
           have n_ := A2_ (blk_drew b0.out) (below_drew1 HB.out); clear b0 HB; obtain ⟨b0, HB⟩ := n_; have t1 : 0 ≤ (e2 : Int) := of_decide_eq_true zq41_; have s3 : e2 < (g1.length : Int) := of_decide_eq_true zq41_; obtain ⟨v0, M0, n2, n3⟩ := at_T36 af1.out e2 t1 s3; have C0 := n3; have C1 := n2; cases M0; replace n2 := pb_ HB.out n2; replace n3 := pb_ HB.out n3; replace t1 := eq_true t1; replace s3 := eq_true s3; refine start_ (n := 32) (S := fun w' => w'.cell? ⟨c0, 0, none⟩ = some (.slice O0 g0.length I0) ∧ w'.cell? ⟨c0, 1, none⟩ = some (.slice (some v0) g1.length I1) ∧ w'.cell? ⟨c0, 2, none⟩ = some (.int .i64 h0) ∧ w'.cell? ⟨c0, 3, none⟩ = some (.int .i64 h1) ∧ w'.cell? (v0.add ((e2).toNat * 2)) = some (.int .i64 ((rd_T36 g1 e2).f0)) ∧ w'.cell? ⟨(v0.add ((e2).toNat * 2)).block, (v0.add ((e2).toNat * 2)).off + 1, none⟩ = some (.int .i64 ((rd_T36 g1 e2).f1))) (ds := []) #[false, false, false, false, false, false, false, false, false, false, false, false, false, false, false, false, false, false, false, false, false, false, false, false, false, false, false, false, false, false, false, false] (by kernel_rfl) rfl rfl ⟨(blk_cell b0.out 0).trans rfl, (blk_cell b0.out 1).trans rfl, (blk_cell b0.out 2).trans rfl, (blk_cell b0.out 3).trans rfl, ((HB.out.cell (World.block_lt_of_cell? w _ C1)).trans C1), ((HB.out.cell (World.block_lt_of_cell? w _ C0)).trans C0)⟩ (fun hHeld => ?_); refine with_tabW spec_ExecOk.tab11 spec_ExecOk.bits11 (fun HT_ HW_ => ?_); generalize wr.drew = r0 at b0 HB n2 n3 hHeld ⊢; refine pw_ 0 99 ?_; refine pw_ 2 101 ?_; refine tw_ 1 100 ?_; refine pw_ 3 102 ?_; refine pw_ 4 103 ?_; refine tw_ 5 104 ?_; refine on_ (i := 6) (N := some 105) rfl rfl (one_of HT_.out (by kernel_rfl)) (by decide) (fun K hK => ?_); refine goes_ Try.func75 (by kernel_rfl) rfl #[.int .i64 ((rd_T36 g1 e2).f0)] (by rfl) rfl rfl zq0_ ?_
           with_reducible refine (spec_l2Box.calls ((rd_T36 g1 e2).f0) false _ G0.out).mono ?_
           rintro e w' ⟨rfl, ⟨nd, rfl⟩⟩; refine ⟨_, rfl, ?_⟩; refine hK.out _ _ ⟨(blk_cell b0.out 0).trans rfl, (blk_cell b0.out 1).trans rfl, (blk_cell b0.out 2).trans rfl, (blk_cell b0.out 3).trans rfl, ((HB.out.cell (World.block_lt_of_cell? w _ C1)).trans C1), ((HB.out.cell (World.block_lt_of_cell? w _ C0)).trans C0)⟩ (fun hHeld => ?_); clear hK K; refine norm_ (a' := ?_) ?_ ?_
           rotate_left
           ·show Act.put _ (some 105) _ = _; simp only [Act.put, sA_, sZ_, sS_, i64_w, i32_w]; rfl
           refine pw_ 7 106 ?_; refine pw_ 8 107 ?_; refine pu_ (i := 9) (N := some 108) (v := undef) (a' := ?_) rfl rfl (any_of HT_.out (by kernel_rfl)) (fun _ _ _ h => h) (Or.inr ⟨by rfl, rfl⟩) ?_ ?_; rotate_left; (· (simp only [Act.put, sA_, sZ_, sS_, i64_w, i32_w]; rfl)); refine pu_ (i := 10) (N := some 109) (v := undef) (a' := ?_) rfl rfl (any_of HT_.out (by kernel_rfl)) (fun _ _ _ h => h) (Or.inr ⟨by rfl, rfl⟩) ?_ ?_
           rotate_left; (· (simp only [Act.put, sA_, sZ_, sS_, i64_w, i32_w]; rfl))
           refine pu_ (i := 11) (N := some 110) (v := undef) (a' := ?_) rfl rfl (any_of HT_.out (by kernel_rfl)) (fun _ _ _ h => h) (Or.inr ⟨by rfl, rfl⟩) ?_ ?_; rotate_left; (· (simp only [Act.put, sA_, sZ_, sS_, i64_w, i32_w]; rfl)); refine pu_ (i := 12) (N := some 111) (v := undef) (a' := ?_) rfl rfl (any_of HT_.out (by kernel_rfl)) (fun _ _ _ h => h) (Or.inr ⟨by rfl, rfl⟩) ?_ ?_
           rotate_left; (· (simp only [Act.put, sA_, sZ_, sS_, i64_w, i32_w]; rfl))
           refine pu_ (i := 13) (N := some 112) (v := undef) (a' := ?_) rfl rfl (any_of HT_.out (by kernel_rfl)) (fun _ _ _ h => h) (Or.inr ⟨by rfl, rfl⟩) ?_ ?_; rotate_left; (· (simp only [Act.put, sA_, sZ_, sS_, i64_w, i32_w]; rfl)); refine pu_ (i := 14) (N := some 113) (v := undef) (a' := ?_) rfl rfl (any_of HT_.out (by kernel_rfl)) (fun _ _ _ h => h) (Or.inr ⟨by rfl, rfl⟩) ?_ ?_
           rotate_left; (· (simp only [Act.put, sA_, sZ_, sS_, i64_w, i32_w]; rfl))
           refine pu_ (i := 15) (N := some 114) (v := undef) (a' := ?_) rfl rfl (any_of HT_.out (by kernel_rfl)) (fun _ _ _ h => h) (Or.inr ⟨by rfl, rfl⟩) ?_ ?_; rotate_left; (· (simp only [Act.put, sA_, sZ_, sS_, i64_w, i32_w]; rfl)); refine pu_ (i := 16) (N := some 115) (v := undef) (a' := ?_) rfl rfl (any_of HT_.out (by kernel_rfl)) (fun _ _ _ h => h) (Or.inr ⟨by rfl, rfl⟩) ?_ ?_
           rotate_left; (· (simp only [Act.put, sA_, sZ_, sS_, i64_w, i32_w]; rfl))
           refine pw_ 17 116 ?_; refine pw_ 18 117 ?_; refine pu_ (i := 19) (N := some 118) (v := undef) (a' := ?_) rfl rfl (any_of HT_.out (by kernel_rfl)) (fun _ _ _ h => h) (Or.inr ⟨by rfl, rfl⟩) ?_ ?_; rotate_left; (· (simp only [Act.put, sA_, sZ_, sS_, i64_w, i32_w]; rfl)); refine pu_ (i := 20) (N := some 119) (v := undef) (a' := ?_) rfl rfl (any_of HT_.out (by kernel_rfl)) (fun _ _ _ h => h) (Or.inr ⟨by rfl, rfl⟩) ?_ ?_
           rotate_left; (· (simp only [Act.put, sA_, sZ_, sS_, i64_w, i32_w]; rfl))
           refine pu_ (i := 21) (N := some 120) (v := undef) (a' := ?_) rfl rfl (any_of HT_.out (by kernel_rfl)) (fun _ _ _ h => h) (Or.inr ⟨by rfl, rfl⟩) ?_ ?_; rotate_left; (· (simp only [Act.put, sA_, sZ_, sS_, i64_w, i32_w]; rfl)); refine pu_ (i := 22) (N := some 121) (v := undef) (a' := ?_) rfl rfl (any_of HT_.out (by kernel_rfl)) (fun _ _ _ h => h) (Or.inr ⟨by rfl, rfl⟩) ?_ ?_
           rotate_left; (· (simp only [Act.put, sA_, sZ_, sS_, i64_w, i32_w]; rfl))
           refine pu_ (i := 23) (N := some 122) (v := undef) (a' := ?_) rfl rfl (any_of HT_.out (by kernel_rfl)) (fun _ _ _ h => h) (Or.inr ⟨by rfl, rfl⟩) ?_ ?_; rotate_left; (· (simp only [Act.put, sA_, sZ_, sS_, i64_w, i32_w]; rfl)); refine pu_ (i := 24) (N := some 123) (v := undef) (a' := ?_) rfl rfl (any_of HT_.out (by kernel_rfl)) (fun _ _ _ h => h) (Or.inr ⟨by rfl, rfl⟩) ?_ ?_
           rotate_left; (· (simp only [Act.put, sA_, sZ_, sS_, i64_w, i32_w]; rfl))
           refine pu_ (i := 25) (N := some 124) (v := undef) (a' := ?_) rfl rfl (any_of HT_.out (by kernel_rfl)) (fun _ _ _ h => h) (Or.inr ⟨by rfl, rfl⟩) ?_ ?_; rotate_left; (· (simp only [Act.put, sA_, sZ_, sS_, i64_w, i32_w]; rfl)); refine pu_ (i := 26) (N := some 125) (v := undef) (a' := ?_) rfl rfl (any_of HT_.out (by kernel_rfl)) (fun _ _ _ h => h) (Or.inr ⟨by rfl, rfl⟩) ?_ ?_
           rotate_left; (· (simp only [Act.put, sA_, sZ_, sS_, i64_w, i32_w]; rfl))
           refine pu_ (i := 27) (N := some 126) (v := undef) (a' := ?_) rfl rfl (any_of HT_.out (by kernel_rfl)) (fun _ _ _ h => h) (Or.inr ⟨by rfl, rfl⟩) ?_ ?_; rotate_left; (· (simp only [Act.put, sA_, sZ_, sS_, i64_w, i32_w]; rfl)); refine pu_ (i := 28) (N := some 127) (v := undef) (a' := ?_) rfl rfl (any_of HT_.out (by kernel_rfl)) (fun _ _ _ h => h) (Or.inr ⟨by rfl, rfl⟩) ?_ ?_
           rotate_left; (· (simp only [Act.put, sA_, sZ_, sS_, i64_w, i32_w]; rfl))
           refine pu_ (i := 29) (N := some 128) (v := undef) (a' := ?_) rfl rfl (any_of HT_.out (by kernel_rfl)) (fun _ _ _ h => h) (Or.inr ⟨by rfl, rfl⟩) ?_ ?_; rotate_left; (· (simp only [Act.put, sA_, sZ_, sS_, i64_w, i32_w]; rfl)); refine pu_ (i := 30) (N := some 129) (v := undef) (a' := ?_) rfl rfl (any_of HT_.out (by kernel_rfl)) (fun _ _ _ h => h) (Or.inr ⟨by rfl, rfl⟩) ?_ ?_
           rotate_left; (· (simp only [Act.put, sA_, sZ_, sS_, i64_w, i32_w]; rfl))
           refine pw_ 31 130 ?_; refine done_ (done_of HT_.out (by kernel_rfl)) ?_
           try go_wp2
           go_ret
           exact ⟨zq45_, zq58_⟩
         ·obtain rfl := Option.some.inj H; obtain ⟨k47, k49, k50, k51, l46, l47, l48, l49⟩ := bz4_ b0.out
          go_wp2
          go_ret
          exact ⟨zq45_, zq58_⟩

end Go.Proofs.Ytgdafcakefnpdaa.PFnExecDo
