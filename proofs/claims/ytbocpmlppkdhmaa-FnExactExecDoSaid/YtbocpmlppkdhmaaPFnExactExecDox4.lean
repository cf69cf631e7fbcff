-- Laid by this session's program out of the translation (gen.sh).
import Derived.Test.YtbocpmlppkdhmaaPFnExactExecDox0
import Derived.Test.YtbocpmlppkdhmaaPFnExactExecDox3
namespace Go.Proofs.Ytbocpmlppkdhmaa.PFnExactExecDo
open Go.RowKit Go.Proofs.YtbocpmlppkdhmaaW.PrintWords Go.Proofs.YtbocpmlppkdhmaaW.PrintLast Go.Proofs.YtbocpmlppkdhmaaW.PrintMore
attribute [local go_sem] max2_int min2_int max_two min_two max_three min_three max_four min_four   -- for this text's walks alone
set_option linter.unusedVariables false
set_option linter.unusedSimpArgs false

/-! ### spec_ExecOk: function 30 -/
mutual
def spec_ExecOk.j0 : Nat → Bool → List (S98) → List (S118) → Int → Int → Option (Bool)
  | 0, _, _, _, _, _ => none
  | k + 1, x45, x165000, x165001, x165002, x165003 => if x45 = true then (some false) else (spec_ExecOk.l0 k 0 x165000 x165001 x165002 x165003)
def spec_ExecOk.l0 : Nat → Int → List (S98) → List (S118) → Int → Int → Option (Bool)
  | 0, _, _, _, _, _ => none
  | k + 1, x3, x165000, x165001, x165002, x165003 => if x3 < (x165000.length : Int) then (if 0 ≤ x3 then ((spec_l2Box.f ((rd_T98 x165000 x3).f0)).bind fun t167 => (if t167 = true then (if ((rd_T98 x165000 x3).f1) < 0 then (some false) else (if ((rd_T98 x165000 x3).f1) > 1000000 then (some false) else (if x3 ≤ (x165000.length : Int) then ((spec_l3Saw.f k (x165000.take (x3 : Int).toNat) ((rd_T98 x165000 x3).f0)).bind fun t175 => (if t175 = true then (some false) else (spec_ExecOk.l0 k (wrap64 (x3 + 1)) x165000 x165001 x165002 x165003))) else (none)))) else (some false))) else (none)) else (spec_ExecOk.l1 k 0 x165000 x165001 x165002 x165003)
def spec_ExecOk.l1 : Nat → Int → List (S98) → List (S118) → Int → Int → Option (Bool)
  | 0, _, _, _, _, _ => none
  | k + 1, x4, x165000, x165001, x165002, x165003 => if x4 < (x165001.length : Int) then (if 0 ≤ x4 then ((spec_l2Box.f ((rd_T118 x165001 x4).f0)).bind fun t177 => (if t177 = true then ((spec_l1Num.f ((rd_T118 x165001 x4).f1)).bind fun t179 => (if t179 = true then (if x4 ≤ (x165001.length : Int) then ((spec_l3At.f k (x165001.take (x4 : Int).toNat) ((rd_T118 x165001 x4).f0)).bind fun t185 => (if t185 ≥ 0 then (some false) else (spec_ExecOk.l1 k (wrap64 (x4 + 1)) x165000 x165001 x165002 x165003))) else (none)) else (some false))) else (some false))) else (none)) else (some true)
end
def spec_ExecOk.f (k : Nat) (l0_0 : List (S98)) (l0_1 : List (S118)) (a0_2 : Int) (a0_3 : Int) : Option (Bool) := if a0_3 < 0 then (spec_ExecOk.j0 k true l0_0 l0_1 a0_2 a0_3) else (if a0_3 > 3 then (spec_ExecOk.j0 k true l0_0 l0_1 a0_2 a0_3) else ((spec_l1Num.f a0_2).bind fun t165 => (if t165 = true then (if a0_3 = 0 then (if a0_3 = 3 then (spec_ExecOk.j0 k (decide ((l0_0.length : Int) > 0)) l0_0 l0_1 a0_2 a0_3) else (spec_ExecOk.j0 k false l0_0 l0_1 a0_2 a0_3)) else (if a0_2 = 0 then (if (l0_1.length : Int) > 0 then (spec_ExecOk.j0 k true l0_0 l0_1 a0_2 a0_3) else (if a0_3 = 3 then (spec_ExecOk.j0 k (decide ((l0_0.length : Int) > 0)) l0_0 l0_1 a0_2 a0_3) else (spec_ExecOk.j0 k false l0_0 l0_1 a0_2 a0_3))) else (spec_ExecOk.j0 k true l0_0 l0_1 a0_2 a0_3))) else (spec_ExecOk.j0 k true l0_0 l0_1 a0_2 a0_3))))
theorem spec_ExecOk.mono_l : ∀ k, (∀ y0 y1 y2 y3 y4, LeO (spec_ExecOk.j0 k y0 y1 y2 y3 y4) (spec_ExecOk.j0 (k + 1) y0 y1 y2 y3 y4)) ∧ (∀ y0 y1 y2 y3 y4, LeO (spec_ExecOk.l0 k y0 y1 y2 y3 y4) (spec_ExecOk.l0 (k + 1) y0 y1 y2 y3 y4)) ∧ (∀ y0 y1 y2 y3 y4, LeO (spec_ExecOk.l1 k y0 y1 y2 y3 y4) (spec_ExecOk.l1 (k + 1) y0 y1 y2 y3 y4))
  | 0 => ⟨fun _ _ _ _ _ r h => by simp [spec_ExecOk.j0] at h, fun _ _ _ _ _ r h => by simp [spec_ExecOk.l0] at h, fun _ _ _ _ _ r h => by simp [spec_ExecOk.l1] at h⟩
  | k + 1 => by
    obtain ⟨ih0, ih1, ih2⟩ := spec_ExecOk.mono_l k
    refine ⟨?_, ?_, ?_⟩
    · intro y0 y1 y2 y3 y4
      unfold spec_ExecOk.j0
      repeat' first
      | (with_reducible exact ih0 _ _ _ _ _)
      | (with_reducible exact ih1 _ _ _ _ _)
      | (with_reducible exact ih2 _ _ _ _ _)
      | (with_reducible exact spec_l3At.mono _ _ _)
      | (with_reducible exact spec_l3Saw.mono _ _ _)
      | (with_reducible exact LeO.refl _)
      | (with_reducible exact LeO.none _)
      | (with_reducible refine LeO.ite ?_ ?_)
      | (with_reducible refine LeO.bind ?_ (fun _ => ?_))
      | exact ih0 _ _ _ _ _
      | exact ih1 _ _ _ _ _
      | exact ih2 _ _ _ _ _
      | exact spec_l3At.mono _ _ _
      | exact spec_l3Saw.mono _ _ _
      | exact LeO.none _
      | refine LeO.ite ?_ ?_
      | refine LeO.bind ?_ (fun _ => ?_)
    · intro y0 y1 y2 y3 y4
      unfold spec_ExecOk.l0
      repeat' first
      | (with_reducible exact ih0 _ _ _ _ _)
      | (with_reducible exact ih1 _ _ _ _ _)
      | (with_reducible exact ih2 _ _ _ _ _)
      | (with_reducible exact spec_l3At.mono _ _ _)
      | (with_reducible exact spec_l3Saw.mono _ _ _)
      | (with_reducible exact LeO.refl _)
      | (with_reducible exact LeO.none _)
      | (with_reducible refine LeO.ite ?_ ?_)
      | (with_reducible refine LeO.bind ?_ (fun _ => ?_))
      | exact ih0 _ _ _ _ _
      | exact ih1 _ _ _ _ _
      | exact ih2 _ _ _ _ _
      | exact spec_l3At.mono _ _ _
      | exact spec_l3Saw.mono _ _ _
      | exact LeO.none _
      | refine LeO.ite ?_ ?_
      | refine LeO.bind ?_ (fun _ => ?_)
    · intro y0 y1 y2 y3 y4
      unfold spec_ExecOk.l1
      repeat' first
      | (with_reducible exact ih0 _ _ _ _ _)
      | (with_reducible exact ih1 _ _ _ _ _)
      | (with_reducible exact ih2 _ _ _ _ _)
      | (with_reducible exact spec_l3At.mono _ _ _)
      | (with_reducible exact spec_l3Saw.mono _ _ _)
      | (with_reducible exact LeO.refl _)
      | (with_reducible exact LeO.none _)
      | (with_reducible refine LeO.ite ?_ ?_)
      | (with_reducible refine LeO.bind ?_ (fun _ => ?_))
      | exact ih0 _ _ _ _ _
      | exact ih1 _ _ _ _ _
      | exact ih2 _ _ _ _ _
      | exact spec_l3At.mono _ _ _
      | exact spec_l3Saw.mono _ _ _
      | exact LeO.none _
      | refine LeO.ite ?_ ?_
      | refine LeO.bind ?_ (fun _ => ?_)
theorem spec_ExecOk.mono : ∀ a0 a1 a2 a3 k, LeO (spec_ExecOk.f k a0 a1 a2 a3) (spec_ExecOk.f (k + 1) a0 a1 a2 a3) := by
  intro a0 a1 a2 a3 k
  obtain ⟨ih0, ih1, ih2⟩ := spec_ExecOk.mono_l k
  unfold spec_ExecOk.f
  repeat' first
      | (with_reducible exact ih0 _ _ _ _ _)
      | (with_reducible exact ih1 _ _ _ _ _)
      | (with_reducible exact ih2 _ _ _ _ _)
      | (with_reducible exact spec_l3At.mono _ _ _)
      | (with_reducible exact spec_l3Saw.mono _ _ _)
      | (with_reducible exact LeO.refl _)
      | (with_reducible exact LeO.none _)
      | (with_reducible refine LeO.ite ?_ ?_)
      | (with_reducible refine LeO.bind ?_ (fun _ => ?_))
      | exact ih0 _ _ _ _ _
      | exact ih1 _ _ _ _ _
      | exact ih2 _ _ _ _ _
      | exact spec_l3At.mono _ _ _
      | exact spec_l3Saw.mono _ _ _
      | exact LeO.none _
      | refine LeO.ite ?_ ?_
      | refine LeO.bind ?_ (fun _ => ?_)
def spec_ExecOk.T6 : Bool × List (List Nat × List Nat) := (true, [([], []), ([0], [0]), ([], []), ([1, 2], [1, 2]), ([3], [3]), ([4], [4]), ([5], [5]), ([6], [6]), ([7, 6], [7]), ([8], [8]), ([9, 8], [8, 9]), ([8], [8]), ([10, 11, 8], [8, 10, 11]), ([12, 8], [8, 12]), ([13, 8], [8, 13]), ([14, 8], [8, 14]), ([8, 15], [8, 15]), ([16, 8], [16]), ([17], [17]), ([18, 17], [17, 18]), ([17], [17]), ([19, 20, 17], [17, 19, 20]), ([21, 17], [17, 21]), ([22, 17], [17, 22]), ([23, 17], [17, 23]), ([17, 24], [17, 24]), ([25, 17], [25]), ([26], [26]), ([27, 26], [26, 27]), ([26], [26]), ([28, 29, 26], [26, 28, 29]), ([26], [26]), ([31, 26], [26, 31]), ([26], [26]), ([32, 33, 26], [26, 32, 33]), ([34, 26], [26, 34]), ([35, 26], [26, 35]), ([30, 36, 26, 26], [26, 30, 36]), ([26, 37], [26, 37])])
def spec_ExecOk.B6 : List Nat := [0, 1, 0, 7, 15, 31, 63, 127, 255, 511, 1023, 511, 4095, 8191, 16383, 32767, 65535, 131071, 262143, 524287, 262143, 2097151, 4194303, 8388607, 16777215, 33554431, 67108863, 134217727, 268435455, 134217727, 1073741823, 134217727, 2281701375, 134217727, 15166603263, 32346472447, 66706210815, 137438953471, 274877906943]
theorem spec_ExecOk.tab6 : rtab .any (opsOf Try.f30 6) = spec_ExecOk.T6 := by kernel_rfl
theorem spec_ExecOk.bits6 : waitsOk spec_ExecOk.T6.2 spec_ExecOk.B6 = true := by kernel_rfl
def spec_ExecOk.T11 : Bool × List (List Nat × List Nat) := (true, [([], []), ([0], [0]), ([], []), ([1, 2], [1, 2]), ([3], [3]), ([4], [4]), ([5], [5]), ([6], [6]), ([7, 6], [7]), ([8], [8]), ([9, 8], [8, 9]), ([8], [8]), ([10, 11, 8], [8, 10, 11]), ([12, 8], [8, 12]), ([13, 8], [8, 13]), ([14, 8, 8], [8, 14]), ([15, 8], [8, 15]), ([8, 16], [8, 16]), ([17, 15], [17]), ([18], [18]), ([19, 18], [18, 19]), ([18], [18]), ([20, 21, 18], [18, 20, 21]), ([18], [18]), ([23, 18], [18, 23]), ([18], [18]), ([24, 25, 18], [18, 24, 25]), ([26, 18], [18, 26]), ([27, 18], [18, 27]), ([22, 28, 18, 18], [18, 22, 28]), ([29, 18], [18, 29]), ([18, 30], [18, 30])])
def spec_ExecOk.B11 : List Nat := [0, 1, 0, 7, 15, 31, 63, 127, 255, 511, 1023, 511, 4095, 8191, 16383, 32767, 65535, 131071, 262143, 524287, 1048575, 524287, 4194303, 524287, 8912895, 524287, 59244543, 126353407, 260571135, 536870911, 1073741823, 2147483647]
theorem spec_ExecOk.tab11 : rtab .any (opsOf Try.f30 11) = spec_ExecOk.T11 := by kernel_rfl
theorem spec_ExecOk.bits11 : waitsOk spec_ExecOk.T11.2 spec_ExecOk.B11 = true := by kernel_rfl
set_option maxHeartbeats 8000000 in
set_option maxRecDepth 100000 in
theorem spec_ExecOk.calls (k : Nat) (A0_0 : Option Addr) (c0_0 : Nat) (l0_0 : List (S98)) (A0_1 : Option Addr) (c0_1 : Nat) (l0_1 : List (S118)) (a0_2 : Int) (a0_3 : Int) (r : Bool) (w : World) (hr0_0 : Kd.C k98 w A0_0 l0_0.length l0_0) (hc0_0 : l0_0.length ≤ c0_0) (hr0_1 : Kd.C k118 w A0_1 l0_1.length l0_1) (hc0_1 : l0_1.length ≤ c0_1) (h : spec_ExecOk.f k l0_0 l0_1 a0_2 a0_3 = some r) :
    Calls Try.prog 30 #[.agg #[.slice A0_0 l0_0.length c0_0, .slice A0_1 l0_1.length c0_1, .int .i64 a0_2, .int .i64 a0_3]] w fun e w' => e = .returned (.bool r) ∧ Below w.heap.size w w' := by
  have hu55 := Try.underlying55
  have HR0_0 := Aside0.mk hr0_0
  have HC0_0 := Aside0.mk hc0_0
  clear hr0_0 hc0_0
  have HR0_1 := Aside0.mk hr0_1
  have HC0_1 := Aside0.mk hc0_1
  clear hr0_1 hc0_1
  have HB := Aside0.mk (Below.refl w.heap.size w)
  have H : (if a0_3 < 0 then (spec_ExecOk.j0 k true l0_0 l0_1 a0_2 a0_3) else (if a0_3 > 3 then (spec_ExecOk.j0 k true l0_0 l0_1 a0_2 a0_3) else ((spec_l1Num.f a0_2).bind fun t165 => (if t165 = true then (if a0_3 = 0 then (if a0_3 = 3 then (spec_ExecOk.j0 k (decide ((l0_0.length : Int) > 0)) l0_0 l0_1 a0_2 a0_3) else (spec_ExecOk.j0 k false l0_0 l0_1 a0_2 a0_3)) else (if a0_2 = 0 then (if (l0_1.length : Int) > 0 then (spec_ExecOk.j0 k true l0_0 l0_1 a0_2 a0_3) else (if a0_3 = 3 then (spec_ExecOk.j0 k (decide ((l0_0.length : Int) > 0)) l0_0 l0_1 a0_2 a0_3) else (spec_ExecOk.j0 k false l0_0 l0_1 a0_2 a0_3))) else (spec_ExecOk.j0 k true l0_0 l0_1 a0_2 a0_3))) else (spec_ExecOk.j0 k true l0_0 l0_1 a0_2 a0_3))))) = some r := h
  clear h
  have HC2 := Aside0.mk H
  clear H
  go_enter Try.func30, Try.ntmps30
  go_upto_region 1 with (first | ((with_reducible refine gate_dst (N := 1) rfl ?_); (try (refine gate_guard (by rfl) ?_; dsimp only)); refine box_event ?hg (N := 1) ?hd (cs := #[.slice A0_0 l0_0.length c0_0, .slice A0_1 l0_1.length c0_1, .int .i64 a0_2, .int .i64 a0_3]) (t := 55) ?hr ?_; (case hd => rfl); (case hg => rfl); (case hr => first | (go_simp; done) | (go_simp; rfl)); intro gb164 hg w3 hbox hb; have n0_ := Aside0.mk (below_step (by repeat (first | (with_reducible first | exact HB.out | apply below_alloc | apply pw_below_drewN | apply below_drew1) | exact HB.out)) hb); have n1_ := Aside0.mk (hbox); have n2_ := Aside0.mk ((by rw [hg]; exact (below_size (by repeat (first | (with_reducible first | exact HB.out | apply below_alloc | apply pw_below_drewN | apply below_drew1) | exact HB.out))) : w.heap.size ≤ gb164)); have n3_ := Aside0.mk ((by rw [hg]; exact (below_size (by repeat (first | (with_reducible first | exact HB.out | apply below_alloc | apply pw_below_drewN | apply below_drew1) | exact HB.out))) : w.heap.size ≤ gb164)); clear HB; have HB := n0_; have BK164 := n1_; have GW164 := n2_; have GE164 := n3_; clear n0_ n1_ n2_ n3_; clear hb hbox hg))
  (try simp only [Act.put, List.setIfInBounds_toArray, List.set_cons_zero, List.set_cons_succ])
  go_cut [45] (fun v45 wc => ∃ (kq : Nat) (x45_1 : Bool), v45 = .bool x45_1 ∧ Aside0 (spec_ExecOk.j0 kq x45_1 l0_0 l0_1 a0_2 a0_3 = some r) ∧ Aside0 (kq ≤ k) ∧ Aside0 (wc.heap[gb164]? = some (.cells #[(.slice A0_0 l0_0.length c0_0), (.slice A0_1 l0_1.length c0_1), .int .i64 a0_2, .int .i64 a0_3] 55 (0, 0))) ∧ Aside0 (Below w.heap.size w wc))
  case first =>
    have H := HC2.out
    clear HC2
    by_cases c4 : a0_3 < 0
    · rw [if_pos c4] at H
      have c4b0 : decide (a0_3 < 0) = true := decide_eq_true c4
      clear c4
      (first | rw [c4b0] | (simp only [i64_w, i32_w]; rw [c4b0]) | skip)
      have H' := Aside0.mk H
      clear H
      have hcz5_0 : w3.cell? ⟨gb164, 0, none⟩ = some (.slice A0_0 l0_0.length c0_0) := (blk_cell BK164.out 0).trans rfl
      have hcz5_1 : w3.cell? ⟨gb164, 1, none⟩ = some (.slice A0_1 l0_1.length c0_1) := (blk_cell BK164.out 1).trans rfl
      have hcz5_2 : w3.cell? ⟨gb164, 2, none⟩ = some (.int .i64 a0_2) := (blk_cell BK164.out 2).trans rfl
      have hcz5_3 : w3.cell? ⟨gb164, 3, none⟩ = some (.int .i64 a0_3) := (blk_cell BK164.out 3).trans rfl
      have hfz5_0 := blk_frozen BK164.out 0
      have hfz5_1 := blk_frozen BK164.out 1
      have hfz5_2 := blk_frozen BK164.out 2
      have hfz5_3 := blk_frozen BK164.out 3
      go_wp2
      go_meet
      case rel => exact ⟨_, (true), (by first | rfl | (simp; done) | (simp [*]; done)), H', ⟨by first | omega | exact Nat.le_refl _⟩, ⟨by (with_reducible repeat (first | refine blk_drewN ?_ _ | refine blk_drew ?_ | refine blk_alloc ?_ _)); exact BK164.out⟩, ⟨by repeat (first | (with_reducible first | exact HB.out | apply below_alloc | apply pw_below_drewN | apply below_drew1 | refine below_set ?_ GE164.out) | exact HB.out)⟩⟩
    · rw [if_neg c4] at H
      have c4b0 : decide (a0_3 < 0) = false := decide_eq_false c4
      clear c4
      (first | rw [c4b0] | (simp only [i64_w, i32_w]; rw [c4b0]) | skip)
      by_cases c6 : a0_3 > 3
      · rw [if_pos c6] at H
        have c6b0 : decide (3 < a0_3) = true := decide_eq_true c6
        clear c6
        have H' := Aside0.mk H
        clear H
        have hcz7_0 : w3.cell? ⟨gb164, 0, none⟩ = some (.slice A0_0 l0_0.length c0_0) := (blk_cell BK164.out 0).trans rfl
        have hcz7_1 : w3.cell? ⟨gb164, 1, none⟩ = some (.slice A0_1 l0_1.length c0_1) := (blk_cell BK164.out 1).trans rfl
        have hcz7_2 : w3.cell? ⟨gb164, 2, none⟩ = some (.int .i64 a0_2) := (blk_cell BK164.out 2).trans rfl
        have hcz7_3 : w3.cell? ⟨gb164, 3, none⟩ = some (.int .i64 a0_3) := (blk_cell BK164.out 3).trans rfl
        have hfz7_0 := blk_frozen BK164.out 0
        have hfz7_1 := blk_frozen BK164.out 1
        have hfz7_2 := blk_frozen BK164.out 2
        have hfz7_3 := blk_frozen BK164.out 3
        go_wp2
        go_meet
        case rel => exact ⟨_, (true), (by first | rfl | (simp; done) | (simp [*]; done)), H', ⟨by first | omega | exact Nat.le_refl _⟩, ⟨by (with_reducible repeat (first | refine blk_drewN ?_ _ | refine blk_drew ?_ | refine blk_alloc ?_ _)); exact BK164.out⟩, ⟨by repeat (first | (with_reducible first | exact HB.out | apply below_alloc | apply pw_below_drewN | apply below_drew1 | refine below_set ?_ GE164.out) | exact HB.out)⟩⟩
      · rw [if_neg c6] at H
        have c6b0 : decide (3 < a0_3) = false := decide_eq_false c6
        clear c6
        replace H := Option.bind_eq_some_iff.mp H
        obtain ⟨t165, A80, H⟩ := H
        replace H : (if t165 = true then (if a0_3 = 0 then (if a0_3 = 3 then (spec_ExecOk.j0 k (decide ((l0_0.length : Int) > 0)) l0_0 l0_1 a0_2 a0_3) else (spec_ExecOk.j0 k false l0_0 l0_1 a0_2 a0_3)) else (if a0_2 = 0 then (if (l0_1.length : Int) > 0 then (spec_ExecOk.j0 k true l0_0 l0_1 a0_2 a0_3) else (if a0_3 = 3 then (spec_ExecOk.j0 k (decide ((l0_0.length : Int) > 0)) l0_0 l0_1 a0_2 a0_3) else (spec_ExecOk.j0 k false l0_0 l0_1 a0_2 a0_3))) else (spec_ExecOk.j0 k true l0_0 l0_1 a0_2 a0_3))) else (spec_ExecOk.j0 k true l0_0 l0_1 a0_2 a0_3)) = some r := H
        have A8 := Aside0.mk A80
        clear A80
        by_cases c9 : t165 = true
        · subst c9
          have H1 : (if a0_3 = 0 then (if a0_3 = 3 then (spec_ExecOk.j0 k (decide ((l0_0.length : Int) > 0)) l0_0 l0_1 a0_2 a0_3) else (spec_ExecOk.j0 k false l0_0 l0_1 a0_2 a0_3)) else (if a0_2 = 0 then (if (l0_1.length : Int) > 0 then (spec_ExecOk.j0 k true l0_0 l0_1 a0_2 a0_3) else (if a0_3 = 3 then (spec_ExecOk.j0 k (decide ((l0_0.length : Int) > 0)) l0_0 l0_1 a0_2 a0_3) else (spec_ExecOk.j0 k false l0_0 l0_1 a0_2 a0_3))) else (spec_ExecOk.j0 k true l0_0 l0_1 a0_2 a0_3))) = some r := by rw [if_pos rfl] at H; exact H
          clear H
          have H := H1
          clear H1
          by_cases c10 : a0_3 = 0
          · rw [if_pos c10] at H
            have c10b0 : (a0_3 == 0) = true := beq_iff_eq.mpr c10
            have c10b1 : (a0_3 != 0) = false := bne_eq_false_iff_eq.mpr c10
            clear c10
            by_cases c11 : a0_3 = 3
            · rw [if_pos c11] at H
              have c11b0 : (a0_3 == 3) = true := beq_iff_eq.mpr c11
              have c11b1 : (a0_3 != 3) = false := bne_eq_false_iff_eq.mpr c11
              clear c11
              have H' := Aside0.mk H
              clear H
              have hcz12_0 : w3.cell? ⟨gb164, 0, none⟩ = some (.slice A0_0 l0_0.length c0_0) := (blk_cell BK164.out 0).trans rfl
              have hcz12_1 : w3.cell? ⟨gb164, 1, none⟩ = some (.slice A0_1 l0_1.length c0_1) := (blk_cell BK164.out 1).trans rfl
              have hcz12_2 : w3.cell? ⟨gb164, 2, none⟩ = some (.int .i64 a0_2) := (blk_cell BK164.out 2).trans rfl
              have hcz12_3 : w3.cell? ⟨gb164, 3, none⟩ = some (.int .i64 a0_3) := (blk_cell BK164.out 3).trans rfl
              have hfz12_0 := blk_frozen BK164.out 0
              have hfz12_1 := blk_frozen BK164.out 1
              have hfz12_2 := blk_frozen BK164.out 2
              have hfz12_3 := blk_frozen BK164.out 3
              go_wp2_with (first | (go_at_call 82; (with_reducible refine (spec_l1Num.calls a0_2 true _ A8.out).mono ?_); rintro e w' ⟨rfl, ⟨nd, rfl⟩⟩; (try clear A8)))
              go_meet
              case rel => exact ⟨_, (decide ((l0_0.length : Int) > 0)), (by first | rfl | (simp; done) | (simp [*]; done)), H', ⟨by first | omega | exact Nat.le_refl _⟩, ⟨by (with_reducible repeat (first | refine blk_drewN ?_ _ | refine blk_drew ?_ | refine blk_alloc ?_ _)); exact BK164.out⟩, ⟨by repeat (first | (with_reducible first | exact HB.out | apply below_alloc | apply pw_below_drewN | apply below_drew1 | refine below_set ?_ GE164.out) | exact HB.out)⟩⟩
            · rw [if_neg c11] at H
              have c11b0 : (a0_3 == 3) = false := beq_eq_false_iff_ne.mpr c11
              have c11b1 : (a0_3 != 3) = true := bne_iff_ne.mpr c11
              have H' := Aside0.mk H
              clear H
              have hcz13_0 : w3.cell? ⟨gb164, 0, none⟩ = some (.slice A0_0 l0_0.length c0_0) := (blk_cell BK164.out 0).trans rfl
              have hcz13_1 : w3.cell? ⟨gb164, 1, none⟩ = some (.slice A0_1 l0_1.length c0_1) := (blk_cell BK164.out 1).trans rfl
              have hcz13_2 : w3.cell? ⟨gb164, 2, none⟩ = some (.int .i64 a0_2) := (blk_cell BK164.out 2).trans rfl
              have hcz13_3 : w3.cell? ⟨gb164, 3, none⟩ = some (.int .i64 a0_3) := (blk_cell BK164.out 3).trans rfl
              have hfz13_0 := blk_frozen BK164.out 0
              have hfz13_1 := blk_frozen BK164.out 1
              have hfz13_2 := blk_frozen BK164.out 2
              have hfz13_3 := blk_frozen BK164.out 3
              go_wp2_with (first | (go_at_call 82; (with_reducible refine (spec_l1Num.calls a0_2 true _ A8.out).mono ?_); rintro e w' ⟨rfl, ⟨nd, rfl⟩⟩; (try clear A8)))
              go_meet
              case rel => exact ⟨_, (false), (by first | rfl | (simp; done) | (simp [*]; done)), H', ⟨by first | omega | exact Nat.le_refl _⟩, ⟨by (with_reducible repeat (first | refine blk_drewN ?_ _ | refine blk_drew ?_ | refine blk_alloc ?_ _)); exact BK164.out⟩, ⟨by repeat (first | (with_reducible first | exact HB.out | apply below_alloc | apply pw_below_drewN | apply below_drew1 | refine below_set ?_ GE164.out) | exact HB.out)⟩⟩
          · rw [if_neg c10] at H
            have c10b0 : (a0_3 == 0) = false := beq_eq_false_iff_ne.mpr c10
            have c10b1 : (a0_3 != 0) = true := bne_iff_ne.mpr c10
            by_cases c14 : a0_2 = 0
            · rw [if_pos c14] at H
              have c14b0 : (a0_2 == 0) = true := beq_iff_eq.mpr c14
              have c14b1 : (a0_2 != 0) = false := bne_eq_false_iff_eq.mpr c14
              clear c14
              by_cases c15 : (l0_1.length : Int) > 0
              · rw [if_pos c15] at H
                have c15b0 : decide (0 < (l0_1.length : Int)) = true := decide_eq_true c15
                have c15b1 : decide (0 < l0_1.length) = true := decide_eq_true (by omega)
                clear c15
                have H' := Aside0.mk H
                clear H
                have hcz16_0 : w3.cell? ⟨gb164, 0, none⟩ = some (.slice A0_0 l0_0.length c0_0) := (blk_cell BK164.out 0).trans rfl
                have hcz16_1 : w3.cell? ⟨gb164, 1, none⟩ = some (.slice A0_1 l0_1.length c0_1) := (blk_cell BK164.out 1).trans rfl
                have hcz16_2 : w3.cell? ⟨gb164, 2, none⟩ = some (.int .i64 a0_2) := (blk_cell BK164.out 2).trans rfl
                have hcz16_3 : w3.cell? ⟨gb164, 3, none⟩ = some (.int .i64 a0_3) := (blk_cell BK164.out 3).trans rfl
                have hfz16_0 := blk_frozen BK164.out 0
                have hfz16_1 := blk_frozen BK164.out 1
                have hfz16_2 := blk_frozen BK164.out 2
                have hfz16_3 := blk_frozen BK164.out 3
                go_wp2_with (first | (go_at_call 82; (with_reducible refine (spec_l1Num.calls a0_2 true _ A8.out).mono ?_); rintro e w' ⟨rfl, ⟨nd, rfl⟩⟩; (try clear A8)))
                go_meet
                case rel => exact ⟨_, (true), (by first | rfl | (simp; done) | (simp [*]; done)), H', ⟨by first | omega | exact Nat.le_refl _⟩, ⟨by (with_reducible repeat (first | refine blk_drewN ?_ _ | refine blk_drew ?_ | refine blk_alloc ?_ _)); exact BK164.out⟩, ⟨by repeat (first | (with_reducible first | exact HB.out | apply below_alloc | apply pw_below_drewN | apply below_drew1 | refine below_set ?_ GE164.out) | exact HB.out)⟩⟩
              · rw [if_neg c15] at H
                have c15b0 : decide (0 < (l0_1.length : Int)) = false := decide_eq_false c15
                have c15b1 : decide (0 < l0_1.length) = false := decide_eq_false (by omega)
                clear c15
                by_cases c17 : a0_3 = 3
                · rw [if_pos c17] at H
                  have c17b0 : (a0_3 == 3) = true := beq_iff_eq.mpr c17
                  have c17b1 : (a0_3 != 3) = false := bne_eq_false_iff_eq.mpr c17
                  clear c17
                  have H' := Aside0.mk H
                  clear H
                  have hcz18_0 : w3.cell? ⟨gb164, 0, none⟩ = some (.slice A0_0 l0_0.length c0_0) := (blk_cell BK164.out 0).trans rfl
                  have hcz18_1 : w3.cell? ⟨gb164, 1, none⟩ = some (.slice A0_1 l0_1.length c0_1) := (blk_cell BK164.out 1).trans rfl
                  have hcz18_2 : w3.cell? ⟨gb164, 2, none⟩ = some (.int .i64 a0_2) := (blk_cell BK164.out 2).trans rfl
                  have hcz18_3 : w3.cell? ⟨gb164, 3, none⟩ = some (.int .i64 a0_3) := (blk_cell BK164.out 3).trans rfl
                  have hfz18_0 := blk_frozen BK164.out 0
                  have hfz18_1 := blk_frozen BK164.out 1
                  have hfz18_2 := blk_frozen BK164.out 2
                  have hfz18_3 := blk_frozen BK164.out 3
                  go_wp2_with (first | (go_at_call 82; (with_reducible refine (spec_l1Num.calls a0_2 true _ A8.out).mono ?_); rintro e w' ⟨rfl, ⟨nd, rfl⟩⟩; (try clear A8)))
                  go_meet
                  case rel => exact ⟨_, (decide ((l0_0.length : Int) > 0)), (by first | rfl | (simp; done) | (simp [*]; done)), H', ⟨by first | omega | exact Nat.le_refl _⟩, ⟨by (with_reducible repeat (first | refine blk_drewN ?_ _ | refine blk_drew ?_ | refine blk_alloc ?_ _)); exact BK164.out⟩, ⟨by repeat (first | (with_reducible first | exact HB.out | apply below_alloc | apply pw_below_drewN | apply below_drew1 | refine below_set ?_ GE164.out) | exact HB.out)⟩⟩
                · rw [if_neg c17] at H
                  have c17b0 : (a0_3 == 3) = false := beq_eq_false_iff_ne.mpr c17
                  have c17b1 : (a0_3 != 3) = true := bne_iff_ne.mpr c17
                  have H' := Aside0.mk H
                  clear H
                  have hcz19_0 : w3.cell? ⟨gb164, 0, none⟩ = some (.slice A0_0 l0_0.length c0_0) := (blk_cell BK164.out 0).trans rfl
                  have hcz19_1 : w3.cell? ⟨gb164, 1, none⟩ = some (.slice A0_1 l0_1.length c0_1) := (blk_cell BK164.out 1).trans rfl
                  have hcz19_2 : w3.cell? ⟨gb164, 2, none⟩ = some (.int .i64 a0_2) := (blk_cell BK164.out 2).trans rfl
                  have hcz19_3 : w3.cell? ⟨gb164, 3, none⟩ = some (.int .i64 a0_3) := (blk_cell BK164.out 3).trans rfl
                  have hfz19_0 := blk_frozen BK164.out 0
                  have hfz19_1 := blk_frozen BK164.out 1
                  have hfz19_2 := blk_frozen BK164.out 2
                  have hfz19_3 := blk_frozen BK164.out 3
                  go_wp2_with (first | (go_at_call 82; (with_reducible refine (spec_l1Num.calls a0_2 true _ A8.out).mono ?_); rintro e w' ⟨rfl, ⟨nd, rfl⟩⟩; (try clear A8)))
                  go_meet
                  case rel => exact ⟨_, (false), (by first | rfl | (simp; done) | (simp [*]; done)), H', ⟨by first | omega | exact Nat.le_refl _⟩, ⟨by (with_reducible repeat (first | refine blk_drewN ?_ _ | refine blk_drew ?_ | refine blk_alloc ?_ _)); exact BK164.out⟩, ⟨by repeat (first | (with_reducible first | exact HB.out | apply below_alloc | apply pw_below_drewN | apply below_drew1 | refine below_set ?_ GE164.out) | exact HB.out)⟩⟩
            · rw [if_neg c14] at H
              have c14b0 : (a0_2 == 0) = false := beq_eq_false_iff_ne.mpr c14
              have c14b1 : (a0_2 != 0) = true := bne_iff_ne.mpr c14
              have H' := Aside0.mk H
              clear H
              have hcz20_0 : w3.cell? ⟨gb164, 0, none⟩ = some (.slice A0_0 l0_0.length c0_0) := (blk_cell BK164.out 0).trans rfl
              have hcz20_1 : w3.cell? ⟨gb164, 1, none⟩ = some (.slice A0_1 l0_1.length c0_1) := (blk_cell BK164.out 1).trans rfl
              have hcz20_2 : w3.cell? ⟨gb164, 2, none⟩ = some (.int .i64 a0_2) := (blk_cell BK164.out 2).trans rfl
              have hcz20_3 : w3.cell? ⟨gb164, 3, none⟩ = some (.int .i64 a0_3) := (blk_cell BK164.out 3).trans rfl
              have hfz20_0 := blk_frozen BK164.out 0
              have hfz20_1 := blk_frozen BK164.out 1
              have hfz20_2 := blk_frozen BK164.out 2
              have hfz20_3 := blk_frozen BK164.out 3
              go_wp2_with (first | (go_at_call 82; (with_reducible refine (spec_l1Num.calls a0_2 true _ A8.out).mono ?_); rintro e w' ⟨rfl, ⟨nd, rfl⟩⟩; (try clear A8)))
              go_meet
              case rel => exact ⟨_, (true), (by first | rfl | (simp; done) | (simp [*]; done)), H', ⟨by first | omega | exact Nat.le_refl _⟩, ⟨by (with_reducible repeat (first | refine blk_drewN ?_ _ | refine blk_drew ?_ | refine blk_alloc ?_ _)); exact BK164.out⟩, ⟨by repeat (first | (with_reducible first | exact HB.out | apply below_alloc | apply pw_below_drewN | apply below_drew1 | refine below_set ?_ GE164.out) | exact HB.out)⟩⟩
        · replace c9 := Bool.eq_false_iff.mpr c9
          subst c9
          have H1 : (spec_ExecOk.j0 k true l0_0 l0_1 a0_2 a0_3) = some r := by rw [if_neg (show ¬ (false = true) by decide)] at H; exact H
          clear H
          have H := H1
          clear H1
          have H' := Aside0.mk H
          clear H
          have hcz21_0 : w3.cell? ⟨gb164, 0, none⟩ = some (.slice A0_0 l0_0.length c0_0) := (blk_cell BK164.out 0).trans rfl
          have hcz21_1 : w3.cell? ⟨gb164, 1, none⟩ = some (.slice A0_1 l0_1.length c0_1) := (blk_cell BK164.out 1).trans rfl
          have hcz21_2 : w3.cell? ⟨gb164, 2, none⟩ = some (.int .i64 a0_2) := (blk_cell BK164.out 2).trans rfl
          have hcz21_3 : w3.cell? ⟨gb164, 3, none⟩ = some (.int .i64 a0_3) := (blk_cell BK164.out 3).trans rfl
          have hfz21_0 := blk_frozen BK164.out 0
          have hfz21_1 := blk_frozen BK164.out 1
          have hfz21_2 := blk_frozen BK164.out 2
          have hfz21_3 := blk_frozen BK164.out 3
          go_wp2_with (first | (go_at_call 82; (with_reducible refine (spec_l1Num.calls a0_2 false _ A8.out).mono ?_); rintro e w' ⟨rfl, ⟨nd, rfl⟩⟩; (try clear A8)))
          go_meet
          case rel => exact ⟨_, (true), (by first | rfl | (simp; done) | (simp [*]; done)), H', ⟨by first | omega | exact Nat.le_refl _⟩, ⟨by (with_reducible repeat (first | refine blk_drewN ?_ _ | refine blk_drew ?_ | refine blk_alloc ?_ _)); exact BK164.out⟩, ⟨by repeat (first | (with_reducible first | exact HB.out | apply below_alloc | apply pw_below_drewN | apply below_drew1 | refine below_set ?_ GE164.out) | exact HB.out)⟩⟩
  case rest =>
    clear HC2
    try clear c1
    try clear p2
    try clear c3
    try clear c4
    try clear c4b0
    try clear c6
    try clear c6b0
    try clear c9
    try clear c10
    try clear c10b0
    try clear c10b1
    try clear c11
    try clear c11b0
    try clear c11b1
    try clear c14
    try clear c14b0
    try clear c14b1
    try clear c15
    try clear c15b0
    try clear c15b1
    try clear c17
    try clear c17b0
    try clear c17b1
    try clear hcz12_0
    try clear hcz12_1
    try clear hcz12_2
    try clear hcz12_3
    try clear hcz13_0
    try clear hcz13_1
    try clear hcz13_2
    try clear hcz13_3
    try clear hcz16_0
    try clear hcz16_1
    try clear hcz16_2
    try clear hcz16_3
    try clear hcz18_0
    try clear hcz18_1
    try clear hcz18_2
    try clear hcz18_3
    try clear hcz19_0
    try clear hcz19_1
    try clear hcz19_2
    try clear hcz19_3
    try clear hcz20_0
    try clear hcz20_1
    try clear hcz20_2
    try clear hcz20_3
    try clear hcz21_0
    try clear hcz21_1
    try clear hcz21_2
    try clear hcz21_3
    try clear hcz5_0
    try clear hcz5_1
    try clear hcz5_2
    try clear hcz5_3
    try clear hcz7_0
    try clear hcz7_1
    try clear hcz7_2
    try clear hcz7_3
    try clear hfz12_0
    try clear hfz12_1
    try clear hfz12_2
    try clear hfz12_3
    try clear hfz13_0
    try clear hfz13_1
    try clear hfz13_2
    try clear hfz13_3
    try clear hfz16_0
    try clear hfz16_1
    try clear hfz16_2
    try clear hfz16_3
    try clear hfz18_0
    try clear hfz18_1
    try clear hfz18_2
    try clear hfz18_3
    try clear hfz19_0
    try clear hfz19_1
    try clear hfz19_2
    try clear hfz19_3
    try clear hfz20_0
    try clear hfz20_1
    try clear hfz20_2
    try clear hfz20_3
    try clear hfz21_0
    try clear hfz21_1
    try clear hfz21_2
    try clear hfz21_3
    try clear hfz5_0
    try clear hfz5_1
    try clear hfz5_2
    try clear hfz5_3
    try clear hfz7_0
    try clear hfz7_1
    try clear hfz7_2
    try clear hfz7_3
    obtain ⟨kq, x45_1, rfl, HA, HJ1, BK164, HB⟩ := hcut
    cases kq with
    | zero => exact absurd HA.out (by simp [spec_ExecOk.j0])
    | succ kj1 =>
      have H := HA.out
      clear HA
      simp only [spec_ExecOk.j0] at H
      by_cases c22 : x45_1 = true
      · subst c22
        have H1 : (some false) = some r := by rw [if_pos rfl] at H; exact H
        clear H
        have H := H1
        clear H1
        obtain rfl := Option.some.inj H
        go_wp2
        go_ret
        exact ⟨by first | rfl | (simp [errW_none, errW_some] <;> rfl) | (simp [*, errW_none, errW_some] <;> rfl), by repeat (first | (with_reducible first | exact HB.out | apply below_alloc | apply pw_below_drewN | apply below_drew1 | refine below_set ?_ GE164.out) | exact HB.out)⟩
      · replace c22 := Bool.eq_false_iff.mpr c22
        subst c22
        have H1 : (spec_ExecOk.l0 kj1 0 l0_0 l0_1 a0_2 a0_3) = some r := by rw [if_neg (show ¬ (false = true) by decide)] at H; exact H
        clear H
        have H := H1
        clear H1
        have H' := Aside0.mk H
        clear H
        go_wp2
        go_loopg [3] kj1 (fun kq v3 w' => ∃ (x3_2 : Int), v3 = .int .i64 x3_2 ∧ Aside0 (spec_ExecOk.l0 kq x3_2 l0_0 l0_1 a0_2 a0_3 = some r) ∧ Aside0 (kq ≤ kj1) ∧ Aside0 (w'.heap[gb164]? = some (.cells #[(.slice A0_0 l0_0.length c0_0), (.slice A0_1 l0_1.length c0_1), .int .i64 a0_2, .int .i64 a0_3] 55 (0, 0))) ∧ Aside0 (Below w.heap.size w w'))
        case atStart => exact ⟨(0), (by first | rfl | (simp; done) | (simp [*]; done)), H', ⟨Nat.le_refl _⟩, ⟨by (with_reducible repeat (first | refine blk_drewN ?_ _ | refine blk_drew ?_ | refine blk_alloc ?_ _)); exact BK164.out⟩, ⟨by repeat (first | (with_reducible first | exact HB.out | apply below_alloc | apply pw_below_drewN | apply below_drew1 | refine below_set ?_ GE164.out) | exact HB.out)⟩⟩
        case round =>
          clear H'
          try clear c1
          try clear c2
          try clear p2
          try clear c3
          try clear c4
          try clear c4b0
          try clear c6
          try clear c6b0
          try clear c9
          try clear c10
          try clear c10b0
          try clear c10b1
          try clear c11
          try clear c11b0
          try clear c11b1
          try clear c14
          try clear c14b0
          try clear c14b1
          try clear c15
          try clear c15b0
          try clear c15b1
          try clear c17
          try clear c17b0
          try clear c17b1
          try clear c22
          try clear hcz12_0
          try clear hcz12_1
          try clear hcz12_2
          try clear hcz12_3
          try clear hcz13_0
          try clear hcz13_1
          try clear hcz13_2
          try clear hcz13_3
          try clear hcz16_0
          try clear hcz16_1
          try clear hcz16_2
          try clear hcz16_3
          try clear hcz18_0
          try clear hcz18_1
          try clear hcz18_2
          try clear hcz18_3
          try clear hcz19_0
          try clear hcz19_1
          try clear hcz19_2
          try clear hcz19_3
          try clear hcz20_0
          try clear hcz20_1
          try clear hcz20_2
          try clear hcz20_3
          try clear hcz21_0
          try clear hcz21_1
          try clear hcz21_2
          try clear hcz21_3
          try clear hcz5_0
          try clear hcz5_1
          try clear hcz5_2
          try clear hcz5_3
          try clear hcz7_0
          try clear hcz7_1
          try clear hcz7_2
          try clear hcz7_3
          try clear hfz12_0
          try clear hfz12_1
          try clear hfz12_2
          try clear hfz12_3
          try clear hfz13_0
          try clear hfz13_1
          try clear hfz13_2
          try clear hfz13_3
          try clear hfz16_0
          try clear hfz16_1
          try clear hfz16_2
          try clear hfz16_3
          try clear hfz18_0
          try clear hfz18_1
          try clear hfz18_2
          try clear hfz18_3
          try clear hfz19_0
          try clear hfz19_1
          try clear hfz19_2
          try clear hfz19_3
          try clear hfz20_0
          try clear hfz20_1
          try clear hfz20_2
          try clear hfz20_3
          try clear hfz21_0
          try clear hfz21_1
          try clear hfz21_2
          try clear hfz21_3
          try clear hfz5_0
          try clear hfz5_1
          try clear hfz5_2
          try clear hfz5_3
          try clear hfz7_0
          try clear hfz7_1
          try clear hfz7_2
          try clear hfz7_3
          try clear p2
          obtain ⟨x3_2, rfl, HA, HK2, BK164, HB⟩ := hrel
          cases gk with
          | zero => exact absurd HA.out (by simp [spec_ExecOk.l0])
          | succ k2 =>
            have H := HA.out
            clear HA
            simp only [spec_ExecOk.l0] at H
            by_cases c23 : x3_2 < (l0_0.length : Int)
            · rw [if_pos c23] at H
              have c23b0 : decide (x3_2 < (l0_0.length : Int)) = true := decide_eq_true c23
              clear c23
              by_cases c24 : 0 ≤ x3_2
              · rw [if_pos c24] at H
                have c24b0 : decide (0 ≤ x3_2) = true := decide_eq_true c24
                clear c24
                replace H := Option.bind_eq_some_iff.mp H
                obtain ⟨t167, A250, H⟩ := H
                replace H : (if t167 = true then (if ((rd_T98 l0_0 x3_2).f1) < 0 then (some false) else (if ((rd_T98 l0_0 x3_2).f1) > 1000000 then (some false) else (if x3_2 ≤ (l0_0.length : Int) then ((spec_l3Saw.f k2 (l0_0.take (x3_2 : Int).toNat) ((rd_T98 l0_0 x3_2).f0)).bind fun t175 => (if t175 = true then (some false) else (spec_ExecOk.l0 k2 (wrap64 (x3_2 + 1)) l0_0 l0_1 a0_2 a0_3))) else (none)))) else (some false)) = some r := H
                have A25 := Aside0.mk A250
                clear A250
                by_cases c26 : t167 = true
                · subst c26
                  have H1 : (if ((rd_T98 l0_0 x3_2).f1) < 0 then (some false) else (if ((rd_T98 l0_0 x3_2).f1) > 1000000 then (some false) else (if x3_2 ≤ (l0_0.length : Int) then ((spec_l3Saw.f k2 (l0_0.take (x3_2 : Int).toNat) ((rd_T98 l0_0 x3_2).f0)).bind fun t175 => (if t175 = true then (some false) else (spec_ExecOk.l0 k2 (wrap64 (x3_2 + 1)) l0_0 l0_1 a0_2 a0_3))) else (none)))) = some r := by rw [if_pos rfl] at H; exact H
                  clear H
                  have H := H1
                  clear H1
                  by_cases c27 : ((rd_T98 l0_0 x3_2).f1) < 0
                  · rw [if_pos c27] at H
                    have c27b0 : decide (((rd_T98 l0_0 x3_2).f1) < 0) = true := decide_eq_true c27
                    clear c27
                    obtain rfl := Option.some.inj H
                    have hcz28_0 : wr.cell? ⟨gb164, 0, none⟩ = some (.slice A0_0 l0_0.length c0_0) := (blk_cell BK164.out 0).trans rfl
                    have hcz28_1 : wr.cell? ⟨gb164, 1, none⟩ = some (.slice A0_1 l0_1.length c0_1) := (blk_cell BK164.out 1).trans rfl
                    have hcz28_2 : wr.cell? ⟨gb164, 2, none⟩ = some (.int .i64 a0_2) := (blk_cell BK164.out 2).trans rfl
                    have hcz28_3 : wr.cell? ⟨gb164, 3, none⟩ = some (.int .i64 a0_3) := (blk_cell BK164.out 3).trans rfl
                    have hfz28_0 := blk_frozen BK164.out 0
                    have hfz28_1 := blk_frozen BK164.out 1
                    have hfz28_2 := blk_frozen BK164.out 2
                    have hfz28_3 := blk_frozen BK164.out 3
                    try go_wp2
                    have n0_ := Aside0.mk (blk_drew BK164.out)
                    have n1_ := Aside0.mk (below_drew1 HB.out)
                    clear BK164
                    clear HB
                    have BK164 := n0_
                    have HB := n1_
                    clear n0_ n1_
                    have p166 : 0 ≤ (x3_2 : Int) := of_decide_eq_true (by first | (with_reducible assumption) | assumption)
                    have q166 : x3_2 < (l0_0.length : Int) := of_decide_eq_true (by first | (with_reducible assumption) | assumption)
                    obtain ⟨ad166, e166, hx166_0, hx166_1⟩ := at_T98 HR0_0.out x3_2 p166 q166
                    have hw166_1 := hx166_1
                    have hw166_0 := hx166_0
                    cases e166
                    replace hx166_0 := (HB.out.cell (World.block_lt_of_cell? w _ hx166_0)).trans hx166_0
                    replace hx166_1 := (HB.out.cell (World.block_lt_of_cell? w _ hx166_1)).trans hx166_1
                    replace p166 := eq_true p166
                    replace q166 := eq_true q166
                    have p168 : 0 ≤ (x3_2 : Int) := of_decide_eq_true (by first | (with_reducible assumption) | assumption)
                    have q168 : x3_2 < (l0_0.length : Int) := of_decide_eq_true (by first | (with_reducible assumption) | assumption)
                    obtain ⟨ad168, e168, hx168_0, hx168_1⟩ := at_T98 HR0_0.out x3_2 p168 q168
                    have hw168_1 := hx168_1
                    have hw168_0 := hx168_0
                    obtain rfl : ad166 = ad168 := (by injection e168)
                    replace hx168_0 := (HB.out.cell (World.block_lt_of_cell? w _ hx168_0)).trans hx168_0
                    replace hx168_1 := (HB.out.cell (World.block_lt_of_cell? w _ hx168_1)).trans hx168_1
                    replace p168 := eq_true p168
                    replace q168 := eq_true q168
                    refine start_ (n := 39) (S := fun w' => w'.cell? ⟨gb164, 0, none⟩ = some (.slice (some ad166) l0_0.length c0_0) ∧ w'.cell? ⟨gb164, 1, none⟩ = some (.slice A0_1 l0_1.length c0_1) ∧ w'.cell? ⟨gb164, 2, none⟩ = some (.int .i64 a0_2) ∧ w'.cell? ⟨gb164, 3, none⟩ = some (.int .i64 a0_3) ∧ w'.cell? (ad166.add ((x3_2).toNat * 2)) = some (.int .i64 ((rd_T98 l0_0 x3_2).f0)) ∧ w'.cell? ⟨(ad166.add ((x3_2).toNat * 2)).block, (ad166.add ((x3_2).toNat * 2)).off + 1, none⟩ = some (.int .i64 ((rd_T98 l0_0 x3_2).f1)) ∧ w'.cell? (ad166.add ((x3_2).toNat * 2)) = some (.int .i64 ((rd_T98 l0_0 x3_2).f0)) ∧ w'.cell? ⟨(ad166.add ((x3_2).toNat * 2)).block, (ad166.add ((x3_2).toNat * 2)).off + 1, none⟩ = some (.int .i64 ((rd_T98 l0_0 x3_2).f1))) (ds := []) #[false, false, false, false, false, false, false, false, false, false, false, false, false, false, false, false, false, false, false, false, false, false, false, false, false, false, false, false, false, false, false, false, false, false, false, false, false, false, false] (by kernel_rfl) rfl rfl ⟨(blk_cell BK164.out 0).trans rfl, (blk_cell BK164.out 1).trans rfl, (blk_cell BK164.out 2).trans rfl, (blk_cell BK164.out 3).trans rfl, ((HB.out.cell (World.block_lt_of_cell? w _ hw166_0)).trans hw166_0), ((HB.out.cell (World.block_lt_of_cell? w _ hw166_1)).trans hw166_1), ((HB.out.cell (World.block_lt_of_cell? w _ hw168_0)).trans hw168_0), ((HB.out.cell (World.block_lt_of_cell? w _ hw168_1)).trans hw168_1)⟩ (fun hHeld => ?_); refine with_tabW spec_ExecOk.tab6 spec_ExecOk.bits6 (fun HT_ HW_ => ?_)
                    generalize wr.drew = w29 at BK164 HB hx166_0 hx166_1 hx168_0 hx168_1 hHeld ⊢
                    refine pu_ (i := 0) (N := some 53) (v := ?_) (a' := ?_) rfl rfl (any_of HT_.out (by kernel_rfl)) (fun _ _ _ h => h) (Or.inl ⟨by rfl, ?_⟩) ?_ ?_; rotate_left; (· (intro w'; go_simp; with_reducible rfl)); rotate_left; (· (simp only [Act.put, sA_, sZ_, sS_, i64_w, i32_w]; rfl))
                    refine pu_ (i := 2) (N := some 55) (v := ?_) (a' := ?_) rfl rfl (any_of HT_.out (by kernel_rfl)) (fun _ _ _ h => h) (Or.inl ⟨by rfl, ?_⟩) ?_ ?_; rotate_left; (· (intro w'; go_simp; with_reducible rfl))
                    rotate_left; (· (simp only [Act.put, sA_, sZ_, sS_, i64_w, i32_w]; rfl))
                    refine ta_ (i := 1) (N := some 54) (v := ?_) (a' := ?_) rfl rfl (take_ofW HT_.out HW_.out (by kernel_rfl)) (fun _ _ _ h => h) (Or.inl ⟨by rfl, ?_⟩) hHeld ?_ ?_
                    rotate_left
                    · rintro w' ⟨s0, s1, s2, s3, s4, s5, s6, s7⟩
                      go_simp
                      with_reducible rfl
                    rotate_left; (· (simp only [Act.put, sA_, sZ_, sS_, i64_w, i32_w]; rfl))
                    refine pu_ (i := 3) (N := some 56) (v := ?_) (a' := ?_) rfl rfl (any_of HT_.out (by kernel_rfl)) (fun _ _ _ h => h) (Or.inl ⟨by rfl, ?_⟩) ?_ ?_; rotate_left; (· (intro w'; go_simp; with_reducible rfl)); rotate_left; (· (simp only [Act.put, sA_, sZ_, sS_, i64_w, i32_w]; rfl))
                    refine pu_ (i := 4) (N := some 57) (v := ?_) (a' := ?_) rfl rfl (any_of HT_.out (by kernel_rfl)) (fun _ _ _ h => h) (Or.inl ⟨by rfl, ?_⟩) ?_ ?_; rotate_left; (· (intro w'; go_simp; with_reducible rfl))
                    rotate_left; (· (simp only [Act.put, sA_, sZ_, sS_, i64_w, i32_w]; rfl))
                    refine ta_ (i := 5) (N := some 58) (v := ?_) (a' := ?_) rfl rfl (take_ofW HT_.out HW_.out (by kernel_rfl)) (fun _ _ _ h => h) (Or.inl ⟨by rfl, ?_⟩) hHeld ?_ ?_
                    rotate_left
                    · rintro w' ⟨s0, s1, s2, s3, s4, s5, s6, s7⟩
                      go_simp
                      with_reducible rfl
                    rotate_left; (· (simp only [Act.put, sA_, sZ_, sS_, i64_w, i32_w]; rfl))
                    refine on_ (i := 6) (N := some 59) rfl rfl (one_of HT_.out (by kernel_rfl)) (by decide) (fun K hK => ?_)
                    refine goes_ Try.func83 (by kernel_rfl) rfl #[.int .i64 ((rd_T98 l0_0 x3_2).f0)] (by rfl) rfl rfl (by (try simp only [List.map_toArray, List.map_cons, List.map_nil]); first | done | rfl | (simp only [List.length_drop, List.length_take]; rfl)) ?_
                    with_reducible refine (spec_l2Box.calls ((rd_T98 l0_0 x3_2).f0) true _ A25.out).mono ?_
                    rintro e w' ⟨rfl, ⟨nd, rfl⟩⟩
                    refine ⟨_, rfl, ?_⟩
                    refine hK.out _ _ ⟨(blk_cell BK164.out 0).trans rfl, (blk_cell BK164.out 1).trans rfl, (blk_cell BK164.out 2).trans rfl, (blk_cell BK164.out 3).trans rfl, ((HB.out.cell (World.block_lt_of_cell? w _ hw166_0)).trans hw166_0), ((HB.out.cell (World.block_lt_of_cell? w _ hw166_1)).trans hw166_1), ((HB.out.cell (World.block_lt_of_cell? w _ hw168_0)).trans hw168_0), ((HB.out.cell (World.block_lt_of_cell? w _ hw168_1)).trans hw168_1)⟩ (fun hHeld => ?_)
                    clear hK K
                    refine norm_ (a' := ?_) ?_ ?_
                    rotate_left
                    · show Act.put _ (some 59) _ = _
                      simp only [Act.put, sA_, sZ_, sS_, i64_w, i32_w]
                      rfl
                    refine pu_ (i := 7) (N := some 60) (v := ?_) (a' := ?_) rfl rfl (any_of HT_.out (by kernel_rfl)) (fun _ _ _ h => h) (Or.inl ⟨by rfl, ?_⟩) ?_ ?_; rotate_left; (· (intro w'; go_simp; with_reducible rfl)); rotate_left; (· (simp only [Act.put, sA_, sZ_, sS_, i64_w, i32_w]; rfl))
                    refine pu_ (i := 8) (N := some 61) (v := ?_) (a' := ?_) rfl rfl (any_of HT_.out (by kernel_rfl)) (fun _ _ _ h => h) (Or.inl ⟨by rfl, ?_⟩) ?_ ?_; rotate_left; (· (intro w'; go_simp; with_reducible rfl))
                    rotate_left; (· (simp only [Act.put, sA_, sZ_, sS_, i64_w, i32_w]; rfl))
                    refine pu_ (i := 9) (N := some 62) (v := ?_) (a' := ?_) rfl rfl (any_of HT_.out (by kernel_rfl)) (fun _ _ _ h => h) (Or.inl ⟨by rfl, ?_⟩) ?_ ?_; rotate_left; (· (intro w'; go_simp; with_reducible rfl)); rotate_left; (· (simp only [Act.put, sA_, sZ_, sS_, i64_w, i32_w]; rfl))
                    refine pu_ (i := 11) (N := some 64) (v := ?_) (a' := ?_) rfl rfl (any_of HT_.out (by kernel_rfl)) (fun _ _ _ h => h) (Or.inl ⟨by rfl, ?_⟩) ?_ ?_; rotate_left; (· (intro w'; go_simp; with_reducible rfl))
                    rotate_left; (· (simp only [Act.put, sA_, sZ_, sS_, i64_w, i32_w]; rfl))
                    refine ta_ (i := 10) (N := some 63) (v := ?_) (a' := ?_) rfl rfl (take_ofW HT_.out HW_.out (by kernel_rfl)) (fun _ _ _ h => h) (Or.inl ⟨by rfl, ?_⟩) hHeld ?_ ?_
                    rotate_left
                    · rintro w' ⟨s0, s1, s2, s3, s4, s5, s6, s7⟩
                      go_simp
                      with_reducible rfl
                    rotate_left; (· (simp only [Act.put, sA_, sZ_, sS_, i64_w, i32_w]; rfl))
                    refine pu_ (i := 12) (N := some 65) (v := ?_) (a' := ?_) rfl rfl (any_of HT_.out (by kernel_rfl)) (fun _ _ _ h => h) (Or.inl ⟨by rfl, ?_⟩) ?_ ?_; rotate_left; (· (intro w'; go_simp; with_reducible rfl)); rotate_left; (· (simp only [Act.put, sA_, sZ_, sS_, i64_w, i32_w]; rfl))
                    refine pu_ (i := 13) (N := some 66) (v := ?_) (a' := ?_) rfl rfl (any_of HT_.out (by kernel_rfl)) (fun _ _ _ h => h) (Or.inl ⟨by rfl, ?_⟩) ?_ ?_; rotate_left; (· (intro w'; go_simp; with_reducible rfl))
                    rotate_left; (· (simp only [Act.put, sA_, sZ_, sS_, i64_w, i32_w]; rfl))
                    refine ta_ (i := 14) (N := some 67) (v := ?_) (a' := ?_) rfl rfl (take_ofW HT_.out HW_.out (by kernel_rfl)) (fun _ _ _ h => h) (Or.inl ⟨by rfl, ?_⟩) hHeld ?_ ?_
                    rotate_left
                    · rintro w' ⟨s0, s1, s2, s3, s4, s5, s6, s7⟩
                      go_simp
                      with_reducible rfl
                    rotate_left; (· (simp only [Act.put, sA_, sZ_, sS_, i64_w, i32_w]; rfl))
                    refine pu_ (i := 15) (N := some 68) (v := ?_) (a' := ?_) rfl rfl (any_of HT_.out (by kernel_rfl)) (fun _ _ _ h => h) (Or.inl ⟨by rfl, ?_⟩) ?_ ?_; rotate_left; (· (intro w'; go_simp; with_reducible rfl)); rotate_left; (· (simp only [Act.put, sA_, sZ_, sS_, i64_w, i32_w]; rfl))
                    refine pu_ (i := 16) (N := some 69) (v := ?_) (a' := ?_) rfl rfl (any_of HT_.out (by kernel_rfl)) (fun _ _ _ h => h) (Or.inl ⟨by rfl, ?_⟩) ?_ ?_; rotate_left; (· (intro w'; go_simp; with_reducible rfl))
                    rotate_left; (· (simp only [Act.put, sA_, sZ_, sS_, i64_w, i32_w]; rfl))
                    refine pu_ (i := 17) (N := some 70) (v := ?_) (a' := ?_) rfl rfl (any_of HT_.out (by kernel_rfl)) (fun _ _ _ h => h) (Or.inl ⟨by rfl, ?_⟩) ?_ ?_; rotate_left; (· (intro w'; go_simp; with_reducible rfl)); rotate_left; (· (simp only [Act.put, sA_, sZ_, sS_, i64_w, i32_w]; rfl))
                    refine pu_ (i := 18) (N := some 71) (v := undef) (a' := ?_) rfl rfl (any_of HT_.out (by kernel_rfl)) (fun _ _ _ h => h) (Or.inr ⟨by rfl, rfl⟩) ?_ ?_; rotate_left; (· (simp only [Act.put, sA_, sZ_, sS_, i64_w, i32_w]; rfl))
                    refine pu_ (i := 19) (N := some 72) (v := undef) (a' := ?_) rfl rfl (any_of HT_.out (by kernel_rfl)) (fun _ _ _ h => h) (Or.inr ⟨by rfl, rfl⟩) ?_ ?_
                    rotate_left; (· (simp only [Act.put, sA_, sZ_, sS_, i64_w, i32_w]; rfl))
                    refine pu_ (i := 20) (N := some 73) (v := undef) (a' := ?_) rfl rfl (any_of HT_.out (by kernel_rfl)) (fun _ _ _ h => h) (Or.inr ⟨by rfl, rfl⟩) ?_ ?_; rotate_left; (· (simp only [Act.put, sA_, sZ_, sS_, i64_w, i32_w]; rfl))
                    refine pu_ (i := 21) (N := some 74) (v := undef) (a' := ?_) rfl rfl (any_of HT_.out (by kernel_rfl)) (fun _ _ _ h => h) (Or.inr ⟨by rfl, rfl⟩) ?_ ?_
                    rotate_left; (· (simp only [Act.put, sA_, sZ_, sS_, i64_w, i32_w]; rfl))
                    refine pu_ (i := 22) (N := some 75) (v := undef) (a' := ?_) rfl rfl (any_of HT_.out (by kernel_rfl)) (fun _ _ _ h => h) (Or.inr ⟨by rfl, rfl⟩) ?_ ?_; rotate_left; (· (simp only [Act.put, sA_, sZ_, sS_, i64_w, i32_w]; rfl))
                    refine pu_ (i := 23) (N := some 76) (v := undef) (a' := ?_) rfl rfl (any_of HT_.out (by kernel_rfl)) (fun _ _ _ h => h) (Or.inr ⟨by rfl, rfl⟩) ?_ ?_
                    rotate_left; (· (simp only [Act.put, sA_, sZ_, sS_, i64_w, i32_w]; rfl))
                    refine pu_ (i := 24) (N := some 77) (v := undef) (a' := ?_) rfl rfl (any_of HT_.out (by kernel_rfl)) (fun _ _ _ h => h) (Or.inr ⟨by rfl, rfl⟩) ?_ ?_; rotate_left; (· (simp only [Act.put, sA_, sZ_, sS_, i64_w, i32_w]; rfl))
                    refine pu_ (i := 25) (N := some 78) (v := ?_) (a' := ?_) rfl rfl (any_of HT_.out (by kernel_rfl)) (fun _ _ _ h => h) (Or.inl ⟨by rfl, ?_⟩) ?_ ?_; rotate_left; (· (intro w'; go_simp; with_reducible rfl)); rotate_left; (· (simp only [Act.put, sA_, sZ_, sS_, i64_w, i32_w]; rfl))
                    refine pu_ (i := 26) (N := some 79) (v := ?_) (a' := ?_) rfl rfl (any_of HT_.out (by kernel_rfl)) (fun _ _ _ h => h) (Or.inl ⟨by rfl, ?_⟩) ?_ ?_; rotate_left; (· (intro w'; go_simp; with_reducible rfl))
                    rotate_left; (· (simp only [Act.put, sA_, sZ_, sS_, i64_w, i32_w]; rfl))
                    refine pu_ (i := 27) (N := some 80) (v := undef) (a' := ?_) rfl rfl (any_of HT_.out (by kernel_rfl)) (fun _ _ _ h => h) (Or.inr ⟨by rfl, rfl⟩) ?_ ?_; rotate_left; (· (simp only [Act.put, sA_, sZ_, sS_, i64_w, i32_w]; rfl))
                    refine pu_ (i := 28) (N := some 81) (v := undef) (a' := ?_) rfl rfl (any_of HT_.out (by kernel_rfl)) (fun _ _ _ h => h) (Or.inr ⟨by rfl, rfl⟩) ?_ ?_
                    rotate_left; (· (simp only [Act.put, sA_, sZ_, sS_, i64_w, i32_w]; rfl))
                    refine pu_ (i := 29) (N := some 82) (v := undef) (a' := ?_) rfl rfl (any_of HT_.out (by kernel_rfl)) (fun _ _ _ h => h) (Or.inr ⟨by rfl, rfl⟩) ?_ ?_; rotate_left; (· (simp only [Act.put, sA_, sZ_, sS_, i64_w, i32_w]; rfl))
                    refine pu_ (i := 30) (N := some 83) (v := undef) (a' := ?_) rfl rfl (any_of HT_.out (by kernel_rfl)) (fun _ _ _ h => h) (Or.inr ⟨by rfl, rfl⟩) ?_ ?_
                    rotate_left; (· (simp only [Act.put, sA_, sZ_, sS_, i64_w, i32_w]; rfl))
                    refine pu_ (i := 31) (N := some 84) (v := undef) (a' := ?_) rfl rfl (any_of HT_.out (by kernel_rfl)) (fun _ _ _ h => h) (Or.inr ⟨by rfl, rfl⟩) ?_ ?_; rotate_left; (· (simp only [Act.put, sA_, sZ_, sS_, i64_w, i32_w]; rfl))
                    refine pu_ (i := 32) (N := some 85) (v := undef) (a' := ?_) rfl rfl (any_of HT_.out (by kernel_rfl)) (fun _ _ _ h => h) (Or.inr ⟨by rfl, rfl⟩) ?_ ?_
                    rotate_left; (· (simp only [Act.put, sA_, sZ_, sS_, i64_w, i32_w]; rfl))
                    refine pu_ (i := 33) (N := some 86) (v := undef) (a' := ?_) rfl rfl (any_of HT_.out (by kernel_rfl)) (fun _ _ _ h => h) (Or.inr ⟨by rfl, rfl⟩) ?_ ?_; rotate_left; (· (simp only [Act.put, sA_, sZ_, sS_, i64_w, i32_w]; rfl))
                    refine pu_ (i := 34) (N := some 87) (v := undef) (a' := ?_) rfl rfl (any_of HT_.out (by kernel_rfl)) (fun _ _ _ h => h) (Or.inr ⟨by rfl, rfl⟩) ?_ ?_
                    rotate_left; (· (simp only [Act.put, sA_, sZ_, sS_, i64_w, i32_w]; rfl))
                    refine pu_ (i := 35) (N := some 88) (v := undef) (a' := ?_) rfl rfl (any_of HT_.out (by kernel_rfl)) (fun _ _ _ h => h) (Or.inr ⟨by rfl, rfl⟩) ?_ ?_; rotate_left; (· (simp only [Act.put, sA_, sZ_, sS_, i64_w, i32_w]; rfl))
                    refine pu_ (i := 36) (N := some 89) (v := undef) (a' := ?_) rfl rfl (any_of HT_.out (by kernel_rfl)) (fun _ _ _ h => h) (Or.inr ⟨by rfl, rfl⟩) ?_ ?_
                    rotate_left; (· (simp only [Act.put, sA_, sZ_, sS_, i64_w, i32_w]; rfl))
                    refine pu_ (i := 37) (N := some 90) (v := undef) (a' := ?_) rfl rfl (any_of HT_.out (by kernel_rfl)) (fun _ _ _ h => h) (Or.inr ⟨by rfl, rfl⟩) ?_ ?_; rotate_left; (· (simp only [Act.put, sA_, sZ_, sS_, i64_w, i32_w]; rfl))
                    refine pu_ (i := 38) (N := some 91) (v := ?_) (a' := ?_) rfl rfl (any_of HT_.out (by kernel_rfl)) (fun _ _ _ h => h) (Or.inl ⟨by rfl, ?_⟩) ?_ ?_; rotate_left; (· (intro w'; go_simp; with_reducible rfl)); rotate_left; (· (simp only [Act.put, sA_, sZ_, sS_, i64_w, i32_w]; rfl))
                    refine done_ (done_of HT_.out (by kernel_rfl)) ?_
                    try go_wp2
                    go_ret
                    exact ⟨by first | rfl | (simp [errW_none, errW_some] <;> rfl) | (simp [*, errW_none, errW_some] <;> rfl), by repeat (first | (with_reducible first | exact HB.out | apply below_alloc | apply pw_below_drewN | apply below_drew1 | refine below_set ?_ GE164.out) | exact HB.out)⟩
                  · rw [if_neg c27] at H
                    have c27b0 : decide (((rd_T98 l0_0 x3_2).f1) < 0) = false := decide_eq_false c27
                    clear c27
                    by_cases c30 : ((rd_T98 l0_0 x3_2).f1) > 1000000
                    · rw [if_pos c30] at H
                      have c30b0 : decide (1000000 < ((rd_T98 l0_0 x3_2).f1)) = true := decide_eq_true c30
                      clear c30
                      obtain rfl := Option.some.inj H
                      have hcz31_0 : wr.cell? ⟨gb164, 0, none⟩ = some (.slice A0_0 l0_0.length c0_0) := (blk_cell BK164.out 0).trans rfl
                      have hcz31_1 : wr.cell? ⟨gb164, 1, none⟩ = some (.slice A0_1 l0_1.length c0_1) := (blk_cell BK164.out 1).trans rfl
                      have hcz31_2 : wr.cell? ⟨gb164, 2, none⟩ = some (.int .i64 a0_2) := (blk_cell BK164.out 2).trans rfl
                      have hcz31_3 : wr.cell? ⟨gb164, 3, none⟩ = some (.int .i64 a0_3) := (blk_cell BK164.out 3).trans rfl
                      have hfz31_0 := blk_frozen BK164.out 0
                      have hfz31_1 := blk_frozen BK164.out 1
                      have hfz31_2 := blk_frozen BK164.out 2
                      have hfz31_3 := blk_frozen BK164.out 3
                      try go_wp2
                      have n0_ := Aside0.mk (blk_drew BK164.out)
                      have n1_ := Aside0.mk (below_drew1 HB.out)
                      clear BK164
                      clear HB
                      have BK164 := n0_
                      have HB := n1_
                      clear n0_ n1_
                      have p166 : 0 ≤ (x3_2 : Int) := of_decide_eq_true (by first | (with_reducible assumption) | assumption)
                      have q166 : x3_2 < (l0_0.length : Int) := of_decide_eq_true (by first | (with_reducible assumption) | assumption)
                      obtain ⟨ad166, e166, hx166_0, hx166_1⟩ := at_T98 HR0_0.out x3_2 p166 q166
                      have hw166_1 := hx166_1
                      have hw166_0 := hx166_0
                      cases e166
                      replace hx166_0 := (HB.out.cell (World.block_lt_of_cell? w _ hx166_0)).trans hx166_0
                      replace hx166_1 := (HB.out.cell (World.block_lt_of_cell? w _ hx166_1)).trans hx166_1
                      replace p166 := eq_true p166
                      replace q166 := eq_true q166
                      have p168 : 0 ≤ (x3_2 : Int) := of_decide_eq_true (by first | (with_reducible assumption) | assumption)
                      have q168 : x3_2 < (l0_0.length : Int) := of_decide_eq_true (by first | (with_reducible assumption) | assumption)
                      obtain ⟨ad168, e168, hx168_0, hx168_1⟩ := at_T98 HR0_0.out x3_2 p168 q168
                      have hw168_1 := hx168_1
                      have hw168_0 := hx168_0
                      obtain rfl : ad166 = ad168 := (by injection e168)
                      replace hx168_0 := (HB.out.cell (World.block_lt_of_cell? w _ hx168_0)).trans hx168_0
                      replace hx168_1 := (HB.out.cell (World.block_lt_of_cell? w _ hx168_1)).trans hx168_1
                      replace p168 := eq_true p168
                      replace q168 := eq_true q168
                      have p169 : 0 ≤ (x3_2 : Int) := of_decide_eq_true (by first | (with_reducible assumption) | assumption)
                      have q169 : x3_2 < (l0_0.length : Int) := of_decide_eq_true (by first | (with_reducible assumption) | assumption)
                      obtain ⟨ad169, e169, hx169_0, hx169_1⟩ := at_T98 HR0_0.out x3_2 p169 q169
                      have hw169_1 := hx169_1
                      have hw169_0 := hx169_0
                      obtain rfl : ad166 = ad169 := (by injection e169)
                      replace hx169_0 := (HB.out.cell (World.block_lt_of_cell? w _ hx169_0)).trans hx169_0
                      replace hx169_1 := (HB.out.cell (World.block_lt_of_cell? w _ hx169_1)).trans hx169_1
                      replace p169 := eq_true p169
                      replace q169 := eq_true q169
                      refine start_ (n := 39) (S := fun w' => w'.cell? ⟨gb164, 0, none⟩ = some (.slice (some ad166) l0_0.length c0_0) ∧ w'.cell? ⟨gb164, 1, none⟩ = some (.slice A0_1 l0_1.length c0_1) ∧ w'.cell? ⟨gb164, 2, none⟩ = some (.int .i64 a0_2) ∧ w'.cell? ⟨gb164, 3, none⟩ = some (.int .i64 a0_3) ∧ w'.cell? (ad166.add ((x3_2).toNat * 2)) = some (.int .i64 ((rd_T98 l0_0 x3_2).f0)) ∧ w'.cell? ⟨(ad166.add ((x3_2).toNat * 2)).block, (ad166.add ((x3_2).toNat * 2)).off + 1, none⟩ = some (.int .i64 ((rd_T98 l0_0 x3_2).f1)) ∧ w'.cell? (ad166.add ((x3_2).toNat * 2)) = some (.int .i64 ((rd_T98 l0_0 x3_2).f0)) ∧ w'.cell? ⟨(ad166.add ((x3_2).toNat * 2)).block, (ad166.add ((x3_2).toNat * 2)).off + 1, none⟩ = some (.int .i64 ((rd_T98 l0_0 x3_2).f1)) ∧ w'.cell? (ad166.add ((x3_2).toNat * 2)) = some (.int .i64 ((rd_T98 l0_0 x3_2).f0)) ∧ w'.cell? ⟨(ad166.add ((x3_2).toNat * 2)).block, (ad166.add ((x3_2).toNat * 2)).off + 1, none⟩ = some (.int .i64 ((rd_T98 l0_0 x3_2).f1))) (ds := []) #[false, false, false, false, false, false, false, false, false, false, false, false, false, false, false, false, false, false, false, false, false, false, false, false, false, false, false, false, false, false, false, false, false, false, false, false, false, false, false] (by kernel_rfl) rfl rfl ⟨(blk_cell BK164.out 0).trans rfl, (blk_cell BK164.out 1).trans rfl, (blk_cell BK164.out 2).trans rfl, (blk_cell BK164.out 3).trans rfl, ((HB.out.cell (World.block_lt_of_cell? w _ hw166_0)).trans hw166_0), ((HB.out.cell (World.block_lt_of_cell? w _ hw166_1)).trans hw166_1), ((HB.out.cell (World.block_lt_of_cell? w _ hw168_0)).trans hw168_0), ((HB.out.cell (World.block_lt_of_cell? w _ hw168_1)).trans hw168_1), ((HB.out.cell (World.block_lt_of_cell? w _ hw169_0)).trans hw169_0), ((HB.out.cell (World.block_lt_of_cell? w _ hw169_1)).trans hw169_1)⟩ (fun hHeld => ?_); refine with_tabW spec_ExecOk.tab6 spec_ExecOk.bits6 (fun HT_ HW_ => ?_)
                      generalize wr.drew = w32 at BK164 HB hx166_0 hx166_1 hx168_0 hx168_1 hx169_0 hx169_1 hHeld ⊢
                      refine pu_ (i := 0) (N := some 53) (v := ?_) (a' := ?_) rfl rfl (any_of HT_.out (by kernel_rfl)) (fun _ _ _ h => h) (Or.inl ⟨by rfl, ?_⟩) ?_ ?_; rotate_left; (· (intro w'; go_simp; with_reducible rfl)); rotate_left; (· (simp only [Act.put, sA_, sZ_, sS_, i64_w, i32_w]; rfl))
                      refine pu_ (i := 2) (N := some 55) (v := ?_) (a' := ?_) rfl rfl (any_of HT_.out (by kernel_rfl)) (fun _ _ _ h => h) (Or.inl ⟨by rfl, ?_⟩) ?_ ?_; rotate_left; (· (intro w'; go_simp; with_reducible rfl))
                      rotate_left; (· (simp only [Act.put, sA_, sZ_, sS_, i64_w, i32_w]; rfl))
                      refine ta_ (i := 1) (N := some 54) (v := ?_) (a' := ?_) rfl rfl (take_ofW HT_.out HW_.out (by kernel_rfl)) (fun _ _ _ h => h) (Or.inl ⟨by rfl, ?_⟩) hHeld ?_ ?_
                      rotate_left
                      · rintro w' ⟨s0, s1, s2, s3, s4, s5, s6, s7, s8, s9⟩
                        go_simp
                        with_reducible rfl
                      rotate_left; (· (simp only [Act.put, sA_, sZ_, sS_, i64_w, i32_w]; rfl))
                      refine pu_ (i := 3) (N := some 56) (v := ?_) (a' := ?_) rfl rfl (any_of HT_.out (by kernel_rfl)) (fun _ _ _ h => h) (Or.inl ⟨by rfl, ?_⟩) ?_ ?_; rotate_left; (· (intro w'; go_simp; with_reducible rfl)); rotate_left; (· (simp only [Act.put, sA_, sZ_, sS_, i64_w, i32_w]; rfl))
                      refine pu_ (i := 4) (N := some 57) (v := ?_) (a' := ?_) rfl rfl (any_of HT_.out (by kernel_rfl)) (fun _ _ _ h => h) (Or.inl ⟨by rfl, ?_⟩) ?_ ?_; rotate_left; (· (intro w'; go_simp; with_reducible rfl))
                      rotate_left; (· (simp only [Act.put, sA_, sZ_, sS_, i64_w, i32_w]; rfl))
                      refine ta_ (i := 5) (N := some 58) (v := ?_) (a' := ?_) rfl rfl (take_ofW HT_.out HW_.out (by kernel_rfl)) (fun _ _ _ h => h) (Or.inl ⟨by rfl, ?_⟩) hHeld ?_ ?_
                      rotate_left
                      · rintro w' ⟨s0, s1, s2, s3, s4, s5, s6, s7, s8, s9⟩
                        go_simp
                        with_reducible rfl
                      rotate_left; (· (simp only [Act.put, sA_, sZ_, sS_, i64_w, i32_w]; rfl))
                      refine on_ (i := 6) (N := some 59) rfl rfl (one_of HT_.out (by kernel_rfl)) (by decide) (fun K hK => ?_)
                      refine goes_ Try.func83 (by kernel_rfl) rfl #[.int .i64 ((rd_T98 l0_0 x3_2).f0)] (by rfl) rfl rfl (by (try simp only [List.map_toArray, List.map_cons, List.map_nil]); first | done | rfl | (simp only [List.length_drop, List.length_take]; rfl)) ?_
                      with_reducible refine (spec_l2Box.calls ((rd_T98 l0_0 x3_2).f0) true _ A25.out).mono ?_
                      rintro e w' ⟨rfl, ⟨nd, rfl⟩⟩
                      refine ⟨_, rfl, ?_⟩
                      refine hK.out _ _ ⟨(blk_cell BK164.out 0).trans rfl, (blk_cell BK164.out 1).trans rfl, (blk_cell BK164.out 2).trans rfl, (blk_cell BK164.out 3).trans rfl, ((HB.out.cell (World.block_lt_of_cell? w _ hw166_0)).trans hw166_0), ((HB.out.cell (World.block_lt_of_cell? w _ hw166_1)).trans hw166_1), ((HB.out.cell (World.block_lt_of_cell? w _ hw168_0)).trans hw168_0), ((HB.out.cell (World.block_lt_of_cell? w _ hw168_1)).trans hw168_1), ((HB.out.cell (World.block_lt_of_cell? w _ hw169_0)).trans hw169_0), ((HB.out.cell (World.block_lt_of_cell? w _ hw169_1)).trans hw169_1)⟩ (fun hHeld => ?_)
                      clear hK K
                      refine norm_ (a' := ?_) ?_ ?_
                      rotate_left
                      · show Act.put _ (some 59) _ = _
                        simp only [Act.put, sA_, sZ_, sS_, i64_w, i32_w]
                        rfl
                      refine pu_ (i := 7) (N := some 60) (v := ?_) (a' := ?_) rfl rfl (any_of HT_.out (by kernel_rfl)) (fun _ _ _ h => h) (Or.inl ⟨by rfl, ?_⟩) ?_ ?_; rotate_left; (· (intro w'; go_simp; with_reducible rfl)); rotate_left; (· (simp only [Act.put, sA_, sZ_, sS_, i64_w, i32_w]; rfl))
                      refine pu_ (i := 8) (N := some 61) (v := ?_) (a' := ?_) rfl rfl (any_of HT_.out (by kernel_rfl)) (fun _ _ _ h => h) (Or.inl ⟨by rfl, ?_⟩) ?_ ?_; rotate_left; (· (intro w'; go_simp; with_reducible rfl))
                      rotate_left; (· (simp only [Act.put, sA_, sZ_, sS_, i64_w, i32_w]; rfl))
                      refine pu_ (i := 9) (N := some 62) (v := ?_) (a' := ?_) rfl rfl (any_of HT_.out (by kernel_rfl)) (fun _ _ _ h => h) (Or.inl ⟨by rfl, ?_⟩) ?_ ?_; rotate_left; (· (intro w'; go_simp; with_reducible rfl)); rotate_left; (· (simp only [Act.put, sA_, sZ_, sS_, i64_w, i32_w]; rfl))
                      refine pu_ (i := 11) (N := some 64) (v := ?_) (a' := ?_) rfl rfl (any_of HT_.out (by kernel_rfl)) (fun _ _ _ h => h) (Or.inl ⟨by rfl, ?_⟩) ?_ ?_; rotate_left; (· (intro w'; go_simp; with_reducible rfl))
                      rotate_left; (· (simp only [Act.put, sA_, sZ_, sS_, i64_w, i32_w]; rfl))
                      refine ta_ (i := 10) (N := some 63) (v := ?_) (a' := ?_) rfl rfl (take_ofW HT_.out HW_.out (by kernel_rfl)) (fun _ _ _ h => h) (Or.inl ⟨by rfl, ?_⟩) hHeld ?_ ?_
                      rotate_left
                      · rintro w' ⟨s0, s1, s2, s3, s4, s5, s6, s7, s8, s9⟩
                        go_simp
                        with_reducible rfl
                      rotate_left; (· (simp only [Act.put, sA_, sZ_, sS_, i64_w, i32_w]; rfl))
                      refine pu_ (i := 12) (N := some 65) (v := ?_) (a' := ?_) rfl rfl (any_of HT_.out (by kernel_rfl)) (fun _ _ _ h => h) (Or.inl ⟨by rfl, ?_⟩) ?_ ?_; rotate_left; (· (intro w'; go_simp; with_reducible rfl)); rotate_left; (· (simp only [Act.put, sA_, sZ_, sS_, i64_w, i32_w]; rfl))
                      refine pu_ (i := 13) (N := some 66) (v := ?_) (a' := ?_) rfl rfl (any_of HT_.out (by kernel_rfl)) (fun _ _ _ h => h) (Or.inl ⟨by rfl, ?_⟩) ?_ ?_; rotate_left; (· (intro w'; go_simp; with_reducible rfl))
                      rotate_left; (· (simp only [Act.put, sA_, sZ_, sS_, i64_w, i32_w]; rfl))
                      refine ta_ (i := 14) (N := some 67) (v := ?_) (a' := ?_) rfl rfl (take_ofW HT_.out HW_.out (by kernel_rfl)) (fun _ _ _ h => h) (Or.inl ⟨by rfl, ?_⟩) hHeld ?_ ?_
                      rotate_left
                      · rintro w' ⟨s0, s1, s2, s3, s4, s5, s6, s7, s8, s9⟩
                        go_simp
                        with_reducible rfl
                      rotate_left; (· (simp only [Act.put, sA_, sZ_, sS_, i64_w, i32_w]; rfl))
                      refine pu_ (i := 15) (N := some 68) (v := ?_) (a' := ?_) rfl rfl (any_of HT_.out (by kernel_rfl)) (fun _ _ _ h => h) (Or.inl ⟨by rfl, ?_⟩) ?_ ?_; rotate_left; (· (intro w'; go_simp; with_reducible rfl)); rotate_left; (· (simp only [Act.put, sA_, sZ_, sS_, i64_w, i32_w]; rfl))
                      refine pu_ (i := 16) (N := some 69) (v := ?_) (a' := ?_) rfl rfl (any_of HT_.out (by kernel_rfl)) (fun _ _ _ h => h) (Or.inl ⟨by rfl, ?_⟩) ?_ ?_; rotate_left; (· (intro w'; go_simp; with_reducible rfl))
                      rotate_left; (· (simp only [Act.put, sA_, sZ_, sS_, i64_w, i32_w]; rfl))
                      refine pu_ (i := 17) (N := some 70) (v := ?_) (a' := ?_) rfl rfl (any_of HT_.out (by kernel_rfl)) (fun _ _ _ h => h) (Or.inl ⟨by rfl, ?_⟩) ?_ ?_; rotate_left; (· (intro w'; go_simp; with_reducible rfl)); rotate_left; (· (simp only [Act.put, sA_, sZ_, sS_, i64_w, i32_w]; rfl))
                      refine pu_ (i := 18) (N := some 71) (v := ?_) (a' := ?_) rfl rfl (any_of HT_.out (by kernel_rfl)) (fun _ _ _ h => h) (Or.inl ⟨by rfl, ?_⟩) ?_ ?_; rotate_left; (· (intro w'; go_simp; with_reducible rfl))
                      rotate_left; (· (simp only [Act.put, sA_, sZ_, sS_, i64_w, i32_w]; rfl))
                      refine pu_ (i := 20) (N := some 73) (v := ?_) (a' := ?_) rfl rfl (any_of HT_.out (by kernel_rfl)) (fun _ _ _ h => h) (Or.inl ⟨by rfl, ?_⟩) ?_ ?_; rotate_left; (· (intro w'; go_simp; with_reducible rfl)); rotate_left; (· (simp only [Act.put, sA_, sZ_, sS_, i64_w, i32_w]; rfl))
                      refine ta_ (i := 19) (N := some 72) (v := ?_) (a' := ?_) rfl rfl (take_ofW HT_.out HW_.out (by kernel_rfl)) (fun _ _ _ h => h) (Or.inl ⟨by rfl, ?_⟩) hHeld ?_ ?_
                      rotate_left
                      · rintro w' ⟨s0, s1, s2, s3, s4, s5, s6, s7, s8, s9⟩
                        go_simp
                        with_reducible rfl
                      rotate_left; (· (simp only [Act.put, sA_, sZ_, sS_, i64_w, i32_w]; rfl))
                      refine pu_ (i := 21) (N := some 74) (v := ?_) (a' := ?_) rfl rfl (any_of HT_.out (by kernel_rfl)) (fun _ _ _ h => h) (Or.inl ⟨by rfl, ?_⟩) ?_ ?_; rotate_left; (· (intro w'; go_simp; with_reducible rfl)); rotate_left; (· (simp only [Act.put, sA_, sZ_, sS_, i64_w, i32_w]; rfl))
                      refine pu_ (i := 22) (N := some 75) (v := ?_) (a' := ?_) rfl rfl (any_of HT_.out (by kernel_rfl)) (fun _ _ _ h => h) (Or.inl ⟨by rfl, ?_⟩) ?_ ?_; rotate_left; (· (intro w'; go_simp; with_reducible rfl))
                      rotate_left; (· (simp only [Act.put, sA_, sZ_, sS_, i64_w, i32_w]; rfl))
                      refine ta_ (i := 23) (N := some 76) (v := ?_) (a' := ?_) rfl rfl (take_ofW HT_.out HW_.out (by kernel_rfl)) (fun _ _ _ h => h) (Or.inl ⟨by rfl, ?_⟩) hHeld ?_ ?_
                      rotate_left
                      · rintro w' ⟨s0, s1, s2, s3, s4, s5, s6, s7, s8, s9⟩
                        go_simp
                        with_reducible rfl
                      rotate_left; (· (simp only [Act.put, sA_, sZ_, sS_, i64_w, i32_w]; rfl))
                      refine pu_ (i := 24) (N := some 77) (v := ?_) (a' := ?_) rfl rfl (any_of HT_.out (by kernel_rfl)) (fun _ _ _ h => h) (Or.inl ⟨by rfl, ?_⟩) ?_ ?_; rotate_left; (· (intro w'; go_simp; with_reducible rfl)); rotate_left; (· (simp only [Act.put, sA_, sZ_, sS_, i64_w, i32_w]; rfl))
                      refine pu_ (i := 25) (N := some 78) (v := ?_) (a' := ?_) rfl rfl (any_of HT_.out (by kernel_rfl)) (fun _ _ _ h => h) (Or.inl ⟨by rfl, ?_⟩) ?_ ?_; rotate_left; (· (intro w'; go_simp; with_reducible rfl))
                      rotate_left; (· (simp only [Act.put, sA_, sZ_, sS_, i64_w, i32_w]; rfl))
                      refine pu_ (i := 26) (N := some 79) (v := ?_) (a' := ?_) rfl rfl (any_of HT_.out (by kernel_rfl)) (fun _ _ _ h => h) (Or.inl ⟨by rfl, ?_⟩) ?_ ?_; rotate_left; (· (intro w'; go_simp; with_reducible rfl)); rotate_left; (· (simp only [Act.put, sA_, sZ_, sS_, i64_w, i32_w]; rfl))
                      refine pu_ (i := 27) (N := some 80) (v := undef) (a' := ?_) rfl rfl (any_of HT_.out (by kernel_rfl)) (fun _ _ _ h => h) (Or.inr ⟨by rfl, rfl⟩) ?_ ?_; rotate_left; (· (simp only [Act.put, sA_, sZ_, sS_, i64_w, i32_w]; rfl))
                      refine pu_ (i := 28) (N := some 81) (v := undef) (a' := ?_) rfl rfl (any_of HT_.out (by kernel_rfl)) (fun _ _ _ h => h) (Or.inr ⟨by rfl, rfl⟩) ?_ ?_
                      rotate_left; (· (simp only [Act.put, sA_, sZ_, sS_, i64_w, i32_w]; rfl))
                      refine pu_ (i := 29) (N := some 82) (v := undef) (a' := ?_) rfl rfl (any_of HT_.out (by kernel_rfl)) (fun _ _ _ h => h) (Or.inr ⟨by rfl, rfl⟩) ?_ ?_; rotate_left; (· (simp only [Act.put, sA_, sZ_, sS_, i64_w, i32_w]; rfl))
                      refine pu_ (i := 30) (N := some 83) (v := undef) (a' := ?_) rfl rfl (any_of HT_.out (by kernel_rfl)) (fun _ _ _ h => h) (Or.inr ⟨by rfl, rfl⟩) ?_ ?_
                      rotate_left; (· (simp only [Act.put, sA_, sZ_, sS_, i64_w, i32_w]; rfl))
                      refine pu_ (i := 31) (N := some 84) (v := undef) (a' := ?_) rfl rfl (any_of HT_.out (by kernel_rfl)) (fun _ _ _ h => h) (Or.inr ⟨by rfl, rfl⟩) ?_ ?_; rotate_left; (· (simp only [Act.put, sA_, sZ_, sS_, i64_w, i32_w]; rfl))
                      refine pu_ (i := 32) (N := some 85) (v := undef) (a' := ?_) rfl rfl (any_of HT_.out (by kernel_rfl)) (fun _ _ _ h => h) (Or.inr ⟨by rfl, rfl⟩) ?_ ?_
                      rotate_left; (· (simp only [Act.put, sA_, sZ_, sS_, i64_w, i32_w]; rfl))
                      refine pu_ (i := 33) (N := some 86) (v := undef) (a' := ?_) rfl rfl (any_of HT_.out (by kernel_rfl)) (fun _ _ _ h => h) (Or.inr ⟨by rfl, rfl⟩) ?_ ?_; rotate_left; (· (simp only [Act.put, sA_, sZ_, sS_, i64_w, i32_w]; rfl))
                      refine pu_ (i := 34) (N := some 87) (v := undef) (a' := ?_) rfl rfl (any_of HT_.out (by kernel_rfl)) (fun _ _ _ h => h) (Or.inr ⟨by rfl, rfl⟩) ?_ ?_
                      rotate_left; (· (simp only [Act.put, sA_, sZ_, sS_, i64_w, i32_w]; rfl))
                      refine pu_ (i := 35) (N := some 88) (v := undef) (a' := ?_) rfl rfl (any_of HT_.out (by kernel_rfl)) (fun _ _ _ h => h) (Or.inr ⟨by rfl, rfl⟩) ?_ ?_; rotate_left; (· (simp only [Act.put, sA_, sZ_, sS_, i64_w, i32_w]; rfl))
                      refine pu_ (i := 36) (N := some 89) (v := undef) (a' := ?_) rfl rfl (any_of HT_.out (by kernel_rfl)) (fun _ _ _ h => h) (Or.inr ⟨by rfl, rfl⟩) ?_ ?_
                      rotate_left; (· (simp only [Act.put, sA_, sZ_, sS_, i64_w, i32_w]; rfl))
                      refine pu_ (i := 37) (N := some 90) (v := undef) (a' := ?_) rfl rfl (any_of HT_.out (by kernel_rfl)) (fun _ _ _ h => h) (Or.inr ⟨by rfl, rfl⟩) ?_ ?_; rotate_left; (· (simp only [Act.put, sA_, sZ_, sS_, i64_w, i32_w]; rfl))
                      refine pu_ (i := 38) (N := some 91) (v := ?_) (a' := ?_) rfl rfl (any_of HT_.out (by kernel_rfl)) (fun _ _ _ h => h) (Or.inl ⟨by rfl, ?_⟩) ?_ ?_; rotate_left; (· (intro w'; go_simp; with_reducible rfl)); rotate_left; (· (simp only [Act.put, sA_, sZ_, sS_, i64_w, i32_w]; rfl))
                      refine done_ (done_of HT_.out (by kernel_rfl)) ?_
                      try go_wp2
                      go_ret
                      exact ⟨by first | rfl | (simp [errW_none, errW_some] <;> rfl) | (simp [*, errW_none, errW_some] <;> rfl), by repeat (first | (with_reducible first | exact HB.out | apply below_alloc | apply pw_below_drewN | apply below_drew1 | refine below_set ?_ GE164.out) | exact HB.out)⟩
                    · rw [if_neg c30] at H
                      have c30b0 : decide (1000000 < ((rd_T98 l0_0 x3_2).f1)) = false := decide_eq_false c30
                      clear c30
                      have c33b0 := eq_true (of_decide_eq_true (by first | (with_reducible assumption) | assumption) : 0 ≤ x3_2)
                      by_cases c34 : x3_2 ≤ (l0_0.length : Int)
                      · rw [if_pos c34] at H
                        have c34b0 := eq_true c34
                        have c34b1 : decide (x3_2 ≤ (l0_0.length : Int)) = true := decide_eq_true c34
                        clear c34
                        obtain ⟨y170, hy170⟩ : ∃ y_ : List (S98), y_ = (l0_0.take (x3_2 : Int).toNat) := ⟨_, rfl⟩
                        replace H : ((spec_l3Saw.f k2 y170 ((rd_T98 l0_0 x3_2).f0)).bind fun t175 => (if t175 = true then (some false) else (spec_ExecOk.l0 k2 (wrap64 (x3_2 + 1)) l0_0 l0_1 a0_2 a0_3))) = some r := by first | (rw [hy170]; with_reducible exact H) | (have H2_ := (Option.bind_some _ _).symm.trans H; rw [hy170]; with_reducible exact H2_) | (have H2_ := (Option.bind_some _ _).symm.trans H; with_reducible exact H2_) | with_reducible exact H | (rw [hy170]; exact H) | exact H
                        have Ny170 := Aside0.mk hy170
                        clear hy170
                        replace H := Option.bind_eq_some_iff.mp H
                        obtain ⟨t175, A350, H⟩ := H
                        replace H : (if t175 = true then (some false) else (spec_ExecOk.l0 k2 (wrap64 (x3_2 + 1)) l0_0 l0_1 a0_2 a0_3)) = some r := H
                        have A35 := Aside0.mk A350
                        clear A350
                        by_cases c36 : t175 = true
                        · subst c36
                          have H1 : (some false) = some r := by rw [if_pos rfl] at H; exact H
                          clear H
                          have H := H1
                          clear H1
                          obtain rfl := Option.some.inj H
                          have hcz37_0 : wr.cell? ⟨gb164, 0, none⟩ = some (.slice A0_0 l0_0.length c0_0) := (blk_cell BK164.out 0).trans rfl
                          have hcz37_1 : wr.cell? ⟨gb164, 1, none⟩ = some (.slice A0_1 l0_1.length c0_1) := (blk_cell BK164.out 1).trans rfl
                          have hcz37_2 : wr.cell? ⟨gb164, 2, none⟩ = some (.int .i64 a0_2) := (blk_cell BK164.out 2).trans rfl
                          have hcz37_3 : wr.cell? ⟨gb164, 3, none⟩ = some (.int .i64 a0_3) := (blk_cell BK164.out 3).trans rfl
                          have hfz37_0 := blk_frozen BK164.out 0
                          have hfz37_1 := blk_frozen BK164.out 1
                          have hfz37_2 := blk_frozen BK164.out 2
                          have hfz37_3 := blk_frozen BK164.out 3
                          try go_wp2
                          have n0_ := Aside0.mk (blk_drew BK164.out)
                          have n1_ := Aside0.mk (below_drew1 HB.out)
                          clear BK164
                          clear HB
                          have BK164 := n0_
                          have HB := n1_
                          clear n0_ n1_
                          have p166 : 0 ≤ (x3_2 : Int) := of_decide_eq_true (by first | (with_reducible assumption) | assumption)
                          have q166 : x3_2 < (l0_0.length : Int) := of_decide_eq_true (by first | (with_reducible assumption) | assumption)
                          obtain ⟨ad166, e166, hx166_0, hx166_1⟩ := at_T98 HR0_0.out x3_2 p166 q166
                          have hw166_1 := hx166_1
                          have hw166_0 := hx166_0
                          cases e166
                          replace hx166_0 := (HB.out.cell (World.block_lt_of_cell? w _ hx166_0)).trans hx166_0
                          replace hx166_1 := (HB.out.cell (World.block_lt_of_cell? w _ hx166_1)).trans hx166_1
                          replace p166 := eq_true p166
                          replace q166 := eq_true q166
                          have p168 : 0 ≤ (x3_2 : Int) := of_decide_eq_true (by first | (with_reducible assumption) | assumption)
                          have q168 : x3_2 < (l0_0.length : Int) := of_decide_eq_true (by first | (with_reducible assumption) | assumption)
                          obtain ⟨ad168, e168, hx168_0, hx168_1⟩ := at_T98 HR0_0.out x3_2 p168 q168
                          have hw168_1 := hx168_1
                          have hw168_0 := hx168_0
                          obtain rfl : ad166 = ad168 := (by injection e168)
                          replace hx168_0 := (HB.out.cell (World.block_lt_of_cell? w _ hx168_0)).trans hx168_0
                          replace hx168_1 := (HB.out.cell (World.block_lt_of_cell? w _ hx168_1)).trans hx168_1
                          replace p168 := eq_true p168
                          replace q168 := eq_true q168
                          have p169 : 0 ≤ (x3_2 : Int) := of_decide_eq_true (by first | (with_reducible assumption) | assumption)
                          have q169 : x3_2 < (l0_0.length : Int) := of_decide_eq_true (by first | (with_reducible assumption) | assumption)
                          obtain ⟨ad169, e169, hx169_0, hx169_1⟩ := at_T98 HR0_0.out x3_2 p169 q169
                          have hw169_1 := hx169_1
                          have hw169_0 := hx169_0
                          obtain rfl : ad166 = ad169 := (by injection e169)
                          replace hx169_0 := (HB.out.cell (World.block_lt_of_cell? w _ hx169_0)).trans hx169_0
                          replace hx169_1 := (HB.out.cell (World.block_lt_of_cell? w _ hx169_1)).trans hx169_1
                          replace p169 := eq_true p169
                          replace q169 := eq_true q169
                          have p174 : 0 ≤ (x3_2 : Int) := of_decide_eq_true (by first | (with_reducible assumption) | assumption)
                          have q174 : x3_2 < (l0_0.length : Int) := of_decide_eq_true (by first | (with_reducible assumption) | assumption)
                          obtain ⟨ad174, e174, hx174_0, hx174_1⟩ := at_T98 HR0_0.out x3_2 p174 q174
                          have hw174_1 := hx174_1
                          have hw174_0 := hx174_0
                          obtain rfl : ad166 = ad174 := (by injection e174)
                          replace hx174_0 := (HB.out.cell (World.block_lt_of_cell? w _ hx174_0)).trans hx174_0
                          replace hx174_1 := (HB.out.cell (World.block_lt_of_cell? w _ hx174_1)).trans hx174_1
                          replace p174 := eq_true p174
                          replace q174 := eq_true q174
                          refine start_ (n := 39) (S := fun w' => w'.cell? ⟨gb164, 0, none⟩ = some (.slice (some ad166) l0_0.length c0_0) ∧ w'.cell? ⟨gb164, 1, none⟩ = some (.slice A0_1 l0_1.length c0_1) ∧ w'.cell? ⟨gb164, 2, none⟩ = some (.int .i64 a0_2) ∧ w'.cell? ⟨gb164, 3, none⟩ = some (.int .i64 a0_3) ∧ w'.cell? (ad166.add ((x3_2).toNat * 2)) = some (.int .i64 ((rd_T98 l0_0 x3_2).f0)) ∧ w'.cell? ⟨(ad166.add ((x3_2).toNat * 2)).block, (ad166.add ((x3_2).toNat * 2)).off + 1, none⟩ = some (.int .i64 ((rd_T98 l0_0 x3_2).f1)) ∧ w'.cell? (ad166.add ((x3_2).toNat * 2)) = some (.int .i64 ((rd_T98 l0_0 x3_2).f0)) ∧ w'.cell? ⟨(ad166.add ((x3_2).toNat * 2)).block, (ad166.add ((x3_2).toNat * 2)).off + 1, none⟩ = some (.int .i64 ((rd_T98 l0_0 x3_2).f1)) ∧ w'.cell? (ad166.add ((x3_2).toNat * 2)) = some (.int .i64 ((rd_T98 l0_0 x3_2).f0)) ∧ w'.cell? ⟨(ad166.add ((x3_2).toNat * 2)).block, (ad166.add ((x3_2).toNat * 2)).off + 1, none⟩ = some (.int .i64 ((rd_T98 l0_0 x3_2).f1)) ∧ w'.cell? (ad166.add ((x3_2).toNat * 2)) = some (.int .i64 ((rd_T98 l0_0 x3_2).f0)) ∧ w'.cell? ⟨(ad166.add ((x3_2).toNat * 2)).block, (ad166.add ((x3_2).toNat * 2)).off + 1, none⟩ = some (.int .i64 ((rd_T98 l0_0 x3_2).f1))) (ds := []) #[false, false, false, false, false, false, false, false, false, false, false, false, false, false, false, false, false, false, false, false, false, false, false, false, false, false, false, false, false, false, false, false, false, false, false, false, false, false, false] (by kernel_rfl) rfl rfl ⟨(blk_cell BK164.out 0).trans rfl, (blk_cell BK164.out 1).trans rfl, (blk_cell BK164.out 2).trans rfl, (blk_cell BK164.out 3).trans rfl, ((HB.out.cell (World.block_lt_of_cell? w _ hw166_0)).trans hw166_0), ((HB.out.cell (World.block_lt_of_cell? w _ hw166_1)).trans hw166_1), ((HB.out.cell (World.block_lt_of_cell? w _ hw168_0)).trans hw168_0), ((HB.out.cell (World.block_lt_of_cell? w _ hw168_1)).trans hw168_1), ((HB.out.cell (World.block_lt_of_cell? w _ hw169_0)).trans hw169_0), ((HB.out.cell (World.block_lt_of_cell? w _ hw169_1)).trans hw169_1), ((HB.out.cell (World.block_lt_of_cell? w _ hw174_0)).trans hw174_0), ((HB.out.cell (World.block_lt_of_cell? w _ hw174_1)).trans hw174_1)⟩ (fun hHeld => ?_); refine with_tabW spec_ExecOk.tab6 spec_ExecOk.bits6 (fun HT_ HW_ => ?_)
                          generalize wr.drew = w38 at BK164 HB hx166_0 hx166_1 hx168_0 hx168_1 hx169_0 hx169_1 hx174_0 hx174_1 hHeld ⊢
                          refine pu_ (i := 0) (N := some 53) (v := ?_) (a' := ?_) rfl rfl (any_of HT_.out (by kernel_rfl)) (fun _ _ _ h => h) (Or.inl ⟨by rfl, ?_⟩) ?_ ?_; rotate_left; (· (intro w'; go_simp; with_reducible rfl)); rotate_left; (· (simp only [Act.put, sA_, sZ_, sS_, i64_w, i32_w]; rfl))
                          refine pu_ (i := 2) (N := some 55) (v := ?_) (a' := ?_) rfl rfl (any_of HT_.out (by kernel_rfl)) (fun _ _ _ h => h) (Or.inl ⟨by rfl, ?_⟩) ?_ ?_; rotate_left; (· (intro w'; go_simp; with_reducible rfl))
                          rotate_left; (· (simp only [Act.put, sA_, sZ_, sS_, i64_w, i32_w]; rfl))
                          refine ta_ (i := 1) (N := some 54) (v := ?_) (a' := ?_) rfl rfl (take_ofW HT_.out HW_.out (by kernel_rfl)) (fun _ _ _ h => h) (Or.inl ⟨by rfl, ?_⟩) hHeld ?_ ?_
                          rotate_left
                          · rintro w' ⟨s0, s1, s2, s3, s4, s5, s6, s7, s8, s9, s10, s11⟩
                            go_simp
                            with_reducible rfl
                          rotate_left; (· (simp only [Act.put, sA_, sZ_, sS_, i64_w, i32_w]; rfl))
                          refine pu_ (i := 3) (N := some 56) (v := ?_) (a' := ?_) rfl rfl (any_of HT_.out (by kernel_rfl)) (fun _ _ _ h => h) (Or.inl ⟨by rfl, ?_⟩) ?_ ?_; rotate_left; (· (intro w'; go_simp; with_reducible rfl)); rotate_left; (· (simp only [Act.put, sA_, sZ_, sS_, i64_w, i32_w]; rfl))
                          refine pu_ (i := 4) (N := some 57) (v := ?_) (a' := ?_) rfl rfl (any_of HT_.out (by kernel_rfl)) (fun _ _ _ h => h) (Or.inl ⟨by rfl, ?_⟩) ?_ ?_; rotate_left; (· (intro w'; go_simp; with_reducible rfl))
                          rotate_left; (· (simp only [Act.put, sA_, sZ_, sS_, i64_w, i32_w]; rfl))
                          refine ta_ (i := 5) (N := some 58) (v := ?_) (a' := ?_) rfl rfl (take_ofW HT_.out HW_.out (by kernel_rfl)) (fun _ _ _ h => h) (Or.inl ⟨by rfl, ?_⟩) hHeld ?_ ?_
                          rotate_left
                          · rintro w' ⟨s0, s1, s2, s3, s4, s5, s6, s7, s8, s9, s10, s11⟩
                            go_simp
                            with_reducible rfl
                          rotate_left; (· (simp only [Act.put, sA_, sZ_, sS_, i64_w, i32_w]; rfl))
                          refine on_ (i := 6) (N := some 59) rfl rfl (one_of HT_.out (by kernel_rfl)) (by decide) (fun K hK => ?_)
                          refine goes_ Try.func83 (by kernel_rfl) rfl #[.int .i64 ((rd_T98 l0_0 x3_2).f0)] (by rfl) rfl rfl (by (try simp only [List.map_toArray, List.map_cons, List.map_nil]); first | done | rfl | (simp only [List.length_drop, List.length_take]; rfl)) ?_
                          with_reducible refine (spec_l2Box.calls ((rd_T98 l0_0 x3_2).f0) true _ A25.out).mono ?_
                          rintro e w' ⟨rfl, ⟨nd, rfl⟩⟩
                          refine ⟨_, rfl, ?_⟩
                          have q39 : (x3_2 : Int) ≤ ((l0_0.length : Int) : Int) := of_decide_eq_true (by first | (with_reducible assumption) | assumption)
                          obtain ⟨i039, hi039, _, hsz39, _⟩ := info_parts info98
                          have hroom39 : l0_0.length ≤ c0_0 := HC0_0.out
                          have hC39 : Kd.C k98 _ (some ad166) l0_0.length l0_0 := HR0_0.out
                          have hcut39 := cut_to (P := Try.prog) 52 98 .i64 Try.underlying52 hi039 (some ad166) l0_0.length c0_0 x3_2 (of_decide_eq_true (by first | (with_reducible assumption) | assumption)) q39 hroom39
                          have hr39 := Kd.C_take (m := (x3_2 : Int).toNat) hC39 (by omega)
                          have hy39 : y170.length = (x3_2 : Int).toNat := (by rw [Ny170.out, List.length_take]; omega)
                          rw [← Ny170.out] at hr39
                          rw [← hy39] at hcut39
                          have HR173 := Aside0.mk hr39
                          have HC173 := Aside0.mk (show y170.length ≤ c0_0 from by omega)
                          clear hr39 hC39 hroom39 hi039 hsz39
                          have KY39 := Aside0.mk hy39
                          clear hy39
                          replace q39 := eq_true q39
                          refine hK.out _ _ ⟨(blk_cell BK164.out 0).trans rfl, (blk_cell BK164.out 1).trans rfl, (blk_cell BK164.out 2).trans rfl, (blk_cell BK164.out 3).trans rfl, ((HB.out.cell (World.block_lt_of_cell? w _ hw166_0)).trans hw166_0), ((HB.out.cell (World.block_lt_of_cell? w _ hw166_1)).trans hw166_1), ((HB.out.cell (World.block_lt_of_cell? w _ hw168_0)).trans hw168_0), ((HB.out.cell (World.block_lt_of_cell? w _ hw168_1)).trans hw168_1), ((HB.out.cell (World.block_lt_of_cell? w _ hw169_0)).trans hw169_0), ((HB.out.cell (World.block_lt_of_cell? w _ hw169_1)).trans hw169_1), ((HB.out.cell (World.block_lt_of_cell? w _ hw174_0)).trans hw174_0), ((HB.out.cell (World.block_lt_of_cell? w _ hw174_1)).trans hw174_1)⟩ (fun hHeld => ?_)
                          clear hK K
                          refine norm_ (a' := ?_) ?_ ?_
                          rotate_left
                          · show Act.put _ (some 59) _ = _
                            simp only [Act.put, sA_, sZ_, sS_, i64_w, i32_w]
                            rfl
                          refine pu_ (i := 7) (N := some 60) (v := ?_) (a' := ?_) rfl rfl (any_of HT_.out (by kernel_rfl)) (fun _ _ _ h => h) (Or.inl ⟨by rfl, ?_⟩) ?_ ?_; rotate_left; (· (intro w'; go_simp; with_reducible rfl)); rotate_left; (· (simp only [Act.put, sA_, sZ_, sS_, i64_w, i32_w]; rfl))
                          refine pu_ (i := 8) (N := some 61) (v := ?_) (a' := ?_) rfl rfl (any_of HT_.out (by kernel_rfl)) (fun _ _ _ h => h) (Or.inl ⟨by rfl, ?_⟩) ?_ ?_; rotate_left; (· (intro w'; go_simp; with_reducible rfl))
                          rotate_left; (· (simp only [Act.put, sA_, sZ_, sS_, i64_w, i32_w]; rfl))
                          refine pu_ (i := 9) (N := some 62) (v := ?_) (a' := ?_) rfl rfl (any_of HT_.out (by kernel_rfl)) (fun _ _ _ h => h) (Or.inl ⟨by rfl, ?_⟩) ?_ ?_; rotate_left; (· (intro w'; go_simp; with_reducible rfl)); rotate_left; (· (simp only [Act.put, sA_, sZ_, sS_, i64_w, i32_w]; rfl))
                          refine pu_ (i := 11) (N := some 64) (v := ?_) (a' := ?_) rfl rfl (any_of HT_.out (by kernel_rfl)) (fun _ _ _ h => h) (Or.inl ⟨by rfl, ?_⟩) ?_ ?_; rotate_left; (· (intro w'; go_simp; with_reducible rfl))
                          rotate_left; (· (simp only [Act.put, sA_, sZ_, sS_, i64_w, i32_w]; rfl))
                          refine ta_ (i := 10) (N := some 63) (v := ?_) (a' := ?_) rfl rfl (take_ofW HT_.out HW_.out (by kernel_rfl)) (fun _ _ _ h => h) (Or.inl ⟨by rfl, ?_⟩) hHeld ?_ ?_
                          rotate_left
                          · rintro w' ⟨s0, s1, s2, s3, s4, s5, s6, s7, s8, s9, s10, s11⟩
                            go_simp
                            with_reducible rfl
                          rotate_left; (· (simp only [Act.put, sA_, sZ_, sS_, i64_w, i32_w]; rfl))
                          refine pu_ (i := 12) (N := some 65) (v := ?_) (a' := ?_) rfl rfl (any_of HT_.out (by kernel_rfl)) (fun _ _ _ h => h) (Or.inl ⟨by rfl, ?_⟩) ?_ ?_; rotate_left; (· (intro w'; go_simp; with_reducible rfl)); rotate_left; (· (simp only [Act.put, sA_, sZ_, sS_, i64_w, i32_w]; rfl))
                          refine pu_ (i := 13) (N := some 66) (v := ?_) (a' := ?_) rfl rfl (any_of HT_.out (by kernel_rfl)) (fun _ _ _ h => h) (Or.inl ⟨by rfl, ?_⟩) ?_ ?_; rotate_left; (· (intro w'; go_simp; with_reducible rfl))
                          rotate_left; (· (simp only [Act.put, sA_, sZ_, sS_, i64_w, i32_w]; rfl))
                          refine ta_ (i := 14) (N := some 67) (v := ?_) (a' := ?_) rfl rfl (take_ofW HT_.out HW_.out (by kernel_rfl)) (fun _ _ _ h => h) (Or.inl ⟨by rfl, ?_⟩) hHeld ?_ ?_
                          rotate_left
                          · rintro w' ⟨s0, s1, s2, s3, s4, s5, s6, s7, s8, s9, s10, s11⟩
                            go_simp
                            with_reducible rfl
                          rotate_left; (· (simp only [Act.put, sA_, sZ_, sS_, i64_w, i32_w]; rfl))
                          refine pu_ (i := 15) (N := some 68) (v := ?_) (a' := ?_) rfl rfl (any_of HT_.out (by kernel_rfl)) (fun _ _ _ h => h) (Or.inl ⟨by rfl, ?_⟩) ?_ ?_; rotate_left; (· (intro w'; go_simp; with_reducible rfl)); rotate_left; (· (simp only [Act.put, sA_, sZ_, sS_, i64_w, i32_w]; rfl))
                          refine pu_ (i := 16) (N := some 69) (v := ?_) (a' := ?_) rfl rfl (any_of HT_.out (by kernel_rfl)) (fun _ _ _ h => h) (Or.inl ⟨by rfl, ?_⟩) ?_ ?_; rotate_left; (· (intro w'; go_simp; with_reducible rfl))
                          rotate_left; (· (simp only [Act.put, sA_, sZ_, sS_, i64_w, i32_w]; rfl))
                          refine pu_ (i := 17) (N := some 70) (v := ?_) (a' := ?_) rfl rfl (any_of HT_.out (by kernel_rfl)) (fun _ _ _ h => h) (Or.inl ⟨by rfl, ?_⟩) ?_ ?_; rotate_left; (· (intro w'; go_simp; with_reducible rfl)); rotate_left; (· (simp only [Act.put, sA_, sZ_, sS_, i64_w, i32_w]; rfl))
                          refine pu_ (i := 18) (N := some 71) (v := ?_) (a' := ?_) rfl rfl (any_of HT_.out (by kernel_rfl)) (fun _ _ _ h => h) (Or.inl ⟨by rfl, ?_⟩) ?_ ?_; rotate_left; (· (intro w'; go_simp; with_reducible rfl))
                          rotate_left; (· (simp only [Act.put, sA_, sZ_, sS_, i64_w, i32_w]; rfl))
                          refine pu_ (i := 20) (N := some 73) (v := ?_) (a' := ?_) rfl rfl (any_of HT_.out (by kernel_rfl)) (fun _ _ _ h => h) (Or.inl ⟨by rfl, ?_⟩) ?_ ?_; rotate_left; (· (intro w'; go_simp; with_reducible rfl)); rotate_left; (· (simp only [Act.put, sA_, sZ_, sS_, i64_w, i32_w]; rfl))
                          refine ta_ (i := 19) (N := some 72) (v := ?_) (a' := ?_) rfl rfl (take_ofW HT_.out HW_.out (by kernel_rfl)) (fun _ _ _ h => h) (Or.inl ⟨by rfl, ?_⟩) hHeld ?_ ?_
                          rotate_left
                          · rintro w' ⟨s0, s1, s2, s3, s4, s5, s6, s7, s8, s9, s10, s11⟩
                            go_simp
                            with_reducible rfl
                          rotate_left; (· (simp only [Act.put, sA_, sZ_, sS_, i64_w, i32_w]; rfl))
                          refine pu_ (i := 21) (N := some 74) (v := ?_) (a' := ?_) rfl rfl (any_of HT_.out (by kernel_rfl)) (fun _ _ _ h => h) (Or.inl ⟨by rfl, ?_⟩) ?_ ?_; rotate_left; (· (intro w'; go_simp; with_reducible rfl)); rotate_left; (· (simp only [Act.put, sA_, sZ_, sS_, i64_w, i32_w]; rfl))
                          refine pu_ (i := 22) (N := some 75) (v := ?_) (a' := ?_) rfl rfl (any_of HT_.out (by kernel_rfl)) (fun _ _ _ h => h) (Or.inl ⟨by rfl, ?_⟩) ?_ ?_; rotate_left; (· (intro w'; go_simp; with_reducible rfl))
                          rotate_left; (· (simp only [Act.put, sA_, sZ_, sS_, i64_w, i32_w]; rfl))
                          refine ta_ (i := 23) (N := some 76) (v := ?_) (a' := ?_) rfl rfl (take_ofW HT_.out HW_.out (by kernel_rfl)) (fun _ _ _ h => h) (Or.inl ⟨by rfl, ?_⟩) hHeld ?_ ?_
                          rotate_left
                          · rintro w' ⟨s0, s1, s2, s3, s4, s5, s6, s7, s8, s9, s10, s11⟩
                            go_simp
                            with_reducible rfl
                          rotate_left; (· (simp only [Act.put, sA_, sZ_, sS_, i64_w, i32_w]; rfl))
                          refine pu_ (i := 24) (N := some 77) (v := ?_) (a' := ?_) rfl rfl (any_of HT_.out (by kernel_rfl)) (fun _ _ _ h => h) (Or.inl ⟨by rfl, ?_⟩) ?_ ?_; rotate_left; (· (intro w'; go_simp; with_reducible rfl)); rotate_left; (· (simp only [Act.put, sA_, sZ_, sS_, i64_w, i32_w]; rfl))
                          refine pu_ (i := 25) (N := some 78) (v := ?_) (a' := ?_) rfl rfl (any_of HT_.out (by kernel_rfl)) (fun _ _ _ h => h) (Or.inl ⟨by rfl, ?_⟩) ?_ ?_; rotate_left; (· (intro w'; go_simp; with_reducible rfl))
                          rotate_left; (· (simp only [Act.put, sA_, sZ_, sS_, i64_w, i32_w]; rfl))
                          refine pu_ (i := 26) (N := some 79) (v := ?_) (a' := ?_) rfl rfl (any_of HT_.out (by kernel_rfl)) (fun _ _ _ h => h) (Or.inl ⟨by rfl, ?_⟩) ?_ ?_; rotate_left; (· (intro w'; go_simp; with_reducible rfl)); rotate_left; (· (simp only [Act.put, sA_, sZ_, sS_, i64_w, i32_w]; rfl))
                          refine pu_ (i := 27) (N := some 80) (v := ?_) (a' := ?_) rfl rfl (any_of HT_.out (by kernel_rfl)) (fun _ _ _ h => h) (Or.inl ⟨by rfl, ?_⟩) ?_ ?_; rotate_left; (· (intro w'; go_simp; with_reducible rfl))
                          rotate_left; (· (simp only [Act.put, sA_, sZ_, sS_, i64_w, i32_w]; rfl))
                          refine pu_ (i := 29) (N := some 82) (v := ?_) (a' := ?_) rfl rfl (any_of HT_.out (by kernel_rfl)) (fun _ _ _ h => h) (Or.inl ⟨by rfl, ?_⟩) ?_ ?_; rotate_left; (· (intro w'; go_simp; with_reducible rfl)); rotate_left; (· (simp only [Act.put, sA_, sZ_, sS_, i64_w, i32_w]; rfl))
                          refine pu_ (i := 31) (N := some 84) (v := ?_) (a' := ?_) rfl rfl (any_of HT_.out (by kernel_rfl)) (fun _ _ _ h => h) (Or.inl ⟨by rfl, ?_⟩) ?_ ?_; rotate_left; (· (intro w'; go_simp; with_reducible rfl))
                          rotate_left; (· (simp only [Act.put, sA_, sZ_, sS_, i64_w, i32_w]; rfl))
                          refine pu_ (i := 33) (N := some 86) (v := ?_) (a' := ?_) rfl rfl (any_of HT_.out (by kernel_rfl)) (fun _ _ _ h => h) (Or.inl ⟨by rfl, ?_⟩) ?_ ?_; rotate_left; (· (intro w'; go_simp; with_reducible rfl)); rotate_left; (· (simp only [Act.put, sA_, sZ_, sS_, i64_w, i32_w]; rfl))
                          refine ta_ (i := 28) (N := some 81) (v := ?_) (a' := ?_) rfl rfl (take_ofW HT_.out HW_.out (by kernel_rfl)) (fun _ _ _ h => h) (Or.inl ⟨by rfl, ?_⟩) hHeld ?_ ?_
                          rotate_left
                          · rintro w' ⟨s0, s1, s2, s3, s4, s5, s6, s7, s8, s9, s10, s11⟩
                            go_simp
                            with_reducible rfl
                          rotate_left; (· (simp only [Act.put, sA_, sZ_, sS_, i64_w, i32_w]; rfl))
                          refine pu_ (i := 30) (N := some 83) (v := ?_) (a' := ?_) rfl rfl (any_of HT_.out (by kernel_rfl)) (fun _ _ _ h => h) (Or.inl ⟨by rfl, ?_⟩) ?_ ?_; rotate_left; (· (intro w'; go_simp; with_reducible rfl)); rotate_left; (· (simp only [Act.put, sA_, sZ_, sS_, i64_w, i32_w]; rfl))
                          refine ta_ (i := 32) (N := some 85) (v := ?_) (a' := ?_) rfl rfl (take_ofW HT_.out HW_.out (by kernel_rfl)) (fun _ _ _ h => h) (Or.inl ⟨by rfl, ?_⟩) hHeld ?_ ?_
                          rotate_left
                          · rintro w' ⟨s0, s1, s2, s3, s4, s5, s6, s7, s8, s9, s10, s11⟩
                            go_simp
                            with_reducible rfl
                          rotate_left; (· (simp only [Act.put, sA_, sZ_, sS_, i64_w, i32_w]; rfl))
                          refine pu_ (i := 34) (N := some 87) (v := ?_) (a' := ?_) rfl rfl (any_of HT_.out (by kernel_rfl)) (fun _ _ _ h => h) (Or.inl ⟨by rfl, ?_⟩) ?_ ?_; rotate_left; (· (intro w'; go_simp; with_reducible rfl)); rotate_left; (· (simp only [Act.put, sA_, sZ_, sS_, i64_w, i32_w]; rfl))
                          refine pu_ (i := 35) (N := some 88) (v := ?_) (a' := ?_) rfl rfl (any_of HT_.out (by kernel_rfl)) (fun _ _ _ h => h) (Or.inl ⟨by rfl, ?_⟩) ?_ ?_; rotate_left; (· (intro w'; go_simp; with_reducible rfl))
                          rotate_left; (· (simp only [Act.put, sA_, sZ_, sS_, i64_w, i32_w]; rfl))
                          refine ta_ (i := 36) (N := some 89) (v := ?_) (a' := ?_) rfl rfl (take_ofW HT_.out HW_.out (by kernel_rfl)) (fun _ _ _ h => h) (Or.inl ⟨by rfl, ?_⟩) hHeld ?_ ?_
                          rotate_left
                          · rintro w' ⟨s0, s1, s2, s3, s4, s5, s6, s7, s8, s9, s10, s11⟩
                            go_simp
                            with_reducible rfl
                          rotate_left; (· (simp only [Act.put, sA_, sZ_, sS_, i64_w, i32_w]; rfl))
                          refine on_ (i := 37) (N := some 90) rfl rfl (one_of HT_.out (by kernel_rfl)) (by decide) (fun K hK => ?_)
                          refine goes_ Try.func84 (by kernel_rfl) rfl #[.slice (some ad166) y170.length c0_0, .int .i64 ((rd_T98 l0_0 x3_2).f0)] (by rfl) rfl rfl (by (try simp only [List.map_toArray, List.map_cons, List.map_nil]); first | done | rfl | (simp only [List.length_drop, List.length_take]; rfl)) ?_
                          with_reducible refine (spec_l3Saw.calls k2 _ _ y170 ((rd_T98 l0_0 x3_2).f0) true _ ?side1 ?side2 A35.out).mono ?_
                          (case side1 => repeat (first | exact (Kd.C_below HR173.out (by repeat (first | (with_reducible first | exact HB.out | apply below_alloc | apply pw_below_drewN | apply below_drew1 | refine below_set ?_ GE164.out) | exact HB.out))) | (with_reducible refine Kd.C_alloc ?_ _) | (with_reducible refine Kd.C_drewN ?_ _) | (with_reducible refine Kd.C_drew ?_)))
                          (case side2 => exact HC173.out)
                          rintro e w' ⟨rfl, ⟨nd, rfl⟩⟩
                          refine ⟨_, rfl, ?_⟩
                          refine hK.out _ _ ⟨(blk_cell BK164.out 0).trans rfl, (blk_cell BK164.out 1).trans rfl, (blk_cell BK164.out 2).trans rfl, (blk_cell BK164.out 3).trans rfl, ((HB.out.cell (World.block_lt_of_cell? w _ hw166_0)).trans hw166_0), ((HB.out.cell (World.block_lt_of_cell? w _ hw166_1)).trans hw166_1), ((HB.out.cell (World.block_lt_of_cell? w _ hw168_0)).trans hw168_0), ((HB.out.cell (World.block_lt_of_cell? w _ hw168_1)).trans hw168_1), ((HB.out.cell (World.block_lt_of_cell? w _ hw169_0)).trans hw169_0), ((HB.out.cell (World.block_lt_of_cell? w _ hw169_1)).trans hw169_1), ((HB.out.cell (World.block_lt_of_cell? w _ hw174_0)).trans hw174_0), ((HB.out.cell (World.block_lt_of_cell? w _ hw174_1)).trans hw174_1)⟩ (fun hHeld => ?_)
                          clear hK K
                          refine norm_ (a' := ?_) ?_ ?_
                          rotate_left
                          · show Act.put _ (some 90) _ = _
                            simp only [Act.put, sA_, sZ_, sS_, i64_w, i32_w]
                            rfl
                          refine pu_ (i := 38) (N := some 91) (v := ?_) (a' := ?_) rfl rfl (any_of HT_.out (by kernel_rfl)) (fun _ _ _ h => h) (Or.inl ⟨by rfl, ?_⟩) ?_ ?_; rotate_left; (· (intro w'; go_simp; with_reducible rfl)); rotate_left; (· (simp only [Act.put, sA_, sZ_, sS_, i64_w, i32_w]; rfl))
                          refine done_ (done_of HT_.out (by kernel_rfl)) ?_
                          try go_wp2
                          go_ret
                          exact ⟨by first | rfl | (simp [errW_none, errW_some] <;> rfl) | (simp [*, errW_none, errW_some] <;> rfl), by repeat (first | (with_reducible first | exact HB.out | apply below_alloc | apply pw_below_drewN | apply below_drew1 | refine below_set ?_ GE164.out) | exact HB.out)⟩
                        · replace c36 := Bool.eq_false_iff.mpr c36
                          subst c36
                          have H1 : (spec_ExecOk.l0 k2 (wrap64 (x3_2 + 1)) l0_0 l0_1 a0_2 a0_3) = some r := by rw [if_neg (show ¬ (false = true) by decide)] at H; exact H
                          clear H
                          have H := H1
                          clear H1
                          have H' := Aside0.mk H
                          clear H
                          have hcz40_0 : wr.cell? ⟨gb164, 0, none⟩ = some (.slice A0_0 l0_0.length c0_0) := (blk_cell BK164.out 0).trans rfl
                          have hcz40_1 : wr.cell? ⟨gb164, 1, none⟩ = some (.slice A0_1 l0_1.length c0_1) := (blk_cell BK164.out 1).trans rfl
                          have hcz40_2 : wr.cell? ⟨gb164, 2, none⟩ = some (.int .i64 a0_2) := (blk_cell BK164.out 2).trans rfl
                          have hcz40_3 : wr.cell? ⟨gb164, 3, none⟩ = some (.int .i64 a0_3) := (blk_cell BK164.out 3).trans rfl
                          have hfz40_0 := blk_frozen BK164.out 0
                          have hfz40_1 := blk_frozen BK164.out 1
                          have hfz40_2 := blk_frozen BK164.out 2
                          have hfz40_3 := blk_frozen BK164.out 3
                          try go_wp2
                          have n0_ := Aside0.mk (blk_drew BK164.out)
                          have n1_ := Aside0.mk (below_drew1 HB.out)
                          clear BK164
                          clear HB
                          have BK164 := n0_
                          have HB := n1_
                          clear n0_ n1_
                          have p166 : 0 ≤ (x3_2 : Int) := of_decide_eq_true (by first | (with_reducible assumption) | assumption)
                          have q166 : x3_2 < (l0_0.length : Int) := of_decide_eq_true (by first | (with_reducible assumption) | assumption)
                          obtain ⟨ad166, e166, hx166_0, hx166_1⟩ := at_T98 HR0_0.out x3_2 p166 q166
                          have hw166_1 := hx166_1
                          have hw166_0 := hx166_0
                          cases e166
                          replace hx166_0 := (HB.out.cell (World.block_lt_of_cell? w _ hx166_0)).trans hx166_0
                          replace hx166_1 := (HB.out.cell (World.block_lt_of_cell? w _ hx166_1)).trans hx166_1
                          replace p166 := eq_true p166
                          replace q166 := eq_true q166
                          have p168 : 0 ≤ (x3_2 : Int) := of_decide_eq_true (by first | (with_reducible assumption) | assumption)
                          have q168 : x3_2 < (l0_0.length : Int) := of_decide_eq_true (by first | (with_reducible assumption) | assumption)
                          obtain ⟨ad168, e168, hx168_0, hx168_1⟩ := at_T98 HR0_0.out x3_2 p168 q168
                          have hw168_1 := hx168_1
                          have hw168_0 := hx168_0
                          obtain rfl : ad166 = ad168 := (by injection e168)
                          replace hx168_0 := (HB.out.cell (World.block_lt_of_cell? w _ hx168_0)).trans hx168_0
                          replace hx168_1 := (HB.out.cell (World.block_lt_of_cell? w _ hx168_1)).trans hx168_1
                          replace p168 := eq_true p168
                          replace q168 := eq_true q168
                          have p169 : 0 ≤ (x3_2 : Int) := of_decide_eq_true (by first | (with_reducible assumption) | assumption)
                          have q169 : x3_2 < (l0_0.length : Int) := of_decide_eq_true (by first | (with_reducible assumption) | assumption)
                          obtain ⟨ad169, e169, hx169_0, hx169_1⟩ := at_T98 HR0_0.out x3_2 p169 q169
                          have hw169_1 := hx169_1
                          have hw169_0 := hx169_0
                          obtain rfl : ad166 = ad169 := (by injection e169)
                          replace hx169_0 := (HB.out.cell (World.block_lt_of_cell? w _ hx169_0)).trans hx169_0
                          replace hx169_1 := (HB.out.cell (World.block_lt_of_cell? w _ hx169_1)).trans hx169_1
                          replace p169 := eq_true p169
                          replace q169 := eq_true q169
                          have p174 : 0 ≤ (x3_2 : Int) := of_decide_eq_true (by first | (with_reducible assumption) | assumption)
                          have q174 : x3_2 < (l0_0.length : Int) := of_decide_eq_true (by first | (with_reducible assumption) | assumption)
                          obtain ⟨ad174, e174, hx174_0, hx174_1⟩ := at_T98 HR0_0.out x3_2 p174 q174
                          have hw174_1 := hx174_1
                          have hw174_0 := hx174_0
                          obtain rfl : ad166 = ad174 := (by injection e174)
                          replace hx174_0 := (HB.out.cell (World.block_lt_of_cell? w _ hx174_0)).trans hx174_0
                          replace hx174_1 := (HB.out.cell (World.block_lt_of_cell? w _ hx174_1)).trans hx174_1
                          replace p174 := eq_true p174
                          replace q174 := eq_true q174
                          refine start_ (n := 39) (S := fun w' => w'.cell? ⟨gb164, 0, none⟩ = some (.slice (some ad166) l0_0.length c0_0) ∧ w'.cell? ⟨gb164, 1, none⟩ = some (.slice A0_1 l0_1.length c0_1) ∧ w'.cell? ⟨gb164, 2, none⟩ = some (.int .i64 a0_2) ∧ w'.cell? ⟨gb164, 3, none⟩ = some (.int .i64 a0_3) ∧ w'.cell? (ad166.add ((x3_2).toNat * 2)) = some (.int .i64 ((rd_T98 l0_0 x3_2).f0)) ∧ w'.cell? ⟨(ad166.add ((x3_2).toNat * 2)).block, (ad166.add ((x3_2).toNat * 2)).off + 1, none⟩ = some (.int .i64 ((rd_T98 l0_0 x3_2).f1)) ∧ w'.cell? (ad166.add ((x3_2).toNat * 2)) = some (.int .i64 ((rd_T98 l0_0 x3_2).f0)) ∧ w'.cell? ⟨(ad166.add ((x3_2).toNat * 2)).block, (ad166.add ((x3_2).toNat * 2)).off + 1, none⟩ = some (.int .i64 ((rd_T98 l0_0 x3_2).f1)) ∧ w'.cell? (ad166.add ((x3_2).toNat * 2)) = some (.int .i64 ((rd_T98 l0_0 x3_2).f0)) ∧ w'.cell? ⟨(ad166.add ((x3_2).toNat * 2)).block, (ad166.add ((x3_2).toNat * 2)).off + 1, none⟩ = some (.int .i64 ((rd_T98 l0_0 x3_2).f1)) ∧ w'.cell? (ad166.add ((x3_2).toNat * 2)) = some (.int .i64 ((rd_T98 l0_0 x3_2).f0)) ∧ w'.cell? ⟨(ad166.add ((x3_2).toNat * 2)).block, (ad166.add ((x3_2).toNat * 2)).off + 1, none⟩ = some (.int .i64 ((rd_T98 l0_0 x3_2).f1))) (ds := []) #[false, false, false, false, false, false, false, false, false, false, false, false, false, false, false, false, false, false, false, false, false, false, false, false, false, false, false, false, false, false, false, false, false, false, false, false, false, false, false] (by kernel_rfl) rfl rfl ⟨(blk_cell BK164.out 0).trans rfl, (blk_cell BK164.out 1).trans rfl, (blk_cell BK164.out 2).trans rfl, (blk_cell BK164.out 3).trans rfl, ((HB.out.cell (World.block_lt_of_cell? w _ hw166_0)).trans hw166_0), ((HB.out.cell (World.block_lt_of_cell? w _ hw166_1)).trans hw166_1), ((HB.out.cell (World.block_lt_of_cell? w _ hw168_0)).trans hw168_0), ((HB.out.cell (World.block_lt_of_cell? w _ hw168_1)).trans hw168_1), ((HB.out.cell (World.block_lt_of_cell? w _ hw169_0)).trans hw169_0), ((HB.out.cell (World.block_lt_of_cell? w _ hw169_1)).trans hw169_1), ((HB.out.cell (World.block_lt_of_cell? w _ hw174_0)).trans hw174_0), ((HB.out.cell (World.block_lt_of_cell? w _ hw174_1)).trans hw174_1)⟩ (fun hHeld => ?_); refine with_tabW spec_ExecOk.tab6 spec_ExecOk.bits6 (fun HT_ HW_ => ?_)
                          generalize wr.drew = w41 at BK164 HB hx166_0 hx166_1 hx168_0 hx168_1 hx169_0 hx169_1 hx174_0 hx174_1 hHeld ⊢
                          refine pu_ (i := 0) (N := some 53) (v := ?_) (a' := ?_) rfl rfl (any_of HT_.out (by kernel_rfl)) (fun _ _ _ h => h) (Or.inl ⟨by rfl, ?_⟩) ?_ ?_; rotate_left; (· (intro w'; go_simp; with_reducible rfl)); rotate_left; (· (simp only [Act.put, sA_, sZ_, sS_, i64_w, i32_w]; rfl))
                          refine pu_ (i := 2) (N := some 55) (v := ?_) (a' := ?_) rfl rfl (any_of HT_.out (by kernel_rfl)) (fun _ _ _ h => h) (Or.inl ⟨by rfl, ?_⟩) ?_ ?_; rotate_left; (· (intro w'; go_simp; with_reducible rfl))
                          rotate_left; (· (simp only [Act.put, sA_, sZ_, sS_, i64_w, i32_w]; rfl))
                          refine ta_ (i := 1) (N := some 54) (v := ?_) (a' := ?_) rfl rfl (take_ofW HT_.out HW_.out (by kernel_rfl)) (fun _ _ _ h => h) (Or.inl ⟨by rfl, ?_⟩) hHeld ?_ ?_
                          rotate_left
                          · rintro w' ⟨s0, s1, s2, s3, s4, s5, s6, s7, s8, s9, s10, s11⟩
                            go_simp
                            with_reducible rfl
                          rotate_left; (· (simp only [Act.put, sA_, sZ_, sS_, i64_w, i32_w]; rfl))
                          refine pu_ (i := 3) (N := some 56) (v := ?_) (a' := ?_) rfl rfl (any_of HT_.out (by kernel_rfl)) (fun _ _ _ h => h) (Or.inl ⟨by rfl, ?_⟩) ?_ ?_; rotate_left; (· (intro w'; go_simp; with_reducible rfl)); rotate_left; (· (simp only [Act.put, sA_, sZ_, sS_, i64_w, i32_w]; rfl))
                          refine pu_ (i := 4) (N := some 57) (v := ?_) (a' := ?_) rfl rfl (any_of HT_.out (by kernel_rfl)) (fun _ _ _ h => h) (Or.inl ⟨by rfl, ?_⟩) ?_ ?_; rotate_left; (· (intro w'; go_simp; with_reducible rfl))
                          rotate_left; (· (simp only [Act.put, sA_, sZ_, sS_, i64_w, i32_w]; rfl))
                          refine ta_ (i := 5) (N := some 58) (v := ?_) (a' := ?_) rfl rfl (take_ofW HT_.out HW_.out (by kernel_rfl)) (fun _ _ _ h => h) (Or.inl ⟨by rfl, ?_⟩) hHeld ?_ ?_
                          rotate_left
                          · rintro w' ⟨s0, s1, s2, s3, s4, s5, s6, s7, s8, s9, s10, s11⟩
                            go_simp
                            with_reducible rfl
                          rotate_left; (· (simp only [Act.put, sA_, sZ_, sS_, i64_w, i32_w]; rfl))
                          refine on_ (i := 6) (N := some 59) rfl rfl (one_of HT_.out (by kernel_rfl)) (by decide) (fun K hK => ?_)
                          refine goes_ Try.func83 (by kernel_rfl) rfl #[.int .i64 ((rd_T98 l0_0 x3_2).f0)] (by rfl) rfl rfl (by (try simp only [List.map_toArray, List.map_cons, List.map_nil]); first | done | rfl | (simp only [List.length_drop, List.length_take]; rfl)) ?_
                          with_reducible refine (spec_l2Box.calls ((rd_T98 l0_0 x3_2).f0) true _ A25.out).mono ?_
                          rintro e w' ⟨rfl, ⟨nd, rfl⟩⟩
                          refine ⟨_, rfl, ?_⟩
                          have q42 : (x3_2 : Int) ≤ ((l0_0.length : Int) : Int) := of_decide_eq_true (by first | (with_reducible assumption) | assumption)
                          obtain ⟨i042, hi042, _, hsz42, _⟩ := info_parts info98
                          have hroom42 : l0_0.length ≤ c0_0 := HC0_0.out
                          have hC42 : Kd.C k98 _ (some ad166) l0_0.length l0_0 := HR0_0.out
                          have hcut42 := cut_to (P := Try.prog) 52 98 .i64 Try.underlying52 hi042 (some ad166) l0_0.length c0_0 x3_2 (of_decide_eq_true (by first | (with_reducible assumption) | assumption)) q42 hroom42
                          have hr42 := Kd.C_take (m := (x3_2 : Int).toNat) hC42 (by omega)
                          have hy42 : y170.length = (x3_2 : Int).toNat := (by rw [Ny170.out, List.length_take]; omega)
                          rw [← Ny170.out] at hr42
                          rw [← hy42] at hcut42
                          have HR173 := Aside0.mk hr42
                          have HC173 := Aside0.mk (show y170.length ≤ c0_0 from by omega)
                          clear hr42 hC42 hroom42 hi042 hsz42
                          have KY42 := Aside0.mk hy42
                          clear hy42
                          replace q42 := eq_true q42
                          refine hK.out _ _ ⟨(blk_cell BK164.out 0).trans rfl, (blk_cell BK164.out 1).trans rfl, (blk_cell BK164.out 2).trans rfl, (blk_cell BK164.out 3).trans rfl, ((HB.out.cell (World.block_lt_of_cell? w _ hw166_0)).trans hw166_0), ((HB.out.cell (World.block_lt_of_cell? w _ hw166_1)).trans hw166_1), ((HB.out.cell (World.block_lt_of_cell? w _ hw168_0)).trans hw168_0), ((HB.out.cell (World.block_lt_of_cell? w _ hw168_1)).trans hw168_1), ((HB.out.cell (World.block_lt_of_cell? w _ hw169_0)).trans hw169_0), ((HB.out.cell (World.block_lt_of_cell? w _ hw169_1)).trans hw169_1), ((HB.out.cell (World.block_lt_of_cell? w _ hw174_0)).trans hw174_0), ((HB.out.cell (World.block_lt_of_cell? w _ hw174_1)).trans hw174_1)⟩ (fun hHeld => ?_)
                          clear hK K
                          refine norm_ (a' := ?_) ?_ ?_
                          rotate_left
                          · show Act.put _ (some 59) _ = _
                            simp only [Act.put, sA_, sZ_, sS_, i64_w, i32_w]
                            rfl
                          refine pu_ (i := 7) (N := some 60) (v := ?_) (a' := ?_) rfl rfl (any_of HT_.out (by kernel_rfl)) (fun _ _ _ h => h) (Or.inl ⟨by rfl, ?_⟩) ?_ ?_; rotate_left; (· (intro w'; go_simp; with_reducible rfl)); rotate_left; (· (simp only [Act.put, sA_, sZ_, sS_, i64_w, i32_w]; rfl))
                          refine pu_ (i := 8) (N := some 61) (v := ?_) (a' := ?_) rfl rfl (any_of HT_.out (by kernel_rfl)) (fun _ _ _ h => h) (Or.inl ⟨by rfl, ?_⟩) ?_ ?_; rotate_left; (· (intro w'; go_simp; with_reducible rfl))
                          rotate_left; (· (simp only [Act.put, sA_, sZ_, sS_, i64_w, i32_w]; rfl))
                          refine pu_ (i := 9) (N := some 62) (v := ?_) (a' := ?_) rfl rfl (any_of HT_.out (by kernel_rfl)) (fun _ _ _ h => h) (Or.inl ⟨by rfl, ?_⟩) ?_ ?_; rotate_left; (· (intro w'; go_simp; with_reducible rfl)); rotate_left; (· (simp only [Act.put, sA_, sZ_, sS_, i64_w, i32_w]; rfl))
                          refine pu_ (i := 11) (N := some 64) (v := ?_) (a' := ?_) rfl rfl (any_of HT_.out (by kernel_rfl)) (fun _ _ _ h => h) (Or.inl ⟨by rfl, ?_⟩) ?_ ?_; rotate_left; (· (intro w'; go_simp; with_reducible rfl))
                          rotate_left; (· (simp only [Act.put, sA_, sZ_, sS_, i64_w, i32_w]; rfl))
                          refine ta_ (i := 10) (N := some 63) (v := ?_) (a' := ?_) rfl rfl (take_ofW HT_.out HW_.out (by kernel_rfl)) (fun _ _ _ h => h) (Or.inl ⟨by rfl, ?_⟩) hHeld ?_ ?_
                          rotate_left
                          · rintro w' ⟨s0, s1, s2, s3, s4, s5, s6, s7, s8, s9, s10, s11⟩
                            go_simp
                            with_reducible rfl
                          rotate_left; (· (simp only [Act.put, sA_, sZ_, sS_, i64_w, i32_w]; rfl))
                          refine pu_ (i := 12) (N := some 65) (v := ?_) (a' := ?_) rfl rfl (any_of HT_.out (by kernel_rfl)) (fun _ _ _ h => h) (Or.inl ⟨by rfl, ?_⟩) ?_ ?_; rotate_left; (· (intro w'; go_simp; with_reducible rfl)); rotate_left; (· (simp only [Act.put, sA_, sZ_, sS_, i64_w, i32_w]; rfl))
                          refine pu_ (i := 13) (N := some 66) (v := ?_) (a' := ?_) rfl rfl (any_of HT_.out (by kernel_rfl)) (fun _ _ _ h => h) (Or.inl ⟨by rfl, ?_⟩) ?_ ?_; rotate_left; (· (intro w'; go_simp; with_reducible rfl))
                          rotate_left; (· (simp only [Act.put, sA_, sZ_, sS_, i64_w, i32_w]; rfl))
                          refine ta_ (i := 14) (N := some 67) (v := ?_) (a' := ?_) rfl rfl (take_ofW HT_.out HW_.out (by kernel_rfl)) (fun _ _ _ h => h) (Or.inl ⟨by rfl, ?_⟩) hHeld ?_ ?_
                          rotate_left
                          · rintro w' ⟨s0, s1, s2, s3, s4, s5, s6, s7, s8, s9, s10, s11⟩
                            go_simp
                            with_reducible rfl
                          rotate_left; (· (simp only [Act.put, sA_, sZ_, sS_, i64_w, i32_w]; rfl))
                          refine pu_ (i := 15) (N := some 68) (v := ?_) (a' := ?_) rfl rfl (any_of HT_.out (by kernel_rfl)) (fun _ _ _ h => h) (Or.inl ⟨by rfl, ?_⟩) ?_ ?_; rotate_left; (· (intro w'; go_simp; with_reducible rfl)); rotate_left; (· (simp only [Act.put, sA_, sZ_, sS_, i64_w, i32_w]; rfl))
                          refine pu_ (i := 16) (N := some 69) (v := ?_) (a' := ?_) rfl rfl (any_of HT_.out (by kernel_rfl)) (fun _ _ _ h => h) (Or.inl ⟨by rfl, ?_⟩) ?_ ?_; rotate_left; (· (intro w'; go_simp; with_reducible rfl))
                          rotate_left; (· (simp only [Act.put, sA_, sZ_, sS_, i64_w, i32_w]; rfl))
                          refine pu_ (i := 17) (N := some 70) (v := ?_) (a' := ?_) rfl rfl (any_of HT_.out (by kernel_rfl)) (fun _ _ _ h => h) (Or.inl ⟨by rfl, ?_⟩) ?_ ?_; rotate_left; (· (intro w'; go_simp; with_reducible rfl)); rotate_left; (· (simp only [Act.put, sA_, sZ_, sS_, i64_w, i32_w]; rfl))
                          refine pu_ (i := 18) (N := some 71) (v := ?_) (a' := ?_) rfl rfl (any_of HT_.out (by kernel_rfl)) (fun _ _ _ h => h) (Or.inl ⟨by rfl, ?_⟩) ?_ ?_; rotate_left; (· (intro w'; go_simp; with_reducible rfl))
                          rotate_left; (· (simp only [Act.put, sA_, sZ_, sS_, i64_w, i32_w]; rfl))
                          refine pu_ (i := 20) (N := some 73) (v := ?_) (a' := ?_) rfl rfl (any_of HT_.out (by kernel_rfl)) (fun _ _ _ h => h) (Or.inl ⟨by rfl, ?_⟩) ?_ ?_; rotate_left; (· (intro w'; go_simp; with_reducible rfl)); rotate_left; (· (simp only [Act.put, sA_, sZ_, sS_, i64_w, i32_w]; rfl))
                          refine ta_ (i := 19) (N := some 72) (v := ?_) (a' := ?_) rfl rfl (take_ofW HT_.out HW_.out (by kernel_rfl)) (fun _ _ _ h => h) (Or.inl ⟨by rfl, ?_⟩) hHeld ?_ ?_
                          rotate_left
                          · rintro w' ⟨s0, s1, s2, s3, s4, s5, s6, s7, s8, s9, s10, s11⟩
                            go_simp
                            with_reducible rfl
                          rotate_left; (· (simp only [Act.put, sA_, sZ_, sS_, i64_w, i32_w]; rfl))
                          refine pu_ (i := 21) (N := some 74) (v := ?_) (a' := ?_) rfl rfl (any_of HT_.out (by kernel_rfl)) (fun _ _ _ h => h) (Or.inl ⟨by rfl, ?_⟩) ?_ ?_; rotate_left; (· (intro w'; go_simp; with_reducible rfl)); rotate_left; (· (simp only [Act.put, sA_, sZ_, sS_, i64_w, i32_w]; rfl))
                          refine pu_ (i := 22) (N := some 75) (v := ?_) (a' := ?_) rfl rfl (any_of HT_.out (by kernel_rfl)) (fun _ _ _ h => h) (Or.inl ⟨by rfl, ?_⟩) ?_ ?_; rotate_left; (· (intro w'; go_simp; with_reducible rfl))
                          rotate_left; (· (simp only [Act.put, sA_, sZ_, sS_, i64_w, i32_w]; rfl))
                          refine ta_ (i := 23) (N := some 76) (v := ?_) (a' := ?_) rfl rfl (take_ofW HT_.out HW_.out (by kernel_rfl)) (fun _ _ _ h => h) (Or.inl ⟨by rfl, ?_⟩) hHeld ?_ ?_
                          rotate_left
                          · rintro w' ⟨s0, s1, s2, s3, s4, s5, s6, s7, s8, s9, s10, s11⟩
                            go_simp
                            with_reducible rfl
                          rotate_left; (· (simp only [Act.put, sA_, sZ_, sS_, i64_w, i32_w]; rfl))
                          refine pu_ (i := 24) (N := some 77) (v := ?_) (a' := ?_) rfl rfl (any_of HT_.out (by kernel_rfl)) (fun _ _ _ h => h) (Or.inl ⟨by rfl, ?_⟩) ?_ ?_; rotate_left; (· (intro w'; go_simp; with_reducible rfl)); rotate_left; (· (simp only [Act.put, sA_, sZ_, sS_, i64_w, i32_w]; rfl))
                          refine pu_ (i := 25) (N := some 78) (v := ?_) (a' := ?_) rfl rfl (any_of HT_.out (by kernel_rfl)) (fun _ _ _ h => h) (Or.inl ⟨by rfl, ?_⟩) ?_ ?_; rotate_left; (· (intro w'; go_simp; with_reducible rfl))
                          rotate_left; (· (simp only [Act.put, sA_, sZ_, sS_, i64_w, i32_w]; rfl))
                          refine pu_ (i := 26) (N := some 79) (v := ?_) (a' := ?_) rfl rfl (any_of HT_.out (by kernel_rfl)) (fun _ _ _ h => h) (Or.inl ⟨by rfl, ?_⟩) ?_ ?_; rotate_left; (· (intro w'; go_simp; with_reducible rfl)); rotate_left; (· (simp only [Act.put, sA_, sZ_, sS_, i64_w, i32_w]; rfl))
                          refine pu_ (i := 27) (N := some 80) (v := ?_) (a' := ?_) rfl rfl (any_of HT_.out (by kernel_rfl)) (fun _ _ _ h => h) (Or.inl ⟨by rfl, ?_⟩) ?_ ?_; rotate_left; (· (intro w'; go_simp; with_reducible rfl))
                          rotate_left; (· (simp only [Act.put, sA_, sZ_, sS_, i64_w, i32_w]; rfl))
                          refine pu_ (i := 29) (N := some 82) (v := ?_) (a' := ?_) rfl rfl (any_of HT_.out (by kernel_rfl)) (fun _ _ _ h => h) (Or.inl ⟨by rfl, ?_⟩) ?_ ?_; rotate_left; (· (intro w'; go_simp; with_reducible rfl)); rotate_left; (· (simp only [Act.put, sA_, sZ_, sS_, i64_w, i32_w]; rfl))
                          refine pu_ (i := 31) (N := some 84) (v := ?_) (a' := ?_) rfl rfl (any_of HT_.out (by kernel_rfl)) (fun _ _ _ h => h) (Or.inl ⟨by rfl, ?_⟩) ?_ ?_; rotate_left; (· (intro w'; go_simp; with_reducible rfl))
                          rotate_left; (· (simp only [Act.put, sA_, sZ_, sS_, i64_w, i32_w]; rfl))
                          refine pu_ (i := 33) (N := some 86) (v := ?_) (a' := ?_) rfl rfl (any_of HT_.out (by kernel_rfl)) (fun _ _ _ h => h) (Or.inl ⟨by rfl, ?_⟩) ?_ ?_; rotate_left; (· (intro w'; go_simp; with_reducible rfl)); rotate_left; (· (simp only [Act.put, sA_, sZ_, sS_, i64_w, i32_w]; rfl))
                          refine ta_ (i := 28) (N := some 81) (v := ?_) (a' := ?_) rfl rfl (take_ofW HT_.out HW_.out (by kernel_rfl)) (fun _ _ _ h => h) (Or.inl ⟨by rfl, ?_⟩) hHeld ?_ ?_
                          rotate_left
                          · rintro w' ⟨s0, s1, s2, s3, s4, s5, s6, s7, s8, s9, s10, s11⟩
                            go_simp
                            with_reducible rfl
                          rotate_left; (· (simp only [Act.put, sA_, sZ_, sS_, i64_w, i32_w]; rfl))
                          refine pu_ (i := 30) (N := some 83) (v := ?_) (a' := ?_) rfl rfl (any_of HT_.out (by kernel_rfl)) (fun _ _ _ h => h) (Or.inl ⟨by rfl, ?_⟩) ?_ ?_; rotate_left; (· (intro w'; go_simp; with_reducible rfl)); rotate_left; (· (simp only [Act.put, sA_, sZ_, sS_, i64_w, i32_w]; rfl))
                          refine ta_ (i := 32) (N := some 85) (v := ?_) (a' := ?_) rfl rfl (take_ofW HT_.out HW_.out (by kernel_rfl)) (fun _ _ _ h => h) (Or.inl ⟨by rfl, ?_⟩) hHeld ?_ ?_
                          rotate_left
                          · rintro w' ⟨s0, s1, s2, s3, s4, s5, s6, s7, s8, s9, s10, s11⟩
                            go_simp
                            with_reducible rfl
                          rotate_left; (· (simp only [Act.put, sA_, sZ_, sS_, i64_w, i32_w]; rfl))
                          refine pu_ (i := 34) (N := some 87) (v := ?_) (a' := ?_) rfl rfl (any_of HT_.out (by kernel_rfl)) (fun _ _ _ h => h) (Or.inl ⟨by rfl, ?_⟩) ?_ ?_; rotate_left; (· (intro w'; go_simp; with_reducible rfl)); rotate_left; (· (simp only [Act.put, sA_, sZ_, sS_, i64_w, i32_w]; rfl))
                          refine pu_ (i := 35) (N := some 88) (v := ?_) (a' := ?_) rfl rfl (any_of HT_.out (by kernel_rfl)) (fun _ _ _ h => h) (Or.inl ⟨by rfl, ?_⟩) ?_ ?_; rotate_left; (· (intro w'; go_simp; with_reducible rfl))
                          rotate_left; (· (simp only [Act.put, sA_, sZ_, sS_, i64_w, i32_w]; rfl))
                          refine ta_ (i := 36) (N := some 89) (v := ?_) (a' := ?_) rfl rfl (take_ofW HT_.out HW_.out (by kernel_rfl)) (fun _ _ _ h => h) (Or.inl ⟨by rfl, ?_⟩) hHeld ?_ ?_
                          rotate_left
                          · rintro w' ⟨s0, s1, s2, s3, s4, s5, s6, s7, s8, s9, s10, s11⟩
                            go_simp
                            with_reducible rfl
                          rotate_left; (· (simp only [Act.put, sA_, sZ_, sS_, i64_w, i32_w]; rfl))
                          refine on_ (i := 37) (N := some 90) rfl rfl (one_of HT_.out (by kernel_rfl)) (by decide) (fun K hK => ?_)
                          refine goes_ Try.func84 (by kernel_rfl) rfl #[.slice (some ad166) y170.length c0_0, .int .i64 ((rd_T98 l0_0 x3_2).f0)] (by rfl) rfl rfl (by (try simp only [List.map_toArray, List.map_cons, List.map_nil]); first | done | rfl | (simp only [List.length_drop, List.length_take]; rfl)) ?_
                          with_reducible refine (spec_l3Saw.calls k2 _ _ y170 ((rd_T98 l0_0 x3_2).f0) false _ ?side1 ?side2 A35.out).mono ?_
                          (case side1 => repeat (first | exact (Kd.C_below HR173.out (by repeat (first | (with_reducible first | exact HB.out | apply below_alloc | apply pw_below_drewN | apply below_drew1 | refine below_set ?_ GE164.out) | exact HB.out))) | (with_reducible refine Kd.C_alloc ?_ _) | (with_reducible refine Kd.C_drewN ?_ _) | (with_reducible refine Kd.C_drew ?_)))
                          (case side2 => exact HC173.out)
                          rintro e w' ⟨rfl, ⟨nd, rfl⟩⟩
                          refine ⟨_, rfl, ?_⟩
                          refine hK.out _ _ ⟨(blk_cell BK164.out 0).trans rfl, (blk_cell BK164.out 1).trans rfl, (blk_cell BK164.out 2).trans rfl, (blk_cell BK164.out 3).trans rfl, ((HB.out.cell (World.block_lt_of_cell? w _ hw166_0)).trans hw166_0), ((HB.out.cell (World.block_lt_of_cell? w _ hw166_1)).trans hw166_1), ((HB.out.cell (World.block_lt_of_cell? w _ hw168_0)).trans hw168_0), ((HB.out.cell (World.block_lt_of_cell? w _ hw168_1)).trans hw168_1), ((HB.out.cell (World.block_lt_of_cell? w _ hw169_0)).trans hw169_0), ((HB.out.cell (World.block_lt_of_cell? w _ hw169_1)).trans hw169_1), ((HB.out.cell (World.block_lt_of_cell? w _ hw174_0)).trans hw174_0), ((HB.out.cell (World.block_lt_of_cell? w _ hw174_1)).trans hw174_1)⟩ (fun hHeld => ?_)
                          clear hK K
                          refine norm_ (a' := ?_) ?_ ?_
                          rotate_left
                          · show Act.put _ (some 90) _ = _
                            simp only [Act.put, sA_, sZ_, sS_, i64_w, i32_w]
                            rfl
                          refine pu_ (i := 38) (N := some 91) (v := ?_) (a' := ?_) rfl rfl (any_of HT_.out (by kernel_rfl)) (fun _ _ _ h => h) (Or.inl ⟨by rfl, ?_⟩) ?_ ?_; rotate_left; (· (intro w'; go_simp; with_reducible rfl)); rotate_left; (· (simp only [Act.put, sA_, sZ_, sS_, i64_w, i32_w]; rfl))
                          refine done_ (done_of HT_.out (by kernel_rfl)) ?_
                          try go_wp2
                          go_roundg k2
                          case measure => have := HJ1.out; have := HK2.out; omega
                          case rel => exact ⟨(wrap64 (x3_2 + 1)), (by first | rfl | (simp; done) | (simp [*]; done)), H', ⟨by have := HJ1.out; have := HK2.out; omega⟩, ⟨by (with_reducible repeat (first | refine blk_drewN ?_ _ | refine blk_drew ?_ | refine blk_alloc ?_ _)); exact BK164.out⟩, ⟨by repeat (first | (with_reducible first | exact HB.out | apply below_alloc | apply pw_below_drewN | apply below_drew1 | refine below_set ?_ GE164.out) | exact HB.out)⟩⟩
                      · rw [if_neg c34] at H
                        exact absurd H (by simp)
                · replace c26 := Bool.eq_false_iff.mpr c26
                  subst c26
                  have H1 : (some false) = some r := by rw [if_neg (show ¬ (false = true) by decide)] at H; exact H
                  clear H
                  have H := H1
                  clear H1
                  obtain rfl := Option.some.inj H
                  have hcz43_0 : wr.cell? ⟨gb164, 0, none⟩ = some (.slice A0_0 l0_0.length c0_0) := (blk_cell BK164.out 0).trans rfl
                  have hcz43_1 : wr.cell? ⟨gb164, 1, none⟩ = some (.slice A0_1 l0_1.length c0_1) := (blk_cell BK164.out 1).trans rfl
                  have hcz43_2 : wr.cell? ⟨gb164, 2, none⟩ = some (.int .i64 a0_2) := (blk_cell BK164.out 2).trans rfl
                  have hcz43_3 : wr.cell? ⟨gb164, 3, none⟩ = some (.int .i64 a0_3) := (blk_cell BK164.out 3).trans rfl
                  have hfz43_0 := blk_frozen BK164.out 0
                  have hfz43_1 := blk_frozen BK164.out 1
                  have hfz43_2 := blk_frozen BK164.out 2
                  have hfz43_3 := blk_frozen BK164.out 3
                  try go_wp2
                  have n0_ := Aside0.mk (blk_drew BK164.out)
                  have n1_ := Aside0.mk (below_drew1 HB.out)
                  clear BK164
                  clear HB
                  have BK164 := n0_
                  have HB := n1_
                  clear n0_ n1_
                  have p166 : 0 ≤ (x3_2 : Int) := of_decide_eq_true (by first | (with_reducible assumption) | assumption)
                  have q166 : x3_2 < (l0_0.length : Int) := of_decide_eq_true (by first | (with_reducible assumption) | assumption)
                  obtain ⟨ad166, e166, hx166_0, hx166_1⟩ := at_T98 HR0_0.out x3_2 p166 q166
                  have hw166_1 := hx166_1
                  have hw166_0 := hx166_0
                  cases e166
                  replace hx166_0 := (HB.out.cell (World.block_lt_of_cell? w _ hx166_0)).trans hx166_0
                  replace hx166_1 := (HB.out.cell (World.block_lt_of_cell? w _ hx166_1)).trans hx166_1
                  replace p166 := eq_true p166
                  replace q166 := eq_true q166
                  refine start_ (n := 39) (S := fun w' => w'.cell? ⟨gb164, 0, none⟩ = some (.slice (some ad166) l0_0.length c0_0) ∧ w'.cell? ⟨gb164, 1, none⟩ = some (.slice A0_1 l0_1.length c0_1) ∧ w'.cell? ⟨gb164, 2, none⟩ = some (.int .i64 a0_2) ∧ w'.cell? ⟨gb164, 3, none⟩ = some (.int .i64 a0_3) ∧ w'.cell? (ad166.add ((x3_2).toNat * 2)) = some (.int .i64 ((rd_T98 l0_0 x3_2).f0)) ∧ w'.cell? ⟨(ad166.add ((x3_2).toNat * 2)).block, (ad166.add ((x3_2).toNat * 2)).off + 1, none⟩ = some (.int .i64 ((rd_T98 l0_0 x3_2).f1))) (ds := []) #[false, false, false, false, false, false, false, false, false, false, false, false, false, false, false, false, false, false, false, false, false, false, false, false, false, false, false, false, false, false, false, false, false, false, false, false, false, false, false] (by kernel_rfl) rfl rfl ⟨(blk_cell BK164.out 0).trans rfl, (blk_cell BK164.out 1).trans rfl, (blk_cell BK164.out 2).trans rfl, (blk_cell BK164.out 3).trans rfl, ((HB.out.cell (World.block_lt_of_cell? w _ hw166_0)).trans hw166_0), ((HB.out.cell (World.block_lt_of_cell? w _ hw166_1)).trans hw166_1)⟩ (fun hHeld => ?_); refine with_tabW spec_ExecOk.tab6 spec_ExecOk.bits6 (fun HT_ HW_ => ?_)
                  generalize wr.drew = w44 at BK164 HB hx166_0 hx166_1 hHeld ⊢
                  refine pu_ (i := 0) (N := some 53) (v := ?_) (a' := ?_) rfl rfl (any_of HT_.out (by kernel_rfl)) (fun _ _ _ h => h) (Or.inl ⟨by rfl, ?_⟩) ?_ ?_; rotate_left; (· (intro w'; go_simp; with_reducible rfl)); rotate_left; (· (simp only [Act.put, sA_, sZ_, sS_, i64_w, i32_w]; rfl))
                  refine pu_ (i := 2) (N := some 55) (v := ?_) (a' := ?_) rfl rfl (any_of HT_.out (by kernel_rfl)) (fun _ _ _ h => h) (Or.inl ⟨by rfl, ?_⟩) ?_ ?_; rotate_left; (· (intro w'; go_simp; with_reducible rfl))
                  rotate_left; (· (simp only [Act.put, sA_, sZ_, sS_, i64_w, i32_w]; rfl))
                  refine ta_ (i := 1) (N := some 54) (v := ?_) (a' := ?_) rfl rfl (take_ofW HT_.out HW_.out (by kernel_rfl)) (fun _ _ _ h => h) (Or.inl ⟨by rfl, ?_⟩) hHeld ?_ ?_
                  rotate_left
                  · rintro w' ⟨s0, s1, s2, s3, s4, s5⟩
                    go_simp
                    with_reducible rfl
                  rotate_left; (· (simp only [Act.put, sA_, sZ_, sS_, i64_w, i32_w]; rfl))
                  refine pu_ (i := 3) (N := some 56) (v := ?_) (a' := ?_) rfl rfl (any_of HT_.out (by kernel_rfl)) (fun _ _ _ h => h) (Or.inl ⟨by rfl, ?_⟩) ?_ ?_; rotate_left; (· (intro w'; go_simp; with_reducible rfl)); rotate_left; (· (simp only [Act.put, sA_, sZ_, sS_, i64_w, i32_w]; rfl))
                  refine pu_ (i := 4) (N := some 57) (v := ?_) (a' := ?_) rfl rfl (any_of HT_.out (by kernel_rfl)) (fun _ _ _ h => h) (Or.inl ⟨by rfl, ?_⟩) ?_ ?_; rotate_left; (· (intro w'; go_simp; with_reducible rfl))
                  rotate_left; (· (simp only [Act.put, sA_, sZ_, sS_, i64_w, i32_w]; rfl))
                  refine ta_ (i := 5) (N := some 58) (v := ?_) (a' := ?_) rfl rfl (take_ofW HT_.out HW_.out (by kernel_rfl)) (fun _ _ _ h => h) (Or.inl ⟨by rfl, ?_⟩) hHeld ?_ ?_
                  rotate_left
                  · rintro w' ⟨s0, s1, s2, s3, s4, s5⟩
                    go_simp
                    with_reducible rfl
                  rotate_left; (· (simp only [Act.put, sA_, sZ_, sS_, i64_w, i32_w]; rfl))
                  refine on_ (i := 6) (N := some 59) rfl rfl (one_of HT_.out (by kernel_rfl)) (by decide) (fun K hK => ?_)
                  refine goes_ Try.func83 (by kernel_rfl) rfl #[.int .i64 ((rd_T98 l0_0 x3_2).f0)] (by rfl) rfl rfl (by (try simp only [List.map_toArray, List.map_cons, List.map_nil]); first | done | rfl | (simp only [List.length_drop, List.length_take]; rfl)) ?_
                  with_reducible refine (spec_l2Box.calls ((rd_T98 l0_0 x3_2).f0) false _ A25.out).mono ?_
                  rintro e w' ⟨rfl, ⟨nd, rfl⟩⟩
                  refine ⟨_, rfl, ?_⟩
                  refine hK.out _ _ ⟨(blk_cell BK164.out 0).trans rfl, (blk_cell BK164.out 1).trans rfl, (blk_cell BK164.out 2).trans rfl, (blk_cell BK164.out 3).trans rfl, ((HB.out.cell (World.block_lt_of_cell? w _ hw166_0)).trans hw166_0), ((HB.out.cell (World.block_lt_of_cell? w _ hw166_1)).trans hw166_1)⟩ (fun hHeld => ?_)
                  clear hK K
                  refine norm_ (a' := ?_) ?_ ?_
                  rotate_left
                  · show Act.put _ (some 59) _ = _
                    simp only [Act.put, sA_, sZ_, sS_, i64_w, i32_w]
                    rfl
                  refine pu_ (i := 7) (N := some 60) (v := ?_) (a' := ?_) rfl rfl (any_of HT_.out (by kernel_rfl)) (fun _ _ _ h => h) (Or.inl ⟨by rfl, ?_⟩) ?_ ?_; rotate_left; (· (intro w'; go_simp; with_reducible rfl)); rotate_left; (· (simp only [Act.put, sA_, sZ_, sS_, i64_w, i32_w]; rfl))
                  refine pu_ (i := 8) (N := some 61) (v := ?_) (a' := ?_) rfl rfl (any_of HT_.out (by kernel_rfl)) (fun _ _ _ h => h) (Or.inl ⟨by rfl, ?_⟩) ?_ ?_; rotate_left; (· (intro w'; go_simp; with_reducible rfl))
                  rotate_left; (· (simp only [Act.put, sA_, sZ_, sS_, i64_w, i32_w]; rfl))
                  refine pu_ (i := 9) (N := some 62) (v := undef) (a' := ?_) rfl rfl (any_of HT_.out (by kernel_rfl)) (fun _ _ _ h => h) (Or.inr ⟨by rfl, rfl⟩) ?_ ?_; rotate_left; (· (simp only [Act.put, sA_, sZ_, sS_, i64_w, i32_w]; rfl))
                  refine pu_ (i := 10) (N := some 63) (v := undef) (a' := ?_) rfl rfl (any_of HT_.out (by kernel_rfl)) (fun _ _ _ h => h) (Or.inr ⟨by rfl, rfl⟩) ?_ ?_
                  rotate_left; (· (simp only [Act.put, sA_, sZ_, sS_, i64_w, i32_w]; rfl))
                  refine pu_ (i := 11) (N := some 64) (v := undef) (a' := ?_) rfl rfl (any_of HT_.out (by kernel_rfl)) (fun _ _ _ h => h) (Or.inr ⟨by rfl, rfl⟩) ?_ ?_; rotate_left; (· (simp only [Act.put, sA_, sZ_, sS_, i64_w, i32_w]; rfl))
                  refine pu_ (i := 12) (N := some 65) (v := undef) (a' := ?_) rfl rfl (any_of HT_.out (by kernel_rfl)) (fun _ _ _ h => h) (Or.inr ⟨by rfl, rfl⟩) ?_ ?_
                  rotate_left; (· (simp only [Act.put, sA_, sZ_, sS_, i64_w, i32_w]; rfl))
                  refine pu_ (i := 13) (N := some 66) (v := undef) (a' := ?_) rfl rfl (any_of HT_.out (by kernel_rfl)) (fun _ _ _ h => h) (Or.inr ⟨by rfl, rfl⟩) ?_ ?_; rotate_left; (· (simp only [Act.put, sA_, sZ_, sS_, i64_w, i32_w]; rfl))
                  refine pu_ (i := 14) (N := some 67) (v := undef) (a' := ?_) rfl rfl (any_of HT_.out (by kernel_rfl)) (fun _ _ _ h => h) (Or.inr ⟨by rfl, rfl⟩) ?_ ?_
                  rotate_left; (· (simp only [Act.put, sA_, sZ_, sS_, i64_w, i32_w]; rfl))
                  refine pu_ (i := 15) (N := some 68) (v := undef) (a' := ?_) rfl rfl (any_of HT_.out (by kernel_rfl)) (fun _ _ _ h => h) (Or.inr ⟨by rfl, rfl⟩) ?_ ?_; rotate_left; (· (simp only [Act.put, sA_, sZ_, sS_, i64_w, i32_w]; rfl))
                  refine pu_ (i := 16) (N := some 69) (v := ?_) (a' := ?_) rfl rfl (any_of HT_.out (by kernel_rfl)) (fun _ _ _ h => h) (Or.inl ⟨by rfl, ?_⟩) ?_ ?_; rotate_left; (· (intro w'; go_simp; with_reducible rfl)); rotate_left; (· (simp only [Act.put, sA_, sZ_, sS_, i64_w, i32_w]; rfl))
                  refine pu_ (i := 17) (N := some 70) (v := ?_) (a' := ?_) rfl rfl (any_of HT_.out (by kernel_rfl)) (fun _ _ _ h => h) (Or.inl ⟨by rfl, ?_⟩) ?_ ?_; rotate_left; (· (intro w'; go_simp; with_reducible rfl))
                  rotate_left; (· (simp only [Act.put, sA_, sZ_, sS_, i64_w, i32_w]; rfl))
                  refine pu_ (i := 18) (N := some 71) (v := undef) (a' := ?_) rfl rfl (any_of HT_.out (by kernel_rfl)) (fun _ _ _ h => h) (Or.inr ⟨by rfl, rfl⟩) ?_ ?_; rotate_left; (· (simp only [Act.put, sA_, sZ_, sS_, i64_w, i32_w]; rfl))
                  refine pu_ (i := 19) (N := some 72) (v := undef) (a' := ?_) rfl rfl (any_of HT_.out (by kernel_rfl)) (fun _ _ _ h => h) (Or.inr ⟨by rfl, rfl⟩) ?_ ?_
                  rotate_left; (· (simp only [Act.put, sA_, sZ_, sS_, i64_w, i32_w]; rfl))
                  refine pu_ (i := 20) (N := some 73) (v := undef) (a' := ?_) rfl rfl (any_of HT_.out (by kernel_rfl)) (fun _ _ _ h => h) (Or.inr ⟨by rfl, rfl⟩) ?_ ?_; rotate_left; (· (simp only [Act.put, sA_, sZ_, sS_, i64_w, i32_w]; rfl))
                  refine pu_ (i := 21) (N := some 74) (v := undef) (a' := ?_) rfl rfl (any_of HT_.out (by kernel_rfl)) (fun _ _ _ h => h) (Or.inr ⟨by rfl, rfl⟩) ?_ ?_
                  rotate_left; (· (simp only [Act.put, sA_, sZ_, sS_, i64_w, i32_w]; rfl))
                  refine pu_ (i := 22) (N := some 75) (v := undef) (a' := ?_) rfl rfl (any_of HT_.out (by kernel_rfl)) (fun _ _ _ h => h) (Or.inr ⟨by rfl, rfl⟩) ?_ ?_; rotate_left; (· (simp only [Act.put, sA_, sZ_, sS_, i64_w, i32_w]; rfl))
                  refine pu_ (i := 23) (N := some 76) (v := undef) (a' := ?_) rfl rfl (any_of HT_.out (by kernel_rfl)) (fun _ _ _ h => h) (Or.inr ⟨by rfl, rfl⟩) ?_ ?_
                  rotate_left; (· (simp only [Act.put, sA_, sZ_, sS_, i64_w, i32_w]; rfl))
                  refine pu_ (i := 24) (N := some 77) (v := undef) (a' := ?_) rfl rfl (any_of HT_.out (by kernel_rfl)) (fun _ _ _ h => h) (Or.inr ⟨by rfl, rfl⟩) ?_ ?_; rotate_left; (· (simp only [Act.put, sA_, sZ_, sS_, i64_w, i32_w]; rfl))
                  refine pu_ (i := 25) (N := some 78) (v := ?_) (a' := ?_) rfl rfl (any_of HT_.out (by kernel_rfl)) (fun _ _ _ h => h) (Or.inl ⟨by rfl, ?_⟩) ?_ ?_; rotate_left; (· (intro w'; go_simp; with_reducible rfl)); rotate_left; (· (simp only [Act.put, sA_, sZ_, sS_, i64_w, i32_w]; rfl))
                  refine pu_ (i := 26) (N := some 79) (v := ?_) (a' := ?_) rfl rfl (any_of HT_.out (by kernel_rfl)) (fun _ _ _ h => h) (Or.inl ⟨by rfl, ?_⟩) ?_ ?_; rotate_left; (· (intro w'; go_simp; with_reducible rfl))
                  rotate_left; (· (simp only [Act.put, sA_, sZ_, sS_, i64_w, i32_w]; rfl))
                  refine pu_ (i := 27) (N := some 80) (v := undef) (a' := ?_) rfl rfl (any_of HT_.out (by kernel_rfl)) (fun _ _ _ h => h) (Or.inr ⟨by rfl, rfl⟩) ?_ ?_; rotate_left; (· (simp only [Act.put, sA_, sZ_, sS_, i64_w, i32_w]; rfl))
                  refine pu_ (i := 28) (N := some 81) (v := undef) (a' := ?_) rfl rfl (any_of HT_.out (by kernel_rfl)) (fun _ _ _ h => h) (Or.inr ⟨by rfl, rfl⟩) ?_ ?_
                  rotate_left; (· (simp only [Act.put, sA_, sZ_, sS_, i64_w, i32_w]; rfl))
                  refine pu_ (i := 29) (N := some 82) (v := undef) (a' := ?_) rfl rfl (any_of HT_.out (by kernel_rfl)) (fun _ _ _ h => h) (Or.inr ⟨by rfl, rfl⟩) ?_ ?_; rotate_left; (· (simp only [Act.put, sA_, sZ_, sS_, i64_w, i32_w]; rfl))
                  refine pu_ (i := 30) (N := some 83) (v := undef) (a' := ?_) rfl rfl (any_of HT_.out (by kernel_rfl)) (fun _ _ _ h => h) (Or.inr ⟨by rfl, rfl⟩) ?_ ?_
                  rotate_left; (· (simp only [Act.put, sA_, sZ_, sS_, i64_w, i32_w]; rfl))
                  refine pu_ (i := 31) (N := some 84) (v := undef) (a' := ?_) rfl rfl (any_of HT_.out (by kernel_rfl)) (fun _ _ _ h => h) (Or.inr ⟨by rfl, rfl⟩) ?_ ?_; rotate_left; (· (simp only [Act.put, sA_, sZ_, sS_, i64_w, i32_w]; rfl))
                  refine pu_ (i := 32) (N := some 85) (v := undef) (a' := ?_) rfl rfl (any_of HT_.out (by kernel_rfl)) (fun _ _ _ h => h) (Or.inr ⟨by rfl, rfl⟩) ?_ ?_
                  rotate_left; (· (simp only [Act.put, sA_, sZ_, sS_, i64_w, i32_w]; rfl))
                  refine pu_ (i := 33) (N := some 86) (v := undef) (a' := ?_) rfl rfl (any_of HT_.out (by kernel_rfl)) (fun _ _ _ h => h) (Or.inr ⟨by rfl, rfl⟩) ?_ ?_; rotate_left; (· (simp only [Act.put, sA_, sZ_, sS_, i64_w, i32_w]; rfl))
                  refine pu_ (i := 34) (N := some 87) (v := undef) (a' := ?_) rfl rfl (any_of HT_.out (by kernel_rfl)) (fun _ _ _ h => h) (Or.inr ⟨by rfl, rfl⟩) ?_ ?_
                  rotate_left; (· (simp only [Act.put, sA_, sZ_, sS_, i64_w, i32_w]; rfl))
                  refine pu_ (i := 35) (N := some 88) (v := undef) (a' := ?_) rfl rfl (any_of HT_.out (by kernel_rfl)) (fun _ _ _ h => h) (Or.inr ⟨by rfl, rfl⟩) ?_ ?_; rotate_left; (· (simp only [Act.put, sA_, sZ_, sS_, i64_w, i32_w]; rfl))
                  refine pu_ (i := 36) (N := some 89) (v := undef) (a' := ?_) rfl rfl (any_of HT_.out (by kernel_rfl)) (fun _ _ _ h => h) (Or.inr ⟨by rfl, rfl⟩) ?_ ?_
                  rotate_left; (· (simp only [Act.put, sA_, sZ_, sS_, i64_w, i32_w]; rfl))
                  refine pu_ (i := 37) (N := some 90) (v := undef) (a' := ?_) rfl rfl (any_of HT_.out (by kernel_rfl)) (fun _ _ _ h => h) (Or.inr ⟨by rfl, rfl⟩) ?_ ?_; rotate_left; (· (simp only [Act.put, sA_, sZ_, sS_, i64_w, i32_w]; rfl))
                  refine pu_ (i := 38) (N := some 91) (v := ?_) (a' := ?_) rfl rfl (any_of HT_.out (by kernel_rfl)) (fun _ _ _ h => h) (Or.inl ⟨by rfl, ?_⟩) ?_ ?_; rotate_left; (· (intro w'; go_simp; with_reducible rfl)); rotate_left; (· (simp only [Act.put, sA_, sZ_, sS_, i64_w, i32_w]; rfl))
                  refine done_ (done_of HT_.out (by kernel_rfl)) ?_
                  try go_wp2
                  go_ret
                  exact ⟨by first | rfl | (simp [errW_none, errW_some] <;> rfl) | (simp [*, errW_none, errW_some] <;> rfl), by repeat (first | (with_reducible first | exact HB.out | apply below_alloc | apply pw_below_drewN | apply below_drew1 | refine below_set ?_ GE164.out) | exact HB.out)⟩
              · rw [if_neg c24] at H
                exact absurd H (by simp)
            · rw [if_neg c23] at H
              have c23b0 : decide (x3_2 < (l0_0.length : Int)) = false := decide_eq_false c23
              clear c23
              have H' := Aside0.mk H
              clear H
              have hcz45_0 : wr.cell? ⟨gb164, 0, none⟩ = some (.slice A0_0 l0_0.length c0_0) := (blk_cell BK164.out 0).trans rfl
              have hcz45_1 : wr.cell? ⟨gb164, 1, none⟩ = some (.slice A0_1 l0_1.length c0_1) := (blk_cell BK164.out 1).trans rfl
              have hcz45_2 : wr.cell? ⟨gb164, 2, none⟩ = some (.int .i64 a0_2) := (blk_cell BK164.out 2).trans rfl
              have hcz45_3 : wr.cell? ⟨gb164, 3, none⟩ = some (.int .i64 a0_3) := (blk_cell BK164.out 3).trans rfl
              have hfz45_0 := blk_frozen BK164.out 0
              have hfz45_1 := blk_frozen BK164.out 1
              have hfz45_2 := blk_frozen BK164.out 2
              have hfz45_3 := blk_frozen BK164.out 3
              go_wp2
              go_loopg [4] k2 (fun kq v4 w' => ∃ (x4_3 : Int), v4 = .int .i64 x4_3 ∧ Aside0 (spec_ExecOk.l1 kq x4_3 l0_0 l0_1 a0_2 a0_3 = some r) ∧ Aside0 (kq ≤ k2) ∧ Aside0 (w'.heap[gb164]? = some (.cells #[(.slice A0_0 l0_0.length c0_0), (.slice A0_1 l0_1.length c0_1), .int .i64 a0_2, .int .i64 a0_3] 55 (0, 0))) ∧ Aside0 (Below w.heap.size w w'))
              case atStart => exact ⟨(0), (by first | rfl | (simp; done) | (simp [*]; done)), H', ⟨Nat.le_refl _⟩, ⟨by (with_reducible repeat (first | refine blk_drewN ?_ _ | refine blk_drew ?_ | refine blk_alloc ?_ _)); exact BK164.out⟩, ⟨by repeat (first | (with_reducible first | exact HB.out | apply below_alloc | apply pw_below_drewN | apply below_drew1 | refine below_set ?_ GE164.out) | exact HB.out)⟩⟩
              case round =>
                clear H'
                try clear p1
                try clear q1
                try clear hx1
                try clear c2
                try clear p2
                try clear c3
                try clear q4
                try clear p6
                try clear c8
                try clear p16
                try clear q16
                try clear hx16
                try clear c23
                try clear c23b0
                try clear c24
                try clear c26
                try clear c34
                try clear q42
                try clear hcz43_0
                try clear hcz43_1
                try clear hcz43_2
                try clear hcz43_3
                try clear hcz45_0
                try clear hcz45_1
                try clear hcz45_2
                try clear hcz45_3
                try clear hfz43_0
                try clear hfz43_1
                try clear hfz43_2
                try clear hfz43_3
                try clear hfz45_0
                try clear hfz45_1
                try clear hfz45_2
                try clear hfz45_3
                try clear hx166_0
                try clear hx166_1
                try clear p166
                try clear q166
                try clear q42
                obtain ⟨x4_3, rfl, HA, HK3, BK164, HB⟩ := hrel
                cases gk with
                | zero => exact absurd HA.out (by simp [spec_ExecOk.l1])
                | succ k3 =>
                  have H := HA.out
                  clear HA
                  simp only [spec_ExecOk.l1] at H
                  by_cases c46 : x4_3 < (l0_1.length : Int)
                  · rw [if_pos c46] at H
                    have c46b0 : decide (x4_3 < (l0_1.length : Int)) = true := decide_eq_true c46
                    clear c46
                    by_cases c47 : 0 ≤ x4_3
                    · rw [if_pos c47] at H
                      have c47b0 : decide (0 ≤ x4_3) = true := decide_eq_true c47
                      clear c47
                      replace H := Option.bind_eq_some_iff.mp H
                      obtain ⟨t177, A480, H⟩ := H
                      replace H : (if t177 = true then ((spec_l1Num.f ((rd_T118 l0_1 x4_3).f1)).bind fun t179 => (if t179 = true then (if x4_3 ≤ (l0_1.length : Int) then ((spec_l3At.f k3 (l0_1.take (x4_3 : Int).toNat) ((rd_T118 l0_1 x4_3).f0)).bind fun t185 => (if t185 ≥ 0 then (some false) else (spec_ExecOk.l1 k3 (wrap64 (x4_3 + 1)) l0_0 l0_1 a0_2 a0_3))) else (none)) else (some false))) else (some false)) = some r := H
                      have A48 := Aside0.mk A480
                      clear A480
                      by_cases c49 : t177 = true
                      · subst c49
                        have H1 : ((spec_l1Num.f ((rd_T118 l0_1 x4_3).f1)).bind fun t179 => (if t179 = true then (if x4_3 ≤ (l0_1.length : Int) then ((spec_l3At.f k3 (l0_1.take (x4_3 : Int).toNat) ((rd_T118 l0_1 x4_3).f0)).bind fun t185 => (if t185 ≥ 0 then (some false) else (spec_ExecOk.l1 k3 (wrap64 (x4_3 + 1)) l0_0 l0_1 a0_2 a0_3))) else (none)) else (some false))) = some r := by rw [if_pos rfl] at H; exact H
                        clear H
                        have H := H1
                        clear H1
                        replace H := Option.bind_eq_some_iff.mp H
                        obtain ⟨t179, A500, H⟩ := H
                        replace H : (if t179 = true then (if x4_3 ≤ (l0_1.length : Int) then ((spec_l3At.f k3 (l0_1.take (x4_3 : Int).toNat) ((rd_T118 l0_1 x4_3).f0)).bind fun t185 => (if t185 ≥ 0 then (some false) else (spec_ExecOk.l1 k3 (wrap64 (x4_3 + 1)) l0_0 l0_1 a0_2 a0_3))) else (none)) else (some false)) = some r := H
                        have A50 := Aside0.mk A500
                        clear A500
                        by_cases c51 : t179 = true
                        · subst c51
                          have H1 : (if x4_3 ≤ (l0_1.length : Int) then ((spec_l3At.f k3 (l0_1.take (x4_3 : Int).toNat) ((rd_T118 l0_1 x4_3).f0)).bind fun t185 => (if t185 ≥ 0 then (some false) else (spec_ExecOk.l1 k3 (wrap64 (x4_3 + 1)) l0_0 l0_1 a0_2 a0_3))) else (none)) = some r := by rw [if_pos rfl] at H; exact H
                          clear H
                          have H := H1
                          clear H1
                          have c52b0 := eq_true (of_decide_eq_true (by first | (with_reducible assumption) | assumption) : 0 ≤ x4_3)
                          by_cases c53 : x4_3 ≤ (l0_1.length : Int)
                          · rw [if_pos c53] at H
                            have c53b0 := eq_true c53
                            have c53b1 : decide (x4_3 ≤ (l0_1.length : Int)) = true := decide_eq_true c53
                            clear c53
                            obtain ⟨y180, hy180⟩ : ∃ y_ : List (S118), y_ = (l0_1.take (x4_3 : Int).toNat) := ⟨_, rfl⟩
                            replace H : ((spec_l3At.f k3 y180 ((rd_T118 l0_1 x4_3).f0)).bind fun t185 => (if t185 ≥ 0 then (some false) else (spec_ExecOk.l1 k3 (wrap64 (x4_3 + 1)) l0_0 l0_1 a0_2 a0_3))) = some r := by first | (rw [hy180]; with_reducible exact H) | (have H2_ := (Option.bind_some _ _).symm.trans H; rw [hy180]; with_reducible exact H2_) | (have H2_ := (Option.bind_some _ _).symm.trans H; with_reducible exact H2_) | with_reducible exact H | (rw [hy180]; exact H) | exact H
                            have Ny180 := Aside0.mk hy180
                            clear hy180
                            replace H := Option.bind_eq_some_iff.mp H
                            obtain ⟨t185, A540, H⟩ := H
                            replace H : (if t185 ≥ 0 then (some false) else (spec_ExecOk.l1 k3 (wrap64 (x4_3 + 1)) l0_0 l0_1 a0_2 a0_3)) = some r := H
                            have A54 := Aside0.mk A540
                            clear A540
                            by_cases c55 : t185 ≥ 0
                            · rw [if_pos c55] at H
                              have c55b0 : decide (0 ≤ t185) = true := decide_eq_true c55
                              clear c55
                              obtain rfl := Option.some.inj H
                              have hcz56_0 : wr.cell? ⟨gb164, 0, none⟩ = some (.slice A0_0 l0_0.length c0_0) := (blk_cell BK164.out 0).trans rfl
                              have hcz56_1 : wr.cell? ⟨gb164, 1, none⟩ = some (.slice A0_1 l0_1.length c0_1) := (blk_cell BK164.out 1).trans rfl
                              have hcz56_2 : wr.cell? ⟨gb164, 2, none⟩ = some (.int .i64 a0_2) := (blk_cell BK164.out 2).trans rfl
                              have hcz56_3 : wr.cell? ⟨gb164, 3, none⟩ = some (.int .i64 a0_3) := (blk_cell BK164.out 3).trans rfl
                              have hfz56_0 := blk_frozen BK164.out 0
                              have hfz56_1 := blk_frozen BK164.out 1
                              have hfz56_2 := blk_frozen BK164.out 2
                              have hfz56_3 := blk_frozen BK164.out 3
                              try go_wp2
                              have n0_ := Aside0.mk (blk_drew BK164.out)
                              have n1_ := Aside0.mk (below_drew1 HB.out)
                              clear BK164
                              clear HB
                              have BK164 := n0_
                              have HB := n1_
                              clear n0_ n1_
                              have p176 : 0 ≤ (x4_3 : Int) := of_decide_eq_true (by first | (with_reducible assumption) | assumption)
                              have q176 : x4_3 < (l0_1.length : Int) := of_decide_eq_true (by first | (with_reducible assumption) | assumption)
                              obtain ⟨ad176, e176, hx176_0, hx176_1⟩ := at_T118 HR0_1.out x4_3 p176 q176
                              have hw176_1 := hx176_1
                              have hw176_0 := hx176_0
                              cases e176
                              replace hx176_0 := (HB.out.cell (World.block_lt_of_cell? w _ hx176_0)).trans hx176_0
                              replace hx176_1 := (HB.out.cell (World.block_lt_of_cell? w _ hx176_1)).trans hx176_1
                              replace p176 := eq_true p176
                              replace q176 := eq_true q176
                              have p178 : 0 ≤ (x4_3 : Int) := of_decide_eq_true (by first | (with_reducible assumption) | assumption)
                              have q178 : x4_3 < (l0_1.length : Int) := of_decide_eq_true (by first | (with_reducible assumption) | assumption)
                              obtain ⟨ad178, e178, hx178_0, hx178_1⟩ := at_T118 HR0_1.out x4_3 p178 q178
                              have hw178_1 := hx178_1
                              have hw178_0 := hx178_0
                              obtain rfl : ad176 = ad178 := (by injection e178)
                              replace hx178_0 := (HB.out.cell (World.block_lt_of_cell? w _ hx178_0)).trans hx178_0
                              replace hx178_1 := (HB.out.cell (World.block_lt_of_cell? w _ hx178_1)).trans hx178_1
                              replace p178 := eq_true p178
                              replace q178 := eq_true q178
                              have p184 : 0 ≤ (x4_3 : Int) := of_decide_eq_true (by first | (with_reducible assumption) | assumption)
                              have q184 : x4_3 < (l0_1.length : Int) := of_decide_eq_true (by first | (with_reducible assumption) | assumption)
                              obtain ⟨ad184, e184, hx184_0, hx184_1⟩ := at_T118 HR0_1.out x4_3 p184 q184
                              have hw184_1 := hx184_1
                              have hw184_0 := hx184_0
                              obtain rfl : ad176 = ad184 := (by injection e184)
                              replace hx184_0 := (HB.out.cell (World.block_lt_of_cell? w _ hx184_0)).trans hx184_0
                              replace hx184_1 := (HB.out.cell (World.block_lt_of_cell? w _ hx184_1)).trans hx184_1
                              replace p184 := eq_true p184
                              replace q184 := eq_true q184
                              refine start_ (n := 32) (S := fun w' => w'.cell? ⟨gb164, 0, none⟩ = some (.slice A0_0 l0_0.length c0_0) ∧ w'.cell? ⟨gb164, 1, none⟩ = some (.slice (some ad176) l0_1.length c0_1) ∧ w'.cell? ⟨gb164, 2, none⟩ = some (.int .i64 a0_2) ∧ w'.cell? ⟨gb164, 3, none⟩ = some (.int .i64 a0_3) ∧ w'.cell? (ad176.add ((x4_3).toNat * 2)) = some (.int .i64 ((rd_T118 l0_1 x4_3).f0)) ∧ w'.cell? ⟨(ad176.add ((x4_3).toNat * 2)).block, (ad176.add ((x4_3).toNat * 2)).off + 1, none⟩ = some (.int .i64 ((rd_T118 l0_1 x4_3).f1)) ∧ w'.cell? (ad176.add ((x4_3).toNat * 2)) = some (.int .i64 ((rd_T118 l0_1 x4_3).f0)) ∧ w'.cell? ⟨(ad176.add ((x4_3).toNat * 2)).block, (ad176.add ((x4_3).toNat * 2)).off + 1, none⟩ = some (.int .i64 ((rd_T118 l0_1 x4_3).f1)) ∧ w'.cell? (ad176.add ((x4_3).toNat * 2)) = some (.int .i64 ((rd_T118 l0_1 x4_3).f0)) ∧ w'.cell? ⟨(ad176.add ((x4_3).toNat * 2)).block, (ad176.add ((x4_3).toNat * 2)).off + 1, none⟩ = some (.int .i64 ((rd_T118 l0_1 x4_3).f1))) (ds := []) #[false, false, false, false, false, false, false, false, false, false, false, false, false, false, false, false, false, false, false, false, false, false, false, false, false, false, false, false, false, false, false, false] (by kernel_rfl) rfl rfl ⟨(blk_cell BK164.out 0).trans rfl, (blk_cell BK164.out 1).trans rfl, (blk_cell BK164.out 2).trans rfl, (blk_cell BK164.out 3).trans rfl, ((HB.out.cell (World.block_lt_of_cell? w _ hw176_0)).trans hw176_0), ((HB.out.cell (World.block_lt_of_cell? w _ hw176_1)).trans hw176_1), ((HB.out.cell (World.block_lt_of_cell? w _ hw178_0)).trans hw178_0), ((HB.out.cell (World.block_lt_of_cell? w _ hw178_1)).trans hw178_1), ((HB.out.cell (World.block_lt_of_cell? w _ hw184_0)).trans hw184_0), ((HB.out.cell (World.block_lt_of_cell? w _ hw184_1)).trans hw184_1)⟩ (fun hHeld => ?_); refine with_tabW spec_ExecOk.tab11 spec_ExecOk.bits11 (fun HT_ HW_ => ?_)
                              generalize wr.drew = w57 at BK164 HB hx176_0 hx176_1 hx178_0 hx178_1 hx184_0 hx184_1 hHeld ⊢
                              refine pu_ (i := 0) (N := some 99) (v := ?_) (a' := ?_) rfl rfl (any_of HT_.out (by kernel_rfl)) (fun _ _ _ h => h) (Or.inl ⟨by rfl, ?_⟩) ?_ ?_; rotate_left; (· (intro w'; go_simp; with_reducible rfl)); rotate_left; (· (simp only [Act.put, sA_, sZ_, sS_, i64_w, i32_w]; rfl))
                              refine pu_ (i := 2) (N := some 101) (v := ?_) (a' := ?_) rfl rfl (any_of HT_.out (by kernel_rfl)) (fun _ _ _ h => h) (Or.inl ⟨by rfl, ?_⟩) ?_ ?_; rotate_left; (· (intro w'; go_simp; with_reducible rfl))
                              rotate_left; (· (simp only [Act.put, sA_, sZ_, sS_, i64_w, i32_w]; rfl))
                              refine ta_ (i := 1) (N := some 100) (v := ?_) (a' := ?_) rfl rfl (take_ofW HT_.out HW_.out (by kernel_rfl)) (fun _ _ _ h => h) (Or.inl ⟨by rfl, ?_⟩) hHeld ?_ ?_
                              rotate_left
                              · rintro w' ⟨s0, s1, s2, s3, s4, s5, s6, s7, s8, s9⟩
                                go_simp
                                with_reducible rfl
                              rotate_left; (· (simp only [Act.put, sA_, sZ_, sS_, i64_w, i32_w]; rfl))
                              refine pu_ (i := 3) (N := some 102) (v := ?_) (a' := ?_) rfl rfl (any_of HT_.out (by kernel_rfl)) (fun _ _ _ h => h) (Or.inl ⟨by rfl, ?_⟩) ?_ ?_; rotate_left; (· (intro w'; go_simp; with_reducible rfl)); rotate_left; (· (simp only [Act.put, sA_, sZ_, sS_, i64_w, i32_w]; rfl))
                              refine pu_ (i := 4) (N := some 103) (v := ?_) (a' := ?_) rfl rfl (any_of HT_.out (by kernel_rfl)) (fun _ _ _ h => h) (Or.inl ⟨by rfl, ?_⟩) ?_ ?_; rotate_left; (· (intro w'; go_simp; with_reducible rfl))
                              rotate_left; (· (simp only [Act.put, sA_, sZ_, sS_, i64_w, i32_w]; rfl))
                              refine ta_ (i := 5) (N := some 104) (v := ?_) (a' := ?_) rfl rfl (take_ofW HT_.out HW_.out (by kernel_rfl)) (fun _ _ _ h => h) (Or.inl ⟨by rfl, ?_⟩) hHeld ?_ ?_
                              rotate_left
                              · rintro w' ⟨s0, s1, s2, s3, s4, s5, s6, s7, s8, s9⟩
                                go_simp
                                with_reducible rfl
                              rotate_left; (· (simp only [Act.put, sA_, sZ_, sS_, i64_w, i32_w]; rfl))
                              refine on_ (i := 6) (N := some 105) rfl rfl (one_of HT_.out (by kernel_rfl)) (by decide) (fun K hK => ?_)
                              refine goes_ Try.func83 (by kernel_rfl) rfl #[.int .i64 ((rd_T118 l0_1 x4_3).f0)] (by rfl) rfl rfl (by (try simp only [List.map_toArray, List.map_cons, List.map_nil]); first | done | rfl | (simp only [List.length_drop, List.length_take]; rfl)) ?_
                              with_reducible refine (spec_l2Box.calls ((rd_T118 l0_1 x4_3).f0) true _ A48.out).mono ?_
                              rintro e w' ⟨rfl, ⟨nd, rfl⟩⟩
                              refine ⟨_, rfl, ?_⟩
                              refine hK.out _ _ ⟨(blk_cell BK164.out 0).trans rfl, (blk_cell BK164.out 1).trans rfl, (blk_cell BK164.out 2).trans rfl, (blk_cell BK164.out 3).trans rfl, ((HB.out.cell (World.block_lt_of_cell? w _ hw176_0)).trans hw176_0), ((HB.out.cell (World.block_lt_of_cell? w _ hw176_1)).trans hw176_1), ((HB.out.cell (World.block_lt_of_cell? w _ hw178_0)).trans hw178_0), ((HB.out.cell (World.block_lt_of_cell? w _ hw178_1)).trans hw178_1), ((HB.out.cell (World.block_lt_of_cell? w _ hw184_0)).trans hw184_0), ((HB.out.cell (World.block_lt_of_cell? w _ hw184_1)).trans hw184_1)⟩ (fun hHeld => ?_)
                              clear hK K
                              refine norm_ (a' := ?_) ?_ ?_
                              rotate_left
                              · show Act.put _ (some 105) _ = _
                                simp only [Act.put, sA_, sZ_, sS_, i64_w, i32_w]
                                rfl
                              refine pu_ (i := 7) (N := some 106) (v := ?_) (a' := ?_) rfl rfl (any_of HT_.out (by kernel_rfl)) (fun _ _ _ h => h) (Or.inl ⟨by rfl, ?_⟩) ?_ ?_; rotate_left; (· (intro w'; go_simp; with_reducible rfl)); rotate_left; (· (simp only [Act.put, sA_, sZ_, sS_, i64_w, i32_w]; rfl))
                              refine pu_ (i := 8) (N := some 107) (v := ?_) (a' := ?_) rfl rfl (any_of HT_.out (by kernel_rfl)) (fun _ _ _ h => h) (Or.inl ⟨by rfl, ?_⟩) ?_ ?_; rotate_left; (· (intro w'; go_simp; with_reducible rfl))
                              rotate_left; (· (simp only [Act.put, sA_, sZ_, sS_, i64_w, i32_w]; rfl))
                              refine pu_ (i := 9) (N := some 108) (v := ?_) (a' := ?_) rfl rfl (any_of HT_.out (by kernel_rfl)) (fun _ _ _ h => h) (Or.inl ⟨by rfl, ?_⟩) ?_ ?_; rotate_left; (· (intro w'; go_simp; with_reducible rfl)); rotate_left; (· (simp only [Act.put, sA_, sZ_, sS_, i64_w, i32_w]; rfl))
                              refine pu_ (i := 11) (N := some 110) (v := ?_) (a' := ?_) rfl rfl (any_of HT_.out (by kernel_rfl)) (fun _ _ _ h => h) (Or.inl ⟨by rfl, ?_⟩) ?_ ?_; rotate_left; (· (intro w'; go_simp; with_reducible rfl))
                              rotate_left; (· (simp only [Act.put, sA_, sZ_, sS_, i64_w, i32_w]; rfl))
                              refine ta_ (i := 10) (N := some 109) (v := ?_) (a' := ?_) rfl rfl (take_ofW HT_.out HW_.out (by kernel_rfl)) (fun _ _ _ h => h) (Or.inl ⟨by rfl, ?_⟩) hHeld ?_ ?_
                              rotate_left
                              · rintro w' ⟨s0, s1, s2, s3, s4, s5, s6, s7, s8, s9⟩
                                go_simp
                                with_reducible rfl
                              rotate_left; (· (simp only [Act.put, sA_, sZ_, sS_, i64_w, i32_w]; rfl))
                              refine pu_ (i := 12) (N := some 111) (v := ?_) (a' := ?_) rfl rfl (any_of HT_.out (by kernel_rfl)) (fun _ _ _ h => h) (Or.inl ⟨by rfl, ?_⟩) ?_ ?_; rotate_left; (· (intro w'; go_simp; with_reducible rfl)); rotate_left; (· (simp only [Act.put, sA_, sZ_, sS_, i64_w, i32_w]; rfl))
                              refine pu_ (i := 13) (N := some 112) (v := ?_) (a' := ?_) rfl rfl (any_of HT_.out (by kernel_rfl)) (fun _ _ _ h => h) (Or.inl ⟨by rfl, ?_⟩) ?_ ?_; rotate_left; (· (intro w'; go_simp; with_reducible rfl))
                              rotate_left; (· (simp only [Act.put, sA_, sZ_, sS_, i64_w, i32_w]; rfl))
                              refine ta_ (i := 14) (N := some 113) (v := ?_) (a' := ?_) rfl rfl (take_ofW HT_.out HW_.out (by kernel_rfl)) (fun _ _ _ h => h) (Or.inl ⟨by rfl, ?_⟩) hHeld ?_ ?_
                              rotate_left
                              · rintro w' ⟨s0, s1, s2, s3, s4, s5, s6, s7, s8, s9⟩
                                go_simp
                                with_reducible rfl
                              rotate_left; (· (simp only [Act.put, sA_, sZ_, sS_, i64_w, i32_w]; rfl))
                              refine on_ (i := 15) (N := some 114) rfl rfl (one_of HT_.out (by kernel_rfl)) (by decide) (fun K hK => ?_)
                              refine goes_ Try.func82 (by kernel_rfl) rfl #[.int .i64 ((rd_T118 l0_1 x4_3).f1)] (by rfl) rfl rfl (by (try simp only [List.map_toArray, List.map_cons, List.map_nil]); first | done | rfl | (simp only [List.length_drop, List.length_take]; rfl)) ?_
                              with_reducible refine (spec_l1Num.calls ((rd_T118 l0_1 x4_3).f1) true _ A50.out).mono ?_
                              rintro e w' ⟨rfl, ⟨nd, rfl⟩⟩
                              refine ⟨_, rfl, ?_⟩
                              have q58 : (x4_3 : Int) ≤ ((l0_1.length : Int) : Int) := of_decide_eq_true (by first | (with_reducible assumption) | assumption)
                              obtain ⟨i058, hi058, _, hsz58, _⟩ := info_parts info118
                              have hroom58 : l0_1.length ≤ c0_1 := HC0_1.out
                              have hC58 : Kd.C k118 _ (some ad176) l0_1.length l0_1 := HR0_1.out
                              have hcut58 := cut_to (P := Try.prog) 53 118 .i64 Try.underlying53 hi058 (some ad176) l0_1.length c0_1 x4_3 (of_decide_eq_true (by first | (with_reducible assumption) | assumption)) q58 hroom58
                              have hr58 := Kd.C_take (m := (x4_3 : Int).toNat) hC58 (by omega)
                              have hy58 : y180.length = (x4_3 : Int).toNat := (by rw [Ny180.out, List.length_take]; omega)
                              rw [← Ny180.out] at hr58
                              rw [← hy58] at hcut58
                              have HR183 := Aside0.mk hr58
                              have HC183 := Aside0.mk (show y180.length ≤ c0_1 from by omega)
                              clear hr58 hC58 hroom58 hi058 hsz58
                              have KY58 := Aside0.mk hy58
                              clear hy58
                              replace q58 := eq_true q58
                              refine hK.out _ _ ⟨(blk_cell BK164.out 0).trans rfl, (blk_cell BK164.out 1).trans rfl, (blk_cell BK164.out 2).trans rfl, (blk_cell BK164.out 3).trans rfl, ((HB.out.cell (World.block_lt_of_cell? w _ hw176_0)).trans hw176_0), ((HB.out.cell (World.block_lt_of_cell? w _ hw176_1)).trans hw176_1), ((HB.out.cell (World.block_lt_of_cell? w _ hw178_0)).trans hw178_0), ((HB.out.cell (World.block_lt_of_cell? w _ hw178_1)).trans hw178_1), ((HB.out.cell (World.block_lt_of_cell? w _ hw184_0)).trans hw184_0), ((HB.out.cell (World.block_lt_of_cell? w _ hw184_1)).trans hw184_1)⟩ (fun hHeld => ?_)
                              clear hK K
                              refine norm_ (a' := ?_) ?_ ?_
                              rotate_left
                              · show Act.put _ (some 114) _ = _
                                simp only [Act.put, sA_, sZ_, sS_, i64_w, i32_w]
                                rfl
                              refine pu_ (i := 16) (N := some 115) (v := ?_) (a' := ?_) rfl rfl (any_of HT_.out (by kernel_rfl)) (fun _ _ _ h => h) (Or.inl ⟨by rfl, ?_⟩) ?_ ?_; rotate_left; (· (intro w'; go_simp; with_reducible rfl)); rotate_left; (· (simp only [Act.put, sA_, sZ_, sS_, i64_w, i32_w]; rfl))
                              refine pu_ (i := 17) (N := some 116) (v := ?_) (a' := ?_) rfl rfl (any_of HT_.out (by kernel_rfl)) (fun _ _ _ h => h) (Or.inl ⟨by rfl, ?_⟩) ?_ ?_; rotate_left; (· (intro w'; go_simp; with_reducible rfl))
                              rotate_left; (· (simp only [Act.put, sA_, sZ_, sS_, i64_w, i32_w]; rfl))
                              refine pu_ (i := 18) (N := some 117) (v := ?_) (a' := ?_) rfl rfl (any_of HT_.out (by kernel_rfl)) (fun _ _ _ h => h) (Or.inl ⟨by rfl, ?_⟩) ?_ ?_; rotate_left; (· (intro w'; go_simp; with_reducible rfl)); rotate_left; (· (simp only [Act.put, sA_, sZ_, sS_, i64_w, i32_w]; rfl))
                              refine pu_ (i := 19) (N := some 118) (v := ?_) (a' := ?_) rfl rfl (any_of HT_.out (by kernel_rfl)) (fun _ _ _ h => h) (Or.inl ⟨by rfl, ?_⟩) ?_ ?_; rotate_left; (· (intro w'; go_simp; with_reducible rfl))
                              rotate_left; (· (simp only [Act.put, sA_, sZ_, sS_, i64_w, i32_w]; rfl))
                              refine pu_ (i := 21) (N := some 120) (v := ?_) (a' := ?_) rfl rfl (any_of HT_.out (by kernel_rfl)) (fun _ _ _ h => h) (Or.inl ⟨by rfl, ?_⟩) ?_ ?_; rotate_left; (· (intro w'; go_simp; with_reducible rfl)); rotate_left; (· (simp only [Act.put, sA_, sZ_, sS_, i64_w, i32_w]; rfl))
                              refine pu_ (i := 23) (N := some 122) (v := ?_) (a' := ?_) rfl rfl (any_of HT_.out (by kernel_rfl)) (fun _ _ _ h => h) (Or.inl ⟨by rfl, ?_⟩) ?_ ?_; rotate_left; (· (intro w'; go_simp; with_reducible rfl))
                              rotate_left; (· (simp only [Act.put, sA_, sZ_, sS_, i64_w, i32_w]; rfl))
                              refine pu_ (i := 25) (N := some 124) (v := ?_) (a' := ?_) rfl rfl (any_of HT_.out (by kernel_rfl)) (fun _ _ _ h => h) (Or.inl ⟨by rfl, ?_⟩) ?_ ?_; rotate_left; (· (intro w'; go_simp; with_reducible rfl)); rotate_left; (· (simp only [Act.put, sA_, sZ_, sS_, i64_w, i32_w]; rfl))
                              refine ta_ (i := 20) (N := some 119) (v := ?_) (a' := ?_) rfl rfl (take_ofW HT_.out HW_.out (by kernel_rfl)) (fun _ _ _ h => h) (Or.inl ⟨by rfl, ?_⟩) hHeld ?_ ?_
                              rotate_left
                              · rintro w' ⟨s0, s1, s2, s3, s4, s5, s6, s7, s8, s9⟩
                                go_simp
                                with_reducible rfl
                              rotate_left; (· (simp only [Act.put, sA_, sZ_, sS_, i64_w, i32_w]; rfl))
                              refine pu_ (i := 22) (N := some 121) (v := ?_) (a' := ?_) rfl rfl (any_of HT_.out (by kernel_rfl)) (fun _ _ _ h => h) (Or.inl ⟨by rfl, ?_⟩) ?_ ?_; rotate_left; (· (intro w'; go_simp; with_reducible rfl)); rotate_left; (· (simp only [Act.put, sA_, sZ_, sS_, i64_w, i32_w]; rfl))
                              refine ta_ (i := 24) (N := some 123) (v := ?_) (a' := ?_) rfl rfl (take_ofW HT_.out HW_.out (by kernel_rfl)) (fun _ _ _ h => h) (Or.inl ⟨by rfl, ?_⟩) hHeld ?_ ?_
                              rotate_left
                              · rintro w' ⟨s0, s1, s2, s3, s4, s5, s6, s7, s8, s9⟩
                                go_simp
                                with_reducible rfl
                              rotate_left; (· (simp only [Act.put, sA_, sZ_, sS_, i64_w, i32_w]; rfl))
                              refine pu_ (i := 26) (N := some 125) (v := ?_) (a' := ?_) rfl rfl (any_of HT_.out (by kernel_rfl)) (fun _ _ _ h => h) (Or.inl ⟨by rfl, ?_⟩) ?_ ?_; rotate_left; (· (intro w'; go_simp; with_reducible rfl)); rotate_left; (· (simp only [Act.put, sA_, sZ_, sS_, i64_w, i32_w]; rfl))
                              refine pu_ (i := 27) (N := some 126) (v := ?_) (a' := ?_) rfl rfl (any_of HT_.out (by kernel_rfl)) (fun _ _ _ h => h) (Or.inl ⟨by rfl, ?_⟩) ?_ ?_; rotate_left; (· (intro w'; go_simp; with_reducible rfl))
                              rotate_left; (· (simp only [Act.put, sA_, sZ_, sS_, i64_w, i32_w]; rfl))
                              refine ta_ (i := 28) (N := some 127) (v := ?_) (a' := ?_) rfl rfl (take_ofW HT_.out HW_.out (by kernel_rfl)) (fun _ _ _ h => h) (Or.inl ⟨by rfl, ?_⟩) hHeld ?_ ?_
                              rotate_left
                              · rintro w' ⟨s0, s1, s2, s3, s4, s5, s6, s7, s8, s9⟩
                                go_simp
                                with_reducible rfl
                              rotate_left; (· (simp only [Act.put, sA_, sZ_, sS_, i64_w, i32_w]; rfl))
                              refine on_ (i := 29) (N := some 128) rfl rfl (one_of HT_.out (by kernel_rfl)) (by decide) (fun K hK => ?_)
                              refine goes_ Try.func85 (by kernel_rfl) rfl #[.slice (some ad176) y180.length c0_1, .int .i64 ((rd_T118 l0_1 x4_3).f0)] (by rfl) rfl rfl (by (try simp only [List.map_toArray, List.map_cons, List.map_nil]); first | done | rfl | (simp only [List.length_drop, List.length_take]; rfl)) ?_
                              with_reducible refine (spec_l3At.calls k3 _ _ y180 ((rd_T118 l0_1 x4_3).f0) t185 _ ?side1 ?side2 A54.out).mono ?_
                              (case side1 => repeat (first | exact (Kd.C_below HR183.out (by repeat (first | (with_reducible first | exact HB.out | apply below_alloc | apply pw_below_drewN | apply below_drew1 | refine below_set ?_ GE164.out) | exact HB.out))) | (with_reducible refine Kd.C_alloc ?_ _) | (with_reducible refine Kd.C_drewN ?_ _) | (with_reducible refine Kd.C_drew ?_)))
                              (case side2 => exact HC183.out)
                              rintro e w' ⟨rfl, ⟨nd, rfl⟩⟩
                              refine ⟨_, rfl, ?_⟩
                              refine hK.out _ _ ⟨(blk_cell BK164.out 0).trans rfl, (blk_cell BK164.out 1).trans rfl, (blk_cell BK164.out 2).trans rfl, (blk_cell BK164.out 3).trans rfl, ((HB.out.cell (World.block_lt_of_cell? w _ hw176_0)).trans hw176_0), ((HB.out.cell (World.block_lt_of_cell? w _ hw176_1)).trans hw176_1), ((HB.out.cell (World.block_lt_of_cell? w _ hw178_0)).trans hw178_0), ((HB.out.cell (World.block_lt_of_cell? w _ hw178_1)).trans hw178_1), ((HB.out.cell (World.block_lt_of_cell? w _ hw184_0)).trans hw184_0), ((HB.out.cell (World.block_lt_of_cell? w _ hw184_1)).trans hw184_1)⟩ (fun hHeld => ?_)
                              clear hK K
                              refine norm_ (a' := ?_) ?_ ?_
                              rotate_left
                              · show Act.put _ (some 128) _ = _
                                simp only [Act.put, sA_, sZ_, sS_, i64_w, i32_w]
                                rfl
                              refine pu_ (i := 30) (N := some 129) (v := ?_) (a' := ?_) rfl rfl (any_of HT_.out (by kernel_rfl)) (fun _ _ _ h => h) (Or.inl ⟨by rfl, ?_⟩) ?_ ?_; rotate_left; (· (intro w'; go_simp; with_reducible rfl)); rotate_left; (· (simp only [Act.put, sA_, sZ_, sS_, i64_w, i32_w]; rfl))
                              refine pu_ (i := 31) (N := some 130) (v := ?_) (a' := ?_) rfl rfl (any_of HT_.out (by kernel_rfl)) (fun _ _ _ h => h) (Or.inl ⟨by rfl, ?_⟩) ?_ ?_; rotate_left; (· (intro w'; go_simp; with_reducible rfl))
                              rotate_left; (· (simp only [Act.put, sA_, sZ_, sS_, i64_w, i32_w]; rfl))
                              refine done_ (done_of HT_.out (by kernel_rfl)) ?_
                              try go_wp2
                              go_ret
                              exact ⟨by first | rfl | (simp [errW_none, errW_some] <;> rfl) | (simp [*, errW_none, errW_some] <;> rfl), by repeat (first | (with_reducible first | exact HB.out | apply below_alloc | apply pw_below_drewN | apply below_drew1 | refine below_set ?_ GE164.out) | exact HB.out)⟩
                            · rw [if_neg c55] at H
                              have c55b0 : decide (0 ≤ t185) = false := decide_eq_false c55
                              clear c55
                              have H' := Aside0.mk H
                              clear H
                              have hcz59_0 : wr.cell? ⟨gb164, 0, none⟩ = some (.slice A0_0 l0_0.length c0_0) := (blk_cell BK164.out 0).trans rfl
                              have hcz59_1 : wr.cell? ⟨gb164, 1, none⟩ = some (.slice A0_1 l0_1.length c0_1) := (blk_cell BK164.out 1).trans rfl
                              have hcz59_2 : wr.cell? ⟨gb164, 2, none⟩ = some (.int .i64 a0_2) := (blk_cell BK164.out 2).trans rfl
                              have hcz59_3 : wr.cell? ⟨gb164, 3, none⟩ = some (.int .i64 a0_3) := (blk_cell BK164.out 3).trans rfl
                              have hfz59_0 := blk_frozen BK164.out 0
                              have hfz59_1 := blk_frozen BK164.out 1
                              have hfz59_2 := blk_frozen BK164.out 2
                              have hfz59_3 := blk_frozen BK164.out 3
                              try go_wp2
                              have n0_ := Aside0.mk (blk_drew BK164.out)
                              have n1_ := Aside0.mk (below_drew1 HB.out)
                              clear BK164
                              clear HB
                              have BK164 := n0_
                              have HB := n1_
                              clear n0_ n1_
                              have p176 : 0 ≤ (x4_3 : Int) := of_decide_eq_true (by first | (with_reducible assumption) | assumption)
                              have q176 : x4_3 < (l0_1.length : Int) := of_decide_eq_true (by first | (with_reducible assumption) | assumption)
                              obtain ⟨ad176, e176, hx176_0, hx176_1⟩ := at_T118 HR0_1.out x4_3 p176 q176
                              have hw176_1 := hx176_1
                              have hw176_0 := hx176_0
                              cases e176
                              replace hx176_0 := (HB.out.cell (World.block_lt_of_cell? w _ hx176_0)).trans hx176_0
                              replace hx176_1 := (HB.out.cell (World.block_lt_of_cell? w _ hx176_1)).trans hx176_1
                              replace p176 := eq_true p176
                              replace q176 := eq_true q176
                              have p178 : 0 ≤ (x4_3 : Int) := of_decide_eq_true (by first | (with_reducible assumption) | assumption)
                              have q178 : x4_3 < (l0_1.length : Int) := of_decide_eq_true (by first | (with_reducible assumption) | assumption)
                              obtain ⟨ad178, e178, hx178_0, hx178_1⟩ := at_T118 HR0_1.out x4_3 p178 q178
                              have hw178_1 := hx178_1
                              have hw178_0 := hx178_0
                              obtain rfl : ad176 = ad178 := (by injection e178)
                              replace hx178_0 := (HB.out.cell (World.block_lt_of_cell? w _ hx178_0)).trans hx178_0
                              replace hx178_1 := (HB.out.cell (World.block_lt_of_cell? w _ hx178_1)).trans hx178_1
                              replace p178 := eq_true p178
                              replace q178 := eq_true q178
                              have p184 : 0 ≤ (x4_3 : Int) := of_decide_eq_true (by first | (with_reducible assumption) | assumption)
                              have q184 : x4_3 < (l0_1.length : Int) := of_decide_eq_true (by first | (with_reducible assumption) | assumption)
                              obtain ⟨ad184, e184, hx184_0, hx184_1⟩ := at_T118 HR0_1.out x4_3 p184 q184
                              have hw184_1 := hx184_1
                              have hw184_0 := hx184_0
                              obtain rfl : ad176 = ad184 := (by injection e184)
                              replace hx184_0 := (HB.out.cell (World.block_lt_of_cell? w _ hx184_0)).trans hx184_0
                              replace hx184_1 := (HB.out.cell (World.block_lt_of_cell? w _ hx184_1)).trans hx184_1
                              replace p184 := eq_true p184
                              replace q184 := eq_true q184
                              refine start_ (n := 32) (S := fun w' => w'.cell? ⟨gb164, 0, none⟩ = some (.slice A0_0 l0_0.length c0_0) ∧ w'.cell? ⟨gb164, 1, none⟩ = some (.slice (some ad176) l0_1.length c0_1) ∧ w'.cell? ⟨gb164, 2, none⟩ = some (.int .i64 a0_2) ∧ w'.cell? ⟨gb164, 3, none⟩ = some (.int .i64 a0_3) ∧ w'.cell? (ad176.add ((x4_3).toNat * 2)) = some (.int .i64 ((rd_T118 l0_1 x4_3).f0)) ∧ w'.cell? ⟨(ad176.add ((x4_3).toNat * 2)).block, (ad176.add ((x4_3).toNat * 2)).off + 1, none⟩ = some (.int .i64 ((rd_T118 l0_1 x4_3).f1)) ∧ w'.cell? (ad176.add ((x4_3).toNat * 2)) = some (.int .i64 ((rd_T118 l0_1 x4_3).f0)) ∧ w'.cell? ⟨(ad176.add ((x4_3).toNat * 2)).block, (ad176.add ((x4_3).toNat * 2)).off + 1, none⟩ = some (.int .i64 ((rd_T118 l0_1 x4_3).f1)) ∧ w'.cell? (ad176.add ((x4_3).toNat * 2)) = some (.int .i64 ((rd_T118 l0_1 x4_3).f0)) ∧ w'.cell? ⟨(ad176.add ((x4_3).toNat * 2)).block, (ad176.add ((x4_3).toNat * 2)).off + 1, none⟩ = some (.int .i64 ((rd_T118 l0_1 x4_3).f1))) (ds := []) #[false, false, false, false, false, false, false, false, false, false, false, false, false, false, false, false, false, false, false, false, false, false, false, false, false, false, false, false, false, false, false, false] (by kernel_rfl) rfl rfl ⟨(blk_cell BK164.out 0).trans rfl, (blk_cell BK164.out 1).trans rfl, (blk_cell BK164.out 2).trans rfl, (blk_cell BK164.out 3).trans rfl, ((HB.out.cell (World.block_lt_of_cell? w _ hw176_0)).trans hw176_0), ((HB.out.cell (World.block_lt_of_cell? w _ hw176_1)).trans hw176_1), ((HB.out.cell (World.block_lt_of_cell? w _ hw178_0)).trans hw178_0), ((HB.out.cell (World.block_lt_of_cell? w _ hw178_1)).trans hw178_1), ((HB.out.cell (World.block_lt_of_cell? w _ hw184_0)).trans hw184_0), ((HB.out.cell (World.block_lt_of_cell? w _ hw184_1)).trans hw184_1)⟩ (fun hHeld => ?_); refine with_tabW spec_ExecOk.tab11 spec_ExecOk.bits11 (fun HT_ HW_ => ?_)
                              generalize wr.drew = w60 at BK164 HB hx176_0 hx176_1 hx178_0 hx178_1 hx184_0 hx184_1 hHeld ⊢
                              refine pu_ (i := 0) (N := some 99) (v := ?_) (a' := ?_) rfl rfl (any_of HT_.out (by kernel_rfl)) (fun _ _ _ h => h) (Or.inl ⟨by rfl, ?_⟩) ?_ ?_; rotate_left; (· (intro w'; go_simp; with_reducible rfl)); rotate_left; (· (simp only [Act.put, sA_, sZ_, sS_, i64_w, i32_w]; rfl))
                              refine pu_ (i := 2) (N := some 101) (v := ?_) (a' := ?_) rfl rfl (any_of HT_.out (by kernel_rfl)) (fun _ _ _ h => h) (Or.inl ⟨by rfl, ?_⟩) ?_ ?_; rotate_left; (· (intro w'; go_simp; with_reducible rfl))
                              rotate_left; (· (simp only [Act.put, sA_, sZ_, sS_, i64_w, i32_w]; rfl))
                              refine ta_ (i := 1) (N := some 100) (v := ?_) (a' := ?_) rfl rfl (take_ofW HT_.out HW_.out (by kernel_rfl)) (fun _ _ _ h => h) (Or.inl ⟨by rfl, ?_⟩) hHeld ?_ ?_
                              rotate_left
                              · rintro w' ⟨s0, s1, s2, s3, s4, s5, s6, s7, s8, s9⟩
                                go_simp
                                with_reducible rfl
                              rotate_left; (· (simp only [Act.put, sA_, sZ_, sS_, i64_w, i32_w]; rfl))
                              refine pu_ (i := 3) (N := some 102) (v := ?_) (a' := ?_) rfl rfl (any_of HT_.out (by kernel_rfl)) (fun _ _ _ h => h) (Or.inl ⟨by rfl, ?_⟩) ?_ ?_; rotate_left; (· (intro w'; go_simp; with_reducible rfl)); rotate_left; (· (simp only [Act.put, sA_, sZ_, sS_, i64_w, i32_w]; rfl))
                              refine pu_ (i := 4) (N := some 103) (v := ?_) (a' := ?_) rfl rfl (any_of HT_.out (by kernel_rfl)) (fun _ _ _ h => h) (Or.inl ⟨by rfl, ?_⟩) ?_ ?_; rotate_left; (· (intro w'; go_simp; with_reducible rfl))
                              rotate_left; (· (simp only [Act.put, sA_, sZ_, sS_, i64_w, i32_w]; rfl))
                              refine ta_ (i := 5) (N := some 104) (v := ?_) (a' := ?_) rfl rfl (take_ofW HT_.out HW_.out (by kernel_rfl)) (fun _ _ _ h => h) (Or.inl ⟨by rfl, ?_⟩) hHeld ?_ ?_
                              rotate_left
                              · rintro w' ⟨s0, s1, s2, s3, s4, s5, s6, s7, s8, s9⟩
                                go_simp
                                with_reducible rfl
                              rotate_left; (· (simp only [Act.put, sA_, sZ_, sS_, i64_w, i32_w]; rfl))
                              refine on_ (i := 6) (N := some 105) rfl rfl (one_of HT_.out (by kernel_rfl)) (by decide) (fun K hK => ?_)
                              refine goes_ Try.func83 (by kernel_rfl) rfl #[.int .i64 ((rd_T118 l0_1 x4_3).f0)] (by rfl) rfl rfl (by (try simp only [List.map_toArray, List.map_cons, List.map_nil]); first | done | rfl | (simp only [List.length_drop, List.length_take]; rfl)) ?_
                              with_reducible refine (spec_l2Box.calls ((rd_T118 l0_1 x4_3).f0) true _ A48.out).mono ?_
                              rintro e w' ⟨rfl, ⟨nd, rfl⟩⟩
                              refine ⟨_, rfl, ?_⟩
                              refine hK.out _ _ ⟨(blk_cell BK164.out 0).trans rfl, (blk_cell BK164.out 1).trans rfl, (blk_cell BK164.out 2).trans rfl, (blk_cell BK164.out 3).trans rfl, ((HB.out.cell (World.block_lt_of_cell? w _ hw176_0)).trans hw176_0), ((HB.out.cell (World.block_lt_of_cell? w _ hw176_1)).trans hw176_1), ((HB.out.cell (World.block_lt_of_cell? w _ hw178_0)).trans hw178_0), ((HB.out.cell (World.block_lt_of_cell? w _ hw178_1)).trans hw178_1), ((HB.out.cell (World.block_lt_of_cell? w _ hw184_0)).trans hw184_0), ((HB.out.cell (World.block_lt_of_cell? w _ hw184_1)).trans hw184_1)⟩ (fun hHeld => ?_)
                              clear hK K
                              refine norm_ (a' := ?_) ?_ ?_
                              rotate_left
                              · show Act.put _ (some 105) _ = _
                                simp only [Act.put, sA_, sZ_, sS_, i64_w, i32_w]
                                rfl
                              refine pu_ (i := 7) (N := some 106) (v := ?_) (a' := ?_) rfl rfl (any_of HT_.out (by kernel_rfl)) (fun _ _ _ h => h) (Or.inl ⟨by rfl, ?_⟩) ?_ ?_; rotate_left; (· (intro w'; go_simp; with_reducible rfl)); rotate_left; (· (simp only [Act.put, sA_, sZ_, sS_, i64_w, i32_w]; rfl))
                              refine pu_ (i := 8) (N := some 107) (v := ?_) (a' := ?_) rfl rfl (any_of HT_.out (by kernel_rfl)) (fun _ _ _ h => h) (Or.inl ⟨by rfl, ?_⟩) ?_ ?_; rotate_left; (· (intro w'; go_simp; with_reducible rfl))
                              rotate_left; (· (simp only [Act.put, sA_, sZ_, sS_, i64_w, i32_w]; rfl))
                              refine pu_ (i := 9) (N := some 108) (v := ?_) (a' := ?_) rfl rfl (any_of HT_.out (by kernel_rfl)) (fun _ _ _ h => h) (Or.inl ⟨by rfl, ?_⟩) ?_ ?_; rotate_left; (· (intro w'; go_simp; with_reducible rfl)); rotate_left; (· (simp only [Act.put, sA_, sZ_, sS_, i64_w, i32_w]; rfl))
                              refine pu_ (i := 11) (N := some 110) (v := ?_) (a' := ?_) rfl rfl (any_of HT_.out (by kernel_rfl)) (fun _ _ _ h => h) (Or.inl ⟨by rfl, ?_⟩) ?_ ?_; rotate_left; (· (intro w'; go_simp; with_reducible rfl))
                              rotate_left; (· (simp only [Act.put, sA_, sZ_, sS_, i64_w, i32_w]; rfl))
                              refine ta_ (i := 10) (N := some 109) (v := ?_) (a' := ?_) rfl rfl (take_ofW HT_.out HW_.out (by kernel_rfl)) (fun _ _ _ h => h) (Or.inl ⟨by rfl, ?_⟩) hHeld ?_ ?_
                              rotate_left
                              · rintro w' ⟨s0, s1, s2, s3, s4, s5, s6, s7, s8, s9⟩
                                go_simp
                                with_reducible rfl
                              rotate_left; (· (simp only [Act.put, sA_, sZ_, sS_, i64_w, i32_w]; rfl))
                              refine pu_ (i := 12) (N := some 111) (v := ?_) (a' := ?_) rfl rfl (any_of HT_.out (by kernel_rfl)) (fun _ _ _ h => h) (Or.inl ⟨by rfl, ?_⟩) ?_ ?_; rotate_left; (· (intro w'; go_simp; with_reducible rfl)); rotate_left; (· (simp only [Act.put, sA_, sZ_, sS_, i64_w, i32_w]; rfl))
                              refine pu_ (i := 13) (N := some 112) (v := ?_) (a' := ?_) rfl rfl (any_of HT_.out (by kernel_rfl)) (fun _ _ _ h => h) (Or.inl ⟨by rfl, ?_⟩) ?_ ?_; rotate_left; (· (intro w'; go_simp; with_reducible rfl))
                              rotate_left; (· (simp only [Act.put, sA_, sZ_, sS_, i64_w, i32_w]; rfl))
                              refine ta_ (i := 14) (N := some 113) (v := ?_) (a' := ?_) rfl rfl (take_ofW HT_.out HW_.out (by kernel_rfl)) (fun _ _ _ h => h) (Or.inl ⟨by rfl, ?_⟩) hHeld ?_ ?_
                              rotate_left
                              · rintro w' ⟨s0, s1, s2, s3, s4, s5, s6, s7, s8, s9⟩
                                go_simp
                                with_reducible rfl
                              rotate_left; (· (simp only [Act.put, sA_, sZ_, sS_, i64_w, i32_w]; rfl))
                              refine on_ (i := 15) (N := some 114) rfl rfl (one_of HT_.out (by kernel_rfl)) (by decide) (fun K hK => ?_)
                              refine goes_ Try.func82 (by kernel_rfl) rfl #[.int .i64 ((rd_T118 l0_1 x4_3).f1)] (by rfl) rfl rfl (by (try simp only [List.map_toArray, List.map_cons, List.map_nil]); first | done | rfl | (simp only [List.length_drop, List.length_take]; rfl)) ?_
                              with_reducible refine (spec_l1Num.calls ((rd_T118 l0_1 x4_3).f1) true _ A50.out).mono ?_
                              rintro e w' ⟨rfl, ⟨nd, rfl⟩⟩
                              refine ⟨_, rfl, ?_⟩
                              have q61 : (x4_3 : Int) ≤ ((l0_1.length : Int) : Int) := of_decide_eq_true (by first | (with_reducible assumption) | assumption)
                              obtain ⟨i061, hi061, _, hsz61, _⟩ := info_parts info118
                              have hroom61 : l0_1.length ≤ c0_1 := HC0_1.out
                              have hC61 : Kd.C k118 _ (some ad176) l0_1.length l0_1 := HR0_1.out
                              have hcut61 := cut_to (P := Try.prog) 53 118 .i64 Try.underlying53 hi061 (some ad176) l0_1.length c0_1 x4_3 (of_decide_eq_true (by first | (with_reducible assumption) | assumption)) q61 hroom61
                              have hr61 := Kd.C_take (m := (x4_3 : Int).toNat) hC61 (by omega)
                              have hy61 : y180.length = (x4_3 : Int).toNat := (by rw [Ny180.out, List.length_take]; omega)
                              rw [← Ny180.out] at hr61
                              rw [← hy61] at hcut61
                              have HR183 := Aside0.mk hr61
                              have HC183 := Aside0.mk (show y180.length ≤ c0_1 from by omega)
                              clear hr61 hC61 hroom61 hi061 hsz61
                              have KY61 := Aside0.mk hy61
                              clear hy61
                              replace q61 := eq_true q61
                              refine hK.out _ _ ⟨(blk_cell BK164.out 0).trans rfl, (blk_cell BK164.out 1).trans rfl, (blk_cell BK164.out 2).trans rfl, (blk_cell BK164.out 3).trans rfl, ((HB.out.cell (World.block_lt_of_cell? w _ hw176_0)).trans hw176_0), ((HB.out.cell (World.block_lt_of_cell? w _ hw176_1)).trans hw176_1), ((HB.out.cell (World.block_lt_of_cell? w _ hw178_0)).trans hw178_0), ((HB.out.cell (World.block_lt_of_cell? w _ hw178_1)).trans hw178_1), ((HB.out.cell (World.block_lt_of_cell? w _ hw184_0)).trans hw184_0), ((HB.out.cell (World.block_lt_of_cell? w _ hw184_1)).trans hw184_1)⟩ (fun hHeld => ?_)
                              clear hK K
                              refine norm_ (a' := ?_) ?_ ?_
                              rotate_left
                              · show Act.put _ (some 114) _ = _
                                simp only [Act.put, sA_, sZ_, sS_, i64_w, i32_w]
                                rfl
                              refine pu_ (i := 16) (N := some 115) (v := ?_) (a' := ?_) rfl rfl (any_of HT_.out (by kernel_rfl)) (fun _ _ _ h => h) (Or.inl ⟨by rfl, ?_⟩) ?_ ?_; rotate_left; (· (intro w'; go_simp; with_reducible rfl)); rotate_left; (· (simp only [Act.put, sA_, sZ_, sS_, i64_w, i32_w]; rfl))
                              refine pu_ (i := 17) (N := some 116) (v := ?_) (a' := ?_) rfl rfl (any_of HT_.out (by kernel_rfl)) (fun _ _ _ h => h) (Or.inl ⟨by rfl, ?_⟩) ?_ ?_; rotate_left; (· (intro w'; go_simp; with_reducible rfl))
                              rotate_left; (· (simp only [Act.put, sA_, sZ_, sS_, i64_w, i32_w]; rfl))
                              refine pu_ (i := 18) (N := some 117) (v := ?_) (a' := ?_) rfl rfl (any_of HT_.out (by kernel_rfl)) (fun _ _ _ h => h) (Or.inl ⟨by rfl, ?_⟩) ?_ ?_; rotate_left; (· (intro w'; go_simp; with_reducible rfl)); rotate_left; (· (simp only [Act.put, sA_, sZ_, sS_, i64_w, i32_w]; rfl))
                              refine pu_ (i := 19) (N := some 118) (v := ?_) (a' := ?_) rfl rfl (any_of HT_.out (by kernel_rfl)) (fun _ _ _ h => h) (Or.inl ⟨by rfl, ?_⟩) ?_ ?_; rotate_left; (· (intro w'; go_simp; with_reducible rfl))
                              rotate_left; (· (simp only [Act.put, sA_, sZ_, sS_, i64_w, i32_w]; rfl))
                              refine pu_ (i := 21) (N := some 120) (v := ?_) (a' := ?_) rfl rfl (any_of HT_.out (by kernel_rfl)) (fun _ _ _ h => h) (Or.inl ⟨by rfl, ?_⟩) ?_ ?_; rotate_left; (· (intro w'; go_simp; with_reducible rfl)); rotate_left; (· (simp only [Act.put, sA_, sZ_, sS_, i64_w, i32_w]; rfl))
                              refine pu_ (i := 23) (N := some 122) (v := ?_) (a' := ?_) rfl rfl (any_of HT_.out (by kernel_rfl)) (fun _ _ _ h => h) (Or.inl ⟨by rfl, ?_⟩) ?_ ?_; rotate_left; (· (intro w'; go_simp; with_reducible rfl))
                              rotate_left; (· (simp only [Act.put, sA_, sZ_, sS_, i64_w, i32_w]; rfl))
                              refine pu_ (i := 25) (N := some 124) (v := ?_) (a' := ?_) rfl rfl (any_of HT_.out (by kernel_rfl)) (fun _ _ _ h => h) (Or.inl ⟨by rfl, ?_⟩) ?_ ?_; rotate_left; (· (intro w'; go_simp; with_reducible rfl)); rotate_left; (· (simp only [Act.put, sA_, sZ_, sS_, i64_w, i32_w]; rfl))
                              refine ta_ (i := 20) (N := some 119) (v := ?_) (a' := ?_) rfl rfl (take_ofW HT_.out HW_.out (by kernel_rfl)) (fun _ _ _ h => h) (Or.inl ⟨by rfl, ?_⟩) hHeld ?_ ?_
                              rotate_left
                              · rintro w' ⟨s0, s1, s2, s3, s4, s5, s6, s7, s8, s9⟩
                                go_simp
                                with_reducible rfl
                              rotate_left; (· (simp only [Act.put, sA_, sZ_, sS_, i64_w, i32_w]; rfl))
                              refine pu_ (i := 22) (N := some 121) (v := ?_) (a' := ?_) rfl rfl (any_of HT_.out (by kernel_rfl)) (fun _ _ _ h => h) (Or.inl ⟨by rfl, ?_⟩) ?_ ?_; rotate_left; (· (intro w'; go_simp; with_reducible rfl)); rotate_left; (· (simp only [Act.put, sA_, sZ_, sS_, i64_w, i32_w]; rfl))
                              refine ta_ (i := 24) (N := some 123) (v := ?_) (a' := ?_) rfl rfl (take_ofW HT_.out HW_.out (by kernel_rfl)) (fun _ _ _ h => h) (Or.inl ⟨by rfl, ?_⟩) hHeld ?_ ?_
                              rotate_left
                              · rintro w' ⟨s0, s1, s2, s3, s4, s5, s6, s7, s8, s9⟩
                                go_simp
                                with_reducible rfl
                              rotate_left; (· (simp only [Act.put, sA_, sZ_, sS_, i64_w, i32_w]; rfl))
                              refine pu_ (i := 26) (N := some 125) (v := ?_) (a' := ?_) rfl rfl (any_of HT_.out (by kernel_rfl)) (fun _ _ _ h => h) (Or.inl ⟨by rfl, ?_⟩) ?_ ?_; rotate_left; (· (intro w'; go_simp; with_reducible rfl)); rotate_left; (· (simp only [Act.put, sA_, sZ_, sS_, i64_w, i32_w]; rfl))
                              refine pu_ (i := 27) (N := some 126) (v := ?_) (a' := ?_) rfl rfl (any_of HT_.out (by kernel_rfl)) (fun _ _ _ h => h) (Or.inl ⟨by rfl, ?_⟩) ?_ ?_; rotate_left; (· (intro w'; go_simp; with_reducible rfl))
                              rotate_left; (· (simp only [Act.put, sA_, sZ_, sS_, i64_w, i32_w]; rfl))
                              refine ta_ (i := 28) (N := some 127) (v := ?_) (a' := ?_) rfl rfl (take_ofW HT_.out HW_.out (by kernel_rfl)) (fun _ _ _ h => h) (Or.inl ⟨by rfl, ?_⟩) hHeld ?_ ?_
                              rotate_left
                              · rintro w' ⟨s0, s1, s2, s3, s4, s5, s6, s7, s8, s9⟩
                                go_simp
                                with_reducible rfl
                              rotate_left; (· (simp only [Act.put, sA_, sZ_, sS_, i64_w, i32_w]; rfl))
                              refine on_ (i := 29) (N := some 128) rfl rfl (one_of HT_.out (by kernel_rfl)) (by decide) (fun K hK => ?_)
                              refine goes_ Try.func85 (by kernel_rfl) rfl #[.slice (some ad176) y180.length c0_1, .int .i64 ((rd_T118 l0_1 x4_3).f0)] (by rfl) rfl rfl (by (try simp only [List.map_toArray, List.map_cons, List.map_nil]); first | done | rfl | (simp only [List.length_drop, List.length_take]; rfl)) ?_
                              with_reducible refine (spec_l3At.calls k3 _ _ y180 ((rd_T118 l0_1 x4_3).f0) t185 _ ?side1 ?side2 A54.out).mono ?_
                              (case side1 => repeat (first | exact (Kd.C_below HR183.out (by repeat (first | (with_reducible first | exact HB.out | apply below_alloc | apply pw_below_drewN | apply below_drew1 | refine below_set ?_ GE164.out) | exact HB.out))) | (with_reducible refine Kd.C_alloc ?_ _) | (with_reducible refine Kd.C_drewN ?_ _) | (with_reducible refine Kd.C_drew ?_)))
                              (case side2 => exact HC183.out)
                              rintro e w' ⟨rfl, ⟨nd, rfl⟩⟩
                              refine ⟨_, rfl, ?_⟩
                              refine hK.out _ _ ⟨(blk_cell BK164.out 0).trans rfl, (blk_cell BK164.out 1).trans rfl, (blk_cell BK164.out 2).trans rfl, (blk_cell BK164.out 3).trans rfl, ((HB.out.cell (World.block_lt_of_cell? w _ hw176_0)).trans hw176_0), ((HB.out.cell (World.block_lt_of_cell? w _ hw176_1)).trans hw176_1), ((HB.out.cell (World.block_lt_of_cell? w _ hw178_0)).trans hw178_0), ((HB.out.cell (World.block_lt_of_cell? w _ hw178_1)).trans hw178_1), ((HB.out.cell (World.block_lt_of_cell? w _ hw184_0)).trans hw184_0), ((HB.out.cell (World.block_lt_of_cell? w _ hw184_1)).trans hw184_1)⟩ (fun hHeld => ?_)
                              clear hK K
                              refine norm_ (a' := ?_) ?_ ?_
                              rotate_left
                              · show Act.put _ (some 128) _ = _
                                simp only [Act.put, sA_, sZ_, sS_, i64_w, i32_w]
                                rfl
                              refine pu_ (i := 30) (N := some 129) (v := ?_) (a' := ?_) rfl rfl (any_of HT_.out (by kernel_rfl)) (fun _ _ _ h => h) (Or.inl ⟨by rfl, ?_⟩) ?_ ?_; rotate_left; (· (intro w'; go_simp; with_reducible rfl)); rotate_left; (· (simp only [Act.put, sA_, sZ_, sS_, i64_w, i32_w]; rfl))
                              refine pu_ (i := 31) (N := some 130) (v := ?_) (a' := ?_) rfl rfl (any_of HT_.out (by kernel_rfl)) (fun _ _ _ h => h) (Or.inl ⟨by rfl, ?_⟩) ?_ ?_; rotate_left; (· (intro w'; go_simp; with_reducible rfl))
                              rotate_left; (· (simp only [Act.put, sA_, sZ_, sS_, i64_w, i32_w]; rfl))
                              refine done_ (done_of HT_.out (by kernel_rfl)) ?_
                              try go_wp2
                              go_roundg k3
                              case measure => have := HJ1.out; have := HK2.out; have := HK3.out; omega
                              case rel => exact ⟨(wrap64 (x4_3 + 1)), (by first | rfl | (simp; done) | (simp [*]; done)), H', ⟨by have := HJ1.out; have := HK2.out; have := HK3.out; omega⟩, ⟨by (with_reducible repeat (first | refine blk_drewN ?_ _ | refine blk_drew ?_ | refine blk_alloc ?_ _)); exact BK164.out⟩, ⟨by repeat (first | (with_reducible first | exact HB.out | apply below_alloc | apply pw_below_drewN | apply below_drew1 | refine below_set ?_ GE164.out) | exact HB.out)⟩⟩
                          · rw [if_neg c53] at H
                            exact absurd H (by simp)
                        · replace c51 := Bool.eq_false_iff.mpr c51
                          subst c51
                          have H1 : (some false) = some r := by rw [if_neg (show ¬ (false = true) by decide)] at H; exact H
                          clear H
                          have H := H1
                          clear H1
                          obtain rfl := Option.some.inj H
                          have hcz62_0 : wr.cell? ⟨gb164, 0, none⟩ = some (.slice A0_0 l0_0.length c0_0) := (blk_cell BK164.out 0).trans rfl
                          have hcz62_1 : wr.cell? ⟨gb164, 1, none⟩ = some (.slice A0_1 l0_1.length c0_1) := (blk_cell BK164.out 1).trans rfl
                          have hcz62_2 : wr.cell? ⟨gb164, 2, none⟩ = some (.int .i64 a0_2) := (blk_cell BK164.out 2).trans rfl
                          have hcz62_3 : wr.cell? ⟨gb164, 3, none⟩ = some (.int .i64 a0_3) := (blk_cell BK164.out 3).trans rfl
                          have hfz62_0 := blk_frozen BK164.out 0
                          have hfz62_1 := blk_frozen BK164.out 1
                          have hfz62_2 := blk_frozen BK164.out 2
                          have hfz62_3 := blk_frozen BK164.out 3
                          try go_wp2
                          have n0_ := Aside0.mk (blk_drew BK164.out)
                          have n1_ := Aside0.mk (below_drew1 HB.out)
                          clear BK164
                          clear HB
                          have BK164 := n0_
                          have HB := n1_
                          clear n0_ n1_
                          have p176 : 0 ≤ (x4_3 : Int) := of_decide_eq_true (by first | (with_reducible assumption) | assumption)
                          have q176 : x4_3 < (l0_1.length : Int) := of_decide_eq_true (by first | (with_reducible assumption) | assumption)
                          obtain ⟨ad176, e176, hx176_0, hx176_1⟩ := at_T118 HR0_1.out x4_3 p176 q176
                          have hw176_1 := hx176_1
                          have hw176_0 := hx176_0
                          cases e176
                          replace hx176_0 := (HB.out.cell (World.block_lt_of_cell? w _ hx176_0)).trans hx176_0
                          replace hx176_1 := (HB.out.cell (World.block_lt_of_cell? w _ hx176_1)).trans hx176_1
                          replace p176 := eq_true p176
                          replace q176 := eq_true q176
                          have p178 : 0 ≤ (x4_3 : Int) := of_decide_eq_true (by first | (with_reducible assumption) | assumption)
                          have q178 : x4_3 < (l0_1.length : Int) := of_decide_eq_true (by first | (with_reducible assumption) | assumption)
                          obtain ⟨ad178, e178, hx178_0, hx178_1⟩ := at_T118 HR0_1.out x4_3 p178 q178
                          have hw178_1 := hx178_1
                          have hw178_0 := hx178_0
                          obtain rfl : ad176 = ad178 := (by injection e178)
                          replace hx178_0 := (HB.out.cell (World.block_lt_of_cell? w _ hx178_0)).trans hx178_0
                          replace hx178_1 := (HB.out.cell (World.block_lt_of_cell? w _ hx178_1)).trans hx178_1
                          replace p178 := eq_true p178
                          replace q178 := eq_true q178
                          refine start_ (n := 32) (S := fun w' => w'.cell? ⟨gb164, 0, none⟩ = some (.slice A0_0 l0_0.length c0_0) ∧ w'.cell? ⟨gb164, 1, none⟩ = some (.slice (some ad176) l0_1.length c0_1) ∧ w'.cell? ⟨gb164, 2, none⟩ = some (.int .i64 a0_2) ∧ w'.cell? ⟨gb164, 3, none⟩ = some (.int .i64 a0_3) ∧ w'.cell? (ad176.add ((x4_3).toNat * 2)) = some (.int .i64 ((rd_T118 l0_1 x4_3).f0)) ∧ w'.cell? ⟨(ad176.add ((x4_3).toNat * 2)).block, (ad176.add ((x4_3).toNat * 2)).off + 1, none⟩ = some (.int .i64 ((rd_T118 l0_1 x4_3).f1)) ∧ w'.cell? (ad176.add ((x4_3).toNat * 2)) = some (.int .i64 ((rd_T118 l0_1 x4_3).f0)) ∧ w'.cell? ⟨(ad176.add ((x4_3).toNat * 2)).block, (ad176.add ((x4_3).toNat * 2)).off + 1, none⟩ = some (.int .i64 ((rd_T118 l0_1 x4_3).f1))) (ds := []) #[false, false, false, false, false, false, false, false, false, false, false, false, false, false, false, false, false, false, false, false, false, false, false, false, false, false, false, false, false, false, false, false] (by kernel_rfl) rfl rfl ⟨(blk_cell BK164.out 0).trans rfl, (blk_cell BK164.out 1).trans rfl, (blk_cell BK164.out 2).trans rfl, (blk_cell BK164.out 3).trans rfl, ((HB.out.cell (World.block_lt_of_cell? w _ hw176_0)).trans hw176_0), ((HB.out.cell (World.block_lt_of_cell? w _ hw176_1)).trans hw176_1), ((HB.out.cell (World.block_lt_of_cell? w _ hw178_0)).trans hw178_0), ((HB.out.cell (World.block_lt_of_cell? w _ hw178_1)).trans hw178_1)⟩ (fun hHeld => ?_); refine with_tabW spec_ExecOk.tab11 spec_ExecOk.bits11 (fun HT_ HW_ => ?_)
                          generalize wr.drew = w63 at BK164 HB hx176_0 hx176_1 hx178_0 hx178_1 hHeld ⊢
                          refine pu_ (i := 0) (N := some 99) (v := ?_) (a' := ?_) rfl rfl (any_of HT_.out (by kernel_rfl)) (fun _ _ _ h => h) (Or.inl ⟨by rfl, ?_⟩) ?_ ?_; rotate_left; (· (intro w'; go_simp; with_reducible rfl)); rotate_left; (· (simp only [Act.put, sA_, sZ_, sS_, i64_w, i32_w]; rfl))
                          refine pu_ (i := 2) (N := some 101) (v := ?_) (a' := ?_) rfl rfl (any_of HT_.out (by kernel_rfl)) (fun _ _ _ h => h) (Or.inl ⟨by rfl, ?_⟩) ?_ ?_; rotate_left; (· (intro w'; go_simp; with_reducible rfl))
                          rotate_left; (· (simp only [Act.put, sA_, sZ_, sS_, i64_w, i32_w]; rfl))
                          refine ta_ (i := 1) (N := some 100) (v := ?_) (a' := ?_) rfl rfl (take_ofW HT_.out HW_.out (by kernel_rfl)) (fun _ _ _ h => h) (Or.inl ⟨by rfl, ?_⟩) hHeld ?_ ?_
                          rotate_left
                          · rintro w' ⟨s0, s1, s2, s3, s4, s5, s6, s7⟩
                            go_simp
                            with_reducible rfl
                          rotate_left; (· (simp only [Act.put, sA_, sZ_, sS_, i64_w, i32_w]; rfl))
                          refine pu_ (i := 3) (N := some 102) (v := ?_) (a' := ?_) rfl rfl (any_of HT_.out (by kernel_rfl)) (fun _ _ _ h => h) (Or.inl ⟨by rfl, ?_⟩) ?_ ?_; rotate_left; (· (intro w'; go_simp; with_reducible rfl)); rotate_left; (· (simp only [Act.put, sA_, sZ_, sS_, i64_w, i32_w]; rfl))
                          refine pu_ (i := 4) (N := some 103) (v := ?_) (a' := ?_) rfl rfl (any_of HT_.out (by kernel_rfl)) (fun _ _ _ h => h) (Or.inl ⟨by rfl, ?_⟩) ?_ ?_; rotate_left; (· (intro w'; go_simp; with_reducible rfl))
                          rotate_left; (· (simp only [Act.put, sA_, sZ_, sS_, i64_w, i32_w]; rfl))
                          refine ta_ (i := 5) (N := some 104) (v := ?_) (a' := ?_) rfl rfl (take_ofW HT_.out HW_.out (by kernel_rfl)) (fun _ _ _ h => h) (Or.inl ⟨by rfl, ?_⟩) hHeld ?_ ?_
                          rotate_left
                          · rintro w' ⟨s0, s1, s2, s3, s4, s5, s6, s7⟩
                            go_simp
                            with_reducible rfl
                          rotate_left; (· (simp only [Act.put, sA_, sZ_, sS_, i64_w, i32_w]; rfl))
                          refine on_ (i := 6) (N := some 105) rfl rfl (one_of HT_.out (by kernel_rfl)) (by decide) (fun K hK => ?_)
                          refine goes_ Try.func83 (by kernel_rfl) rfl #[.int .i64 ((rd_T118 l0_1 x4_3).f0)] (by rfl) rfl rfl (by (try simp only [List.map_toArray, List.map_cons, List.map_nil]); first | done | rfl | (simp only [List.length_drop, List.length_take]; rfl)) ?_
                          with_reducible refine (spec_l2Box.calls ((rd_T118 l0_1 x4_3).f0) true _ A48.out).mono ?_
                          rintro e w' ⟨rfl, ⟨nd, rfl⟩⟩
                          refine ⟨_, rfl, ?_⟩
                          refine hK.out _ _ ⟨(blk_cell BK164.out 0).trans rfl, (blk_cell BK164.out 1).trans rfl, (blk_cell BK164.out 2).trans rfl, (blk_cell BK164.out 3).trans rfl, ((HB.out.cell (World.block_lt_of_cell? w _ hw176_0)).trans hw176_0), ((HB.out.cell (World.block_lt_of_cell? w _ hw176_1)).trans hw176_1), ((HB.out.cell (World.block_lt_of_cell? w _ hw178_0)).trans hw178_0), ((HB.out.cell (World.block_lt_of_cell? w _ hw178_1)).trans hw178_1)⟩ (fun hHeld => ?_)
                          clear hK K
                          refine norm_ (a' := ?_) ?_ ?_
                          rotate_left
                          · show Act.put _ (some 105) _ = _
                            simp only [Act.put, sA_, sZ_, sS_, i64_w, i32_w]
                            rfl
                          refine pu_ (i := 7) (N := some 106) (v := ?_) (a' := ?_) rfl rfl (any_of HT_.out (by kernel_rfl)) (fun _ _ _ h => h) (Or.inl ⟨by rfl, ?_⟩) ?_ ?_; rotate_left; (· (intro w'; go_simp; with_reducible rfl)); rotate_left; (· (simp only [Act.put, sA_, sZ_, sS_, i64_w, i32_w]; rfl))
                          refine pu_ (i := 8) (N := some 107) (v := ?_) (a' := ?_) rfl rfl (any_of HT_.out (by kernel_rfl)) (fun _ _ _ h => h) (Or.inl ⟨by rfl, ?_⟩) ?_ ?_; rotate_left; (· (intro w'; go_simp; with_reducible rfl))
                          rotate_left; (· (simp only [Act.put, sA_, sZ_, sS_, i64_w, i32_w]; rfl))
                          refine pu_ (i := 9) (N := some 108) (v := ?_) (a' := ?_) rfl rfl (any_of HT_.out (by kernel_rfl)) (fun _ _ _ h => h) (Or.inl ⟨by rfl, ?_⟩) ?_ ?_; rotate_left; (· (intro w'; go_simp; with_reducible rfl)); rotate_left; (· (simp only [Act.put, sA_, sZ_, sS_, i64_w, i32_w]; rfl))
                          refine pu_ (i := 11) (N := some 110) (v := ?_) (a' := ?_) rfl rfl (any_of HT_.out (by kernel_rfl)) (fun _ _ _ h => h) (Or.inl ⟨by rfl, ?_⟩) ?_ ?_; rotate_left; (· (intro w'; go_simp; with_reducible rfl))
                          rotate_left; (· (simp only [Act.put, sA_, sZ_, sS_, i64_w, i32_w]; rfl))
                          refine ta_ (i := 10) (N := some 109) (v := ?_) (a' := ?_) rfl rfl (take_ofW HT_.out HW_.out (by kernel_rfl)) (fun _ _ _ h => h) (Or.inl ⟨by rfl, ?_⟩) hHeld ?_ ?_
                          rotate_left
                          · rintro w' ⟨s0, s1, s2, s3, s4, s5, s6, s7⟩
                            go_simp
                            with_reducible rfl
                          rotate_left; (· (simp only [Act.put, sA_, sZ_, sS_, i64_w, i32_w]; rfl))
                          refine pu_ (i := 12) (N := some 111) (v := ?_) (a' := ?_) rfl rfl (any_of HT_.out (by kernel_rfl)) (fun _ _ _ h => h) (Or.inl ⟨by rfl, ?_⟩) ?_ ?_; rotate_left; (· (intro w'; go_simp; with_reducible rfl)); rotate_left; (· (simp only [Act.put, sA_, sZ_, sS_, i64_w, i32_w]; rfl))
                          refine pu_ (i := 13) (N := some 112) (v := ?_) (a' := ?_) rfl rfl (any_of HT_.out (by kernel_rfl)) (fun _ _ _ h => h) (Or.inl ⟨by rfl, ?_⟩) ?_ ?_; rotate_left; (· (intro w'; go_simp; with_reducible rfl))
                          rotate_left; (· (simp only [Act.put, sA_, sZ_, sS_, i64_w, i32_w]; rfl))
                          refine ta_ (i := 14) (N := some 113) (v := ?_) (a' := ?_) rfl rfl (take_ofW HT_.out HW_.out (by kernel_rfl)) (fun _ _ _ h => h) (Or.inl ⟨by rfl, ?_⟩) hHeld ?_ ?_
                          rotate_left
                          · rintro w' ⟨s0, s1, s2, s3, s4, s5, s6, s7⟩
                            go_simp
                            with_reducible rfl
                          rotate_left; (· (simp only [Act.put, sA_, sZ_, sS_, i64_w, i32_w]; rfl))
                          refine on_ (i := 15) (N := some 114) rfl rfl (one_of HT_.out (by kernel_rfl)) (by decide) (fun K hK => ?_)
                          refine goes_ Try.func82 (by kernel_rfl) rfl #[.int .i64 ((rd_T118 l0_1 x4_3).f1)] (by rfl) rfl rfl (by (try simp only [List.map_toArray, List.map_cons, List.map_nil]); first | done | rfl | (simp only [List.length_drop, List.length_take]; rfl)) ?_
                          with_reducible refine (spec_l1Num.calls ((rd_T118 l0_1 x4_3).f1) false _ A50.out).mono ?_
                          rintro e w' ⟨rfl, ⟨nd, rfl⟩⟩
                          refine ⟨_, rfl, ?_⟩
                          refine hK.out _ _ ⟨(blk_cell BK164.out 0).trans rfl, (blk_cell BK164.out 1).trans rfl, (blk_cell BK164.out 2).trans rfl, (blk_cell BK164.out 3).trans rfl, ((HB.out.cell (World.block_lt_of_cell? w _ hw176_0)).trans hw176_0), ((HB.out.cell (World.block_lt_of_cell? w _ hw176_1)).trans hw176_1), ((HB.out.cell (World.block_lt_of_cell? w _ hw178_0)).trans hw178_0), ((HB.out.cell (World.block_lt_of_cell? w _ hw178_1)).trans hw178_1)⟩ (fun hHeld => ?_)
                          clear hK K
                          refine norm_ (a' := ?_) ?_ ?_
                          rotate_left
                          · show Act.put _ (some 114) _ = _
                            simp only [Act.put, sA_, sZ_, sS_, i64_w, i32_w]
                            rfl
                          refine pu_ (i := 16) (N := some 115) (v := ?_) (a' := ?_) rfl rfl (any_of HT_.out (by kernel_rfl)) (fun _ _ _ h => h) (Or.inl ⟨by rfl, ?_⟩) ?_ ?_; rotate_left; (· (intro w'; go_simp; with_reducible rfl)); rotate_left; (· (simp only [Act.put, sA_, sZ_, sS_, i64_w, i32_w]; rfl))
                          refine pu_ (i := 17) (N := some 116) (v := ?_) (a' := ?_) rfl rfl (any_of HT_.out (by kernel_rfl)) (fun _ _ _ h => h) (Or.inl ⟨by rfl, ?_⟩) ?_ ?_; rotate_left; (· (intro w'; go_simp; with_reducible rfl))
                          rotate_left; (· (simp only [Act.put, sA_, sZ_, sS_, i64_w, i32_w]; rfl))
                          refine pu_ (i := 18) (N := some 117) (v := ?_) (a' := ?_) rfl rfl (any_of HT_.out (by kernel_rfl)) (fun _ _ _ h => h) (Or.inl ⟨by rfl, ?_⟩) ?_ ?_; rotate_left; (· (intro w'; go_simp; with_reducible rfl)); rotate_left; (· (simp only [Act.put, sA_, sZ_, sS_, i64_w, i32_w]; rfl))
                          refine pu_ (i := 19) (N := some 118) (v := undef) (a' := ?_) rfl rfl (any_of HT_.out (by kernel_rfl)) (fun _ _ _ h => h) (Or.inr ⟨by rfl, rfl⟩) ?_ ?_; rotate_left; (· (simp only [Act.put, sA_, sZ_, sS_, i64_w, i32_w]; rfl))
                          refine pu_ (i := 20) (N := some 119) (v := undef) (a' := ?_) rfl rfl (any_of HT_.out (by kernel_rfl)) (fun _ _ _ h => h) (Or.inr ⟨by rfl, rfl⟩) ?_ ?_
                          rotate_left; (· (simp only [Act.put, sA_, sZ_, sS_, i64_w, i32_w]; rfl))
                          refine pu_ (i := 21) (N := some 120) (v := undef) (a' := ?_) rfl rfl (any_of HT_.out (by kernel_rfl)) (fun _ _ _ h => h) (Or.inr ⟨by rfl, rfl⟩) ?_ ?_; rotate_left; (· (simp only [Act.put, sA_, sZ_, sS_, i64_w, i32_w]; rfl))
                          refine pu_ (i := 22) (N := some 121) (v := undef) (a' := ?_) rfl rfl (any_of HT_.out (by kernel_rfl)) (fun _ _ _ h => h) (Or.inr ⟨by rfl, rfl⟩) ?_ ?_
                          rotate_left; (· (simp only [Act.put, sA_, sZ_, sS_, i64_w, i32_w]; rfl))
                          refine pu_ (i := 23) (N := some 122) (v := undef) (a' := ?_) rfl rfl (any_of HT_.out (by kernel_rfl)) (fun _ _ _ h => h) (Or.inr ⟨by rfl, rfl⟩) ?_ ?_; rotate_left; (· (simp only [Act.put, sA_, sZ_, sS_, i64_w, i32_w]; rfl))
                          refine pu_ (i := 24) (N := some 123) (v := undef) (a' := ?_) rfl rfl (any_of HT_.out (by kernel_rfl)) (fun _ _ _ h => h) (Or.inr ⟨by rfl, rfl⟩) ?_ ?_
                          rotate_left; (· (simp only [Act.put, sA_, sZ_, sS_, i64_w, i32_w]; rfl))
                          refine pu_ (i := 25) (N := some 124) (v := undef) (a' := ?_) rfl rfl (any_of HT_.out (by kernel_rfl)) (fun _ _ _ h => h) (Or.inr ⟨by rfl, rfl⟩) ?_ ?_; rotate_left; (· (simp only [Act.put, sA_, sZ_, sS_, i64_w, i32_w]; rfl))
                          refine pu_ (i := 26) (N := some 125) (v := undef) (a' := ?_) rfl rfl (any_of HT_.out (by kernel_rfl)) (fun _ _ _ h => h) (Or.inr ⟨by rfl, rfl⟩) ?_ ?_
                          rotate_left; (· (simp only [Act.put, sA_, sZ_, sS_, i64_w, i32_w]; rfl))
                          refine pu_ (i := 27) (N := some 126) (v := undef) (a' := ?_) rfl rfl (any_of HT_.out (by kernel_rfl)) (fun _ _ _ h => h) (Or.inr ⟨by rfl, rfl⟩) ?_ ?_; rotate_left; (· (simp only [Act.put, sA_, sZ_, sS_, i64_w, i32_w]; rfl))
                          refine pu_ (i := 28) (N := some 127) (v := undef) (a' := ?_) rfl rfl (any_of HT_.out (by kernel_rfl)) (fun _ _ _ h => h) (Or.inr ⟨by rfl, rfl⟩) ?_ ?_
                          rotate_left; (· (simp only [Act.put, sA_, sZ_, sS_, i64_w, i32_w]; rfl))
                          refine pu_ (i := 29) (N := some 128) (v := undef) (a' := ?_) rfl rfl (any_of HT_.out (by kernel_rfl)) (fun _ _ _ h => h) (Or.inr ⟨by rfl, rfl⟩) ?_ ?_; rotate_left; (· (simp only [Act.put, sA_, sZ_, sS_, i64_w, i32_w]; rfl))
                          refine pu_ (i := 30) (N := some 129) (v := undef) (a' := ?_) rfl rfl (any_of HT_.out (by kernel_rfl)) (fun _ _ _ h => h) (Or.inr ⟨by rfl, rfl⟩) ?_ ?_
                          rotate_left; (· (simp only [Act.put, sA_, sZ_, sS_, i64_w, i32_w]; rfl))
                          refine pu_ (i := 31) (N := some 130) (v := ?_) (a' := ?_) rfl rfl (any_of HT_.out (by kernel_rfl)) (fun _ _ _ h => h) (Or.inl ⟨by rfl, ?_⟩) ?_ ?_; rotate_left; (· (intro w'; go_simp; with_reducible rfl)); rotate_left; (· (simp only [Act.put, sA_, sZ_, sS_, i64_w, i32_w]; rfl))
                          refine done_ (done_of HT_.out (by kernel_rfl)) ?_
                          try go_wp2
                          go_ret
                          exact ⟨by first | rfl | (simp [errW_none, errW_some] <;> rfl) | (simp [*, errW_none, errW_some] <;> rfl), by repeat (first | (with_reducible first | exact HB.out | apply below_alloc | apply pw_below_drewN | apply below_drew1 | refine below_set ?_ GE164.out) | exact HB.out)⟩
                      · replace c49 := Bool.eq_false_iff.mpr c49
                        subst c49
                        have H1 : (some false) = some r := by rw [if_neg (show ¬ (false = true) by decide)] at H; exact H
                        clear H
                        have H := H1
                        clear H1
                        obtain rfl := Option.some.inj H
                        have hcz64_0 : wr.cell? ⟨gb164, 0, none⟩ = some (.slice A0_0 l0_0.length c0_0) := (blk_cell BK164.out 0).trans rfl
                        have hcz64_1 : wr.cell? ⟨gb164, 1, none⟩ = some (.slice A0_1 l0_1.length c0_1) := (blk_cell BK164.out 1).trans rfl
                        have hcz64_2 : wr.cell? ⟨gb164, 2, none⟩ = some (.int .i64 a0_2) := (blk_cell BK164.out 2).trans rfl
                        have hcz64_3 : wr.cell? ⟨gb164, 3, none⟩ = some (.int .i64 a0_3) := (blk_cell BK164.out 3).trans rfl
                        have hfz64_0 := blk_frozen BK164.out 0
                        have hfz64_1 := blk_frozen BK164.out 1
                        have hfz64_2 := blk_frozen BK164.out 2
                        have hfz64_3 := blk_frozen BK164.out 3
                        try go_wp2
                        have n0_ := Aside0.mk (blk_drew BK164.out)
                        have n1_ := Aside0.mk (below_drew1 HB.out)
                        clear BK164
                        clear HB
                        have BK164 := n0_
                        have HB := n1_
                        clear n0_ n1_
                        have p176 : 0 ≤ (x4_3 : Int) := of_decide_eq_true (by first | (with_reducible assumption) | assumption)
                        have q176 : x4_3 < (l0_1.length : Int) := of_decide_eq_true (by first | (with_reducible assumption) | assumption)
                        obtain ⟨ad176, e176, hx176_0, hx176_1⟩ := at_T118 HR0_1.out x4_3 p176 q176
                        have hw176_1 := hx176_1
                        have hw176_0 := hx176_0
                        cases e176
                        replace hx176_0 := (HB.out.cell (World.block_lt_of_cell? w _ hx176_0)).trans hx176_0
                        replace hx176_1 := (HB.out.cell (World.block_lt_of_cell? w _ hx176_1)).trans hx176_1
                        replace p176 := eq_true p176
                        replace q176 := eq_true q176
                        refine start_ (n := 32) (S := fun w' => w'.cell? ⟨gb164, 0, none⟩ = some (.slice A0_0 l0_0.length c0_0) ∧ w'.cell? ⟨gb164, 1, none⟩ = some (.slice (some ad176) l0_1.length c0_1) ∧ w'.cell? ⟨gb164, 2, none⟩ = some (.int .i64 a0_2) ∧ w'.cell? ⟨gb164, 3, none⟩ = some (.int .i64 a0_3) ∧ w'.cell? (ad176.add ((x4_3).toNat * 2)) = some (.int .i64 ((rd_T118 l0_1 x4_3).f0)) ∧ w'.cell? ⟨(ad176.add ((x4_3).toNat * 2)).block, (ad176.add ((x4_3).toNat * 2)).off + 1, none⟩ = some (.int .i64 ((rd_T118 l0_1 x4_3).f1))) (ds := []) #[false, false, false, false, false, false, false, false, false, false, false, false, false, false, false, false, false, false, false, false, false, false, false, false, false, false, false, false, false, false, false, false] (by kernel_rfl) rfl rfl ⟨(blk_cell BK164.out 0).trans rfl, (blk_cell BK164.out 1).trans rfl, (blk_cell BK164.out 2).trans rfl, (blk_cell BK164.out 3).trans rfl, ((HB.out.cell (World.block_lt_of_cell? w _ hw176_0)).trans hw176_0), ((HB.out.cell (World.block_lt_of_cell? w _ hw176_1)).trans hw176_1)⟩ (fun hHeld => ?_); refine with_tabW spec_ExecOk.tab11 spec_ExecOk.bits11 (fun HT_ HW_ => ?_)
                        generalize wr.drew = w65 at BK164 HB hx176_0 hx176_1 hHeld ⊢
                        refine pu_ (i := 0) (N := some 99) (v := ?_) (a' := ?_) rfl rfl (any_of HT_.out (by kernel_rfl)) (fun _ _ _ h => h) (Or.inl ⟨by rfl, ?_⟩) ?_ ?_; rotate_left; (· (intro w'; go_simp; with_reducible rfl)); rotate_left; (· (simp only [Act.put, sA_, sZ_, sS_, i64_w, i32_w]; rfl))
                        refine pu_ (i := 2) (N := some 101) (v := ?_) (a' := ?_) rfl rfl (any_of HT_.out (by kernel_rfl)) (fun _ _ _ h => h) (Or.inl ⟨by rfl, ?_⟩) ?_ ?_; rotate_left; (· (intro w'; go_simp; with_reducible rfl))
                        rotate_left; (· (simp only [Act.put, sA_, sZ_, sS_, i64_w, i32_w]; rfl))
                        refine ta_ (i := 1) (N := some 100) (v := ?_) (a' := ?_) rfl rfl (take_ofW HT_.out HW_.out (by kernel_rfl)) (fun _ _ _ h => h) (Or.inl ⟨by rfl, ?_⟩) hHeld ?_ ?_
                        rotate_left
                        · rintro w' ⟨s0, s1, s2, s3, s4, s5⟩
                          go_simp
                          with_reducible rfl
                        rotate_left; (· (simp only [Act.put, sA_, sZ_, sS_, i64_w, i32_w]; rfl))
                        refine pu_ (i := 3) (N := some 102) (v := ?_) (a' := ?_) rfl rfl (any_of HT_.out (by kernel_rfl)) (fun _ _ _ h => h) (Or.inl ⟨by rfl, ?_⟩) ?_ ?_; rotate_left; (· (intro w'; go_simp; with_reducible rfl)); rotate_left; (· (simp only [Act.put, sA_, sZ_, sS_, i64_w, i32_w]; rfl))
                        refine pu_ (i := 4) (N := some 103) (v := ?_) (a' := ?_) rfl rfl (any_of HT_.out (by kernel_rfl)) (fun _ _ _ h => h) (Or.inl ⟨by rfl, ?_⟩) ?_ ?_; rotate_left; (· (intro w'; go_simp; with_reducible rfl))
                        rotate_left; (· (simp only [Act.put, sA_, sZ_, sS_, i64_w, i32_w]; rfl))
                        refine ta_ (i := 5) (N := some 104) (v := ?_) (a' := ?_) rfl rfl (take_ofW HT_.out HW_.out (by kernel_rfl)) (fun _ _ _ h => h) (Or.inl ⟨by rfl, ?_⟩) hHeld ?_ ?_
                        rotate_left
                        · rintro w' ⟨s0, s1, s2, s3, s4, s5⟩
                          go_simp
                          with_reducible rfl
                        rotate_left; (· (simp only [Act.put, sA_, sZ_, sS_, i64_w, i32_w]; rfl))
                        refine on_ (i := 6) (N := some 105) rfl rfl (one_of HT_.out (by kernel_rfl)) (by decide) (fun K hK => ?_)
                        refine goes_ Try.func83 (by kernel_rfl) rfl #[.int .i64 ((rd_T118 l0_1 x4_3).f0)] (by rfl) rfl rfl (by (try simp only [List.map_toArray, List.map_cons, List.map_nil]); first | done | rfl | (simp only [List.length_drop, List.length_take]; rfl)) ?_
                        with_reducible refine (spec_l2Box.calls ((rd_T118 l0_1 x4_3).f0) false _ A48.out).mono ?_
                        rintro e w' ⟨rfl, ⟨nd, rfl⟩⟩
                        refine ⟨_, rfl, ?_⟩
                        refine hK.out _ _ ⟨(blk_cell BK164.out 0).trans rfl, (blk_cell BK164.out 1).trans rfl, (blk_cell BK164.out 2).trans rfl, (blk_cell BK164.out 3).trans rfl, ((HB.out.cell (World.block_lt_of_cell? w _ hw176_0)).trans hw176_0), ((HB.out.cell (World.block_lt_of_cell? w _ hw176_1)).trans hw176_1)⟩ (fun hHeld => ?_)
                        clear hK K
                        refine norm_ (a' := ?_) ?_ ?_
                        rotate_left
                        · show Act.put _ (some 105) _ = _
                          simp only [Act.put, sA_, sZ_, sS_, i64_w, i32_w]
                          rfl
                        refine pu_ (i := 7) (N := some 106) (v := ?_) (a' := ?_) rfl rfl (any_of HT_.out (by kernel_rfl)) (fun _ _ _ h => h) (Or.inl ⟨by rfl, ?_⟩) ?_ ?_; rotate_left; (· (intro w'; go_simp; with_reducible rfl)); rotate_left; (· (simp only [Act.put, sA_, sZ_, sS_, i64_w, i32_w]; rfl))
                        refine pu_ (i := 8) (N := some 107) (v := ?_) (a' := ?_) rfl rfl (any_of HT_.out (by kernel_rfl)) (fun _ _ _ h => h) (Or.inl ⟨by rfl, ?_⟩) ?_ ?_; rotate_left; (· (intro w'; go_simp; with_reducible rfl))
                        rotate_left; (· (simp only [Act.put, sA_, sZ_, sS_, i64_w, i32_w]; rfl))
                        refine pu_ (i := 9) (N := some 108) (v := undef) (a' := ?_) rfl rfl (any_of HT_.out (by kernel_rfl)) (fun _ _ _ h => h) (Or.inr ⟨by rfl, rfl⟩) ?_ ?_; rotate_left; (· (simp only [Act.put, sA_, sZ_, sS_, i64_w, i32_w]; rfl))
                        refine pu_ (i := 10) (N := some 109) (v := undef) (a' := ?_) rfl rfl (any_of HT_.out (by kernel_rfl)) (fun _ _ _ h => h) (Or.inr ⟨by rfl, rfl⟩) ?_ ?_
                        rotate_left; (· (simp only [Act.put, sA_, sZ_, sS_, i64_w, i32_w]; rfl))
                        refine pu_ (i := 11) (N := some 110) (v := undef) (a' := ?_) rfl rfl (any_of HT_.out (by kernel_rfl)) (fun _ _ _ h => h) (Or.inr ⟨by rfl, rfl⟩) ?_ ?_; rotate_left; (· (simp only [Act.put, sA_, sZ_, sS_, i64_w, i32_w]; rfl))
                        refine pu_ (i := 12) (N := some 111) (v := undef) (a' := ?_) rfl rfl (any_of HT_.out (by kernel_rfl)) (fun _ _ _ h => h) (Or.inr ⟨by rfl, rfl⟩) ?_ ?_
                        rotate_left; (· (simp only [Act.put, sA_, sZ_, sS_, i64_w, i32_w]; rfl))
                        refine pu_ (i := 13) (N := some 112) (v := undef) (a' := ?_) rfl rfl (any_of HT_.out (by kernel_rfl)) (fun _ _ _ h => h) (Or.inr ⟨by rfl, rfl⟩) ?_ ?_; rotate_left; (· (simp only [Act.put, sA_, sZ_, sS_, i64_w, i32_w]; rfl))
                        refine pu_ (i := 14) (N := some 113) (v := undef) (a' := ?_) rfl rfl (any_of HT_.out (by kernel_rfl)) (fun _ _ _ h => h) (Or.inr ⟨by rfl, rfl⟩) ?_ ?_
                        rotate_left; (· (simp only [Act.put, sA_, sZ_, sS_, i64_w, i32_w]; rfl))
                        refine pu_ (i := 15) (N := some 114) (v := undef) (a' := ?_) rfl rfl (any_of HT_.out (by kernel_rfl)) (fun _ _ _ h => h) (Or.inr ⟨by rfl, rfl⟩) ?_ ?_; rotate_left; (· (simp only [Act.put, sA_, sZ_, sS_, i64_w, i32_w]; rfl))
                        refine pu_ (i := 16) (N := some 115) (v := undef) (a' := ?_) rfl rfl (any_of HT_.out (by kernel_rfl)) (fun _ _ _ h => h) (Or.inr ⟨by rfl, rfl⟩) ?_ ?_
                        rotate_left; (· (simp only [Act.put, sA_, sZ_, sS_, i64_w, i32_w]; rfl))
                        refine pu_ (i := 17) (N := some 116) (v := ?_) (a' := ?_) rfl rfl (any_of HT_.out (by kernel_rfl)) (fun _ _ _ h => h) (Or.inl ⟨by rfl, ?_⟩) ?_ ?_; rotate_left; (· (intro w'; go_simp; with_reducible rfl)); rotate_left; (· (simp only [Act.put, sA_, sZ_, sS_, i64_w, i32_w]; rfl))
                        refine pu_ (i := 18) (N := some 117) (v := ?_) (a' := ?_) rfl rfl (any_of HT_.out (by kernel_rfl)) (fun _ _ _ h => h) (Or.inl ⟨by rfl, ?_⟩) ?_ ?_; rotate_left; (· (intro w'; go_simp; with_reducible rfl))
                        rotate_left; (· (simp only [Act.put, sA_, sZ_, sS_, i64_w, i32_w]; rfl))
                        refine pu_ (i := 19) (N := some 118) (v := undef) (a' := ?_) rfl rfl (any_of HT_.out (by kernel_rfl)) (fun _ _ _ h => h) (Or.inr ⟨by rfl, rfl⟩) ?_ ?_; rotate_left; (· (simp only [Act.put, sA_, sZ_, sS_, i64_w, i32_w]; rfl))
                        refine pu_ (i := 20) (N := some 119) (v := undef) (a' := ?_) rfl rfl (any_of HT_.out (by kernel_rfl)) (fun _ _ _ h => h) (Or.inr ⟨by rfl, rfl⟩) ?_ ?_
                        rotate_left; (· (simp only [Act.put, sA_, sZ_, sS_, i64_w, i32_w]; rfl))
                        refine pu_ (i := 21) (N := some 120) (v := undef) (a' := ?_) rfl rfl (any_of HT_.out (by kernel_rfl)) (fun _ _ _ h => h) (Or.inr ⟨by rfl, rfl⟩) ?_ ?_; rotate_left; (· (simp only [Act.put, sA_, sZ_, sS_, i64_w, i32_w]; rfl))
                        refine pu_ (i := 22) (N := some 121) (v := undef) (a' := ?_) rfl rfl (any_of HT_.out (by kernel_rfl)) (fun _ _ _ h => h) (Or.inr ⟨by rfl, rfl⟩) ?_ ?_
                        rotate_left; (· (simp only [Act.put, sA_, sZ_, sS_, i64_w, i32_w]; rfl))
                        refine pu_ (i := 23) (N := some 122) (v := undef) (a' := ?_) rfl rfl (any_of HT_.out (by kernel_rfl)) (fun _ _ _ h => h) (Or.inr ⟨by rfl, rfl⟩) ?_ ?_; rotate_left; (· (simp only [Act.put, sA_, sZ_, sS_, i64_w, i32_w]; rfl))
                        refine pu_ (i := 24) (N := some 123) (v := undef) (a' := ?_) rfl rfl (any_of HT_.out (by kernel_rfl)) (fun _ _ _ h => h) (Or.inr ⟨by rfl, rfl⟩) ?_ ?_
                        rotate_left; (· (simp only [Act.put, sA_, sZ_, sS_, i64_w, i32_w]; rfl))
                        refine pu_ (i := 25) (N := some 124) (v := undef) (a' := ?_) rfl rfl (any_of HT_.out (by kernel_rfl)) (fun _ _ _ h => h) (Or.inr ⟨by rfl, rfl⟩) ?_ ?_; rotate_left; (· (simp only [Act.put, sA_, sZ_, sS_, i64_w, i32_w]; rfl))
                        refine pu_ (i := 26) (N := some 125) (v := undef) (a' := ?_) rfl rfl (any_of HT_.out (by kernel_rfl)) (fun _ _ _ h => h) (Or.inr ⟨by rfl, rfl⟩) ?_ ?_
                        rotate_left; (· (simp only [Act.put, sA_, sZ_, sS_, i64_w, i32_w]; rfl))
                        refine pu_ (i := 27) (N := some 126) (v := undef) (a' := ?_) rfl rfl (any_of HT_.out (by kernel_rfl)) (fun _ _ _ h => h) (Or.inr ⟨by rfl, rfl⟩) ?_ ?_; rotate_left; (· (simp only [Act.put, sA_, sZ_, sS_, i64_w, i32_w]; rfl))
                        refine pu_ (i := 28) (N := some 127) (v := undef) (a' := ?_) rfl rfl (any_of HT_.out (by kernel_rfl)) (fun _ _ _ h => h) (Or.inr ⟨by rfl, rfl⟩) ?_ ?_
                        rotate_left; (· (simp only [Act.put, sA_, sZ_, sS_, i64_w, i32_w]; rfl))
                        refine pu_ (i := 29) (N := some 128) (v := undef) (a' := ?_) rfl rfl (any_of HT_.out (by kernel_rfl)) (fun _ _ _ h => h) (Or.inr ⟨by rfl, rfl⟩) ?_ ?_; rotate_left; (· (simp only [Act.put, sA_, sZ_, sS_, i64_w, i32_w]; rfl))
                        refine pu_ (i := 30) (N := some 129) (v := undef) (a' := ?_) rfl rfl (any_of HT_.out (by kernel_rfl)) (fun _ _ _ h => h) (Or.inr ⟨by rfl, rfl⟩) ?_ ?_
                        rotate_left; (· (simp only [Act.put, sA_, sZ_, sS_, i64_w, i32_w]; rfl))
                        refine pu_ (i := 31) (N := some 130) (v := ?_) (a' := ?_) rfl rfl (any_of HT_.out (by kernel_rfl)) (fun _ _ _ h => h) (Or.inl ⟨by rfl, ?_⟩) ?_ ?_; rotate_left; (· (intro w'; go_simp; with_reducible rfl)); rotate_left; (· (simp only [Act.put, sA_, sZ_, sS_, i64_w, i32_w]; rfl))
                        refine done_ (done_of HT_.out (by kernel_rfl)) ?_
                        try go_wp2
                        go_ret
                        exact ⟨by first | rfl | (simp [errW_none, errW_some] <;> rfl) | (simp [*, errW_none, errW_some] <;> rfl), by repeat (first | (with_reducible first | exact HB.out | apply below_alloc | apply pw_below_drewN | apply below_drew1 | refine below_set ?_ GE164.out) | exact HB.out)⟩
                    · rw [if_neg c47] at H
                      exact absurd H (by simp)
                  · rw [if_neg c46] at H
                    have c46b0 : decide (x4_3 < (l0_1.length : Int)) = false := decide_eq_false c46
                    clear c46
                    obtain rfl := Option.some.inj H
                    have hcz66_0 : wr.cell? ⟨gb164, 0, none⟩ = some (.slice A0_0 l0_0.length c0_0) := (blk_cell BK164.out 0).trans rfl
                    have hcz66_1 : wr.cell? ⟨gb164, 1, none⟩ = some (.slice A0_1 l0_1.length c0_1) := (blk_cell BK164.out 1).trans rfl
                    have hcz66_2 : wr.cell? ⟨gb164, 2, none⟩ = some (.int .i64 a0_2) := (blk_cell BK164.out 2).trans rfl
                    have hcz66_3 : wr.cell? ⟨gb164, 3, none⟩ = some (.int .i64 a0_3) := (blk_cell BK164.out 3).trans rfl
                    have hfz66_0 := blk_frozen BK164.out 0
                    have hfz66_1 := blk_frozen BK164.out 1
                    have hfz66_2 := blk_frozen BK164.out 2
                    have hfz66_3 := blk_frozen BK164.out 3
                    go_wp2
                    go_ret
                    exact ⟨by first | rfl | (simp [errW_none, errW_some] <;> rfl) | (simp [*, errW_none, errW_some] <;> rfl), by repeat (first | (with_reducible first | exact HB.out | apply below_alloc | apply pw_below_drewN | apply below_drew1 | refine below_set ?_ GE164.out) | exact HB.out)⟩

end Go.Proofs.Ytbocpmlppkdhmaa.PFnExactExecDo
