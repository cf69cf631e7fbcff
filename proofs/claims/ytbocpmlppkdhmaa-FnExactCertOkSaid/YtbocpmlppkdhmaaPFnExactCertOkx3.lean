-- Laid by this session's program out of the translation (gen.sh).
import Derived.Test.YtbocpmlppkdhmaaPFnExactCertOkx0
import Derived.Test.YtbocpmlppkdhmaaPFnExactCertOkx2
namespace Go.Proofs.Ytbocpmlppkdhmaa.PFnExactCertOk
open Go.RowKit Go.Proofs.YtbocpmlppkdhmaaW.PrintWords Go.Proofs.YtbocpmlppkdhmaaW.PrintLast Go.Proofs.YtbocpmlppkdhmaaW.PrintMore
attribute [local go_sem] max2_int min2_int max_two min_two max_three min_three max_four min_four   -- for this text's walks alone
set_option linter.unusedVariables false
set_option linter.unusedSimpArgs false

/-! ### spec_CertOk: function 34 -/
mutual
def spec_CertOk.j0 : Nat → Bool → Int → List (S96) → List (S104) → Option (Bool)
 | 0, _, _, _, _ => none
 | k + 1, x18, x163000, x163001, x163002 => if x18 = true then (some false) else (spec_CertOk.l0 k 0 x163000 x163001 x163002)
def spec_CertOk.l0 : Nat → Int → Int → List (S96) → List (S104) → Option (Bool)
 | 0, _, _, _, _ => none
 | k + 1, x3, x163000, x163001, x163002 => if x3 < (x163002.length : Int) then (if 0 ≤ x3 then ((spec_l5Req.f ((rd_T104 x163002 x3).f0.f0) ((rd_T104 x163002 x3).f0.f1)).bind fun t166 => (if t166 = true then (if ((rd_T104 x163002 x3).f1) < 0 then (spec_CertOk.j2 k x3 true x163000 x163001 x163002) else (if ((rd_T104 x163002 x3).f1) > 2 then (spec_CertOk.j2 k x3 true x163000 x163001 x163002) else ((spec_l1Num.f ((rd_T104 x163002 x3).f2)).bind fun t167 => (if t167 = true then (if ((rd_T104 x163002 x3).f1) = 0 then (if x3 > 0 then (if 0 ≤ (wrap64 (x3 - 1)) then (if (wrap64 (x3 - 1)) < (x163002.length : Int) then (spec_CertOk.j2 k x3 (decide (((rd_T104 x163002 x3).f0.f0) ≤ ((rd_T104 x163002 (wrap64 (x3 - 1))).f0.f0))) x163000 x163001 x163002) else (none)) else (none)) else (spec_CertOk.j2 k x3 false x163000 x163001 x163002)) else (if ((rd_T104 x163002 x3).f2) = 0 then (if x3 > 0 then (if 0 ≤ (wrap64 (x3 - 1)) then (if (wrap64 (x3 - 1)) < (x163002.length : Int) then (spec_CertOk.j2 k x3 (decide (((rd_T104 x163002 x3).f0.f0) ≤ ((rd_T104 x163002 (wrap64 (x3 - 1))).f0.f0))) x163000 x163001 x163002) else (none)) else (none)) else (spec_CertOk.j2 k x3 false x163000 x163001 x163002)) else (spec_CertOk.j2 k x3 true x163000 x163001 x163002))) else (spec_CertOk.j2 k x3 true x163000 x163001 x163002))))) else (spec_CertOk.j2 k x3 true x163000 x163001 x163002))) else (none)) else (some true)
def spec_CertOk.j2 : Nat → Int → Bool → Int → List (S96) → List (S104) → Option (Bool)
 | 0, _, _, _, _, _ => none
 | k + 1, x3, x78, x163000, x163001, x163002 => if x78 = true then (some false) else (spec_CertOk.l0 k (wrap64 (x3 + 1)) x163000 x163001 x163002)
end
def spec_CertOk.f (k : Nat) (a0_0 : Int) (l0_1 : List (S96)) (l0_2 : List (S104)) : Option (Bool) := if a0_0 < 0 then (spec_CertOk.j0 k true a0_0 l0_1 l0_2) else (if a0_0 > 40 then (spec_CertOk.j0 k true a0_0 l0_1 l0_2) else ((spec_BoxOk.f k l0_1).bind fun t163 => (spec_CertOk.j0 k (!t163) a0_0 l0_1 l0_2)))
theorem spec_CertOk.mono_l : ∀ k, (∀ y0 y1 y2 y3, LeO (spec_CertOk.j0 k y0 y1 y2 y3) (spec_CertOk.j0 (k + 1) y0 y1 y2 y3)) ∧ (∀ y0 y1 y2 y3, LeO (spec_CertOk.l0 k y0 y1 y2 y3) (spec_CertOk.l0 (k + 1) y0 y1 y2 y3)) ∧ (∀ y0 y1 y2 y3 y4, LeO (spec_CertOk.j2 k y0 y1 y2 y3 y4) (spec_CertOk.j2 (k + 1) y0 y1 y2 y3 y4))
 | 0 => ⟨fun _ _ _ _ r h => by simp [spec_CertOk.j0] at h, fun _ _ _ _ r h => by simp [spec_CertOk.l0] at h, fun _ _ _ _ _ r h => by simp [spec_CertOk.j2] at h⟩
 | k + 1 => by
  obtain ⟨ih0, ih1, ih2⟩ := spec_CertOk.mono_l k
  refine ⟨?_, ?_, ?_⟩
  ·intro y0 y1 y2 y3
   unfold spec_CertOk.j0
   repeat' first
   | (with_reducible exact ih0 _ _ _ _)
   | (with_reducible exact ih1 _ _ _ _)
   | (with_reducible exact ih2 _ _ _ _ _)
   | (with_reducible exact spec_BoxOk.mono _ _)
   | (with_reducible exact LeO.refl _)
   | (with_reducible exact LeO.none _)
   | (with_reducible refine LeO.ite ?_ ?_)
   | (with_reducible refine LeO.bind ?_ (fun _ => ?_))
   | exact ih0 _ _ _ _
   | exact ih1 _ _ _ _
   | exact ih2 _ _ _ _ _
   | exact spec_BoxOk.mono _ _
   | exact LeO.none _
   | refine LeO.ite ?_ ?_
   | refine LeO.bind ?_ (fun _ => ?_)
  ·intro y0 y1 y2 y3
   unfold spec_CertOk.l0
   repeat' first
   | (with_reducible exact ih0 _ _ _ _)
   | (with_reducible exact ih1 _ _ _ _)
   | (with_reducible exact ih2 _ _ _ _ _)
   | (with_reducible exact spec_BoxOk.mono _ _)
   | (with_reducible exact LeO.refl _)
   | (with_reducible exact LeO.none _)
   | (with_reducible refine LeO.ite ?_ ?_)
   | (with_reducible refine LeO.bind ?_ (fun _ => ?_))
   | exact ih0 _ _ _ _
   | exact ih1 _ _ _ _
   | exact ih2 _ _ _ _ _
   | exact spec_BoxOk.mono _ _
   | exact LeO.none _
   | refine LeO.ite ?_ ?_
   | refine LeO.bind ?_ (fun _ => ?_)
  ·intro y0 y1 y2 y3 y4
   unfold spec_CertOk.j2
   repeat' first
   | (with_reducible exact ih0 _ _ _ _)
   | (with_reducible exact ih1 _ _ _ _)
   | (with_reducible exact ih2 _ _ _ _ _)
   | (with_reducible exact spec_BoxOk.mono _ _)
   | (with_reducible exact LeO.refl _)
   | (with_reducible exact LeO.none _)
   | (with_reducible refine LeO.ite ?_ ?_)
   | (with_reducible refine LeO.bind ?_ (fun _ => ?_))
   | exact ih0 _ _ _ _
   | exact ih1 _ _ _ _
   | exact ih2 _ _ _ _ _
   | exact spec_BoxOk.mono _ _
   | exact LeO.none _
   | refine LeO.ite ?_ ?_
   | refine LeO.bind ?_ (fun _ => ?_)
theorem spec_CertOk.mono : ∀ a0 a1 a2 k, LeO (spec_CertOk.f k a0 a1 a2) (spec_CertOk.f (k + 1) a0 a1 a2) := by
 intro a0 a1 a2 k
 obtain ⟨ih0, ih1, ih2⟩ := spec_CertOk.mono_l k
 unfold spec_CertOk.f
 repeat' first
   | (with_reducible exact ih0 _ _ _ _)
   | (with_reducible exact ih1 _ _ _ _)
   | (with_reducible exact ih2 _ _ _ _ _)
   | (with_reducible exact spec_BoxOk.mono _ _)
   | (with_reducible exact LeO.refl _)
   | (with_reducible exact LeO.none _)
   | (with_reducible refine LeO.ite ?_ ?_)
   | (with_reducible refine LeO.bind ?_ (fun _ => ?_))
   | exact ih0 _ _ _ _
   | exact ih1 _ _ _ _
   | exact ih2 _ _ _ _ _
   | exact spec_BoxOk.mono _ _
   | exact LeO.none _
   | refine LeO.ite ?_ ?_
   | refine LeO.bind ?_ (fun _ => ?_)
def spec_CertOk.T7 : Bool × List (List Nat × List Nat) := (true, [([], []), ([0], [0]), ([1], [1]), ([2], [2]), ([3, 2], [3]), ([4], [4]), ([5, 4], [4, 5]), ([6, 4], [4, 6]), ([4, 7], [4, 7]), ([8, 4], [8]), ([9], [9]), ([10, 9], [9, 10]), ([11, 9], [9, 11]), ([9, 12], [9, 12]), ([13, 9], [13]), ([14], [14]), ([15, 14], [14, 15]), ([16, 14, 14], [14, 16]), ([17, 14], [14, 17]), ([14, 18], [14, 18]), ([19, 17], [19]), ([20], [20]), ([21, 20], [20, 21]), ([22, 20], [20, 22]), ([23, 20, 20], [20, 23]), ([24], [24]), ([25, 24], [24, 25]), ([26, 24], [24, 26]), ([24, 27, 20], [20, 24, 27]), ([20, 28], [20, 28]), ([29, 24], [29]), ([30], [30]), ([31, 30], [30, 31]), ([32, 30, 30], [30, 32]), ([33], [33]), ([34, 33], [33, 34]), ([35, 33], [33, 35]), ([33], [33]), ([37, 33], [33, 37]), ([33], [33]), ([39, 33], [33, 39]), ([38, 40, 33], [33, 38, 40]), ([41, 33], [33, 41]), ([42, 33], [33, 42]), ([43, 33], [33, 43]), ([36, 44, 33], [33, 36, 44]), ([33, 45, 30], [30, 33, 45]), ([30, 46], [30, 46])])
def spec_CertOk.B7 : List Nat := [0, 1, 3, 7, 15, 31, 63, 127, 255, 511, 1023, 2047, 4095, 8191, 16383, 32767, 65535, 131071, 262143, 524287, 1048575, 2097151, 4194303, 8388607, 16777215, 33554431, 67108863, 134217727, 268435455, 536870911, 1073741823, 2147483647, 4294967295, 8589934591, 17179869183, 34359738367, 68719476735, 17179869183, 154618822655, 17179869183, 566935683071, 2078764171263, 4277787426815, 8675833937919, 17471926960127, 35184372088831, 70368744177663, 140737488355327]
theorem spec_CertOk.tab7 : rtab .any (opsOf Try.f34 7) = spec_CertOk.T7 := by kernel_rfl
theorem spec_CertOk.bits7 : waitsOk spec_CertOk.T7.2 spec_CertOk.B7 = true := by kernel_rfl
set_option maxHeartbeats 8000000 in
set_option maxRecDepth 100000 in
theorem spec_CertOk.calls (k : Nat) (a0_0 : Int) (A0_1 : Option Addr) (c0_1 : Nat) (l0_1 : List (S96)) (A0_2 : Option Addr) (c0_2 : Nat) (l0_2 : List (S104)) (r : Bool) (w : World) (hr0_1 : Kd.C k96 w A0_1 l0_1.length l0_1) (hc0_1 : l0_1.length ≤ c0_1) (hr0_2 : Kd.C k104 w A0_2 l0_2.length l0_2) (hc0_2 : l0_2.length ≤ c0_2) (h : spec_CertOk.f k a0_0 l0_1 l0_2 = some r) :
  Calls Try.prog 34 #[.agg #[.int .i64 a0_0, .slice A0_1 l0_1.length c0_1, .slice A0_2 l0_2.length c0_2]] w fun e w' => e = .returned (.bool r) ∧ Below w.heap.size w w' := by
 have hu25 := Try.underlying25
 have hu104 := Try.underlying104
 have hu67 := Try.underlying67
 have HR0_1 := Aside0.mk hr0_1
 have HC0_1 := Aside0.mk hc0_1
 clear hr0_1 hc0_1
 have HR0_2 := Aside0.mk hr0_2
 have HC0_2 := Aside0.mk hc0_2
 clear hr0_2 hc0_2
 have HB := Aside0.mk (Below.refl w.heap.size w)
 have H : (if a0_0 < 0 then (spec_CertOk.j0 k true a0_0 l0_1 l0_2) else (if a0_0 > 40 then (spec_CertOk.j0 k true a0_0 l0_1 l0_2) else ((spec_BoxOk.f k l0_1).bind fun t163 => (spec_CertOk.j0 k (!t163) a0_0 l0_1 l0_2)))) = some r := h
 clear h
 have HC2 := Aside0.mk H
 clear H
 go_enter Try.func34, Try.ntmps34
 go_upto_region 1 with (first | ((with_reducible refine gate_dst (N := 1) rfl ?_); refine box_event ?hg (N := 1) ?hd (cs := #[.int .i64 a0_0, .slice A0_1 l0_1.length c0_1, .slice A0_2 l0_2.length c0_2]) (t := 25) ?hr ?_; (case hd => rfl); (case hg => rfl); (case hr => first | (go_simp; done) | (go_simp; rfl)); intro gb162 hg w3 hbox hb; have n0_ := Aside0.mk (below_step (by repeat (first | (with_reducible first | exact HB.out | apply below_alloc | apply pw_below_drewN | apply below_drew1) | exact HB.out)) hb); have n1_ := Aside0.mk (hbox); have n2_ := Aside0.mk ((by rw [hg]; exact (below_size (by repeat (first | (with_reducible first | exact HB.out | apply below_alloc | apply pw_below_drewN | apply below_drew1) | exact HB.out))) : w.heap.size ≤ gb162)); have n3_ := Aside0.mk ((by rw [hg]; exact (below_size (by repeat (first | (with_reducible first | exact HB.out | apply below_alloc | apply pw_below_drewN | apply below_drew1) | exact HB.out))) : w.heap.size ≤ gb162)); clear HB; have HB := n0_; have BK162 := n1_; have GW162 := n2_; have GE162 := n3_; clear n0_ n1_ n2_ n3_; clear hb hbox hg))
 (try simp only [Act.put, List.setIfInBounds_toArray, List.set_cons_zero, List.set_cons_succ])
 go_cut [18] (fun v18 wc => ∃ (kq : Nat) (x18_1 : Bool), v18 = .bool x18_1 ∧ Aside0 (spec_CertOk.j0 kq x18_1 a0_0 l0_1 l0_2 = some r) ∧ Aside0 (kq ≤ k) ∧ Aside0 (wc.heap[gb162]? = some (.cells #[.int .i64 a0_0, (.slice A0_1 l0_1.length c0_1), (.slice A0_2 l0_2.length c0_2)] 25 (0, 0))) ∧ Aside0 (Below w.heap.size w wc))
 case first =>
  have H := HC2.out
  clear HC2
  by_cases c4 : a0_0 < 0
  ·rw [if_pos c4] at H
   have c4b0 : decide (a0_0 < 0) = true := decide_eq_true c4
   clear c4
   (first | rw [c4b0] | (simp only [i64_w, i32_w]; rw [c4b0]) | skip)
   have H' := Aside0.mk H
   clear H
   have hcz5_0 : w3.cell? ⟨gb162, 0, none⟩ = some (.int .i64 a0_0) := (blk_cell BK162.out 0).trans rfl
   have hcz5_1 : w3.cell? ⟨gb162, 1, none⟩ = some (.slice A0_1 l0_1.length c0_1) := (blk_cell BK162.out 1).trans rfl
   have hcz5_2 : w3.cell? ⟨gb162, 2, none⟩ = some (.slice A0_2 l0_2.length c0_2) := (blk_cell BK162.out 2).trans rfl
   have hfz5_0 := blk_frozen BK162.out 0
   have hfz5_1 := blk_frozen BK162.out 1
   have hfz5_2 := blk_frozen BK162.out 2
   go_wp2
   go_meet
   case rel => exact ⟨_, (true), (by first | rfl | (simp; done) | (simp [*]; done)), H', ⟨by first | omega | exact Nat.le_refl _⟩, ⟨by (with_reducible repeat (first | refine blk_drewN ?_ _ | refine blk_drew ?_ | refine blk_alloc ?_ _)); exact BK162.out⟩, ⟨by repeat (first | (with_reducible first | exact HB.out | apply below_alloc | apply pw_below_drewN | apply below_drew1 | refine below_set ?_ GE162.out) | exact HB.out)⟩⟩
  ·rw [if_neg c4] at H
   have c4b0 : decide (a0_0 < 0) = false := decide_eq_false c4
   clear c4
   (first | rw [c4b0] | (simp only [i64_w, i32_w]; rw [c4b0]) | skip)
   by_cases c6 : a0_0 > 40
   ·rw [if_pos c6] at H
    have c6b0 : decide (40 < a0_0) = true := decide_eq_true c6
    clear c6
    have H' := Aside0.mk H
    clear H
    have hcz7_0 : w3.cell? ⟨gb162, 0, none⟩ = some (.int .i64 a0_0) := (blk_cell BK162.out 0).trans rfl
    have hcz7_1 : w3.cell? ⟨gb162, 1, none⟩ = some (.slice A0_1 l0_1.length c0_1) := (blk_cell BK162.out 1).trans rfl
    have hcz7_2 : w3.cell? ⟨gb162, 2, none⟩ = some (.slice A0_2 l0_2.length c0_2) := (blk_cell BK162.out 2).trans rfl
    have hfz7_0 := blk_frozen BK162.out 0
    have hfz7_1 := blk_frozen BK162.out 1
    have hfz7_2 := blk_frozen BK162.out 2
    go_wp2
    go_meet
    case rel => exact ⟨_, (true), (by first | rfl | (simp; done) | (simp [*]; done)), H', ⟨by first | omega | exact Nat.le_refl _⟩, ⟨by (with_reducible repeat (first | refine blk_drewN ?_ _ | refine blk_drew ?_ | refine blk_alloc ?_ _)); exact BK162.out⟩, ⟨by repeat (first | (with_reducible first | exact HB.out | apply below_alloc | apply pw_below_drewN | apply below_drew1 | refine below_set ?_ GE162.out) | exact HB.out)⟩⟩
   ·rw [if_neg c6] at H
    have c6b0 : decide (40 < a0_0) = false := decide_eq_false c6
    clear c6
    replace H := Option.bind_eq_some_iff.mp H
    obtain ⟨t163, A80, H⟩ := H
    replace H : (spec_CertOk.j0 k (!t163) a0_0 l0_1 l0_2) = some r := H
    have A8 := Aside0.mk A80
    clear A80
    have H' := Aside0.mk H
    clear H
    have hcz9_0 : w3.cell? ⟨gb162, 0, none⟩ = some (.int .i64 a0_0) := (blk_cell BK162.out 0).trans rfl
    have hcz9_1 : w3.cell? ⟨gb162, 1, none⟩ = some (.slice A0_1 l0_1.length c0_1) := (blk_cell BK162.out 1).trans rfl
    have hcz9_2 : w3.cell? ⟨gb162, 2, none⟩ = some (.slice A0_2 l0_2.length c0_2) := (blk_cell BK162.out 2).trans rfl
    have hfz9_0 := blk_frozen BK162.out 0
    have hfz9_1 := blk_frozen BK162.out 1
    have hfz9_2 := blk_frozen BK162.out 2
    go_wp2_with (first | (go_at_call 63; (with_reducible refine (spec_BoxOk.calls k _ _ l0_1 t163 _ ?side1 ?side2 A8.out).mono ?_); (case side1 => repeat (first | exact (Kd.C_below HR0_1.out HB.out) | (with_reducible refine Kd.C_alloc ?_ _) | (with_reducible refine Kd.C_drewN ?_ _) | (with_reducible refine Kd.C_drew ?_))); (case side2 => exact HC0_1.out); rintro e w' ⟨rfl, ⟨nd, rfl⟩⟩; (try clear A8)))
    go_meet
    case rel => exact ⟨_, (!t163), (by first | rfl | (simp; done) | (simp [*]; done)), H', ⟨by first | omega | exact Nat.le_refl _⟩, ⟨by (with_reducible repeat (first | refine blk_drewN ?_ _ | refine blk_drew ?_ | refine blk_alloc ?_ _)); exact BK162.out⟩, ⟨by repeat (first | (with_reducible first | exact HB.out | apply below_alloc | apply pw_below_drewN | apply below_drew1 | refine below_set ?_ GE162.out) | exact HB.out)⟩⟩
 case rest =>
  clear HC2
  try clear p2
  try clear c3
  try clear c4
  try clear c4b0
  try clear c6
  try clear c6b0
  try clear hcz5_0
  try clear hcz5_1
  try clear hcz5_2
  try clear hcz7_0
  try clear hcz7_1
  try clear hcz7_2
  try clear hcz9_0
  try clear hcz9_1
  try clear hcz9_2
  try clear hfz5_0
  try clear hfz5_1
  try clear hfz5_2
  try clear hfz7_0
  try clear hfz7_1
  try clear hfz7_2
  try clear hfz9_0
  try clear hfz9_1
  try clear hfz9_2
  obtain ⟨kq, x18_1, rfl, HA, HJ1, BK162, HB⟩ := hcut
  cases kq with
  | zero => exact absurd HA.out (by simp [spec_CertOk.j0])
  | succ kj1 =>
   have H := HA.out
   clear HA
   simp only [spec_CertOk.j0] at H
   by_cases c10 : x18_1 = true
   ·subst c10
    have H1 : (some false) = some r := by rw [if_pos rfl] at H; exact H
    clear H
    have H := H1
    clear H1
    obtain rfl := Option.some.inj H
    go_wp2
    go_ret
    exact ⟨by first | rfl | (simp [errW_none, errW_some] <;> rfl) | (simp [*, errW_none, errW_some] <;> rfl), by repeat (first | (with_reducible first | exact HB.out | apply below_alloc | apply pw_below_drewN | apply below_drew1 | refine below_set ?_ GE162.out) | exact HB.out)⟩
   ·replace c10 := Bool.eq_false_iff.mpr c10
    subst c10
    have H1 : (spec_CertOk.l0 kj1 0 a0_0 l0_1 l0_2) = some r := by rw [if_neg (show ¬ (false = true) by decide)] at H; exact H
    clear H
    have H := H1
    clear H1
    have H' := Aside0.mk H
    clear H
    go_wp2
    go_loopg [3] kj1 (fun kq v3 w' => ∃ (x3_2 : Int), v3 = .int .i64 x3_2 ∧ Aside0 (spec_CertOk.l0 kq x3_2 a0_0 l0_1 l0_2 = some r) ∧ Aside0 (kq ≤ kj1) ∧ Aside0 (w'.heap[gb162]? = some (.cells #[.int .i64 a0_0, (.slice A0_1 l0_1.length c0_1), (.slice A0_2 l0_2.length c0_2)] 25 (0, 0))) ∧ Aside0 (Below w.heap.size w w'))
    case atStart => exact ⟨(0), (by first | rfl | (simp; done) | (simp [*]; done)), H', ⟨Nat.le_refl _⟩, ⟨by (with_reducible repeat (first | refine blk_drewN ?_ _ | refine blk_drew ?_ | refine blk_alloc ?_ _)); exact BK162.out⟩, ⟨by repeat (first | (with_reducible first | exact HB.out | apply below_alloc | apply pw_below_drewN | apply below_drew1 | refine below_set ?_ GE162.out) | exact HB.out)⟩⟩
    case round =>
     clear H'
     try clear c1
     try clear p2
     try clear c3
     try clear c4
     try clear c4b0
     try clear c6
     try clear c6b0
     try clear c10
     try clear hcz5_0
     try clear hcz5_1
     try clear hcz5_2
     try clear hcz7_0
     try clear hcz7_1
     try clear hcz7_2
     try clear hcz9_0
     try clear hcz9_1
     try clear hcz9_2
     try clear hfz5_0
     try clear hfz5_1
     try clear hfz5_2
     try clear hfz7_0
     try clear hfz7_1
     try clear hfz7_2
     try clear hfz9_0
     try clear hfz9_1
     try clear hfz9_2
     try clear p2
     obtain ⟨x3_2, rfl, HA, HK2, BK162, HB⟩ := hrel
     cases gk with
     | zero => exact absurd HA.out (by simp [spec_CertOk.l0])
     | succ k2 =>
      have H := HA.out
      clear HA
      simp only [spec_CertOk.l0] at H
      by_cases c11 : x3_2 < (l0_2.length : Int)
      ·rw [if_pos c11] at H
       have c11b0 : decide (x3_2 < (l0_2.length : Int)) = true := decide_eq_true c11
       clear c11
       by_cases c12 : 0 ≤ x3_2
       ·rw [if_pos c12] at H
        have c12b0 : decide (0 ≤ x3_2) = true := decide_eq_true c12
        clear c12
        have HC13 := Aside0.mk H
        clear H
        have hcz14_0 : wr.cell? ⟨gb162, 0, none⟩ = some (.int .i64 a0_0) := (blk_cell BK162.out 0).trans rfl
        have hcz14_1 : wr.cell? ⟨gb162, 1, none⟩ = some (.slice A0_1 l0_1.length c0_1) := (blk_cell BK162.out 1).trans rfl
        have hcz14_2 : wr.cell? ⟨gb162, 2, none⟩ = some (.slice A0_2 l0_2.length c0_2) := (blk_cell BK162.out 2).trans rfl
        have hfz14_0 := blk_frozen BK162.out 0
        have hfz14_1 := blk_frozen BK162.out 1
        have hfz14_2 := blk_frozen BK162.out 2
        have p164 : 0 ≤ (x3_2 : Int) := of_decide_eq_true (by first | (with_reducible assumption) | assumption)
        have q164 : x3_2 < (l0_2.length : Int) := of_decide_eq_true (by first | (with_reducible assumption) | assumption)
        obtain ⟨ad164, e164, hx164_0, hx164_1, hx164_2, hx164_3⟩ := at_T104 HR0_2.out x3_2 p164 q164
        cases e164
        replace hx164_0 := (HB.out.cell (World.block_lt_of_cell? w _ hx164_0)).trans hx164_0
        replace hx164_1 := (HB.out.cell (World.block_lt_of_cell? w _ hx164_1)).trans hx164_1
        replace hx164_2 := (HB.out.cell (World.block_lt_of_cell? w _ hx164_2)).trans hx164_2
        replace hx164_3 := (HB.out.cell (World.block_lt_of_cell? w _ hx164_3)).trans hx164_3
        replace p164 := eq_true p164
        replace q164 := eq_true q164
        go_upto_region 7 with (first | ((with_reducible refine gate_dst (N := 4) rfl ?_); refine box_event ?hg (N := 4) ?hd (cs := #[.int .i64 0, .int .i64 0, .int .i64 0, .int .i64 0]) (t := 104) ?hr ?_; (case hd => rfl); (case hg => rfl); (case hr => first | (go_simp; done) | (go_simp; rfl)); intro gb165 hg w15 hbox hb; have n0_ := Aside0.mk (blk_below (g := gb162) (o := .cells #[.int .i64 a0_0, .slice A0_1 l0_1.length c0_1, .slice (some ad164) l0_2.length c0_2] 25 (0, 0)) (by (with_reducible repeat (first | refine blk_drewN ?_ _ | refine blk_drew ?_ | refine blk_alloc ?_ _)); exact BK162.out) hb); have n1_ := Aside0.mk (below_step (by repeat (first | (with_reducible first | exact HB.out | apply below_alloc | apply pw_below_drewN | apply below_drew1 | refine below_set ?_ GE162.out) | exact HB.out)) hb); have n2_ := Aside0.mk (hbox); have n3_ := Aside0.mk ((by rw [hg]; exact (below_size (by repeat (first | (with_reducible first | exact HB.out | apply below_alloc | apply pw_below_drewN | apply below_drew1 | refine below_set ?_ GE162.out) | exact HB.out))) : w.heap.size ≤ gb165)); have n4_ := Aside0.mk ((by rw [hg]; exact (below_size (by repeat (first | (with_reducible first | exact HB.out | apply below_alloc | apply pw_below_drewN | apply below_drew1 | refine below_set ?_ GE162.out) | exact HB.out))) : w.heap.size ≤ gb165)); have n5_ := Aside0.mk ((by rw [hg]; exact Nat.ne_of_lt (blk_lt (g := gb162) (o := .cells #[.int .i64 a0_0, .slice A0_1 l0_1.length c0_1, .slice (some ad164) l0_2.length c0_2] 25 (0, 0)) (by (with_reducible repeat (first | refine blk_drewN ?_ _ | refine blk_drew ?_ | refine blk_alloc ?_ _)); exact BK162.out)) : gb162 ≠ gb165)); have n6_ := Aside0.mk ((by rw [hg]; exact Nat.ne_of_gt (blk_lt (g := gb162) (o := .cells #[.int .i64 a0_0, .slice A0_1 l0_1.length c0_1, .slice (some ad164) l0_2.length c0_2] 25 (0, 0)) (by (with_reducible repeat (first | refine blk_drewN ?_ _ | refine blk_drew ?_ | refine blk_alloc ?_ _)); exact BK162.out)) : gb165 ≠ gb162)); clear BK162; clear HB; have BK162 := n0_; have HB := n1_; have BK165 := n2_; have GW165 := n3_; have GE165 := n4_; have NB162_165 := n5_; have NB165_162 := n6_; clear n0_ n1_ n2_ n3_ n4_ n5_ n6_; clear hb hbox hg; have hnb16 := NB165_162.out; have hnc16 := NB162_165.out; have hcz17_0 : w15.cell? ⟨gb165, 0, none⟩ = some (.int .i64 0) := (blk_cell BK165.out 0).trans rfl; have hcz17_1 : w15.cell? ⟨gb165, 1, none⟩ = some (.int .i64 0) := (blk_cell BK165.out 1).trans rfl; have hcz17_2 : w15.cell? ⟨gb165, 2, none⟩ = some (.int .i64 0) := (blk_cell BK165.out 2).trans rfl; have hcz17_3 : w15.cell? ⟨gb165, 3, none⟩ = some (.int .i64 0) := (blk_cell BK165.out 3).trans rfl; have hfz17_0 := blk_frozen BK165.out 0; have hfz17_1 := blk_frozen BK165.out 1; have hfz17_2 := blk_frozen BK165.out 2; have hfz17_3 := blk_frozen BK165.out 3))
        (try simp only [Act.put, List.setIfInBounds_toArray, List.set_cons_zero, List.set_cons_succ])
        go_cut [78] (fun v78 wc => ∃ (kq : Nat) (x78_12 : Bool), v78 = .bool x78_12 ∧ Aside0 (spec_CertOk.j2 kq x3_2 x78_12 a0_0 l0_1 l0_2 = some r) ∧ Aside0 (kq ≤ k2) ∧ Aside0 (wc.heap[gb162]? = some (.cells #[.int .i64 a0_0, (.slice A0_1 l0_1.length c0_1), (.slice (some ad164) l0_2.length c0_2)] 25 (0, 0))) ∧ Aside0 (wc.heap[gb165]? = some (.cells #[.int .i64 ((rd_T104 l0_2 x3_2).f0.f0), .int .i64 ((rd_T104 l0_2 x3_2).f0.f1), .int .i64 ((rd_T104 l0_2 x3_2).f1), .int .i64 ((rd_T104 l0_2 x3_2).f2)] 104 (0, 0))) ∧ Aside0 (Below w.heap.size w wc))
        case first =>
         have H := HC13.out
         clear HC13
         replace H := Option.bind_eq_some_iff.mp H
         obtain ⟨t166, A180, H⟩ := H
         replace H : (if t166 = true then (if ((rd_T104 l0_2 x3_2).f1) < 0 then (spec_CertOk.j2 k2 x3_2 true a0_0 l0_1 l0_2) else (if ((rd_T104 l0_2 x3_2).f1) > 2 then (spec_CertOk.j2 k2 x3_2 true a0_0 l0_1 l0_2) else ((spec_l1Num.f ((rd_T104 l0_2 x3_2).f2)).bind fun t167 => (if t167 = true then (if ((rd_T104 l0_2 x3_2).f1) = 0 then (if x3_2 > 0 then (if 0 ≤ (wrap64 (x3_2 - 1)) then (if (wrap64 (x3_2 - 1)) < (l0_2.length : Int) then (spec_CertOk.j2 k2 x3_2 (decide (((rd_T104 l0_2 x3_2).f0.f0) ≤ ((rd_T104 l0_2 (wrap64 (x3_2 - 1))).f0.f0))) a0_0 l0_1 l0_2) else (none)) else (none)) else (spec_CertOk.j2 k2 x3_2 false a0_0 l0_1 l0_2)) else (if ((rd_T104 l0_2 x3_2).f2) = 0 then (if x3_2 > 0 then (if 0 ≤ (wrap64 (x3_2 - 1)) then (if (wrap64 (x3_2 - 1)) < (l0_2.length : Int) then (spec_CertOk.j2 k2 x3_2 (decide (((rd_T104 l0_2 x3_2).f0.f0) ≤ ((rd_T104 l0_2 (wrap64 (x3_2 - 1))).f0.f0))) a0_0 l0_1 l0_2) else (none)) else (none)) else (spec_CertOk.j2 k2 x3_2 false a0_0 l0_1 l0_2)) else (spec_CertOk.j2 k2 x3_2 true a0_0 l0_1 l0_2))) else (spec_CertOk.j2 k2 x3_2 true a0_0 l0_1 l0_2))))) else (spec_CertOk.j2 k2 x3_2 true a0_0 l0_1 l0_2)) = some r := H
         have A18 := Aside0.mk A180
         clear A180
         by_cases c19 : t166 = true
         ·subst c19
          have H1 : (if ((rd_T104 l0_2 x3_2).f1) < 0 then (spec_CertOk.j2 k2 x3_2 true a0_0 l0_1 l0_2) else (if ((rd_T104 l0_2 x3_2).f1) > 2 then (spec_CertOk.j2 k2 x3_2 true a0_0 l0_1 l0_2) else ((spec_l1Num.f ((rd_T104 l0_2 x3_2).f2)).bind fun t167 => (if t167 = true then (if ((rd_T104 l0_2 x3_2).f1) = 0 then (if x3_2 > 0 then (if 0 ≤ (wrap64 (x3_2 - 1)) then (if (wrap64 (x3_2 - 1)) < (l0_2.length : Int) then (spec_CertOk.j2 k2 x3_2 (decide (((rd_T104 l0_2 x3_2).f0.f0) ≤ ((rd_T104 l0_2 (wrap64 (x3_2 - 1))).f0.f0))) a0_0 l0_1 l0_2) else (none)) else (none)) else (spec_CertOk.j2 k2 x3_2 false a0_0 l0_1 l0_2)) else (if ((rd_T104 l0_2 x3_2).f2) = 0 then (if x3_2 > 0 then (if 0 ≤ (wrap64 (x3_2 - 1)) then (if (wrap64 (x3_2 - 1)) < (l0_2.length : Int) then (spec_CertOk.j2 k2 x3_2 (decide (((rd_T104 l0_2 x3_2).f0.f0) ≤ ((rd_T104 l0_2 (wrap64 (x3_2 - 1))).f0.f0))) a0_0 l0_1 l0_2) else (none)) else (none)) else (spec_CertOk.j2 k2 x3_2 false a0_0 l0_1 l0_2)) else (spec_CertOk.j2 k2 x3_2 true a0_0 l0_1 l0_2))) else (spec_CertOk.j2 k2 x3_2 true a0_0 l0_1 l0_2))))) = some r := by rw [if_pos rfl] at H; exact H
          clear H
          have H := H1
          clear H1
          by_cases c20 : ((rd_T104 l0_2 x3_2).f1) < 0
          ·rw [if_pos c20] at H
           have c20b0 : decide (((rd_T104 l0_2 x3_2).f1) < 0) = true := decide_eq_true c20
           clear c20
           (first | rw [c20b0] | (simp only [i64_w, i32_w]; rw [c20b0]) | skip)
           have H' := Aside0.mk H
           clear H
           try go_wp2
           have n0_ : Aside0 (((((w15.setCell ⟨gb165, 0, none⟩ (.int .i64 ((rd_T104 l0_2 x3_2).f0.f0))).setCell ⟨gb165, 1, none⟩ (.int .i64 ((rd_T104 l0_2 x3_2).f0.f1))).setCell ⟨gb165, 2, none⟩ (.int .i64 ((rd_T104 l0_2 x3_2).f1))).setCell ⟨gb165, 3, none⟩ (.int .i64 ((rd_T104 l0_2 x3_2).f2))).heap[gb162]? = some (.cells #[.int .i64 a0_0, .slice A0_1 l0_1.length c0_1, .slice (some ad164) l0_2.length c0_2] 25 (0, 0))) := ⟨by (with_reducible repeat (first | refine blk_drewN ?_ _ | refine blk_drew ?_ | refine blk_alloc ?_ _)); refine blk_far ?_ NB162_165.out _; (with_reducible repeat (first | refine blk_drewN ?_ _ | refine blk_drew ?_ | refine blk_alloc ?_ _)); refine blk_far ?_ NB162_165.out _; (with_reducible repeat (first | refine blk_drewN ?_ _ | refine blk_drew ?_ | refine blk_alloc ?_ _)); refine blk_far ?_ NB162_165.out _; (with_reducible repeat (first | refine blk_drewN ?_ _ | refine blk_drew ?_ | refine blk_alloc ?_ _)); refine blk_far ?_ NB162_165.out _; (with_reducible repeat (first | refine blk_drewN ?_ _ | refine blk_drew ?_ | refine blk_alloc ?_ _)); exact BK162.out⟩
           have n1_ : Aside0 (((((w15.setCell ⟨gb165, 0, none⟩ (.int .i64 ((rd_T104 l0_2 x3_2).f0.f0))).setCell ⟨gb165, 1, none⟩ (.int .i64 ((rd_T104 l0_2 x3_2).f0.f1))).setCell ⟨gb165, 2, none⟩ (.int .i64 ((rd_T104 l0_2 x3_2).f1))).setCell ⟨gb165, 3, none⟩ (.int .i64 ((rd_T104 l0_2 x3_2).f2))).heap[gb165]? = some (.cells #[.int .i64 ((rd_T104 l0_2 x3_2).f0.f0), .int .i64 ((rd_T104 l0_2 x3_2).f0.f1), .int .i64 ((rd_T104 l0_2 x3_2).f1), .int .i64 ((rd_T104 l0_2 x3_2).f2)] 104 (0, 0))) := ⟨by (with_reducible repeat (first | refine blk_drewN ?_ _ | refine blk_drew ?_ | refine blk_alloc ?_ _)); refine blk_put (cs := #[.int .i64 ((rd_T104 l0_2 x3_2).f0.f0), .int .i64 ((rd_T104 l0_2 x3_2).f0.f1), .int .i64 ((rd_T104 l0_2 x3_2).f1), .int .i64 0]) ?_ 3 _ rfl; (with_reducible repeat (first | refine blk_drewN ?_ _ | refine blk_drew ?_ | refine blk_alloc ?_ _)); refine blk_put (cs := #[.int .i64 ((rd_T104 l0_2 x3_2).f0.f0), .int .i64 ((rd_T104 l0_2 x3_2).f0.f1), .int .i64 0, .int .i64 0]) ?_ 2 _ rfl; (with_reducible repeat (first | refine blk_drewN ?_ _ | refine blk_drew ?_ | refine blk_alloc ?_ _)); refine blk_put (cs := #[.int .i64 ((rd_T104 l0_2 x3_2).f0.f0), .int .i64 0, .int .i64 0, .int .i64 0]) ?_ 1 _ rfl; (with_reducible repeat (first | refine blk_drewN ?_ _ | refine blk_drew ?_ | refine blk_alloc ?_ _)); refine blk_put (cs := #[.int .i64 0, .int .i64 0, .int .i64 0, .int .i64 0]) ?_ 0 _ rfl; (with_reducible repeat (first | refine blk_drewN ?_ _ | refine blk_drew ?_ | refine blk_alloc ?_ _)); exact BK165.out⟩
           have n2_ : Aside0 (Below w.heap.size w ((((w15.setCell ⟨gb165, 0, none⟩ (.int .i64 ((rd_T104 l0_2 x3_2).f0.f0))).setCell ⟨gb165, 1, none⟩ (.int .i64 ((rd_T104 l0_2 x3_2).f0.f1))).setCell ⟨gb165, 2, none⟩ (.int .i64 ((rd_T104 l0_2 x3_2).f1))).setCell ⟨gb165, 3, none⟩ (.int .i64 ((rd_T104 l0_2 x3_2).f2)))) := ⟨by repeat (first | (with_reducible first | exact HB.out | apply below_alloc | apply pw_below_drewN | apply below_drew1 | refine below_set ?_ GE162.out | refine below_set ?_ GE165.out) | exact HB.out)⟩
           (try clear BK162)
           (try clear BK165)
           (try clear HB)
           generalize ((((w15.setCell ⟨gb165, 0, none⟩ (.int .i64 ((rd_T104 l0_2 x3_2).f0.f0))).setCell ⟨gb165, 1, none⟩ (.int .i64 ((rd_T104 l0_2 x3_2).f0.f1))).setCell ⟨gb165, 2, none⟩ (.int .i64 ((rd_T104 l0_2 x3_2).f1))).setCell ⟨gb165, 3, none⟩ (.int .i64 ((rd_T104 l0_2 x3_2).f2))) = w21 at n0_ n1_ n2_ ⊢
           have BK162 := n0_
           have BK165 := n1_
           have HB := n2_
           clear n0_ n1_ n2_
           have n0_ := Aside0.mk (blk_drew BK162.out)
           have n1_ := Aside0.mk (blk_drew BK165.out)
           have n2_ := Aside0.mk (below_drew1 HB.out)
           clear BK162
           clear BK165
           clear HB
           have BK162 := n0_
           have BK165 := n1_
           have HB := n2_
           clear n0_ n1_ n2_
           refine start_ (n := 48) (S := fun w' => w'.cell? ⟨gb165, 0, none⟩ = some (.int .i64 ((rd_T104 l0_2 x3_2).f0.f0)) ∧ w'.cell? ⟨gb165, 1, none⟩ = some (.int .i64 ((rd_T104 l0_2 x3_2).f0.f1)) ∧ w'.cell? ⟨gb165, 2, none⟩ = some (.int .i64 ((rd_T104 l0_2 x3_2).f1)) ∧ w'.cell? ⟨gb165, 3, none⟩ = some (.int .i64 ((rd_T104 l0_2 x3_2).f2))) (ds := []) #[false, false, false, false, false, false, false, false, false, false, false, false, false, false, false, false, false, false, false, false, false, false, false, false, false, false, false, false, false, false, false, false, false, false, false, false, false, false, false, false, false, false, false, false, false, false, false, false] (by kernel_rfl) rfl rfl ⟨(blk_cell BK165.out 0).trans rfl, (blk_cell BK165.out 1).trans rfl, (blk_cell BK165.out 2).trans rfl, (blk_cell BK165.out 3).trans rfl⟩ (fun hHeld => ?_); refine with_tabW spec_CertOk.tab7 spec_CertOk.bits7 (fun HT_ HW_ => ?_)
           generalize w21.drew = w22 at BK162 BK165 HB hHeld ⊢
           refine pu_ (i := 0) (N := some 31) (v := ?_) (a' := ?_) rfl rfl (any_of HT_.out (by kernel_rfl)) (fun _ _ _ h => h) (Or.inl ⟨by rfl, ?_⟩) ?_ ?_; rotate_left; (· (intro w'; go_simp; with_reducible rfl)); rotate_left; (· (simp only [Act.put, sA_, sZ_, sS_, i64_w, i32_w]; rfl))
           refine ta_ (i := 1) (N := some 32) (v := ?_) (a' := ?_) rfl rfl (take_ofW HT_.out HW_.out (by kernel_rfl)) (fun _ _ _ h => h) (Or.inl ⟨by rfl, ?_⟩) hHeld ?_ ?_
           rotate_left
           ·rintro w' ⟨s0, s1, s2, s3⟩
            go_simp
            with_reducible rfl
           rotate_left; (· (simp only [Act.put, sA_, sZ_, sS_, i64_w, i32_w]; rfl))
           refine on_ (i := 2) (N := some 33) rfl rfl (one_of HT_.out (by kernel_rfl)) (by decide) (fun K hK => ?_)
           refine goes_ Try.func90 (by kernel_rfl) rfl #[.agg #[.int .i64 ((rd_T104 l0_2 x3_2).f0.f0), .int .i64 ((rd_T104 l0_2 x3_2).f0.f1)]] (by rfl) rfl rfl (by (try simp only [List.map_toArray, List.map_cons, List.map_nil]); first | done | rfl | (simp only [List.length_drop, List.length_take]; rfl)) ?_
           with_reducible refine (spec_l5Req.calls ((rd_T104 l0_2 x3_2).f0.f0) ((rd_T104 l0_2 x3_2).f0.f1) true _ A18.out).mono ?_
           rintro e w23 ⟨rfl, hb⟩
           refine ⟨_, rfl, ?_⟩
           have n0_ := Aside0.mk (blk_below (g := gb162) (o := .cells #[.int .i64 a0_0, .slice A0_1 l0_1.length c0_1, .slice (some ad164) l0_2.length c0_2] 25 (0, 0)) (by (with_reducible repeat (first | refine blk_drewN ?_ _ | refine blk_drew ?_ | refine blk_alloc ?_ _)); exact BK162.out) hb)
           have n1_ := Aside0.mk (blk_below (g := gb165) (o := .cells #[.int .i64 ((rd_T104 l0_2 x3_2).f0.f0), .int .i64 ((rd_T104 l0_2 x3_2).f0.f1), .int .i64 ((rd_T104 l0_2 x3_2).f1), .int .i64 ((rd_T104 l0_2 x3_2).f2)] 104 (0, 0)) (by (with_reducible repeat (first | refine blk_drewN ?_ _ | refine blk_drew ?_ | refine blk_alloc ?_ _)); exact BK165.out) hb)
           have n2_ := Aside0.mk (below_step (by repeat (first | (with_reducible first | exact HB.out | apply below_alloc | apply pw_below_drewN | apply below_drew1 | refine below_set ?_ GE162.out | refine below_set ?_ GE165.out) | exact HB.out)) hb)
           clear BK162
           clear BK165
           clear HB
           have BK162 := n0_
           have BK165 := n1_
           have HB := n2_
           clear n0_ n1_ n2_
           (try clear hb)
           (try clear hb2)
           (try clear hk)
           (try clear hi)
           refine hK.out _ _ ⟨(blk_cell BK165.out 0).trans rfl, (blk_cell BK165.out 1).trans rfl, (blk_cell BK165.out 2).trans rfl, (blk_cell BK165.out 3).trans rfl⟩ (fun hHeld => ?_)
           clear hK K
           refine norm_ (a' := ?_) ?_ ?_
           rotate_left
           ·show Act.put _ (some 33) _ = _
            simp only [Act.put, sA_, sZ_, sS_, i64_w, i32_w]
            rfl
           refine pu_ (i := 3) (N := some 34) (v := ?_) (a' := ?_) rfl rfl (any_of HT_.out (by kernel_rfl)) (fun _ _ _ h => h) (Or.inl ⟨by rfl, ?_⟩) ?_ ?_; rotate_left; (· (intro w'; go_simp; with_reducible rfl)); rotate_left; (· (simp only [Act.put, sA_, sZ_, sS_, i64_w, i32_w]; rfl))
           refine pu_ (i := 4) (N := some 35) (v := ?_) (a' := ?_) rfl rfl (any_of HT_.out (by kernel_rfl)) (fun _ _ _ h => h) (Or.inl ⟨by rfl, ?_⟩) ?_ ?_; rotate_left; (· (intro w'; go_simp; with_reducible rfl))
           rotate_left; (· (simp only [Act.put, sA_, sZ_, sS_, i64_w, i32_w]; rfl))
           refine pu_ (i := 5) (N := some 36) (v := ?_) (a' := ?_) rfl rfl (any_of HT_.out (by kernel_rfl)) (fun _ _ _ h => h) (Or.inl ⟨by rfl, ?_⟩) ?_ ?_; rotate_left; (· (intro w'; go_simp; with_reducible rfl)); rotate_left; (· (simp only [Act.put, sA_, sZ_, sS_, i64_w, i32_w]; rfl))
           refine ta_ (i := 6) (N := some 37) (v := ?_) (a' := ?_) rfl rfl (take_ofW HT_.out HW_.out (by kernel_rfl)) (fun _ _ _ h => h) (Or.inl ⟨by rfl, ?_⟩) hHeld ?_ ?_
           rotate_left
           ·rintro w' ⟨s0, s1, s2, s3⟩
            go_simp
            with_reducible rfl
           rotate_left; (· (simp only [Act.put, sA_, sZ_, sS_, i64_w, i32_w]; rfl))
           refine pu_ (i := 7) (N := some 38) (v := ?_) (a' := ?_) rfl rfl (any_of HT_.out (by kernel_rfl)) (fun _ _ _ h => h) (Or.inl ⟨by rfl, ?_⟩) ?_ ?_; rotate_left; (· (intro w'; go_simp; with_reducible rfl)); rotate_left; (· (simp only [Act.put, sA_, sZ_, sS_, i64_w, i32_w]; rfl))
           refine pu_ (i := 8) (N := some 39) (v := ?_) (a' := ?_) rfl rfl (any_of HT_.out (by kernel_rfl)) (fun _ _ _ h => h) (Or.inl ⟨by rfl, ?_⟩) ?_ ?_; rotate_left; (· (intro w'; go_simp; with_reducible rfl))
           rotate_left; (· (simp only [Act.put, sA_, sZ_, sS_, i64_w, i32_w]; rfl))
           refine pu_ (i := 9) (N := some 40) (v := ?_) (a' := ?_) rfl rfl (any_of HT_.out (by kernel_rfl)) (fun _ _ _ h => h) (Or.inl ⟨by rfl, ?_⟩) ?_ ?_; rotate_left; (· (intro w'; go_simp; with_reducible rfl)); rotate_left; (· (simp only [Act.put, sA_, sZ_, sS_, i64_w, i32_w]; rfl))
           refine pu_ (i := 10) (N := some 41) (v := undef) (a' := ?_) rfl rfl (any_of HT_.out (by kernel_rfl)) (fun _ _ _ h => h) (Or.inr ⟨by rfl, rfl⟩) ?_ ?_; rotate_left; (· (simp only [Act.put, sA_, sZ_, sS_, i64_w, i32_w]; rfl))
           refine pu_ (i := 11) (N := some 42) (v := undef) (a' := ?_) rfl rfl (any_of HT_.out (by kernel_rfl)) (fun _ _ _ h => h) (Or.inr ⟨by rfl, rfl⟩) ?_ ?_
           rotate_left; (· (simp only [Act.put, sA_, sZ_, sS_, i64_w, i32_w]; rfl))
           refine pu_ (i := 12) (N := some 43) (v := undef) (a' := ?_) rfl rfl (any_of HT_.out (by kernel_rfl)) (fun _ _ _ h => h) (Or.inr ⟨by rfl, rfl⟩) ?_ ?_; rotate_left; (· (simp only [Act.put, sA_, sZ_, sS_, i64_w, i32_w]; rfl))
           refine pu_ (i := 13) (N := some 44) (v := ?_) (a' := ?_) rfl rfl (any_of HT_.out (by kernel_rfl)) (fun _ _ _ h => h) (Or.inl ⟨by rfl, ?_⟩) ?_ ?_; rotate_left; (· (intro w'; go_simp; with_reducible rfl)); rotate_left; (· (simp only [Act.put, sA_, sZ_, sS_, i64_w, i32_w]; rfl))
           refine pu_ (i := 14) (N := some 45) (v := ?_) (a' := ?_) rfl rfl (any_of HT_.out (by kernel_rfl)) (fun _ _ _ h => h) (Or.inl ⟨by rfl, ?_⟩) ?_ ?_; rotate_left; (· (intro w'; go_simp; with_reducible rfl))
           rotate_left; (· (simp only [Act.put, sA_, sZ_, sS_, i64_w, i32_w]; rfl))
           refine pu_ (i := 15) (N := some 46) (v := undef) (a' := ?_) rfl rfl (any_of HT_.out (by kernel_rfl)) (fun _ _ _ h => h) (Or.inr ⟨by rfl, rfl⟩) ?_ ?_; rotate_left; (· (simp only [Act.put, sA_, sZ_, sS_, i64_w, i32_w]; rfl))
           refine pu_ (i := 16) (N := some 47) (v := undef) (a' := ?_) rfl rfl (any_of HT_.out (by kernel_rfl)) (fun _ _ _ h => h) (Or.inr ⟨by rfl, rfl⟩) ?_ ?_
           rotate_left; (· (simp only [Act.put, sA_, sZ_, sS_, i64_w, i32_w]; rfl))
           refine pu_ (i := 17) (N := some 48) (v := undef) (a' := ?_) rfl rfl (any_of HT_.out (by kernel_rfl)) (fun _ _ _ h => h) (Or.inr ⟨by rfl, rfl⟩) ?_ ?_; rotate_left; (· (simp only [Act.put, sA_, sZ_, sS_, i64_w, i32_w]; rfl))
           refine pu_ (i := 18) (N := some 49) (v := undef) (a' := ?_) rfl rfl (any_of HT_.out (by kernel_rfl)) (fun _ _ _ h => h) (Or.inr ⟨by rfl, rfl⟩) ?_ ?_
           rotate_left; (· (simp only [Act.put, sA_, sZ_, sS_, i64_w, i32_w]; rfl))
           refine pu_ (i := 19) (N := some 50) (v := ?_) (a' := ?_) rfl rfl (any_of HT_.out (by kernel_rfl)) (fun _ _ _ h => h) (Or.inl ⟨by rfl, ?_⟩) ?_ ?_; rotate_left; (· (intro w'; go_simp; with_reducible rfl)); rotate_left; (· (simp only [Act.put, sA_, sZ_, sS_, i64_w, i32_w]; rfl))
           refine pu_ (i := 20) (N := some 51) (v := ?_) (a' := ?_) rfl rfl (any_of HT_.out (by kernel_rfl)) (fun _ _ _ h => h) (Or.inl ⟨by rfl, ?_⟩) ?_ ?_; rotate_left; (· (intro w'; go_simp; with_reducible rfl))
           rotate_left; (· (simp only [Act.put, sA_, sZ_, sS_, i64_w, i32_w]; rfl))
           refine pu_ (i := 21) (N := some 52) (v := undef) (a' := ?_) rfl rfl (any_of HT_.out (by kernel_rfl)) (fun _ _ _ h => h) (Or.inr ⟨by rfl, rfl⟩) ?_ ?_; rotate_left; (· (simp only [Act.put, sA_, sZ_, sS_, i64_w, i32_w]; rfl))
           refine pu_ (i := 22) (N := some 53) (v := undef) (a' := ?_) rfl rfl (any_of HT_.out (by kernel_rfl)) (fun _ _ _ h => h) (Or.inr ⟨by rfl, rfl⟩) ?_ ?_
           rotate_left; (· (simp only [Act.put, sA_, sZ_, sS_, i64_w, i32_w]; rfl))
           refine pu_ (i := 23) (N := some 54) (v := undef) (a' := ?_) rfl rfl (any_of HT_.out (by kernel_rfl)) (fun _ _ _ h => h) (Or.inr ⟨by rfl, rfl⟩) ?_ ?_; rotate_left; (· (simp only [Act.put, sA_, sZ_, sS_, i64_w, i32_w]; rfl))
           refine pu_ (i := 24) (N := some 55) (v := undef) (a' := ?_) rfl rfl (any_of HT_.out (by kernel_rfl)) (fun _ _ _ h => h) (Or.inr ⟨by rfl, rfl⟩) ?_ ?_
           rotate_left; (· (simp only [Act.put, sA_, sZ_, sS_, i64_w, i32_w]; rfl))
           refine pu_ (i := 25) (N := some 56) (v := undef) (a' := ?_) rfl rfl (any_of HT_.out (by kernel_rfl)) (fun _ _ _ h => h) (Or.inr ⟨by rfl, rfl⟩) ?_ ?_; rotate_left; (· (simp only [Act.put, sA_, sZ_, sS_, i64_w, i32_w]; rfl))
           refine pu_ (i := 26) (N := some 57) (v := undef) (a' := ?_) rfl rfl (any_of HT_.out (by kernel_rfl)) (fun _ _ _ h => h) (Or.inr ⟨by rfl, rfl⟩) ?_ ?_
           rotate_left; (· (simp only [Act.put, sA_, sZ_, sS_, i64_w, i32_w]; rfl))
           refine pu_ (i := 27) (N := some 58) (v := undef) (a' := ?_) rfl rfl (any_of HT_.out (by kernel_rfl)) (fun _ _ _ h => h) (Or.inr ⟨by rfl, rfl⟩) ?_ ?_; rotate_left; (· (simp only [Act.put, sA_, sZ_, sS_, i64_w, i32_w]; rfl))
           refine pu_ (i := 28) (N := some 59) (v := undef) (a' := ?_) rfl rfl (any_of HT_.out (by kernel_rfl)) (fun _ _ _ h => h) (Or.inr ⟨by rfl, rfl⟩) ?_ ?_
           rotate_left; (· (simp only [Act.put, sA_, sZ_, sS_, i64_w, i32_w]; rfl))
           refine pu_ (i := 29) (N := some 60) (v := ?_) (a' := ?_) rfl rfl (any_of HT_.out (by kernel_rfl)) (fun _ _ _ h => h) (Or.inl ⟨by rfl, ?_⟩) ?_ ?_; rotate_left; (· (intro w'; go_simp; with_reducible rfl)); rotate_left; (· (simp only [Act.put, sA_, sZ_, sS_, i64_w, i32_w]; rfl))
           refine pu_ (i := 30) (N := some 61) (v := ?_) (a' := ?_) rfl rfl (any_of HT_.out (by kernel_rfl)) (fun _ _ _ h => h) (Or.inl ⟨by rfl, ?_⟩) ?_ ?_; rotate_left; (· (intro w'; go_simp; with_reducible rfl))
           rotate_left; (· (simp only [Act.put, sA_, sZ_, sS_, i64_w, i32_w]; rfl))
           refine pu_ (i := 31) (N := some 62) (v := undef) (a' := ?_) rfl rfl (any_of HT_.out (by kernel_rfl)) (fun _ _ _ h => h) (Or.inr ⟨by rfl, rfl⟩) ?_ ?_; rotate_left; (· (simp only [Act.put, sA_, sZ_, sS_, i64_w, i32_w]; rfl))
           refine pu_ (i := 32) (N := some 63) (v := undef) (a' := ?_) rfl rfl (any_of HT_.out (by kernel_rfl)) (fun _ _ _ h => h) (Or.inr ⟨by rfl, rfl⟩) ?_ ?_
           rotate_left; (· (simp only [Act.put, sA_, sZ_, sS_, i64_w, i32_w]; rfl))
           refine pu_ (i := 33) (N := some 64) (v := undef) (a' := ?_) rfl rfl (any_of HT_.out (by kernel_rfl)) (fun _ _ _ h => h) (Or.inr ⟨by rfl, rfl⟩) ?_ ?_; rotate_left; (· (simp only [Act.put, sA_, sZ_, sS_, i64_w, i32_w]; rfl))
           refine pu_ (i := 34) (N := some 65) (v := undef) (a' := ?_) rfl rfl (any_of HT_.out (by kernel_rfl)) (fun _ _ _ h => h) (Or.inr ⟨by rfl, rfl⟩) ?_ ?_
           rotate_left; (· (simp only [Act.put, sA_, sZ_, sS_, i64_w, i32_w]; rfl))
           refine pu_ (i := 35) (N := some 66) (v := undef) (a' := ?_) rfl rfl (any_of HT_.out (by kernel_rfl)) (fun _ _ _ h => h) (Or.inr ⟨by rfl, rfl⟩) ?_ ?_; rotate_left; (· (simp only [Act.put, sA_, sZ_, sS_, i64_w, i32_w]; rfl))
           refine pu_ (i := 36) (N := some 67) (v := undef) (a' := ?_) rfl rfl (any_of HT_.out (by kernel_rfl)) (fun _ _ _ h => h) (Or.inr ⟨by rfl, rfl⟩) ?_ ?_
           rotate_left; (· (simp only [Act.put, sA_, sZ_, sS_, i64_w, i32_w]; rfl))
           refine pu_ (i := 37) (N := some 68) (v := undef) (a' := ?_) rfl rfl (any_of HT_.out (by kernel_rfl)) (fun _ _ _ h => h) (Or.inr ⟨by rfl, rfl⟩) ?_ ?_; rotate_left; (· (simp only [Act.put, sA_, sZ_, sS_, i64_w, i32_w]; rfl))
           refine pu_ (i := 38) (N := some 69) (v := undef) (a' := ?_) rfl rfl (any_of HT_.out (by kernel_rfl)) (fun _ _ _ h => h) (Or.inr ⟨by rfl, rfl⟩) ?_ ?_
           rotate_left; (· (simp only [Act.put, sA_, sZ_, sS_, i64_w, i32_w]; rfl))
           refine pu_ (i := 39) (N := some 70) (v := undef) (a' := ?_) rfl rfl (any_of HT_.out (by kernel_rfl)) (fun _ _ _ h => h) (Or.inr ⟨by rfl, rfl⟩) ?_ ?_; rotate_left; (· (simp only [Act.put, sA_, sZ_, sS_, i64_w, i32_w]; rfl))
           refine pu_ (i := 40) (N := some 71) (v := undef) (a' := ?_) rfl rfl (any_of HT_.out (by kernel_rfl)) (fun _ _ _ h => h) (Or.inr ⟨by rfl, rfl⟩) ?_ ?_
           rotate_left; (· (simp only [Act.put, sA_, sZ_, sS_, i64_w, i32_w]; rfl))
           refine pu_ (i := 41) (N := some 72) (v := undef) (a' := ?_) rfl rfl (any_of HT_.out (by kernel_rfl)) (fun _ _ _ h => h) (Or.inr ⟨by rfl, rfl⟩) ?_ ?_; rotate_left; (· (simp only [Act.put, sA_, sZ_, sS_, i64_w, i32_w]; rfl))
           refine pu_ (i := 42) (N := some 73) (v := undef) (a' := ?_) rfl rfl (any_of HT_.out (by kernel_rfl)) (fun _ _ _ h => h) (Or.inr ⟨by rfl, rfl⟩) ?_ ?_
           rotate_left; (· (simp only [Act.put, sA_, sZ_, sS_, i64_w, i32_w]; rfl))
           refine pu_ (i := 43) (N := some 74) (v := undef) (a' := ?_) rfl rfl (any_of HT_.out (by kernel_rfl)) (fun _ _ _ h => h) (Or.inr ⟨by rfl, rfl⟩) ?_ ?_; rotate_left; (· (simp only [Act.put, sA_, sZ_, sS_, i64_w, i32_w]; rfl))
           refine pu_ (i := 44) (N := some 75) (v := undef) (a' := ?_) rfl rfl (any_of HT_.out (by kernel_rfl)) (fun _ _ _ h => h) (Or.inr ⟨by rfl, rfl⟩) ?_ ?_
           rotate_left; (· (simp only [Act.put, sA_, sZ_, sS_, i64_w, i32_w]; rfl))
           refine pu_ (i := 45) (N := some 76) (v := undef) (a' := ?_) rfl rfl (any_of HT_.out (by kernel_rfl)) (fun _ _ _ h => h) (Or.inr ⟨by rfl, rfl⟩) ?_ ?_; rotate_left; (· (simp only [Act.put, sA_, sZ_, sS_, i64_w, i32_w]; rfl))
           refine pu_ (i := 46) (N := some 77) (v := undef) (a' := ?_) rfl rfl (any_of HT_.out (by kernel_rfl)) (fun _ _ _ h => h) (Or.inr ⟨by rfl, rfl⟩) ?_ ?_
           rotate_left; (· (simp only [Act.put, sA_, sZ_, sS_, i64_w, i32_w]; rfl))
           refine pu_ (i := 47) (N := some 78) (v := ?_) (a' := ?_) rfl rfl (any_of HT_.out (by kernel_rfl)) (fun _ _ _ h => h) (Or.inl ⟨by rfl, ?_⟩) ?_ ?_; rotate_left; (· (intro w'; go_simp; with_reducible rfl)); rotate_left; (· (simp only [Act.put, sA_, sZ_, sS_, i64_w, i32_w]; rfl))
           refine done_ (done_of HT_.out (by kernel_rfl)) ?_
           try go_wp2
           go_meet
           case rel => exact ⟨_, (true), (by first | rfl | (simp; done) | (simp [*]; done)), H', ⟨by have := HJ1.out; have := HK2.out; first | omega | exact Nat.le_refl _⟩, ⟨by (with_reducible repeat (first | refine blk_drewN ?_ _ | refine blk_drew ?_ | refine blk_alloc ?_ _)); exact BK162.out⟩, ⟨by (with_reducible repeat (first | refine blk_drewN ?_ _ | refine blk_drew ?_ | refine blk_alloc ?_ _)); exact BK165.out⟩, ⟨by repeat (first | (with_reducible first | exact HB.out | apply below_alloc | apply pw_below_drewN | apply below_drew1 | refine below_set ?_ GE162.out | refine below_set ?_ GE165.out) | exact HB.out)⟩⟩
          ·rw [if_neg c20] at H
           have c20b0 : decide (((rd_T104 l0_2 x3_2).f1) < 0) = false := decide_eq_false c20
           clear c20
           (first | rw [c20b0] | (simp only [i64_w, i32_w]; rw [c20b0]) | skip)
           by_cases c24 : ((rd_T104 l0_2 x3_2).f1) > 2
           ·rw [if_pos c24] at H
            have c24b0 : decide (2 < ((rd_T104 l0_2 x3_2).f1)) = true := decide_eq_true c24
            clear c24
            have H' := Aside0.mk H
            clear H
            try go_wp2
            have n0_ : Aside0 (((((w15.setCell ⟨gb165, 0, none⟩ (.int .i64 ((rd_T104 l0_2 x3_2).f0.f0))).setCell ⟨gb165, 1, none⟩ (.int .i64 ((rd_T104 l0_2 x3_2).f0.f1))).setCell ⟨gb165, 2, none⟩ (.int .i64 ((rd_T104 l0_2 x3_2).f1))).setCell ⟨gb165, 3, none⟩ (.int .i64 ((rd_T104 l0_2 x3_2).f2))).heap[gb162]? = some (.cells #[.int .i64 a0_0, .slice A0_1 l0_1.length c0_1, .slice (some ad164) l0_2.length c0_2] 25 (0, 0))) := ⟨by (with_reducible repeat (first | refine blk_drewN ?_ _ | refine blk_drew ?_ | refine blk_alloc ?_ _)); refine blk_far ?_ NB162_165.out _; (with_reducible repeat (first | refine blk_drewN ?_ _ | refine blk_drew ?_ | refine blk_alloc ?_ _)); refine blk_far ?_ NB162_165.out _; (with_reducible repeat (first | refine blk_drewN ?_ _ | refine blk_drew ?_ | refine blk_alloc ?_ _)); refine blk_far ?_ NB162_165.out _; (with_reducible repeat (first | refine blk_drewN ?_ _ | refine blk_drew ?_ | refine blk_alloc ?_ _)); refine blk_far ?_ NB162_165.out _; (with_reducible repeat (first | refine blk_drewN ?_ _ | refine blk_drew ?_ | refine blk_alloc ?_ _)); exact BK162.out⟩
            have n1_ : Aside0 (((((w15.setCell ⟨gb165, 0, none⟩ (.int .i64 ((rd_T104 l0_2 x3_2).f0.f0))).setCell ⟨gb165, 1, none⟩ (.int .i64 ((rd_T104 l0_2 x3_2).f0.f1))).setCell ⟨gb165, 2, none⟩ (.int .i64 ((rd_T104 l0_2 x3_2).f1))).setCell ⟨gb165, 3, none⟩ (.int .i64 ((rd_T104 l0_2 x3_2).f2))).heap[gb165]? = some (.cells #[.int .i64 ((rd_T104 l0_2 x3_2).f0.f0), .int .i64 ((rd_T104 l0_2 x3_2).f0.f1), .int .i64 ((rd_T104 l0_2 x3_2).f1), .int .i64 ((rd_T104 l0_2 x3_2).f2)] 104 (0, 0))) := ⟨by (with_reducible repeat (first | refine blk_drewN ?_ _ | refine blk_drew ?_ | refine blk_alloc ?_ _)); refine blk_put (cs := #[.int .i64 ((rd_T104 l0_2 x3_2).f0.f0), .int .i64 ((rd_T104 l0_2 x3_2).f0.f1), .int .i64 ((rd_T104 l0_2 x3_2).f1), .int .i64 0]) ?_ 3 _ rfl; (with_reducible repeat (first | refine blk_drewN ?_ _ | refine blk_drew ?_ | refine blk_alloc ?_ _)); refine blk_put (cs := #[.int .i64 ((rd_T104 l0_2 x3_2).f0.f0), .int .i64 ((rd_T104 l0_2 x3_2).f0.f1), .int .i64 0, .int .i64 0]) ?_ 2 _ rfl; (with_reducible repeat (first | refine blk_drewN ?_ _ | refine blk_drew ?_ | refine blk_alloc ?_ _)); refine blk_put (cs := #[.int .i64 ((rd_T104 l0_2 x3_2).f0.f0), .int .i64 0, .int .i64 0, .int .i64 0]) ?_ 1 _ rfl; (with_reducible repeat (first | refine blk_drewN ?_ _ | refine blk_drew ?_ | refine blk_alloc ?_ _)); refine blk_put (cs := #[.int .i64 0, .int .i64 0, .int .i64 0, .int .i64 0]) ?_ 0 _ rfl; (with_reducible repeat (first | refine blk_drewN ?_ _ | refine blk_drew ?_ | refine blk_alloc ?_ _)); exact BK165.out⟩
            have n2_ : Aside0 (Below w.heap.size w ((((w15.setCell ⟨gb165, 0, none⟩ (.int .i64 ((rd_T104 l0_2 x3_2).f0.f0))).setCell ⟨gb165, 1, none⟩ (.int .i64 ((rd_T104 l0_2 x3_2).f0.f1))).setCell ⟨gb165, 2, none⟩ (.int .i64 ((rd_T104 l0_2 x3_2).f1))).setCell ⟨gb165, 3, none⟩ (.int .i64 ((rd_T104 l0_2 x3_2).f2)))) := ⟨by repeat (first | (with_reducible first | exact HB.out | apply below_alloc | apply pw_below_drewN | apply below_drew1 | refine below_set ?_ GE162.out | refine below_set ?_ GE165.out) | exact HB.out)⟩
            (try clear BK162)
            (try clear BK165)
            (try clear HB)
            generalize ((((w15.setCell ⟨gb165, 0, none⟩ (.int .i64 ((rd_T104 l0_2 x3_2).f0.f0))).setCell ⟨gb165, 1, none⟩ (.int .i64 ((rd_T104 l0_2 x3_2).f0.f1))).setCell ⟨gb165, 2, none⟩ (.int .i64 ((rd_T104 l0_2 x3_2).f1))).setCell ⟨gb165, 3, none⟩ (.int .i64 ((rd_T104 l0_2 x3_2).f2))) = w25 at n0_ n1_ n2_ ⊢
            have BK162 := n0_
            have BK165 := n1_
            have HB := n2_
            clear n0_ n1_ n2_
            have n0_ := Aside0.mk (blk_drew BK162.out)
            have n1_ := Aside0.mk (blk_drew BK165.out)
            have n2_ := Aside0.mk (below_drew1 HB.out)
            clear BK162
            clear BK165
            clear HB
            have BK162 := n0_
            have BK165 := n1_
            have HB := n2_
            clear n0_ n1_ n2_
            refine start_ (n := 48) (S := fun w' => w'.cell? ⟨gb165, 0, none⟩ = some (.int .i64 ((rd_T104 l0_2 x3_2).f0.f0)) ∧ w'.cell? ⟨gb165, 1, none⟩ = some (.int .i64 ((rd_T104 l0_2 x3_2).f0.f1)) ∧ w'.cell? ⟨gb165, 2, none⟩ = some (.int .i64 ((rd_T104 l0_2 x3_2).f1)) ∧ w'.cell? ⟨gb165, 3, none⟩ = some (.int .i64 ((rd_T104 l0_2 x3_2).f2))) (ds := []) #[false, false, false, false, false, false, false, false, false, false, false, false, false, false, false, false, false, false, false, false, false, false, false, false, false, false, false, false, false, false, false, false, false, false, false, false, false, false, false, false, false, false, false, false, false, false, false, false] (by kernel_rfl) rfl rfl ⟨(blk_cell BK165.out 0).trans rfl, (blk_cell BK165.out 1).trans rfl, (blk_cell BK165.out 2).trans rfl, (blk_cell BK165.out 3).trans rfl⟩ (fun hHeld => ?_); refine with_tabW spec_CertOk.tab7 spec_CertOk.bits7 (fun HT_ HW_ => ?_)
            generalize w25.drew = w26 at BK162 BK165 HB hHeld ⊢
            refine pu_ (i := 0) (N := some 31) (v := ?_) (a' := ?_) rfl rfl (any_of HT_.out (by kernel_rfl)) (fun _ _ _ h => h) (Or.inl ⟨by rfl, ?_⟩) ?_ ?_; rotate_left; (· (intro w'; go_simp; with_reducible rfl)); rotate_left; (· (simp only [Act.put, sA_, sZ_, sS_, i64_w, i32_w]; rfl))
            refine ta_ (i := 1) (N := some 32) (v := ?_) (a' := ?_) rfl rfl (take_ofW HT_.out HW_.out (by kernel_rfl)) (fun _ _ _ h => h) (Or.inl ⟨by rfl, ?_⟩) hHeld ?_ ?_
            rotate_left
            ·rintro w' ⟨s0, s1, s2, s3⟩
             go_simp
             with_reducible rfl
            rotate_left; (· (simp only [Act.put, sA_, sZ_, sS_, i64_w, i32_w]; rfl))
            refine on_ (i := 2) (N := some 33) rfl rfl (one_of HT_.out (by kernel_rfl)) (by decide) (fun K hK => ?_)
            refine goes_ Try.func90 (by kernel_rfl) rfl #[.agg #[.int .i64 ((rd_T104 l0_2 x3_2).f0.f0), .int .i64 ((rd_T104 l0_2 x3_2).f0.f1)]] (by rfl) rfl rfl (by (try simp only [List.map_toArray, List.map_cons, List.map_nil]); first | done | rfl | (simp only [List.length_drop, List.length_take]; rfl)) ?_
            with_reducible refine (spec_l5Req.calls ((rd_T104 l0_2 x3_2).f0.f0) ((rd_T104 l0_2 x3_2).f0.f1) true _ A18.out).mono ?_
            rintro e w27 ⟨rfl, hb⟩
            refine ⟨_, rfl, ?_⟩
            have n0_ := Aside0.mk (blk_below (g := gb162) (o := .cells #[.int .i64 a0_0, .slice A0_1 l0_1.length c0_1, .slice (some ad164) l0_2.length c0_2] 25 (0, 0)) (by (with_reducible repeat (first | refine blk_drewN ?_ _ | refine blk_drew ?_ | refine blk_alloc ?_ _)); exact BK162.out) hb)
            have n1_ := Aside0.mk (blk_below (g := gb165) (o := .cells #[.int .i64 ((rd_T104 l0_2 x3_2).f0.f0), .int .i64 ((rd_T104 l0_2 x3_2).f0.f1), .int .i64 ((rd_T104 l0_2 x3_2).f1), .int .i64 ((rd_T104 l0_2 x3_2).f2)] 104 (0, 0)) (by (with_reducible repeat (first | refine blk_drewN ?_ _ | refine blk_drew ?_ | refine blk_alloc ?_ _)); exact BK165.out) hb)
            have n2_ := Aside0.mk (below_step (by repeat (first | (with_reducible first | exact HB.out | apply below_alloc | apply pw_below_drewN | apply below_drew1 | refine below_set ?_ GE162.out | refine below_set ?_ GE165.out) | exact HB.out)) hb)
            clear BK162
            clear BK165
            clear HB
            have BK162 := n0_
            have BK165 := n1_
            have HB := n2_
            clear n0_ n1_ n2_
            (try clear hb)
            (try clear hb2)
            (try clear hk)
            (try clear hi)
            refine hK.out _ _ ⟨(blk_cell BK165.out 0).trans rfl, (blk_cell BK165.out 1).trans rfl, (blk_cell BK165.out 2).trans rfl, (blk_cell BK165.out 3).trans rfl⟩ (fun hHeld => ?_)
            clear hK K
            refine norm_ (a' := ?_) ?_ ?_
            rotate_left
            ·show Act.put _ (some 33) _ = _
             simp only [Act.put, sA_, sZ_, sS_, i64_w, i32_w]
             rfl
            refine pu_ (i := 3) (N := some 34) (v := ?_) (a' := ?_) rfl rfl (any_of HT_.out (by kernel_rfl)) (fun _ _ _ h => h) (Or.inl ⟨by rfl, ?_⟩) ?_ ?_; rotate_left; (· (intro w'; go_simp; with_reducible rfl)); rotate_left; (· (simp only [Act.put, sA_, sZ_, sS_, i64_w, i32_w]; rfl))
            refine pu_ (i := 4) (N := some 35) (v := ?_) (a' := ?_) rfl rfl (any_of HT_.out (by kernel_rfl)) (fun _ _ _ h => h) (Or.inl ⟨by rfl, ?_⟩) ?_ ?_; rotate_left; (· (intro w'; go_simp; with_reducible rfl))
            rotate_left; (· (simp only [Act.put, sA_, sZ_, sS_, i64_w, i32_w]; rfl))
            refine pu_ (i := 5) (N := some 36) (v := ?_) (a' := ?_) rfl rfl (any_of HT_.out (by kernel_rfl)) (fun _ _ _ h => h) (Or.inl ⟨by rfl, ?_⟩) ?_ ?_; rotate_left; (· (intro w'; go_simp; with_reducible rfl)); rotate_left; (· (simp only [Act.put, sA_, sZ_, sS_, i64_w, i32_w]; rfl))
            refine ta_ (i := 6) (N := some 37) (v := ?_) (a' := ?_) rfl rfl (take_ofW HT_.out HW_.out (by kernel_rfl)) (fun _ _ _ h => h) (Or.inl ⟨by rfl, ?_⟩) hHeld ?_ ?_
            rotate_left
            ·rintro w' ⟨s0, s1, s2, s3⟩
             go_simp
             with_reducible rfl
            rotate_left; (· (simp only [Act.put, sA_, sZ_, sS_, i64_w, i32_w]; rfl))
            refine pu_ (i := 7) (N := some 38) (v := ?_) (a' := ?_) rfl rfl (any_of HT_.out (by kernel_rfl)) (fun _ _ _ h => h) (Or.inl ⟨by rfl, ?_⟩) ?_ ?_; rotate_left; (· (intro w'; go_simp; with_reducible rfl)); rotate_left; (· (simp only [Act.put, sA_, sZ_, sS_, i64_w, i32_w]; rfl))
            refine pu_ (i := 8) (N := some 39) (v := ?_) (a' := ?_) rfl rfl (any_of HT_.out (by kernel_rfl)) (fun _ _ _ h => h) (Or.inl ⟨by rfl, ?_⟩) ?_ ?_; rotate_left; (· (intro w'; go_simp; with_reducible rfl))
            rotate_left; (· (simp only [Act.put, sA_, sZ_, sS_, i64_w, i32_w]; rfl))
            refine pu_ (i := 9) (N := some 40) (v := ?_) (a' := ?_) rfl rfl (any_of HT_.out (by kernel_rfl)) (fun _ _ _ h => h) (Or.inl ⟨by rfl, ?_⟩) ?_ ?_; rotate_left; (· (intro w'; go_simp; with_reducible rfl)); rotate_left; (· (simp only [Act.put, sA_, sZ_, sS_, i64_w, i32_w]; rfl))
            refine pu_ (i := 10) (N := some 41) (v := ?_) (a' := ?_) rfl rfl (any_of HT_.out (by kernel_rfl)) (fun _ _ _ h => h) (Or.inl ⟨by rfl, ?_⟩) ?_ ?_; rotate_left; (· (intro w'; go_simp; with_reducible rfl))
            rotate_left; (· (simp only [Act.put, sA_, sZ_, sS_, i64_w, i32_w]; rfl))
            refine ta_ (i := 11) (N := some 42) (v := ?_) (a' := ?_) rfl rfl (take_ofW HT_.out HW_.out (by kernel_rfl)) (fun _ _ _ h => h) (Or.inl ⟨by rfl, ?_⟩) hHeld ?_ ?_
            rotate_left
            ·rintro w' ⟨s0, s1, s2, s3⟩
             go_simp
             with_reducible rfl
            rotate_left; (· (simp only [Act.put, sA_, sZ_, sS_, i64_w, i32_w]; rfl))
            refine pu_ (i := 12) (N := some 43) (v := ?_) (a' := ?_) rfl rfl (any_of HT_.out (by kernel_rfl)) (fun _ _ _ h => h) (Or.inl ⟨by rfl, ?_⟩) ?_ ?_; rotate_left; (· (intro w'; go_simp; with_reducible rfl)); rotate_left; (· (simp only [Act.put, sA_, sZ_, sS_, i64_w, i32_w]; rfl))
            refine pu_ (i := 13) (N := some 44) (v := ?_) (a' := ?_) rfl rfl (any_of HT_.out (by kernel_rfl)) (fun _ _ _ h => h) (Or.inl ⟨by rfl, ?_⟩) ?_ ?_; rotate_left; (· (intro w'; go_simp; with_reducible rfl))
            rotate_left; (· (simp only [Act.put, sA_, sZ_, sS_, i64_w, i32_w]; rfl))
            refine pu_ (i := 14) (N := some 45) (v := ?_) (a' := ?_) rfl rfl (any_of HT_.out (by kernel_rfl)) (fun _ _ _ h => h) (Or.inl ⟨by rfl, ?_⟩) ?_ ?_; rotate_left; (· (intro w'; go_simp; with_reducible rfl)); rotate_left; (· (simp only [Act.put, sA_, sZ_, sS_, i64_w, i32_w]; rfl))
            refine pu_ (i := 15) (N := some 46) (v := undef) (a' := ?_) rfl rfl (any_of HT_.out (by kernel_rfl)) (fun _ _ _ h => h) (Or.inr ⟨by rfl, rfl⟩) ?_ ?_; rotate_left; (· (simp only [Act.put, sA_, sZ_, sS_, i64_w, i32_w]; rfl))
            refine pu_ (i := 16) (N := some 47) (v := undef) (a' := ?_) rfl rfl (any_of HT_.out (by kernel_rfl)) (fun _ _ _ h => h) (Or.inr ⟨by rfl, rfl⟩) ?_ ?_
            rotate_left; (· (simp only [Act.put, sA_, sZ_, sS_, i64_w, i32_w]; rfl))
            refine pu_ (i := 17) (N := some 48) (v := undef) (a' := ?_) rfl rfl (any_of HT_.out (by kernel_rfl)) (fun _ _ _ h => h) (Or.inr ⟨by rfl, rfl⟩) ?_ ?_; rotate_left; (· (simp only [Act.put, sA_, sZ_, sS_, i64_w, i32_w]; rfl))
            refine pu_ (i := 18) (N := some 49) (v := undef) (a' := ?_) rfl rfl (any_of HT_.out (by kernel_rfl)) (fun _ _ _ h => h) (Or.inr ⟨by rfl, rfl⟩) ?_ ?_
            rotate_left; (· (simp only [Act.put, sA_, sZ_, sS_, i64_w, i32_w]; rfl))
            refine pu_ (i := 19) (N := some 50) (v := ?_) (a' := ?_) rfl rfl (any_of HT_.out (by kernel_rfl)) (fun _ _ _ h => h) (Or.inl ⟨by rfl, ?_⟩) ?_ ?_; rotate_left; (· (intro w'; go_simp; with_reducible rfl)); rotate_left; (· (simp only [Act.put, sA_, sZ_, sS_, i64_w, i32_w]; rfl))
            refine pu_ (i := 20) (N := some 51) (v := ?_) (a' := ?_) rfl rfl (any_of HT_.out (by kernel_rfl)) (fun _ _ _ h => h) (Or.inl ⟨by rfl, ?_⟩) ?_ ?_; rotate_left; (· (intro w'; go_simp; with_reducible rfl))
            rotate_left; (· (simp only [Act.put, sA_, sZ_, sS_, i64_w, i32_w]; rfl))
            refine pu_ (i := 21) (N := some 52) (v := undef) (a' := ?_) rfl rfl (any_of HT_.out (by kernel_rfl)) (fun _ _ _ h => h) (Or.inr ⟨by rfl, rfl⟩) ?_ ?_; rotate_left; (· (simp only [Act.put, sA_, sZ_, sS_, i64_w, i32_w]; rfl))
            refine pu_ (i := 22) (N := some 53) (v := undef) (a' := ?_) rfl rfl (any_of HT_.out (by kernel_rfl)) (fun _ _ _ h => h) (Or.inr ⟨by rfl, rfl⟩) ?_ ?_
            rotate_left; (· (simp only [Act.put, sA_, sZ_, sS_, i64_w, i32_w]; rfl))
            refine pu_ (i := 23) (N := some 54) (v := undef) (a' := ?_) rfl rfl (any_of HT_.out (by kernel_rfl)) (fun _ _ _ h => h) (Or.inr ⟨by rfl, rfl⟩) ?_ ?_; rotate_left; (· (simp only [Act.put, sA_, sZ_, sS_, i64_w, i32_w]; rfl))
            refine pu_ (i := 24) (N := some 55) (v := undef) (a' := ?_) rfl rfl (any_of HT_.out (by kernel_rfl)) (fun _ _ _ h => h) (Or.inr ⟨by rfl, rfl⟩) ?_ ?_
            rotate_left; (· (simp only [Act.put, sA_, sZ_, sS_, i64_w, i32_w]; rfl))
            refine pu_ (i := 25) (N := some 56) (v := undef) (a' := ?_) rfl rfl (any_of HT_.out (by kernel_rfl)) (fun _ _ _ h => h) (Or.inr ⟨by rfl, rfl⟩) ?_ ?_; rotate_left; (· (simp only [Act.put, sA_, sZ_, sS_, i64_w, i32_w]; rfl))
            refine pu_ (i := 26) (N := some 57) (v := undef) (a' := ?_) rfl rfl (any_of HT_.out (by kernel_rfl)) (fun _ _ _ h => h) (Or.inr ⟨by rfl, rfl⟩) ?_ ?_
            rotate_left; (· (simp only [Act.put, sA_, sZ_, sS_, i64_w, i32_w]; rfl))
            refine pu_ (i := 27) (N := some 58) (v := undef) (a' := ?_) rfl rfl (any_of HT_.out (by kernel_rfl)) (fun _ _ _ h => h) (Or.inr ⟨by rfl, rfl⟩) ?_ ?_; rotate_left; (· (simp only [Act.put, sA_, sZ_, sS_, i64_w, i32_w]; rfl))
            refine pu_ (i := 28) (N := some 59) (v := undef) (a' := ?_) rfl rfl (any_of HT_.out (by kernel_rfl)) (fun _ _ _ h => h) (Or.inr ⟨by rfl, rfl⟩) ?_ ?_
            rotate_left; (· (simp only [Act.put, sA_, sZ_, sS_, i64_w, i32_w]; rfl))
            refine pu_ (i := 29) (N := some 60) (v := ?_) (a' := ?_) rfl rfl (any_of HT_.out (by kernel_rfl)) (fun _ _ _ h => h) (Or.inl ⟨by rfl, ?_⟩) ?_ ?_; rotate_left; (· (intro w'; go_simp; with_reducible rfl)); rotate_left; (· (simp only [Act.put, sA_, sZ_, sS_, i64_w, i32_w]; rfl))
            refine pu_ (i := 30) (N := some 61) (v := ?_) (a' := ?_) rfl rfl (any_of HT_.out (by kernel_rfl)) (fun _ _ _ h => h) (Or.inl ⟨by rfl, ?_⟩) ?_ ?_; rotate_left; (· (intro w'; go_simp; with_reducible rfl))
            rotate_left; (· (simp only [Act.put, sA_, sZ_, sS_, i64_w, i32_w]; rfl))
            refine pu_ (i := 31) (N := some 62) (v := undef) (a' := ?_) rfl rfl (any_of HT_.out (by kernel_rfl)) (fun _ _ _ h => h) (Or.inr ⟨by rfl, rfl⟩) ?_ ?_; rotate_left; (· (simp only [Act.put, sA_, sZ_, sS_, i64_w, i32_w]; rfl))
            refine pu_ (i := 32) (N := some 63) (v := undef) (a' := ?_) rfl rfl (any_of HT_.out (by kernel_rfl)) (fun _ _ _ h => h) (Or.inr ⟨by rfl, rfl⟩) ?_ ?_
            rotate_left; (· (simp only [Act.put, sA_, sZ_, sS_, i64_w, i32_w]; rfl))
            refine pu_ (i := 33) (N := some 64) (v := undef) (a' := ?_) rfl rfl (any_of HT_.out (by kernel_rfl)) (fun _ _ _ h => h) (Or.inr ⟨by rfl, rfl⟩) ?_ ?_; rotate_left; (· (simp only [Act.put, sA_, sZ_, sS_, i64_w, i32_w]; rfl))
            refine pu_ (i := 34) (N := some 65) (v := undef) (a' := ?_) rfl rfl (any_of HT_.out (by kernel_rfl)) (fun _ _ _ h => h) (Or.inr ⟨by rfl, rfl⟩) ?_ ?_
            rotate_left; (· (simp only [Act.put, sA_, sZ_, sS_, i64_w, i32_w]; rfl))
            refine pu_ (i := 35) (N := some 66) (v := undef) (a' := ?_) rfl rfl (any_of HT_.out (by kernel_rfl)) (fun _ _ _ h => h) (Or.inr ⟨by rfl, rfl⟩) ?_ ?_; rotate_left; (· (simp only [Act.put, sA_, sZ_, sS_, i64_w, i32_w]; rfl))
            refine pu_ (i := 36) (N := some 67) (v := undef) (a' := ?_) rfl rfl (any_of HT_.out (by kernel_rfl)) (fun _ _ _ h => h) (Or.inr ⟨by rfl, rfl⟩) ?_ ?_
            rotate_left; (· (simp only [Act.put, sA_, sZ_, sS_, i64_w, i32_w]; rfl))
            refine pu_ (i := 37) (N := some 68) (v := undef) (a' := ?_) rfl rfl (any_of HT_.out (by kernel_rfl)) (fun _ _ _ h => h) (Or.inr ⟨by rfl, rfl⟩) ?_ ?_; rotate_left; (· (simp only [Act.put, sA_, sZ_, sS_, i64_w, i32_w]; rfl))
            refine pu_ (i := 38) (N := some 69) (v := undef) (a' := ?_) rfl rfl (any_of HT_.out (by kernel_rfl)) (fun _ _ _ h => h) (Or.inr ⟨by rfl, rfl⟩) ?_ ?_
            rotate_left; (· (simp only [Act.put, sA_, sZ_, sS_, i64_w, i32_w]; rfl))
            refine pu_ (i := 39) (N := some 70) (v := undef) (a' := ?_) rfl rfl (any_of HT_.out (by kernel_rfl)) (fun _ _ _ h => h) (Or.inr ⟨by rfl, rfl⟩) ?_ ?_; rotate_left; (· (simp only [Act.put, sA_, sZ_, sS_, i64_w, i32_w]; rfl))
            refine pu_ (i := 40) (N := some 71) (v := undef) (a' := ?_) rfl rfl (any_of HT_.out (by kernel_rfl)) (fun _ _ _ h => h) (Or.inr ⟨by rfl, rfl⟩) ?_ ?_
            rotate_left; (· (simp only [Act.put, sA_, sZ_, sS_, i64_w, i32_w]; rfl))
            refine pu_ (i := 41) (N := some 72) (v := undef) (a' := ?_) rfl rfl (any_of HT_.out (by kernel_rfl)) (fun _ _ _ h => h) (Or.inr ⟨by rfl, rfl⟩) ?_ ?_; rotate_left; (· (simp only [Act.put, sA_, sZ_, sS_, i64_w, i32_w]; rfl))
            refine pu_ (i := 42) (N := some 73) (v := undef) (a' := ?_) rfl rfl (any_of HT_.out (by kernel_rfl)) (fun _ _ _ h => h) (Or.inr ⟨by rfl, rfl⟩) ?_ ?_
            rotate_left; (· (simp only [Act.put, sA_, sZ_, sS_, i64_w, i32_w]; rfl))
            refine pu_ (i := 43) (N := some 74) (v := undef) (a' := ?_) rfl rfl (any_of HT_.out (by kernel_rfl)) (fun _ _ _ h => h) (Or.inr ⟨by rfl, rfl⟩) ?_ ?_; rotate_left; (· (simp only [Act.put, sA_, sZ_, sS_, i64_w, i32_w]; rfl))
            refine pu_ (i := 44) (N := some 75) (v := undef) (a' := ?_) rfl rfl (any_of HT_.out (by kernel_rfl)) (fun _ _ _ h => h) (Or.inr ⟨by rfl, rfl⟩) ?_ ?_
            rotate_left; (· (simp only [Act.put, sA_, sZ_, sS_, i64_w, i32_w]; rfl))
            refine pu_ (i := 45) (N := some 76) (v := undef) (a' := ?_) rfl rfl (any_of HT_.out (by kernel_rfl)) (fun _ _ _ h => h) (Or.inr ⟨by rfl, rfl⟩) ?_ ?_; rotate_left; (· (simp only [Act.put, sA_, sZ_, sS_, i64_w, i32_w]; rfl))
            refine pu_ (i := 46) (N := some 77) (v := undef) (a' := ?_) rfl rfl (any_of HT_.out (by kernel_rfl)) (fun _ _ _ h => h) (Or.inr ⟨by rfl, rfl⟩) ?_ ?_
            rotate_left; (· (simp only [Act.put, sA_, sZ_, sS_, i64_w, i32_w]; rfl))
            refine pu_ (i := 47) (N := some 78) (v := ?_) (a' := ?_) rfl rfl (any_of HT_.out (by kernel_rfl)) (fun _ _ _ h => h) (Or.inl ⟨by rfl, ?_⟩) ?_ ?_; rotate_left; (· (intro w'; go_simp; with_reducible rfl)); rotate_left; (· (simp only [Act.put, sA_, sZ_, sS_, i64_w, i32_w]; rfl))
            refine done_ (done_of HT_.out (by kernel_rfl)) ?_
            try go_wp2
            go_meet
            case rel => exact ⟨_, (true), (by first | rfl | (simp; done) | (simp [*]; done)), H', ⟨by have := HJ1.out; have := HK2.out; first | omega | exact Nat.le_refl _⟩, ⟨by (with_reducible repeat (first | refine blk_drewN ?_ _ | refine blk_drew ?_ | refine blk_alloc ?_ _)); exact BK162.out⟩, ⟨by (with_reducible repeat (first | refine blk_drewN ?_ _ | refine blk_drew ?_ | refine blk_alloc ?_ _)); exact BK165.out⟩, ⟨by repeat (first | (with_reducible first | exact HB.out | apply below_alloc | apply pw_below_drewN | apply below_drew1 | refine below_set ?_ GE162.out | refine below_set ?_ GE165.out) | exact HB.out)⟩⟩
           ·rw [if_neg c24] at H
            have c24b0 : decide (2 < ((rd_T104 l0_2 x3_2).f1)) = false := decide_eq_false c24
            clear c24
            replace H := Option.bind_eq_some_iff.mp H
            obtain ⟨t167, A280, H⟩ := H
            replace H : (if t167 = true then (if ((rd_T104 l0_2 x3_2).f1) = 0 then (if x3_2 > 0 then (if 0 ≤ (wrap64 (x3_2 - 1)) then (if (wrap64 (x3_2 - 1)) < (l0_2.length : Int) then (spec_CertOk.j2 k2 x3_2 (decide (((rd_T104 l0_2 x3_2).f0.f0) ≤ ((rd_T104 l0_2 (wrap64 (x3_2 - 1))).f0.f0))) a0_0 l0_1 l0_2) else (none)) else (none)) else (spec_CertOk.j2 k2 x3_2 false a0_0 l0_1 l0_2)) else (if ((rd_T104 l0_2 x3_2).f2) = 0 then (if x3_2 > 0 then (if 0 ≤ (wrap64 (x3_2 - 1)) then (if (wrap64 (x3_2 - 1)) < (l0_2.length : Int) then (spec_CertOk.j2 k2 x3_2 (decide (((rd_T104 l0_2 x3_2).f0.f0) ≤ ((rd_T104 l0_2 (wrap64 (x3_2 - 1))).f0.f0))) a0_0 l0_1 l0_2) else (none)) else (none)) else (spec_CertOk.j2 k2 x3_2 false a0_0 l0_1 l0_2)) else (spec_CertOk.j2 k2 x3_2 true a0_0 l0_1 l0_2))) else (spec_CertOk.j2 k2 x3_2 true a0_0 l0_1 l0_2)) = some r := H
            have A28 := Aside0.mk A280
            clear A280
            by_cases c29 : t167 = true
            ·subst c29
             have H1 : (if ((rd_T104 l0_2 x3_2).f1) = 0 then (if x3_2 > 0 then (if 0 ≤ (wrap64 (x3_2 - 1)) then (if (wrap64 (x3_2 - 1)) < (l0_2.length : Int) then (spec_CertOk.j2 k2 x3_2 (decide (((rd_T104 l0_2 x3_2).f0.f0) ≤ ((rd_T104 l0_2 (wrap64 (x3_2 - 1))).f0.f0))) a0_0 l0_1 l0_2) else (none)) else (none)) else (spec_CertOk.j2 k2 x3_2 false a0_0 l0_1 l0_2)) else (if ((rd_T104 l0_2 x3_2).f2) = 0 then (if x3_2 > 0 then (if 0 ≤ (wrap64 (x3_2 - 1)) then (if (wrap64 (x3_2 - 1)) < (l0_2.length : Int) then (spec_CertOk.j2 k2 x3_2 (decide (((rd_T104 l0_2 x3_2).f0.f0) ≤ ((rd_T104 l0_2 (wrap64 (x3_2 - 1))).f0.f0))) a0_0 l0_1 l0_2) else (none)) else (none)) else (spec_CertOk.j2 k2 x3_2 false a0_0 l0_1 l0_2)) else (spec_CertOk.j2 k2 x3_2 true a0_0 l0_1 l0_2))) = some r := by rw [if_pos rfl] at H; exact H
             clear H
             have H := H1
             clear H1
             by_cases c30 : ((rd_T104 l0_2 x3_2).f1) = 0
             ·rw [if_pos c30] at H
              have c30b0 : (((rd_T104 l0_2 x3_2).f1) == 0) = true := beq_iff_eq.mpr c30
              have c30b1 : (((rd_T104 l0_2 x3_2).f1) != 0) = false := bne_eq_false_iff_eq.mpr c30
              clear c30
              by_cases c31 : x3_2 > 0
              ·rw [if_pos c31] at H
               have c31b0 : decide (0 < x3_2) = true := decide_eq_true c31
               clear c31
               obtain ⟨ji32, hji32⟩ : ∃ j_ : Int, (wrap64 (x3_2 - 1)) = j_ := ⟨_, rfl⟩
               replace H : (if 0 ≤ (ji32) then (if (ji32) < (l0_2.length : Int) then (spec_CertOk.j2 k2 x3_2 (decide (((rd_T104 l0_2 x3_2).f0.f0) ≤ ((rd_T104 l0_2 (ji32)).f0.f0))) a0_0 l0_1 l0_2) else (none)) else (none)) = some r := by first | (rw [hji32] at H; exact H) | (simp only [hji32] at H ⊢; exact H)
               (try rw [hji32] at A18)
               (try rw [hji32] at A28)
               have hji32w : (IntKind.i64.wrap (x3_2 - 1)) = ji32 := (i64_w _).trans hji32
               by_cases c33 : 0 ≤ (ji32)
               ·rw [if_pos c33] at H
                have c33b0 : decide (0 ≤ (ji32)) = true := decide_eq_true c33
                clear c33
                by_cases c34 : (ji32) < (l0_2.length : Int)
                ·rw [if_pos c34] at H
                 have c34b0 : decide ((ji32) < (l0_2.length : Int)) = true := decide_eq_true c34
                 clear c34
                 have H' := Aside0.mk H
                 clear H
                 try go_wp2
                 have n0_ : Aside0 (((((w15.setCell ⟨gb165, 0, none⟩ (.int .i64 ((rd_T104 l0_2 x3_2).f0.f0))).setCell ⟨gb165, 1, none⟩ (.int .i64 ((rd_T104 l0_2 x3_2).f0.f1))).setCell ⟨gb165, 2, none⟩ (.int .i64 ((rd_T104 l0_2 x3_2).f1))).setCell ⟨gb165, 3, none⟩ (.int .i64 ((rd_T104 l0_2 x3_2).f2))).heap[gb162]? = some (.cells #[.int .i64 a0_0, .slice A0_1 l0_1.length c0_1, .slice (some ad164) l0_2.length c0_2] 25 (0, 0))) := ⟨by (with_reducible repeat (first | refine blk_drewN ?_ _ | refine blk_drew ?_ | refine blk_alloc ?_ _)); refine blk_far ?_ NB162_165.out _; (with_reducible repeat (first | refine blk_drewN ?_ _ | refine blk_drew ?_ | refine blk_alloc ?_ _)); refine blk_far ?_ NB162_165.out _; (with_reducible repeat (first | refine blk_drewN ?_ _ | refine blk_drew ?_ | refine blk_alloc ?_ _)); refine blk_far ?_ NB162_165.out _; (with_reducible repeat (first | refine blk_drewN ?_ _ | refine blk_drew ?_ | refine blk_alloc ?_ _)); refine blk_far ?_ NB162_165.out _; (with_reducible repeat (first | refine blk_drewN ?_ _ | refine blk_drew ?_ | refine blk_alloc ?_ _)); exact BK162.out⟩
                 have n1_ : Aside0 (((((w15.setCell ⟨gb165, 0, none⟩ (.int .i64 ((rd_T104 l0_2 x3_2).f0.f0))).setCell ⟨gb165, 1, none⟩ (.int .i64 ((rd_T104 l0_2 x3_2).f0.f1))).setCell ⟨gb165, 2, none⟩ (.int .i64 ((rd_T104 l0_2 x3_2).f1))).setCell ⟨gb165, 3, none⟩ (.int .i64 ((rd_T104 l0_2 x3_2).f2))).heap[gb165]? = some (.cells #[.int .i64 ((rd_T104 l0_2 x3_2).f0.f0), .int .i64 ((rd_T104 l0_2 x3_2).f0.f1), .int .i64 ((rd_T104 l0_2 x3_2).f1), .int .i64 ((rd_T104 l0_2 x3_2).f2)] 104 (0, 0))) := ⟨by (with_reducible repeat (first | refine blk_drewN ?_ _ | refine blk_drew ?_ | refine blk_alloc ?_ _)); refine blk_put (cs := #[.int .i64 ((rd_T104 l0_2 x3_2).f0.f0), .int .i64 ((rd_T104 l0_2 x3_2).f0.f1), .int .i64 ((rd_T104 l0_2 x3_2).f1), .int .i64 0]) ?_ 3 _ rfl; (with_reducible repeat (first | refine blk_drewN ?_ _ | refine blk_drew ?_ | refine blk_alloc ?_ _)); refine blk_put (cs := #[.int .i64 ((rd_T104 l0_2 x3_2).f0.f0), .int .i64 ((rd_T104 l0_2 x3_2).f0.f1), .int .i64 0, .int .i64 0]) ?_ 2 _ rfl; (with_reducible repeat (first | refine blk_drewN ?_ _ | refine blk_drew ?_ | refine blk_alloc ?_ _)); refine blk_put (cs := #[.int .i64 ((rd_T104 l0_2 x3_2).f0.f0), .int .i64 0, .int .i64 0, .int .i64 0]) ?_ 1 _ rfl; (with_reducible repeat (first | refine blk_drewN ?_ _ | refine blk_drew ?_ | refine blk_alloc ?_ _)); refine blk_put (cs := #[.int .i64 0, .int .i64 0, .int .i64 0, .int .i64 0]) ?_ 0 _ rfl; (with_reducible repeat (first | refine blk_drewN ?_ _ | refine blk_drew ?_ | refine blk_alloc ?_ _)); exact BK165.out⟩
                 have n2_ : Aside0 (Below w.heap.size w ((((w15.setCell ⟨gb165, 0, none⟩ (.int .i64 ((rd_T104 l0_2 x3_2).f0.f0))).setCell ⟨gb165, 1, none⟩ (.int .i64 ((rd_T104 l0_2 x3_2).f0.f1))).setCell ⟨gb165, 2, none⟩ (.int .i64 ((rd_T104 l0_2 x3_2).f1))).setCell ⟨gb165, 3, none⟩ (.int .i64 ((rd_T104 l0_2 x3_2).f2)))) := ⟨by repeat (first | (with_reducible first | exact HB.out | apply below_alloc | apply pw_below_drewN | apply below_drew1 | refine below_set ?_ GE162.out | refine below_set ?_ GE165.out) | exact HB.out)⟩
                 (try clear BK162)
                 (try clear BK165)
                 (try clear HB)
                 generalize ((((w15.setCell ⟨gb165, 0, none⟩ (.int .i64 ((rd_T104 l0_2 x3_2).f0.f0))).setCell ⟨gb165, 1, none⟩ (.int .i64 ((rd_T104 l0_2 x3_2).f0.f1))).setCell ⟨gb165, 2, none⟩ (.int .i64 ((rd_T104 l0_2 x3_2).f1))).setCell ⟨gb165, 3, none⟩ (.int .i64 ((rd_T104 l0_2 x3_2).f2))) = w35 at n0_ n1_ n2_ ⊢
                 have BK162 := n0_
                 have BK165 := n1_
                 have HB := n2_
                 clear n0_ n1_ n2_
                 have n0_ := Aside0.mk (blk_drew BK162.out)
                 have n1_ := Aside0.mk (blk_drew BK165.out)
                 have n2_ := Aside0.mk (below_drew1 HB.out)
                 clear BK162
                 clear BK165
                 clear HB
                 have BK162 := n0_
                 have BK165 := n1_
                 have HB := n2_
                 clear n0_ n1_ n2_
                 have p168 : 0 ≤ ((ji32) : Int) := of_decide_eq_true (by first | (with_reducible assumption) | assumption)
                 have q168 : (ji32) < (l0_2.length : Int) := of_decide_eq_true (by first | (with_reducible assumption) | assumption)
                 obtain ⟨ad168, e168, hx168_0, hx168_1, hx168_2, hx168_3⟩ := at_T104 HR0_2.out (ji32) p168 q168
                 have hw168_3 := hx168_3
                 have hw168_2 := hx168_2
                 have hw168_1 := hx168_1
                 have hw168_0 := hx168_0
                 obtain rfl : ad164 = ad168 := (by injection e168)
                 replace hx168_0 := (HB.out.cell (World.block_lt_of_cell? w _ hx168_0)).trans hx168_0
                 replace hx168_1 := (HB.out.cell (World.block_lt_of_cell? w _ hx168_1)).trans hx168_1
                 replace hx168_2 := (HB.out.cell (World.block_lt_of_cell? w _ hx168_2)).trans hx168_2
                 replace hx168_3 := (HB.out.cell (World.block_lt_of_cell? w _ hx168_3)).trans hx168_3
                 replace p168 := eq_true p168
                 replace q168 := eq_true q168
                 refine start_ (n := 48) (S := fun w' => w'.cell? ⟨gb165, 0, none⟩ = some (.int .i64 ((rd_T104 l0_2 x3_2).f0.f0)) ∧ w'.cell? ⟨gb165, 1, none⟩ = some (.int .i64 ((rd_T104 l0_2 x3_2).f0.f1)) ∧ w'.cell? ⟨gb165, 2, none⟩ = some (.int .i64 ((rd_T104 l0_2 x3_2).f1)) ∧ w'.cell? ⟨gb165, 3, none⟩ = some (.int .i64 ((rd_T104 l0_2 x3_2).f2)) ∧ w'.cell? ⟨gb162, 0, none⟩ = some (.int .i64 a0_0) ∧ w'.cell? ⟨gb162, 1, none⟩ = some (.slice A0_1 l0_1.length c0_1) ∧ w'.cell? ⟨gb162, 2, none⟩ = some (.slice (some ad164) l0_2.length c0_2) ∧ w'.cell? (ad164.add (((ji32)).toNat * 4)) = some (.int .i64 ((rd_T104 l0_2 (ji32)).f0.f0)) ∧ w'.cell? ⟨(ad164.add (((ji32)).toNat * 4)).block, (ad164.add (((ji32)).toNat * 4)).off + 1, none⟩ = some (.int .i64 ((rd_T104 l0_2 (ji32)).f0.f1)) ∧ w'.cell? ⟨(ad164.add (((ji32)).toNat * 4)).block, (ad164.add (((ji32)).toNat * 4)).off + 2, none⟩ = some (.int .i64 ((rd_T104 l0_2 (ji32)).f1)) ∧ w'.cell? ⟨(ad164.add (((ji32)).toNat * 4)).block, (ad164.add (((ji32)).toNat * 4)).off + 3, none⟩ = some (.int .i64 ((rd_T104 l0_2 (ji32)).f2))) (ds := []) #[false, false, false, false, false, false, false, false, false, false, false, false, false, false, false, false, false, false, false, false, false, false, false, false, false, false, false, false, false, false, false, false, false, false, false, false, false, false, false, false, false, false, false, false, false, false, false, false] (by kernel_rfl) rfl rfl ⟨(blk_cell BK165.out 0).trans rfl, (blk_cell BK165.out 1).trans rfl, (blk_cell BK165.out 2).trans rfl, (blk_cell BK165.out 3).trans rfl, (blk_cell BK162.out 0).trans rfl, (blk_cell BK162.out 1).trans rfl, (blk_cell BK162.out 2).trans rfl, ((HB.out.cell (World.block_lt_of_cell? w _ hw168_0)).trans hw168_0), ((HB.out.cell (World.block_lt_of_cell? w _ hw168_1)).trans hw168_1), ((HB.out.cell (World.block_lt_of_cell? w _ hw168_2)).trans hw168_2), ((HB.out.cell (World.block_lt_of_cell? w _ hw168_3)).trans hw168_3)⟩ (fun hHeld => ?_); refine with_tabW spec_CertOk.tab7 spec_CertOk.bits7 (fun HT_ HW_ => ?_)
                 generalize w35.drew = w36 at BK162 BK165 HB hx168_0 hx168_1 hx168_2 hx168_3 hHeld ⊢
                 refine pu_ (i := 0) (N := some 31) (v := ?_) (a' := ?_) rfl rfl (any_of HT_.out (by kernel_rfl)) (fun _ _ _ h => h) (Or.inl ⟨by rfl, ?_⟩) ?_ ?_; rotate_left; (· (intro w'; go_simp; with_reducible rfl)); rotate_left; (· (simp only [Act.put, sA_, sZ_, sS_, i64_w, i32_w]; rfl))
                 refine ta_ (i := 1) (N := some 32) (v := ?_) (a' := ?_) rfl rfl (take_ofW HT_.out HW_.out (by kernel_rfl)) (fun _ _ _ h => h) (Or.inl ⟨by rfl, ?_⟩) hHeld ?_ ?_
                 rotate_left
                 ·rintro w' ⟨s0, s1, s2, s3, s4, s5, s6, s7, s8, s9, s10⟩
                  go_simp
                  with_reducible rfl
                 rotate_left; (· (simp only [Act.put, sA_, sZ_, sS_, i64_w, i32_w]; rfl))
                 refine on_ (i := 2) (N := some 33) rfl rfl (one_of HT_.out (by kernel_rfl)) (by decide) (fun K hK => ?_)
                 refine goes_ Try.func90 (by kernel_rfl) rfl #[.agg #[.int .i64 ((rd_T104 l0_2 x3_2).f0.f0), .int .i64 ((rd_T104 l0_2 x3_2).f0.f1)]] (by rfl) rfl rfl (by (try simp only [List.map_toArray, List.map_cons, List.map_nil]); first | done | rfl | (simp only [List.length_drop, List.length_take]; rfl)) ?_
                 with_reducible refine (spec_l5Req.calls ((rd_T104 l0_2 x3_2).f0.f0) ((rd_T104 l0_2 x3_2).f0.f1) true _ A18.out).mono ?_
                 rintro e w37 ⟨rfl, hb⟩
                 refine ⟨_, rfl, ?_⟩
                 have n0_ := Aside0.mk (blk_below (g := gb162) (o := .cells #[.int .i64 a0_0, .slice A0_1 l0_1.length c0_1, .slice (some ad164) l0_2.length c0_2] 25 (0, 0)) (by (with_reducible repeat (first | refine blk_drewN ?_ _ | refine blk_drew ?_ | refine blk_alloc ?_ _)); exact BK162.out) hb)
                 have n1_ := Aside0.mk (blk_below (g := gb165) (o := .cells #[.int .i64 ((rd_T104 l0_2 x3_2).f0.f0), .int .i64 ((rd_T104 l0_2 x3_2).f0.f1), .int .i64 ((rd_T104 l0_2 x3_2).f1), .int .i64 ((rd_T104 l0_2 x3_2).f2)] 104 (0, 0)) (by (with_reducible repeat (first | refine blk_drewN ?_ _ | refine blk_drew ?_ | refine blk_alloc ?_ _)); exact BK165.out) hb)
                 have n2_ := Aside0.mk (below_step (by repeat (first | (with_reducible first | exact HB.out | apply below_alloc | apply pw_below_drewN | apply below_drew1 | refine below_set ?_ GE162.out | refine below_set ?_ GE165.out) | exact HB.out)) hb)
                 clear BK162
                 clear BK165
                 clear HB
                 have BK162 := n0_
                 have BK165 := n1_
                 have HB := n2_
                 clear n0_ n1_ n2_
                 (try clear hb)
                 (try clear hb2)
                 (try clear hk)
                 (try clear hi)
                 refine hK.out _ _ ⟨(blk_cell BK165.out 0).trans rfl, (blk_cell BK165.out 1).trans rfl, (blk_cell BK165.out 2).trans rfl, (blk_cell BK165.out 3).trans rfl, (blk_cell BK162.out 0).trans rfl, (blk_cell BK162.out 1).trans rfl, (blk_cell BK162.out 2).trans rfl, ((HB.out.cell (World.block_lt_of_cell? w _ hw168_0)).trans hw168_0), ((HB.out.cell (World.block_lt_of_cell? w _ hw168_1)).trans hw168_1), ((HB.out.cell (World.block_lt_of_cell? w _ hw168_2)).trans hw168_2), ((HB.out.cell (World.block_lt_of_cell? w _ hw168_3)).trans hw168_3)⟩ (fun hHeld => ?_)
                 clear hK K
                 refine norm_ (a' := ?_) ?_ ?_
                 rotate_left
                 ·show Act.put _ (some 33) _ = _
                  simp only [Act.put, sA_, sZ_, sS_, i64_w, i32_w]
                  rfl
                 refine pu_ (i := 3) (N := some 34) (v := ?_) (a' := ?_) rfl rfl (any_of HT_.out (by kernel_rfl)) (fun _ _ _ h => h) (Or.inl ⟨by rfl, ?_⟩) ?_ ?_; rotate_left; (· (intro w'; go_simp; with_reducible rfl)); rotate_left; (· (simp only [Act.put, sA_, sZ_, sS_, i64_w, i32_w]; rfl))
                 refine pu_ (i := 4) (N := some 35) (v := ?_) (a' := ?_) rfl rfl (any_of HT_.out (by kernel_rfl)) (fun _ _ _ h => h) (Or.inl ⟨by rfl, ?_⟩) ?_ ?_; rotate_left; (· (intro w'; go_simp; with_reducible rfl))
                 rotate_left; (· (simp only [Act.put, sA_, sZ_, sS_, i64_w, i32_w]; rfl))
                 refine pu_ (i := 5) (N := some 36) (v := ?_) (a' := ?_) rfl rfl (any_of HT_.out (by kernel_rfl)) (fun _ _ _ h => h) (Or.inl ⟨by rfl, ?_⟩) ?_ ?_; rotate_left; (· (intro w'; go_simp; with_reducible rfl)); rotate_left; (· (simp only [Act.put, sA_, sZ_, sS_, i64_w, i32_w]; rfl))
                 refine ta_ (i := 6) (N := some 37) (v := ?_) (a' := ?_) rfl rfl (take_ofW HT_.out HW_.out (by kernel_rfl)) (fun _ _ _ h => h) (Or.inl ⟨by rfl, ?_⟩) hHeld ?_ ?_
                 rotate_left
                 ·rintro w' ⟨s0, s1, s2, s3, s4, s5, s6, s7, s8, s9, s10⟩
                  go_simp
                  with_reducible rfl
                 rotate_left; (· (simp only [Act.put, sA_, sZ_, sS_, i64_w, i32_w]; rfl))
                 refine pu_ (i := 7) (N := some 38) (v := ?_) (a' := ?_) rfl rfl (any_of HT_.out (by kernel_rfl)) (fun _ _ _ h => h) (Or.inl ⟨by rfl, ?_⟩) ?_ ?_; rotate_left; (· (intro w'; go_simp; with_reducible rfl)); rotate_left; (· (simp only [Act.put, sA_, sZ_, sS_, i64_w, i32_w]; rfl))
                 refine pu_ (i := 8) (N := some 39) (v := ?_) (a' := ?_) rfl rfl (any_of HT_.out (by kernel_rfl)) (fun _ _ _ h => h) (Or.inl ⟨by rfl, ?_⟩) ?_ ?_; rotate_left; (· (intro w'; go_simp; with_reducible rfl))
                 rotate_left; (· (simp only [Act.put, sA_, sZ_, sS_, i64_w, i32_w]; rfl))
                 refine pu_ (i := 9) (N := some 40) (v := ?_) (a' := ?_) rfl rfl (any_of HT_.out (by kernel_rfl)) (fun _ _ _ h => h) (Or.inl ⟨by rfl, ?_⟩) ?_ ?_; rotate_left; (· (intro w'; go_simp; with_reducible rfl)); rotate_left; (· (simp only [Act.put, sA_, sZ_, sS_, i64_w, i32_w]; rfl))
                 refine pu_ (i := 10) (N := some 41) (v := ?_) (a' := ?_) rfl rfl (any_of HT_.out (by kernel_rfl)) (fun _ _ _ h => h) (Or.inl ⟨by rfl, ?_⟩) ?_ ?_; rotate_left; (· (intro w'; go_simp; with_reducible rfl))
                 rotate_left; (· (simp only [Act.put, sA_, sZ_, sS_, i64_w, i32_w]; rfl))
                 refine ta_ (i := 11) (N := some 42) (v := ?_) (a' := ?_) rfl rfl (take_ofW HT_.out HW_.out (by kernel_rfl)) (fun _ _ _ h => h) (Or.inl ⟨by rfl, ?_⟩) hHeld ?_ ?_
                 rotate_left
                 ·rintro w' ⟨s0, s1, s2, s3, s4, s5, s6, s7, s8, s9, s10⟩
                  go_simp
                  with_reducible rfl
                 rotate_left; (· (simp only [Act.put, sA_, sZ_, sS_, i64_w, i32_w]; rfl))
                 refine pu_ (i := 12) (N := some 43) (v := ?_) (a' := ?_) rfl rfl (any_of HT_.out (by kernel_rfl)) (fun _ _ _ h => h) (Or.inl ⟨by rfl, ?_⟩) ?_ ?_; rotate_left; (· (intro w'; go_simp; with_reducible rfl)); rotate_left; (· (simp only [Act.put, sA_, sZ_, sS_, i64_w, i32_w]; rfl))
                 refine pu_ (i := 13) (N := some 44) (v := ?_) (a' := ?_) rfl rfl (any_of HT_.out (by kernel_rfl)) (fun _ _ _ h => h) (Or.inl ⟨by rfl, ?_⟩) ?_ ?_; rotate_left; (· (intro w'; go_simp; with_reducible rfl))
                 rotate_left; (· (simp only [Act.put, sA_, sZ_, sS_, i64_w, i32_w]; rfl))
                 refine pu_ (i := 14) (N := some 45) (v := ?_) (a' := ?_) rfl rfl (any_of HT_.out (by kernel_rfl)) (fun _ _ _ h => h) (Or.inl ⟨by rfl, ?_⟩) ?_ ?_; rotate_left; (· (intro w'; go_simp; with_reducible rfl)); rotate_left; (· (simp only [Act.put, sA_, sZ_, sS_, i64_w, i32_w]; rfl))
                 refine pu_ (i := 15) (N := some 46) (v := ?_) (a' := ?_) rfl rfl (any_of HT_.out (by kernel_rfl)) (fun _ _ _ h => h) (Or.inl ⟨by rfl, ?_⟩) ?_ ?_; rotate_left; (· (intro w'; go_simp; with_reducible rfl))
                 rotate_left; (· (simp only [Act.put, sA_, sZ_, sS_, i64_w, i32_w]; rfl))
                 refine ta_ (i := 16) (N := some 47) (v := ?_) (a' := ?_) rfl rfl (take_ofW HT_.out HW_.out (by kernel_rfl)) (fun _ _ _ h => h) (Or.inl ⟨by rfl, ?_⟩) hHeld ?_ ?_
                 rotate_left
                 ·rintro w' ⟨s0, s1, s2, s3, s4, s5, s6, s7, s8, s9, s10⟩
                  go_simp
                  with_reducible rfl
                 rotate_left; (· (simp only [Act.put, sA_, sZ_, sS_, i64_w, i32_w]; rfl))
                 refine on_ (i := 17) (N := some 48) rfl rfl (one_of HT_.out (by kernel_rfl)) (by decide) (fun K hK => ?_)
                 refine goes_ Try.func82 (by kernel_rfl) rfl #[.int .i64 ((rd_T104 l0_2 x3_2).f2)] (by rfl) rfl rfl (by (try simp only [List.map_toArray, List.map_cons, List.map_nil]); first | done | rfl | (simp only [List.length_drop, List.length_take]; rfl)) ?_
                 with_reducible refine (spec_l1Num.calls ((rd_T104 l0_2 x3_2).f2) true _ A28.out).mono ?_
                 rintro e w' ⟨rfl, ⟨nd, rfl⟩⟩
                 refine ⟨_, rfl, ?_⟩
                 refine hK.out _ _ ⟨(blk_cell BK165.out 0).trans rfl, (blk_cell BK165.out 1).trans rfl, (blk_cell BK165.out 2).trans rfl, (blk_cell BK165.out 3).trans rfl, (blk_cell BK162.out 0).trans rfl, (blk_cell BK162.out 1).trans rfl, (blk_cell BK162.out 2).trans rfl, ((HB.out.cell (World.block_lt_of_cell? w _ hw168_0)).trans hw168_0), ((HB.out.cell (World.block_lt_of_cell? w _ hw168_1)).trans hw168_1), ((HB.out.cell (World.block_lt_of_cell? w _ hw168_2)).trans hw168_2), ((HB.out.cell (World.block_lt_of_cell? w _ hw168_3)).trans hw168_3)⟩ (fun hHeld => ?_)
                 clear hK K
                 refine norm_ (a' := ?_) ?_ ?_
                 rotate_left
                 ·show Act.put _ (some 48) _ = _
                  simp only [Act.put, sA_, sZ_, sS_, i64_w, i32_w]
                  rfl
                 refine pu_ (i := 18) (N := some 49) (v := ?_) (a' := ?_) rfl rfl (any_of HT_.out (by kernel_rfl)) (fun _ _ _ h => h) (Or.inl ⟨by rfl, ?_⟩) ?_ ?_; rotate_left; (· (intro w'; go_simp; with_reducible rfl)); rotate_left; (· (simp only [Act.put, sA_, sZ_, sS_, i64_w, i32_w]; rfl))
                 refine pu_ (i := 19) (N := some 50) (v := ?_) (a' := ?_) rfl rfl (any_of HT_.out (by kernel_rfl)) (fun _ _ _ h => h) (Or.inl ⟨by rfl, ?_⟩) ?_ ?_; rotate_left; (· (intro w'; go_simp; with_reducible rfl))
                 rotate_left; (· (simp only [Act.put, sA_, sZ_, sS_, i64_w, i32_w]; rfl))
                 refine pu_ (i := 20) (N := some 51) (v := ?_) (a' := ?_) rfl rfl (any_of HT_.out (by kernel_rfl)) (fun _ _ _ h => h) (Or.inl ⟨by rfl, ?_⟩) ?_ ?_; rotate_left; (· (intro w'; go_simp; with_reducible rfl)); rotate_left; (· (simp only [Act.put, sA_, sZ_, sS_, i64_w, i32_w]; rfl))
                 refine pu_ (i := 21) (N := some 52) (v := ?_) (a' := ?_) rfl rfl (any_of HT_.out (by kernel_rfl)) (fun _ _ _ h => h) (Or.inl ⟨by rfl, ?_⟩) ?_ ?_; rotate_left; (· (intro w'; go_simp; with_reducible rfl))
                 rotate_left; (· (simp only [Act.put, sA_, sZ_, sS_, i64_w, i32_w]; rfl))
                 refine ta_ (i := 22) (N := some 53) (v := ?_) (a' := ?_) rfl rfl (take_ofW HT_.out HW_.out (by kernel_rfl)) (fun _ _ _ h => h) (Or.inl ⟨by rfl, ?_⟩) hHeld ?_ ?_
                 rotate_left
                 ·rintro w' ⟨s0, s1, s2, s3, s4, s5, s6, s7, s8, s9, s10⟩
                  go_simp
                  with_reducible rfl
                 rotate_left; (· (simp only [Act.put, sA_, sZ_, sS_, i64_w, i32_w]; rfl))
                 refine pu_ (i := 23) (N := some 54) (v := ?_) (a' := ?_) rfl rfl (any_of HT_.out (by kernel_rfl)) (fun _ _ _ h => h) (Or.inl ⟨by rfl, ?_⟩) ?_ ?_; rotate_left; (· (intro w'; go_simp; with_reducible rfl)); rotate_left; (· (simp only [Act.put, sA_, sZ_, sS_, i64_w, i32_w]; rfl))
                 refine pu_ (i := 24) (N := some 55) (v := ?_) (a' := ?_) rfl rfl (any_of HT_.out (by kernel_rfl)) (fun _ _ _ h => h) (Or.inl ⟨by rfl, ?_⟩) ?_ ?_; rotate_left; (· (intro w'; go_simp; with_reducible rfl))
                 rotate_left; (· (simp only [Act.put, sA_, sZ_, sS_, i64_w, i32_w]; rfl))
                 refine pu_ (i := 25) (N := some 56) (v := undef) (a' := ?_) rfl rfl (any_of HT_.out (by kernel_rfl)) (fun _ _ _ h => h) (Or.inr ⟨by rfl, rfl⟩) ?_ ?_; rotate_left; (· (simp only [Act.put, sA_, sZ_, sS_, i64_w, i32_w]; rfl))
                 refine pu_ (i := 26) (N := some 57) (v := undef) (a' := ?_) rfl rfl (any_of HT_.out (by kernel_rfl)) (fun _ _ _ h => h) (Or.inr ⟨by rfl, rfl⟩) ?_ ?_
                 rotate_left; (· (simp only [Act.put, sA_, sZ_, sS_, i64_w, i32_w]; rfl))
                 refine pu_ (i := 27) (N := some 58) (v := undef) (a' := ?_) rfl rfl (any_of HT_.out (by kernel_rfl)) (fun _ _ _ h => h) (Or.inr ⟨by rfl, rfl⟩) ?_ ?_; rotate_left; (· (simp only [Act.put, sA_, sZ_, sS_, i64_w, i32_w]; rfl))
                 refine pu_ (i := 28) (N := some 59) (v := ?_) (a' := ?_) rfl rfl (any_of HT_.out (by kernel_rfl)) (fun _ _ _ h => h) (Or.inl ⟨by rfl, ?_⟩) ?_ ?_; rotate_left; (· (intro w'; go_simp; with_reducible rfl)); rotate_left; (· (simp only [Act.put, sA_, sZ_, sS_, i64_w, i32_w]; rfl))
                 refine pu_ (i := 29) (N := some 60) (v := ?_) (a' := ?_) rfl rfl (any_of HT_.out (by kernel_rfl)) (fun _ _ _ h => h) (Or.inl ⟨by rfl, ?_⟩) ?_ ?_; rotate_left; (· (intro w'; go_simp; with_reducible rfl))
                 rotate_left; (· (simp only [Act.put, sA_, sZ_, sS_, i64_w, i32_w]; rfl))
                 refine pu_ (i := 30) (N := some 61) (v := ?_) (a' := ?_) rfl rfl (any_of HT_.out (by kernel_rfl)) (fun _ _ _ h => h) (Or.inl ⟨by rfl, ?_⟩) ?_ ?_; rotate_left; (· (intro w'; go_simp; with_reducible rfl)); rotate_left; (· (simp only [Act.put, sA_, sZ_, sS_, i64_w, i32_w]; rfl))
                 refine pu_ (i := 31) (N := some 62) (v := ?_) (a' := ?_) rfl rfl (any_of HT_.out (by kernel_rfl)) (fun _ _ _ h => h) (Or.inl ⟨by rfl, ?_⟩) ?_ ?_; rotate_left; (· (intro w'; go_simp; with_reducible rfl))
                 rotate_left; (· (simp only [Act.put, sA_, sZ_, sS_, i64_w, i32_w]; rfl))
                 refine pu_ (i := 32) (N := some 63) (v := ?_) (a' := ?_) rfl rfl (any_of HT_.out (by kernel_rfl)) (fun _ _ _ h => h) (Or.inl ⟨by rfl, ?_⟩) ?_ ?_; rotate_left; (· (intro w'; go_simp; with_reducible rfl)); rotate_left; (· (simp only [Act.put, sA_, sZ_, sS_, i64_w, i32_w]; rfl))
                 refine pu_ (i := 33) (N := some 64) (v := ?_) (a' := ?_) rfl rfl (any_of HT_.out (by kernel_rfl)) (fun _ _ _ h => h) (Or.inl ⟨by rfl, ?_⟩) ?_ ?_; rotate_left; (· (intro w'; go_simp; with_reducible rfl))
                 rotate_left; (· (simp only [Act.put, sA_, sZ_, sS_, i64_w, i32_w]; rfl))
                 refine pu_ (i := 34) (N := some 65) (v := ?_) (a' := ?_) rfl rfl (any_of HT_.out (by kernel_rfl)) (fun _ _ _ h => h) (Or.inl ⟨by rfl, ?_⟩) ?_ ?_; rotate_left; (· (intro w'; go_simp; with_reducible rfl)); rotate_left; (· (simp only [Act.put, sA_, sZ_, sS_, i64_w, i32_w]; rfl))
                 refine pu_ (i := 35) (N := some 66) (v := ?_) (a' := ?_) rfl rfl (any_of HT_.out (by kernel_rfl)) (fun _ _ _ h => h) (Or.inl ⟨by rfl, ?_⟩) ?_ ?_; rotate_left; (· (intro w'; go_simp; with_reducible rfl))
                 rotate_left; (· (simp only [Act.put, sA_, sZ_, sS_, i64_w, i32_w]; rfl))
                 refine pu_ (i := 37) (N := some 68) (v := ?_) (a' := ?_) rfl rfl (any_of HT_.out (by kernel_rfl)) (fun _ _ _ h => h) (Or.inl ⟨by rfl, ?_⟩) ?_ ?_; rotate_left; (· (intro w'; go_simp; with_reducible rfl)); rotate_left; (· (simp only [Act.put, sA_, sZ_, sS_, i64_w, i32_w]; rfl))
                 refine pu_ (i := 39) (N := some 70) (v := ?_) (a' := ?_) rfl rfl (any_of HT_.out (by kernel_rfl)) (fun _ _ _ h => h) (Or.inl ⟨by rfl, ?_⟩) ?_ ?_; rotate_left; (· (intro w'; go_simp; with_reducible rfl))
                 rotate_left; (· (simp only [Act.put, sA_, sZ_, sS_, i64_w, i32_w]; rfl))
                 refine pu_ (i := 40) (N := some 71) (v := ?_) (a' := ?_) rfl rfl (any_of HT_.out (by kernel_rfl)) (fun _ _ _ h => h) (Or.inl ⟨by rfl, ?_⟩) ?_ ?_; rotate_left; (· (intro w'; go_simp; with_reducible rfl)); rotate_left; (· (simp only [Act.put, sA_, sZ_, sS_, i64_w, i32_w]; rfl))
                 refine ta_ (i := 36) (N := some 67) (v := ?_) (a' := ?_) rfl rfl (take_ofW HT_.out HW_.out (by kernel_rfl)) (fun _ _ _ h => h) (Or.inl ⟨by rfl, ?_⟩) hHeld ?_ ?_
                 rotate_left
                 ·rintro w' ⟨s0, s1, s2, s3, s4, s5, s6, s7, s8, s9, s10⟩
                  go_simp
                  with_reducible rfl
                 rotate_left; (· (simp only [Act.put, sA_, sZ_, sS_, i64_w, i32_w]; rfl))
                 refine ta_ (i := 38) (N := some 69) (v := ?_) (a' := ?_) rfl rfl (take_ofW HT_.out HW_.out (by kernel_rfl)) (fun _ _ _ h => h) (Or.inl ⟨by rfl, ?_⟩) hHeld ?_ ?_
                 rotate_left
                 ·rintro w' ⟨s0, s1, s2, s3, s4, s5, s6, s7, s8, s9, s10⟩
                  go_simp
                  with_reducible rfl
                 rotate_left; (· (simp only [Act.put, sA_, sZ_, sS_, i64_w, i32_w]; rfl))
                 refine pu_ (i := 41) (N := some 72) (v := ?_) (a' := ?_) rfl rfl (any_of HT_.out (by kernel_rfl)) (fun _ _ _ h => h) (Or.inl ⟨by rfl, ?_⟩) ?_ ?_; rotate_left; (· (intro w'; go_simp; with_reducible rfl)); rotate_left; (· (simp only [Act.put, sA_, sZ_, sS_, i64_w, i32_w]; rfl))
                 refine pu_ (i := 42) (N := some 73) (v := ?_) (a' := ?_) rfl rfl (any_of HT_.out (by kernel_rfl)) (fun _ _ _ h => h) (Or.inl ⟨by rfl, ?_⟩) ?_ ?_; rotate_left; (· (intro w'; go_simp; with_reducible rfl))
                 rotate_left; (· (simp only [Act.put, sA_, sZ_, sS_, i64_w, i32_w]; rfl))
                 refine pu_ (i := 43) (N := some 74) (v := ?_) (a' := ?_) rfl rfl (any_of HT_.out (by kernel_rfl)) (fun _ _ _ h => h) (Or.inl ⟨by rfl, ?_⟩) ?_ ?_; rotate_left; (· (intro w'; go_simp; with_reducible rfl)); rotate_left; (· (simp only [Act.put, sA_, sZ_, sS_, i64_w, i32_w]; rfl))
                 refine ta_ (i := 44) (N := some 75) (v := ?_) (a' := ?_) rfl rfl (take_ofW HT_.out HW_.out (by kernel_rfl)) (fun _ _ _ h => h) (Or.inl ⟨by rfl, ?_⟩) hHeld ?_ ?_
                 rotate_left
                 ·rintro w' ⟨s0, s1, s2, s3, s4, s5, s6, s7, s8, s9, s10⟩
                  go_simp
                  with_reducible rfl
                 rotate_left; (· (simp only [Act.put, sA_, sZ_, sS_, i64_w, i32_w]; rfl))
                 refine pu_ (i := 45) (N := some 76) (v := ?_) (a' := ?_) rfl rfl (any_of HT_.out (by kernel_rfl)) (fun _ _ _ h => h) (Or.inl ⟨by rfl, ?_⟩) ?_ ?_; rotate_left; (· (intro w'; go_simp; with_reducible rfl)); rotate_left; (· (simp only [Act.put, sA_, sZ_, sS_, i64_w, i32_w]; rfl))
                 refine pu_ (i := 46) (N := some 77) (v := ?_) (a' := ?_) rfl rfl (any_of HT_.out (by kernel_rfl)) (fun _ _ _ h => h) (Or.inl ⟨by rfl, ?_⟩) ?_ ?_; rotate_left; (· (intro w'; go_simp; with_reducible rfl))
                 rotate_left; (· (simp only [Act.put, sA_, sZ_, sS_, i64_w, i32_w]; rfl))
                 refine pu_ (i := 47) (N := some 78) (v := ?_) (a' := ?_) rfl rfl (any_of HT_.out (by kernel_rfl)) (fun _ _ _ h => h) (Or.inl ⟨by rfl, ?_⟩) ?_ ?_; rotate_left; (· (intro w'; go_simp; with_reducible rfl)); rotate_left; (· (simp only [Act.put, sA_, sZ_, sS_, i64_w, i32_w]; rfl))
                 refine done_ (done_of HT_.out (by kernel_rfl)) ?_
                 try go_wp2
                 go_meet
                 case rel => exact ⟨_, (decide (((rd_T104 l0_2 x3_2).f0.f0) ≤ ((rd_T104 l0_2 (ji32)).f0.f0))), (by first | rfl | (simp; done) | (simp only [← hji32] <;> (first | rfl | simp)) | (simp [*]; done)), H', ⟨by have := HJ1.out; have := HK2.out; first | omega | exact Nat.le_refl _⟩, ⟨by (with_reducible repeat (first | refine blk_drewN ?_ _ | refine blk_drew ?_ | refine blk_alloc ?_ _)); exact BK162.out⟩, ⟨by (with_reducible repeat (first | refine blk_drewN ?_ _ | refine blk_drew ?_ | refine blk_alloc ?_ _)); exact BK165.out⟩, ⟨by repeat (first | (with_reducible first | exact HB.out | apply below_alloc | apply pw_below_drewN | apply below_drew1 | refine below_set ?_ GE162.out | refine below_set ?_ GE165.out) | exact HB.out)⟩⟩
                ·rw [if_neg c34] at H
                 exact absurd H (by simp)
               ·rw [if_neg c33] at H
                exact absurd H (by simp)
              ·rw [if_neg c31] at H
               have c31b0 : decide (0 < x3_2) = false := decide_eq_false c31
               clear c31
               have H' := Aside0.mk H
               clear H
               try go_wp2
               have n0_ : Aside0 (((((w15.setCell ⟨gb165, 0, none⟩ (.int .i64 ((rd_T104 l0_2 x3_2).f0.f0))).setCell ⟨gb165, 1, none⟩ (.int .i64 ((rd_T104 l0_2 x3_2).f0.f1))).setCell ⟨gb165, 2, none⟩ (.int .i64 ((rd_T104 l0_2 x3_2).f1))).setCell ⟨gb165, 3, none⟩ (.int .i64 ((rd_T104 l0_2 x3_2).f2))).heap[gb162]? = some (.cells #[.int .i64 a0_0, .slice A0_1 l0_1.length c0_1, .slice (some ad164) l0_2.length c0_2] 25 (0, 0))) := ⟨by (with_reducible repeat (first | refine blk_drewN ?_ _ | refine blk_drew ?_ | refine blk_alloc ?_ _)); refine blk_far ?_ NB162_165.out _; (with_reducible repeat (first | refine blk_drewN ?_ _ | refine blk_drew ?_ | refine blk_alloc ?_ _)); refine blk_far ?_ NB162_165.out _; (with_reducible repeat (first | refine blk_drewN ?_ _ | refine blk_drew ?_ | refine blk_alloc ?_ _)); refine blk_far ?_ NB162_165.out _; (with_reducible repeat (first | refine blk_drewN ?_ _ | refine blk_drew ?_ | refine blk_alloc ?_ _)); refine blk_far ?_ NB162_165.out _; (with_reducible repeat (first | refine blk_drewN ?_ _ | refine blk_drew ?_ | refine blk_alloc ?_ _)); exact BK162.out⟩
               have n1_ : Aside0 (((((w15.setCell ⟨gb165, 0, none⟩ (.int .i64 ((rd_T104 l0_2 x3_2).f0.f0))).setCell ⟨gb165, 1, none⟩ (.int .i64 ((rd_T104 l0_2 x3_2).f0.f1))).setCell ⟨gb165, 2, none⟩ (.int .i64 ((rd_T104 l0_2 x3_2).f1))).setCell ⟨gb165, 3, none⟩ (.int .i64 ((rd_T104 l0_2 x3_2).f2))).heap[gb165]? = some (.cells #[.int .i64 ((rd_T104 l0_2 x3_2).f0.f0), .int .i64 ((rd_T104 l0_2 x3_2).f0.f1), .int .i64 ((rd_T104 l0_2 x3_2).f1), .int .i64 ((rd_T104 l0_2 x3_2).f2)] 104 (0, 0))) := ⟨by (with_reducible repeat (first | refine blk_drewN ?_ _ | refine blk_drew ?_ | refine blk_alloc ?_ _)); refine blk_put (cs := #[.int .i64 ((rd_T104 l0_2 x3_2).f0.f0), .int .i64 ((rd_T104 l0_2 x3_2).f0.f1), .int .i64 ((rd_T104 l0_2 x3_2).f1), .int .i64 0]) ?_ 3 _ rfl; (with_reducible repeat (first | refine blk_drewN ?_ _ | refine blk_drew ?_ | refine blk_alloc ?_ _)); refine blk_put (cs := #[.int .i64 ((rd_T104 l0_2 x3_2).f0.f0), .int .i64 ((rd_T104 l0_2 x3_2).f0.f1), .int .i64 0, .int .i64 0]) ?_ 2 _ rfl; (with_reducible repeat (first | refine blk_drewN ?_ _ | refine blk_drew ?_ | refine blk_alloc ?_ _)); refine blk_put (cs := #[.int .i64 ((rd_T104 l0_2 x3_2).f0.f0), .int .i64 0, .int .i64 0, .int .i64 0]) ?_ 1 _ rfl; (with_reducible repeat (first | refine blk_drewN ?_ _ | refine blk_drew ?_ | refine blk_alloc ?_ _)); refine blk_put (cs := #[.int .i64 0, .int .i64 0, .int .i64 0, .int .i64 0]) ?_ 0 _ rfl; (with_reducible repeat (first | refine blk_drewN ?_ _ | refine blk_drew ?_ | refine blk_alloc ?_ _)); exact BK165.out⟩
               have n2_ : Aside0 (Below w.heap.size w ((((w15.setCell ⟨gb165, 0, none⟩ (.int .i64 ((rd_T104 l0_2 x3_2).f0.f0))).setCell ⟨gb165, 1, none⟩ (.int .i64 ((rd_T104 l0_2 x3_2).f0.f1))).setCell ⟨gb165, 2, none⟩ (.int .i64 ((rd_T104 l0_2 x3_2).f1))).setCell ⟨gb165, 3, none⟩ (.int .i64 ((rd_T104 l0_2 x3_2).f2)))) := ⟨by repeat (first | (with_reducible first | exact HB.out | apply below_alloc | apply pw_below_drewN | apply below_drew1 | refine below_set ?_ GE162.out | refine below_set ?_ GE165.out) | exact HB.out)⟩
               (try clear BK162)
               (try clear BK165)
               (try clear HB)
               generalize ((((w15.setCell ⟨gb165, 0, none⟩ (.int .i64 ((rd_T104 l0_2 x3_2).f0.f0))).setCell ⟨gb165, 1, none⟩ (.int .i64 ((rd_T104 l0_2 x3_2).f0.f1))).setCell ⟨gb165, 2, none⟩ (.int .i64 ((rd_T104 l0_2 x3_2).f1))).setCell ⟨gb165, 3, none⟩ (.int .i64 ((rd_T104 l0_2 x3_2).f2))) = w38 at n0_ n1_ n2_ ⊢
               have BK162 := n0_
               have BK165 := n1_
               have HB := n2_
               clear n0_ n1_ n2_
               have n0_ := Aside0.mk (blk_drew BK162.out)
               have n1_ := Aside0.mk (blk_drew BK165.out)
               have n2_ := Aside0.mk (below_drew1 HB.out)
               clear BK162
               clear BK165
               clear HB
               have BK162 := n0_
               have BK165 := n1_
               have HB := n2_
               clear n0_ n1_ n2_
               refine start_ (n := 48) (S := fun w' => w'.cell? ⟨gb165, 0, none⟩ = some (.int .i64 ((rd_T104 l0_2 x3_2).f0.f0)) ∧ w'.cell? ⟨gb165, 1, none⟩ = some (.int .i64 ((rd_T104 l0_2 x3_2).f0.f1)) ∧ w'.cell? ⟨gb165, 2, none⟩ = some (.int .i64 ((rd_T104 l0_2 x3_2).f1)) ∧ w'.cell? ⟨gb165, 3, none⟩ = some (.int .i64 ((rd_T104 l0_2 x3_2).f2))) (ds := []) #[false, false, false, false, false, false, false, false, false, false, false, false, false, false, false, false, false, false, false, false, false, false, false, false, false, false, false, false, false, false, false, false, false, false, false, false, false, false, false, false, false, false, false, false, false, false, false, false] (by kernel_rfl) rfl rfl ⟨(blk_cell BK165.out 0).trans rfl, (blk_cell BK165.out 1).trans rfl, (blk_cell BK165.out 2).trans rfl, (blk_cell BK165.out 3).trans rfl⟩ (fun hHeld => ?_); refine with_tabW spec_CertOk.tab7 spec_CertOk.bits7 (fun HT_ HW_ => ?_)
               generalize w38.drew = w39 at BK162 BK165 HB hHeld ⊢
               refine pu_ (i := 0) (N := some 31) (v := ?_) (a' := ?_) rfl rfl (any_of HT_.out (by kernel_rfl)) (fun _ _ _ h => h) (Or.inl ⟨by rfl, ?_⟩) ?_ ?_; rotate_left; (· (intro w'; go_simp; with_reducible rfl)); rotate_left; (· (simp only [Act.put, sA_, sZ_, sS_, i64_w, i32_w]; rfl))
               refine ta_ (i := 1) (N := some 32) (v := ?_) (a' := ?_) rfl rfl (take_ofW HT_.out HW_.out (by kernel_rfl)) (fun _ _ _ h => h) (Or.inl ⟨by rfl, ?_⟩) hHeld ?_ ?_
               rotate_left
               ·rintro w' ⟨s0, s1, s2, s3⟩
                go_simp
                with_reducible rfl
               rotate_left; (· (simp only [Act.put, sA_, sZ_, sS_, i64_w, i32_w]; rfl))
               refine on_ (i := 2) (N := some 33) rfl rfl (one_of HT_.out (by kernel_rfl)) (by decide) (fun K hK => ?_)
               refine goes_ Try.func90 (by kernel_rfl) rfl #[.agg #[.int .i64 ((rd_T104 l0_2 x3_2).f0.f0), .int .i64 ((rd_T104 l0_2 x3_2).f0.f1)]] (by rfl) rfl rfl (by (try simp only [List.map_toArray, List.map_cons, List.map_nil]); first | done | rfl | (simp only [List.length_drop, List.length_take]; rfl)) ?_
               with_reducible refine (spec_l5Req.calls ((rd_T104 l0_2 x3_2).f0.f0) ((rd_T104 l0_2 x3_2).f0.f1) true _ A18.out).mono ?_
               rintro e w40 ⟨rfl, hb⟩
               refine ⟨_, rfl, ?_⟩
               have n0_ := Aside0.mk (blk_below (g := gb162) (o := .cells #[.int .i64 a0_0, .slice A0_1 l0_1.length c0_1, .slice (some ad164) l0_2.length c0_2] 25 (0, 0)) (by (with_reducible repeat (first | refine blk_drewN ?_ _ | refine blk_drew ?_ | refine blk_alloc ?_ _)); exact BK162.out) hb)
               have n1_ := Aside0.mk (blk_below (g := gb165) (o := .cells #[.int .i64 ((rd_T104 l0_2 x3_2).f0.f0), .int .i64 ((rd_T104 l0_2 x3_2).f0.f1), .int .i64 ((rd_T104 l0_2 x3_2).f1), .int .i64 ((rd_T104 l0_2 x3_2).f2)] 104 (0, 0)) (by (with_reducible repeat (first | refine blk_drewN ?_ _ | refine blk_drew ?_ | refine blk_alloc ?_ _)); exact BK165.out) hb)
               have n2_ := Aside0.mk (below_step (by repeat (first | (with_reducible first | exact HB.out | apply below_alloc | apply pw_below_drewN | apply below_drew1 | refine below_set ?_ GE162.out | refine below_set ?_ GE165.out) | exact HB.out)) hb)
               clear BK162
               clear BK165
               clear HB
               have BK162 := n0_
               have BK165 := n1_
               have HB := n2_
               clear n0_ n1_ n2_
               (try clear hb)
               (try clear hb2)
               (try clear hk)
               (try clear hi)
               refine hK.out _ _ ⟨(blk_cell BK165.out 0).trans rfl, (blk_cell BK165.out 1).trans rfl, (blk_cell BK165.out 2).trans rfl, (blk_cell BK165.out 3).trans rfl⟩ (fun hHeld => ?_)
               clear hK K
               refine norm_ (a' := ?_) ?_ ?_
               rotate_left
               ·show Act.put _ (some 33) _ = _
                simp only [Act.put, sA_, sZ_, sS_, i64_w, i32_w]
                rfl
               refine pu_ (i := 3) (N := some 34) (v := ?_) (a' := ?_) rfl rfl (any_of HT_.out (by kernel_rfl)) (fun _ _ _ h => h) (Or.inl ⟨by rfl, ?_⟩) ?_ ?_; rotate_left; (· (intro w'; go_simp; with_reducible rfl)); rotate_left; (· (simp only [Act.put, sA_, sZ_, sS_, i64_w, i32_w]; rfl))
               refine pu_ (i := 4) (N := some 35) (v := ?_) (a' := ?_) rfl rfl (any_of HT_.out (by kernel_rfl)) (fun _ _ _ h => h) (Or.inl ⟨by rfl, ?_⟩) ?_ ?_; rotate_left; (· (intro w'; go_simp; with_reducible rfl))
               rotate_left; (· (simp only [Act.put, sA_, sZ_, sS_, i64_w, i32_w]; rfl))
               refine pu_ (i := 5) (N := some 36) (v := ?_) (a' := ?_) rfl rfl (any_of HT_.out (by kernel_rfl)) (fun _ _ _ h => h) (Or.inl ⟨by rfl, ?_⟩) ?_ ?_; rotate_left; (· (intro w'; go_simp; with_reducible rfl)); rotate_left; (· (simp only [Act.put, sA_, sZ_, sS_, i64_w, i32_w]; rfl))
               refine ta_ (i := 6) (N := some 37) (v := ?_) (a' := ?_) rfl rfl (take_ofW HT_.out HW_.out (by kernel_rfl)) (fun _ _ _ h => h) (Or.inl ⟨by rfl, ?_⟩) hHeld ?_ ?_
               rotate_left
               ·rintro w' ⟨s0, s1, s2, s3⟩
                go_simp
                with_reducible rfl
               rotate_left; (· (simp only [Act.put, sA_, sZ_, sS_, i64_w, i32_w]; rfl))
               refine pu_ (i := 7) (N := some 38) (v := ?_) (a' := ?_) rfl rfl (any_of HT_.out (by kernel_rfl)) (fun _ _ _ h => h) (Or.inl ⟨by rfl, ?_⟩) ?_ ?_; rotate_left; (· (intro w'; go_simp; with_reducible rfl)); rotate_left; (· (simp only [Act.put, sA_, sZ_, sS_, i64_w, i32_w]; rfl))
               refine pu_ (i := 8) (N := some 39) (v := ?_) (a' := ?_) rfl rfl (any_of HT_.out (by kernel_rfl)) (fun _ _ _ h => h) (Or.inl ⟨by rfl, ?_⟩) ?_ ?_; rotate_left; (· (intro w'; go_simp; with_reducible rfl))
               rotate_left; (· (simp only [Act.put, sA_, sZ_, sS_, i64_w, i32_w]; rfl))
               refine pu_ (i := 9) (N := some 40) (v := ?_) (a' := ?_) rfl rfl (any_of HT_.out (by kernel_rfl)) (fun _ _ _ h => h) (Or.inl ⟨by rfl, ?_⟩) ?_ ?_; rotate_left; (· (intro w'; go_simp; with_reducible rfl)); rotate_left; (· (simp only [Act.put, sA_, sZ_, sS_, i64_w, i32_w]; rfl))
               refine pu_ (i := 10) (N := some 41) (v := ?_) (a' := ?_) rfl rfl (any_of HT_.out (by kernel_rfl)) (fun _ _ _ h => h) (Or.inl ⟨by rfl, ?_⟩) ?_ ?_; rotate_left; (· (intro w'; go_simp; with_reducible rfl))
               rotate_left; (· (simp only [Act.put, sA_, sZ_, sS_, i64_w, i32_w]; rfl))
               refine ta_ (i := 11) (N := some 42) (v := ?_) (a' := ?_) rfl rfl (take_ofW HT_.out HW_.out (by kernel_rfl)) (fun _ _ _ h => h) (Or.inl ⟨by rfl, ?_⟩) hHeld ?_ ?_
               rotate_left
               ·rintro w' ⟨s0, s1, s2, s3⟩
                go_simp
                with_reducible rfl
               rotate_left; (· (simp only [Act.put, sA_, sZ_, sS_, i64_w, i32_w]; rfl))
               refine pu_ (i := 12) (N := some 43) (v := ?_) (a' := ?_) rfl rfl (any_of HT_.out (by kernel_rfl)) (fun _ _ _ h => h) (Or.inl ⟨by rfl, ?_⟩) ?_ ?_; rotate_left; (· (intro w'; go_simp; with_reducible rfl)); rotate_left; (· (simp only [Act.put, sA_, sZ_, sS_, i64_w, i32_w]; rfl))
               refine pu_ (i := 13) (N := some 44) (v := ?_) (a' := ?_) rfl rfl (any_of HT_.out (by kernel_rfl)) (fun _ _ _ h => h) (Or.inl ⟨by rfl, ?_⟩) ?_ ?_; rotate_left; (· (intro w'; go_simp; with_reducible rfl))
               rotate_left; (· (simp only [Act.put, sA_, sZ_, sS_, i64_w, i32_w]; rfl))
               refine pu_ (i := 14) (N := some 45) (v := ?_) (a' := ?_) rfl rfl (any_of HT_.out (by kernel_rfl)) (fun _ _ _ h => h) (Or.inl ⟨by rfl, ?_⟩) ?_ ?_; rotate_left; (· (intro w'; go_simp; with_reducible rfl)); rotate_left; (· (simp only [Act.put, sA_, sZ_, sS_, i64_w, i32_w]; rfl))
               refine pu_ (i := 15) (N := some 46) (v := ?_) (a' := ?_) rfl rfl (any_of HT_.out (by kernel_rfl)) (fun _ _ _ h => h) (Or.inl ⟨by rfl, ?_⟩) ?_ ?_; rotate_left; (· (intro w'; go_simp; with_reducible rfl))
               rotate_left; (· (simp only [Act.put, sA_, sZ_, sS_, i64_w, i32_w]; rfl))
               refine ta_ (i := 16) (N := some 47) (v := ?_) (a' := ?_) rfl rfl (take_ofW HT_.out HW_.out (by kernel_rfl)) (fun _ _ _ h => h) (Or.inl ⟨by rfl, ?_⟩) hHeld ?_ ?_
               rotate_left
               ·rintro w' ⟨s0, s1, s2, s3⟩
                go_simp
                with_reducible rfl
               rotate_left; (· (simp only [Act.put, sA_, sZ_, sS_, i64_w, i32_w]; rfl))
               refine on_ (i := 17) (N := some 48) rfl rfl (one_of HT_.out (by kernel_rfl)) (by decide) (fun K hK => ?_)
               refine goes_ Try.func82 (by kernel_rfl) rfl #[.int .i64 ((rd_T104 l0_2 x3_2).f2)] (by rfl) rfl rfl (by (try simp only [List.map_toArray, List.map_cons, List.map_nil]); first | done | rfl | (simp only [List.length_drop, List.length_take]; rfl)) ?_
               with_reducible refine (spec_l1Num.calls ((rd_T104 l0_2 x3_2).f2) true _ A28.out).mono ?_
               rintro e w' ⟨rfl, ⟨nd, rfl⟩⟩
               refine ⟨_, rfl, ?_⟩
               refine hK.out _ _ ⟨(blk_cell BK165.out 0).trans rfl, (blk_cell BK165.out 1).trans rfl, (blk_cell BK165.out 2).trans rfl, (blk_cell BK165.out 3).trans rfl⟩ (fun hHeld => ?_)
               clear hK K
               refine norm_ (a' := ?_) ?_ ?_
               rotate_left
               ·show Act.put _ (some 48) _ = _
                simp only [Act.put, sA_, sZ_, sS_, i64_w, i32_w]
                rfl
               refine pu_ (i := 18) (N := some 49) (v := ?_) (a' := ?_) rfl rfl (any_of HT_.out (by kernel_rfl)) (fun _ _ _ h => h) (Or.inl ⟨by rfl, ?_⟩) ?_ ?_; rotate_left; (· (intro w'; go_simp; with_reducible rfl)); rotate_left; (· (simp only [Act.put, sA_, sZ_, sS_, i64_w, i32_w]; rfl))
               refine pu_ (i := 19) (N := some 50) (v := ?_) (a' := ?_) rfl rfl (any_of HT_.out (by kernel_rfl)) (fun _ _ _ h => h) (Or.inl ⟨by rfl, ?_⟩) ?_ ?_; rotate_left; (· (intro w'; go_simp; with_reducible rfl))
               rotate_left; (· (simp only [Act.put, sA_, sZ_, sS_, i64_w, i32_w]; rfl))
               refine pu_ (i := 20) (N := some 51) (v := ?_) (a' := ?_) rfl rfl (any_of HT_.out (by kernel_rfl)) (fun _ _ _ h => h) (Or.inl ⟨by rfl, ?_⟩) ?_ ?_; rotate_left; (· (intro w'; go_simp; with_reducible rfl)); rotate_left; (· (simp only [Act.put, sA_, sZ_, sS_, i64_w, i32_w]; rfl))
               refine pu_ (i := 21) (N := some 52) (v := ?_) (a' := ?_) rfl rfl (any_of HT_.out (by kernel_rfl)) (fun _ _ _ h => h) (Or.inl ⟨by rfl, ?_⟩) ?_ ?_; rotate_left; (· (intro w'; go_simp; with_reducible rfl))
               rotate_left; (· (simp only [Act.put, sA_, sZ_, sS_, i64_w, i32_w]; rfl))
               refine ta_ (i := 22) (N := some 53) (v := ?_) (a' := ?_) rfl rfl (take_ofW HT_.out HW_.out (by kernel_rfl)) (fun _ _ _ h => h) (Or.inl ⟨by rfl, ?_⟩) hHeld ?_ ?_
               rotate_left
               ·rintro w' ⟨s0, s1, s2, s3⟩
                go_simp
                with_reducible rfl
               rotate_left; (· (simp only [Act.put, sA_, sZ_, sS_, i64_w, i32_w]; rfl))
               refine pu_ (i := 23) (N := some 54) (v := ?_) (a' := ?_) rfl rfl (any_of HT_.out (by kernel_rfl)) (fun _ _ _ h => h) (Or.inl ⟨by rfl, ?_⟩) ?_ ?_; rotate_left; (· (intro w'; go_simp; with_reducible rfl)); rotate_left; (· (simp only [Act.put, sA_, sZ_, sS_, i64_w, i32_w]; rfl))
               refine pu_ (i := 24) (N := some 55) (v := ?_) (a' := ?_) rfl rfl (any_of HT_.out (by kernel_rfl)) (fun _ _ _ h => h) (Or.inl ⟨by rfl, ?_⟩) ?_ ?_; rotate_left; (· (intro w'; go_simp; with_reducible rfl))
               rotate_left; (· (simp only [Act.put, sA_, sZ_, sS_, i64_w, i32_w]; rfl))
               refine pu_ (i := 25) (N := some 56) (v := undef) (a' := ?_) rfl rfl (any_of HT_.out (by kernel_rfl)) (fun _ _ _ h => h) (Or.inr ⟨by rfl, rfl⟩) ?_ ?_; rotate_left; (· (simp only [Act.put, sA_, sZ_, sS_, i64_w, i32_w]; rfl))
               refine pu_ (i := 26) (N := some 57) (v := undef) (a' := ?_) rfl rfl (any_of HT_.out (by kernel_rfl)) (fun _ _ _ h => h) (Or.inr ⟨by rfl, rfl⟩) ?_ ?_
               rotate_left; (· (simp only [Act.put, sA_, sZ_, sS_, i64_w, i32_w]; rfl))
               refine pu_ (i := 27) (N := some 58) (v := undef) (a' := ?_) rfl rfl (any_of HT_.out (by kernel_rfl)) (fun _ _ _ h => h) (Or.inr ⟨by rfl, rfl⟩) ?_ ?_; rotate_left; (· (simp only [Act.put, sA_, sZ_, sS_, i64_w, i32_w]; rfl))
               refine pu_ (i := 28) (N := some 59) (v := ?_) (a' := ?_) rfl rfl (any_of HT_.out (by kernel_rfl)) (fun _ _ _ h => h) (Or.inl ⟨by rfl, ?_⟩) ?_ ?_; rotate_left; (· (intro w'; go_simp; with_reducible rfl)); rotate_left; (· (simp only [Act.put, sA_, sZ_, sS_, i64_w, i32_w]; rfl))
               refine pu_ (i := 29) (N := some 60) (v := ?_) (a' := ?_) rfl rfl (any_of HT_.out (by kernel_rfl)) (fun _ _ _ h => h) (Or.inl ⟨by rfl, ?_⟩) ?_ ?_; rotate_left; (· (intro w'; go_simp; with_reducible rfl))
               rotate_left; (· (simp only [Act.put, sA_, sZ_, sS_, i64_w, i32_w]; rfl))
               refine pu_ (i := 30) (N := some 61) (v := ?_) (a' := ?_) rfl rfl (any_of HT_.out (by kernel_rfl)) (fun _ _ _ h => h) (Or.inl ⟨by rfl, ?_⟩) ?_ ?_; rotate_left; (· (intro w'; go_simp; with_reducible rfl)); rotate_left; (· (simp only [Act.put, sA_, sZ_, sS_, i64_w, i32_w]; rfl))
               refine pu_ (i := 31) (N := some 62) (v := ?_) (a' := ?_) rfl rfl (any_of HT_.out (by kernel_rfl)) (fun _ _ _ h => h) (Or.inl ⟨by rfl, ?_⟩) ?_ ?_; rotate_left; (· (intro w'; go_simp; with_reducible rfl))
               rotate_left; (· (simp only [Act.put, sA_, sZ_, sS_, i64_w, i32_w]; rfl))
               refine pu_ (i := 32) (N := some 63) (v := ?_) (a' := ?_) rfl rfl (any_of HT_.out (by kernel_rfl)) (fun _ _ _ h => h) (Or.inl ⟨by rfl, ?_⟩) ?_ ?_; rotate_left; (· (intro w'; go_simp; with_reducible rfl)); rotate_left; (· (simp only [Act.put, sA_, sZ_, sS_, i64_w, i32_w]; rfl))
               refine pu_ (i := 33) (N := some 64) (v := ?_) (a' := ?_) rfl rfl (any_of HT_.out (by kernel_rfl)) (fun _ _ _ h => h) (Or.inl ⟨by rfl, ?_⟩) ?_ ?_; rotate_left; (· (intro w'; go_simp; with_reducible rfl))
               rotate_left; (· (simp only [Act.put, sA_, sZ_, sS_, i64_w, i32_w]; rfl))
               refine pu_ (i := 34) (N := some 65) (v := undef) (a' := ?_) rfl rfl (any_of HT_.out (by kernel_rfl)) (fun _ _ _ h => h) (Or.inr ⟨by rfl, rfl⟩) ?_ ?_; rotate_left; (· (simp only [Act.put, sA_, sZ_, sS_, i64_w, i32_w]; rfl))
               refine pu_ (i := 35) (N := some 66) (v := undef) (a' := ?_) rfl rfl (any_of HT_.out (by kernel_rfl)) (fun _ _ _ h => h) (Or.inr ⟨by rfl, rfl⟩) ?_ ?_
               rotate_left; (· (simp only [Act.put, sA_, sZ_, sS_, i64_w, i32_w]; rfl))
               refine pu_ (i := 36) (N := some 67) (v := undef) (a' := ?_) rfl rfl (any_of HT_.out (by kernel_rfl)) (fun _ _ _ h => h) (Or.inr ⟨by rfl, rfl⟩) ?_ ?_; rotate_left; (· (simp only [Act.put, sA_, sZ_, sS_, i64_w, i32_w]; rfl))
               refine pu_ (i := 37) (N := some 68) (v := undef) (a' := ?_) rfl rfl (any_of HT_.out (by kernel_rfl)) (fun _ _ _ h => h) (Or.inr ⟨by rfl, rfl⟩) ?_ ?_
               rotate_left; (· (simp only [Act.put, sA_, sZ_, sS_, i64_w, i32_w]; rfl))
               refine pu_ (i := 38) (N := some 69) (v := undef) (a' := ?_) rfl rfl (any_of HT_.out (by kernel_rfl)) (fun _ _ _ h => h) (Or.inr ⟨by rfl, rfl⟩) ?_ ?_; rotate_left; (· (simp only [Act.put, sA_, sZ_, sS_, i64_w, i32_w]; rfl))
               refine pu_ (i := 39) (N := some 70) (v := undef) (a' := ?_) rfl rfl (any_of HT_.out (by kernel_rfl)) (fun _ _ _ h => h) (Or.inr ⟨by rfl, rfl⟩) ?_ ?_
               rotate_left; (· (simp only [Act.put, sA_, sZ_, sS_, i64_w, i32_w]; rfl))
               refine pu_ (i := 40) (N := some 71) (v := undef) (a' := ?_) rfl rfl (any_of HT_.out (by kernel_rfl)) (fun _ _ _ h => h) (Or.inr ⟨by rfl, rfl⟩) ?_ ?_; rotate_left; (· (simp only [Act.put, sA_, sZ_, sS_, i64_w, i32_w]; rfl))
               refine pu_ (i := 41) (N := some 72) (v := undef) (a' := ?_) rfl rfl (any_of HT_.out (by kernel_rfl)) (fun _ _ _ h => h) (Or.inr ⟨by rfl, rfl⟩) ?_ ?_
               rotate_left; (· (simp only [Act.put, sA_, sZ_, sS_, i64_w, i32_w]; rfl))
               refine pu_ (i := 42) (N := some 73) (v := undef) (a' := ?_) rfl rfl (any_of HT_.out (by kernel_rfl)) (fun _ _ _ h => h) (Or.inr ⟨by rfl, rfl⟩) ?_ ?_; rotate_left; (· (simp only [Act.put, sA_, sZ_, sS_, i64_w, i32_w]; rfl))
               refine pu_ (i := 43) (N := some 74) (v := undef) (a' := ?_) rfl rfl (any_of HT_.out (by kernel_rfl)) (fun _ _ _ h => h) (Or.inr ⟨by rfl, rfl⟩) ?_ ?_
               rotate_left; (· (simp only [Act.put, sA_, sZ_, sS_, i64_w, i32_w]; rfl))
               refine pu_ (i := 44) (N := some 75) (v := undef) (a' := ?_) rfl rfl (any_of HT_.out (by kernel_rfl)) (fun _ _ _ h => h) (Or.inr ⟨by rfl, rfl⟩) ?_ ?_; rotate_left; (· (simp only [Act.put, sA_, sZ_, sS_, i64_w, i32_w]; rfl))
               refine pu_ (i := 45) (N := some 76) (v := undef) (a' := ?_) rfl rfl (any_of HT_.out (by kernel_rfl)) (fun _ _ _ h => h) (Or.inr ⟨by rfl, rfl⟩) ?_ ?_
               rotate_left; (· (simp only [Act.put, sA_, sZ_, sS_, i64_w, i32_w]; rfl))
               refine pu_ (i := 46) (N := some 77) (v := ?_) (a' := ?_) rfl rfl (any_of HT_.out (by kernel_rfl)) (fun _ _ _ h => h) (Or.inl ⟨by rfl, ?_⟩) ?_ ?_; rotate_left; (· (intro w'; go_simp; with_reducible rfl)); rotate_left; (· (simp only [Act.put, sA_, sZ_, sS_, i64_w, i32_w]; rfl))
               refine pu_ (i := 47) (N := some 78) (v := ?_) (a' := ?_) rfl rfl (any_of HT_.out (by kernel_rfl)) (fun _ _ _ h => h) (Or.inl ⟨by rfl, ?_⟩) ?_ ?_; rotate_left; (· (intro w'; go_simp; with_reducible rfl))
               rotate_left; (· (simp only [Act.put, sA_, sZ_, sS_, i64_w, i32_w]; rfl))
               refine done_ (done_of HT_.out (by kernel_rfl)) ?_
               try go_wp2
               go_meet
               case rel => exact ⟨_, (false), (by first | rfl | (simp; done) | (simp [*]; done)), H', ⟨by have := HJ1.out; have := HK2.out; first | omega | exact Nat.le_refl _⟩, ⟨by (with_reducible repeat (first | refine blk_drewN ?_ _ | refine blk_drew ?_ | refine blk_alloc ?_ _)); exact BK162.out⟩, ⟨by (with_reducible repeat (first | refine blk_drewN ?_ _ | refine blk_drew ?_ | refine blk_alloc ?_ _)); exact BK165.out⟩, ⟨by repeat (first | (with_reducible first | exact HB.out | apply below_alloc | apply pw_below_drewN | apply below_drew1 | refine below_set ?_ GE162.out | refine below_set ?_ GE165.out) | exact HB.out)⟩⟩
             ·rw [if_neg c30] at H
              have c30b0 : (((rd_T104 l0_2 x3_2).f1) == 0) = false := beq_eq_false_iff_ne.mpr c30
              have c30b1 : (((rd_T104 l0_2 x3_2).f1) != 0) = true := bne_iff_ne.mpr c30
              by_cases c41 : ((rd_T104 l0_2 x3_2).f2) = 0
              ·rw [if_pos c41] at H
               have c41b0 : (((rd_T104 l0_2 x3_2).f2) == 0) = true := beq_iff_eq.mpr c41
               have c41b1 : (((rd_T104 l0_2 x3_2).f2) != 0) = false := bne_eq_false_iff_eq.mpr c41
               clear c41
               by_cases c42 : x3_2 > 0
               ·rw [if_pos c42] at H
                have c42b0 : decide (0 < x3_2) = true := decide_eq_true c42
                clear c42
                obtain ⟨ji43, hji43⟩ : ∃ j_ : Int, (wrap64 (x3_2 - 1)) = j_ := ⟨_, rfl⟩
                replace H : (if 0 ≤ (ji43) then (if (ji43) < (l0_2.length : Int) then (spec_CertOk.j2 k2 x3_2 (decide (((rd_T104 l0_2 x3_2).f0.f0) ≤ ((rd_T104 l0_2 (ji43)).f0.f0))) a0_0 l0_1 l0_2) else (none)) else (none)) = some r := by first | (rw [hji43] at H; exact H) | (simp only [hji43] at H ⊢; exact H)
                (try rw [hji43] at A18)
                (try rw [hji43] at A28)
                have hji43w : (IntKind.i64.wrap (x3_2 - 1)) = ji43 := (i64_w _).trans hji43
                by_cases c44 : 0 ≤ (ji43)
                ·rw [if_pos c44] at H
                 have c44b0 : decide (0 ≤ (ji43)) = true := decide_eq_true c44
                 clear c44
                 by_cases c45 : (ji43) < (l0_2.length : Int)
                 ·rw [if_pos c45] at H
                  have c45b0 : decide ((ji43) < (l0_2.length : Int)) = true := decide_eq_true c45
                  clear c45
                  have H' := Aside0.mk H
                  clear H
                  try go_wp2
                  have n0_ : Aside0 (((((w15.setCell ⟨gb165, 0, none⟩ (.int .i64 ((rd_T104 l0_2 x3_2).f0.f0))).setCell ⟨gb165, 1, none⟩ (.int .i64 ((rd_T104 l0_2 x3_2).f0.f1))).setCell ⟨gb165, 2, none⟩ (.int .i64 ((rd_T104 l0_2 x3_2).f1))).setCell ⟨gb165, 3, none⟩ (.int .i64 ((rd_T104 l0_2 x3_2).f2))).heap[gb162]? = some (.cells #[.int .i64 a0_0, .slice A0_1 l0_1.length c0_1, .slice (some ad164) l0_2.length c0_2] 25 (0, 0))) := ⟨by (with_reducible repeat (first | refine blk_drewN ?_ _ | refine blk_drew ?_ | refine blk_alloc ?_ _)); refine blk_far ?_ NB162_165.out _; (with_reducible repeat (first | refine blk_drewN ?_ _ | refine blk_drew ?_ | refine blk_alloc ?_ _)); refine blk_far ?_ NB162_165.out _; (with_reducible repeat (first | refine blk_drewN ?_ _ | refine blk_drew ?_ | refine blk_alloc ?_ _)); refine blk_far ?_ NB162_165.out _; (with_reducible repeat (first | refine blk_drewN ?_ _ | refine blk_drew ?_ | refine blk_alloc ?_ _)); refine blk_far ?_ NB162_165.out _; (with_reducible repeat (first | refine blk_drewN ?_ _ | refine blk_drew ?_ | refine blk_alloc ?_ _)); exact BK162.out⟩
                  have n1_ : Aside0 (((((w15.setCell ⟨gb165, 0, none⟩ (.int .i64 ((rd_T104 l0_2 x3_2).f0.f0))).setCell ⟨gb165, 1, none⟩ (.int .i64 ((rd_T104 l0_2 x3_2).f0.f1))).setCell ⟨gb165, 2, none⟩ (.int .i64 ((rd_T104 l0_2 x3_2).f1))).setCell ⟨gb165, 3, none⟩ (.int .i64 ((rd_T104 l0_2 x3_2).f2))).heap[gb165]? = some (.cells #[.int .i64 ((rd_T104 l0_2 x3_2).f0.f0), .int .i64 ((rd_T104 l0_2 x3_2).f0.f1), .int .i64 ((rd_T104 l0_2 x3_2).f1), .int .i64 ((rd_T104 l0_2 x3_2).f2)] 104 (0, 0))) := ⟨by (with_reducible repeat (first | refine blk_drewN ?_ _ | refine blk_drew ?_ | refine blk_alloc ?_ _)); refine blk_put (cs := #[.int .i64 ((rd_T104 l0_2 x3_2).f0.f0), .int .i64 ((rd_T104 l0_2 x3_2).f0.f1), .int .i64 ((rd_T104 l0_2 x3_2).f1), .int .i64 0]) ?_ 3 _ rfl; (with_reducible repeat (first | refine blk_drewN ?_ _ | refine blk_drew ?_ | refine blk_alloc ?_ _)); refine blk_put (cs := #[.int .i64 ((rd_T104 l0_2 x3_2).f0.f0), .int .i64 ((rd_T104 l0_2 x3_2).f0.f1), .int .i64 0, .int .i64 0]) ?_ 2 _ rfl; (with_reducible repeat (first | refine blk_drewN ?_ _ | refine blk_drew ?_ | refine blk_alloc ?_ _)); refine blk_put (cs := #[.int .i64 ((rd_T104 l0_2 x3_2).f0.f0), .int .i64 0, .int .i64 0, .int .i64 0]) ?_ 1 _ rfl; (with_reducible repeat (first | refine blk_drewN ?_ _ | refine blk_drew ?_ | refine blk_alloc ?_ _)); refine blk_put (cs := #[.int .i64 0, .int .i64 0, .int .i64 0, .int .i64 0]) ?_ 0 _ rfl; (with_reducible repeat (first | refine blk_drewN ?_ _ | refine blk_drew ?_ | refine blk_alloc ?_ _)); exact BK165.out⟩
                  have n2_ : Aside0 (Below w.heap.size w ((((w15.setCell ⟨gb165, 0, none⟩ (.int .i64 ((rd_T104 l0_2 x3_2).f0.f0))).setCell ⟨gb165, 1, none⟩ (.int .i64 ((rd_T104 l0_2 x3_2).f0.f1))).setCell ⟨gb165, 2, none⟩ (.int .i64 ((rd_T104 l0_2 x3_2).f1))).setCell ⟨gb165, 3, none⟩ (.int .i64 ((rd_T104 l0_2 x3_2).f2)))) := ⟨by repeat (first | (with_reducible first | exact HB.out | apply below_alloc | apply pw_below_drewN | apply below_drew1 | refine below_set ?_ GE162.out | refine below_set ?_ GE165.out) | exact HB.out)⟩
                  (try clear BK162)
                  (try clear BK165)
                  (try clear HB)
                  generalize ((((w15.setCell ⟨gb165, 0, none⟩ (.int .i64 ((rd_T104 l0_2 x3_2).f0.f0))).setCell ⟨gb165, 1, none⟩ (.int .i64 ((rd_T104 l0_2 x3_2).f0.f1))).setCell ⟨gb165, 2, none⟩ (.int .i64 ((rd_T104 l0_2 x3_2).f1))).setCell ⟨gb165, 3, none⟩ (.int .i64 ((rd_T104 l0_2 x3_2).f2))) = w46 at n0_ n1_ n2_ ⊢
                  have BK162 := n0_
                  have BK165 := n1_
                  have HB := n2_
                  clear n0_ n1_ n2_
                  have n0_ := Aside0.mk (blk_drew BK162.out)
                  have n1_ := Aside0.mk (blk_drew BK165.out)
                  have n2_ := Aside0.mk (below_drew1 HB.out)
                  clear BK162
                  clear BK165
                  clear HB
                  have BK162 := n0_
                  have BK165 := n1_
                  have HB := n2_
                  clear n0_ n1_ n2_
                  have p169 : 0 ≤ ((ji43) : Int) := of_decide_eq_true (by first | (with_reducible assumption) | assumption)
                  have q169 : (ji43) < (l0_2.length : Int) := of_decide_eq_true (by first | (with_reducible assumption) | assumption)
                  obtain ⟨ad169, e169, hx169_0, hx169_1, hx169_2, hx169_3⟩ := at_T104 HR0_2.out (ji43) p169 q169
                  have hw169_3 := hx169_3
                  have hw169_2 := hx169_2
                  have hw169_1 := hx169_1
                  have hw169_0 := hx169_0
                  obtain rfl : ad164 = ad169 := (by injection e169)
                  replace hx169_0 := (HB.out.cell (World.block_lt_of_cell? w _ hx169_0)).trans hx169_0
                  replace hx169_1 := (HB.out.cell (World.block_lt_of_cell? w _ hx169_1)).trans hx169_1
                  replace hx169_2 := (HB.out.cell (World.block_lt_of_cell? w _ hx169_2)).trans hx169_2
                  replace hx169_3 := (HB.out.cell (World.block_lt_of_cell? w _ hx169_3)).trans hx169_3
                  replace p169 := eq_true p169
                  replace q169 := eq_true q169
                  refine start_ (n := 48) (S := fun w' => w'.cell? ⟨gb165, 0, none⟩ = some (.int .i64 ((rd_T104 l0_2 x3_2).f0.f0)) ∧ w'.cell? ⟨gb165, 1, none⟩ = some (.int .i64 ((rd_T104 l0_2 x3_2).f0.f1)) ∧ w'.cell? ⟨gb165, 2, none⟩ = some (.int .i64 ((rd_T104 l0_2 x3_2).f1)) ∧ w'.cell? ⟨gb165, 3, none⟩ = some (.int .i64 ((rd_T104 l0_2 x3_2).f2)) ∧ w'.cell? ⟨gb162, 0, none⟩ = some (.int .i64 a0_0) ∧ w'.cell? ⟨gb162, 1, none⟩ = some (.slice A0_1 l0_1.length c0_1) ∧ w'.cell? ⟨gb162, 2, none⟩ = some (.slice (some ad164) l0_2.length c0_2) ∧ w'.cell? (ad164.add (((ji43)).toNat * 4)) = some (.int .i64 ((rd_T104 l0_2 (ji43)).f0.f0)) ∧ w'.cell? ⟨(ad164.add (((ji43)).toNat * 4)).block, (ad164.add (((ji43)).toNat * 4)).off + 1, none⟩ = some (.int .i64 ((rd_T104 l0_2 (ji43)).f0.f1)) ∧ w'.cell? ⟨(ad164.add (((ji43)).toNat * 4)).block, (ad164.add (((ji43)).toNat * 4)).off + 2, none⟩ = some (.int .i64 ((rd_T104 l0_2 (ji43)).f1)) ∧ w'.cell? ⟨(ad164.add (((ji43)).toNat * 4)).block, (ad164.add (((ji43)).toNat * 4)).off + 3, none⟩ = some (.int .i64 ((rd_T104 l0_2 (ji43)).f2))) (ds := []) #[false, false, false, false, false, false, false, false, false, false, false, false, false, false, false, false, false, false, false, false, false, false, false, false, false, false, false, false, false, false, false, false, false, false, false, false, false, false, false, false, false, false, false, false, false, false, false, false] (by kernel_rfl) rfl rfl ⟨(blk_cell BK165.out 0).trans rfl, (blk_cell BK165.out 1).trans rfl, (blk_cell BK165.out 2).trans rfl, (blk_cell BK165.out 3).trans rfl, (blk_cell BK162.out 0).trans rfl, (blk_cell BK162.out 1).trans rfl, (blk_cell BK162.out 2).trans rfl, ((HB.out.cell (World.block_lt_of_cell? w _ hw169_0)).trans hw169_0), ((HB.out.cell (World.block_lt_of_cell? w _ hw169_1)).trans hw169_1), ((HB.out.cell (World.block_lt_of_cell? w _ hw169_2)).trans hw169_2), ((HB.out.cell (World.block_lt_of_cell? w _ hw169_3)).trans hw169_3)⟩ (fun hHeld => ?_); refine with_tabW spec_CertOk.tab7 spec_CertOk.bits7 (fun HT_ HW_ => ?_)
                  generalize w46.drew = w47 at BK162 BK165 HB hx169_0 hx169_1 hx169_2 hx169_3 hHeld ⊢
                  refine pu_ (i := 0) (N := some 31) (v := ?_) (a' := ?_) rfl rfl (any_of HT_.out (by kernel_rfl)) (fun _ _ _ h => h) (Or.inl ⟨by rfl, ?_⟩) ?_ ?_; rotate_left; (· (intro w'; go_simp; with_reducible rfl)); rotate_left; (· (simp only [Act.put, sA_, sZ_, sS_, i64_w, i32_w]; rfl))
                  refine ta_ (i := 1) (N := some 32) (v := ?_) (a' := ?_) rfl rfl (take_ofW HT_.out HW_.out (by kernel_rfl)) (fun _ _ _ h => h) (Or.inl ⟨by rfl, ?_⟩) hHeld ?_ ?_
                  rotate_left
                  ·rintro w' ⟨s0, s1, s2, s3, s4, s5, s6, s7, s8, s9, s10⟩
                   go_simp
                   with_reducible rfl
                  rotate_left; (· (simp only [Act.put, sA_, sZ_, sS_, i64_w, i32_w]; rfl))
                  refine on_ (i := 2) (N := some 33) rfl rfl (one_of HT_.out (by kernel_rfl)) (by decide) (fun K hK => ?_)
                  refine goes_ Try.func90 (by kernel_rfl) rfl #[.agg #[.int .i64 ((rd_T104 l0_2 x3_2).f0.f0), .int .i64 ((rd_T104 l0_2 x3_2).f0.f1)]] (by rfl) rfl rfl (by (try simp only [List.map_toArray, List.map_cons, List.map_nil]); first | done | rfl | (simp only [List.length_drop, List.length_take]; rfl)) ?_
                  with_reducible refine (spec_l5Req.calls ((rd_T104 l0_2 x3_2).f0.f0) ((rd_T104 l0_2 x3_2).f0.f1) true _ A18.out).mono ?_
                  rintro e w48 ⟨rfl, hb⟩
                  refine ⟨_, rfl, ?_⟩
                  have n0_ := Aside0.mk (blk_below (g := gb162) (o := .cells #[.int .i64 a0_0, .slice A0_1 l0_1.length c0_1, .slice (some ad164) l0_2.length c0_2] 25 (0, 0)) (by (with_reducible repeat (first | refine blk_drewN ?_ _ | refine blk_drew ?_ | refine blk_alloc ?_ _)); exact BK162.out) hb)
                  have n1_ := Aside0.mk (blk_below (g := gb165) (o := .cells #[.int .i64 ((rd_T104 l0_2 x3_2).f0.f0), .int .i64 ((rd_T104 l0_2 x3_2).f0.f1), .int .i64 ((rd_T104 l0_2 x3_2).f1), .int .i64 ((rd_T104 l0_2 x3_2).f2)] 104 (0, 0)) (by (with_reducible repeat (first | refine blk_drewN ?_ _ | refine blk_drew ?_ | refine blk_alloc ?_ _)); exact BK165.out) hb)
                  have n2_ := Aside0.mk (below_step (by repeat (first | (with_reducible first | exact HB.out | apply below_alloc | apply pw_below_drewN | apply below_drew1 | refine below_set ?_ GE162.out | refine below_set ?_ GE165.out) | exact HB.out)) hb)
                  clear BK162
                  clear BK165
                  clear HB
                  have BK162 := n0_
                  have BK165 := n1_
                  have HB := n2_
                  clear n0_ n1_ n2_
                  (try clear hb)
                  (try clear hb2)
                  (try clear hk)
                  (try clear hi)
                  refine hK.out _ _ ⟨(blk_cell BK165.out 0).trans rfl, (blk_cell BK165.out 1).trans rfl, (blk_cell BK165.out 2).trans rfl, (blk_cell BK165.out 3).trans rfl, (blk_cell BK162.out 0).trans rfl, (blk_cell BK162.out 1).trans rfl, (blk_cell BK162.out 2).trans rfl, ((HB.out.cell (World.block_lt_of_cell? w _ hw169_0)).trans hw169_0), ((HB.out.cell (World.block_lt_of_cell? w _ hw169_1)).trans hw169_1), ((HB.out.cell (World.block_lt_of_cell? w _ hw169_2)).trans hw169_2), ((HB.out.cell (World.block_lt_of_cell? w _ hw169_3)).trans hw169_3)⟩ (fun hHeld => ?_)
                  clear hK K
                  refine norm_ (a' := ?_) ?_ ?_
                  rotate_left
                  ·show Act.put _ (some 33) _ = _
                   simp only [Act.put, sA_, sZ_, sS_, i64_w, i32_w]
                   rfl
                  refine pu_ (i := 3) (N := some 34) (v := ?_) (a' := ?_) rfl rfl (any_of HT_.out (by kernel_rfl)) (fun _ _ _ h => h) (Or.inl ⟨by rfl, ?_⟩) ?_ ?_; rotate_left; (· (intro w'; go_simp; with_reducible rfl)); rotate_left; (· (simp only [Act.put, sA_, sZ_, sS_, i64_w, i32_w]; rfl))
                  refine pu_ (i := 4) (N := some 35) (v := ?_) (a' := ?_) rfl rfl (any_of HT_.out (by kernel_rfl)) (fun _ _ _ h => h) (Or.inl ⟨by rfl, ?_⟩) ?_ ?_; rotate_left; (· (intro w'; go_simp; with_reducible rfl))
                  rotate_left; (· (simp only [Act.put, sA_, sZ_, sS_, i64_w, i32_w]; rfl))
                  refine pu_ (i := 5) (N := some 36) (v := ?_) (a' := ?_) rfl rfl (any_of HT_.out (by kernel_rfl)) (fun _ _ _ h => h) (Or.inl ⟨by rfl, ?_⟩) ?_ ?_; rotate_left; (· (intro w'; go_simp; with_reducible rfl)); rotate_left; (· (simp only [Act.put, sA_, sZ_, sS_, i64_w, i32_w]; rfl))
                  refine ta_ (i := 6) (N := some 37) (v := ?_) (a' := ?_) rfl rfl (take_ofW HT_.out HW_.out (by kernel_rfl)) (fun _ _ _ h => h) (Or.inl ⟨by rfl, ?_⟩) hHeld ?_ ?_
                  rotate_left
                  ·rintro w' ⟨s0, s1, s2, s3, s4, s5, s6, s7, s8, s9, s10⟩
                   go_simp
                   with_reducible rfl
                  rotate_left; (· (simp only [Act.put, sA_, sZ_, sS_, i64_w, i32_w]; rfl))
                  refine pu_ (i := 7) (N := some 38) (v := ?_) (a' := ?_) rfl rfl (any_of HT_.out (by kernel_rfl)) (fun _ _ _ h => h) (Or.inl ⟨by rfl, ?_⟩) ?_ ?_; rotate_left; (· (intro w'; go_simp; with_reducible rfl)); rotate_left; (· (simp only [Act.put, sA_, sZ_, sS_, i64_w, i32_w]; rfl))
                  refine pu_ (i := 8) (N := some 39) (v := ?_) (a' := ?_) rfl rfl (any_of HT_.out (by kernel_rfl)) (fun _ _ _ h => h) (Or.inl ⟨by rfl, ?_⟩) ?_ ?_; rotate_left; (· (intro w'; go_simp; with_reducible rfl))
                  rotate_left; (· (simp only [Act.put, sA_, sZ_, sS_, i64_w, i32_w]; rfl))
                  refine pu_ (i := 9) (N := some 40) (v := ?_) (a' := ?_) rfl rfl (any_of HT_.out (by kernel_rfl)) (fun _ _ _ h => h) (Or.inl ⟨by rfl, ?_⟩) ?_ ?_; rotate_left; (· (intro w'; go_simp; with_reducible rfl)); rotate_left; (· (simp only [Act.put, sA_, sZ_, sS_, i64_w, i32_w]; rfl))
                  refine pu_ (i := 10) (N := some 41) (v := ?_) (a' := ?_) rfl rfl (any_of HT_.out (by kernel_rfl)) (fun _ _ _ h => h) (Or.inl ⟨by rfl, ?_⟩) ?_ ?_; rotate_left; (· (intro w'; go_simp; with_reducible rfl))
                  rotate_left; (· (simp only [Act.put, sA_, sZ_, sS_, i64_w, i32_w]; rfl))
                  refine ta_ (i := 11) (N := some 42) (v := ?_) (a' := ?_) rfl rfl (take_ofW HT_.out HW_.out (by kernel_rfl)) (fun _ _ _ h => h) (Or.inl ⟨by rfl, ?_⟩) hHeld ?_ ?_
                  rotate_left
                  ·rintro w' ⟨s0, s1, s2, s3, s4, s5, s6, s7, s8, s9, s10⟩
                   go_simp
                   with_reducible rfl
                  rotate_left; (· (simp only [Act.put, sA_, sZ_, sS_, i64_w, i32_w]; rfl))
                  refine pu_ (i := 12) (N := some 43) (v := ?_) (a' := ?_) rfl rfl (any_of HT_.out (by kernel_rfl)) (fun _ _ _ h => h) (Or.inl ⟨by rfl, ?_⟩) ?_ ?_; rotate_left; (· (intro w'; go_simp; with_reducible rfl)); rotate_left; (· (simp only [Act.put, sA_, sZ_, sS_, i64_w, i32_w]; rfl))
                  refine pu_ (i := 13) (N := some 44) (v := ?_) (a' := ?_) rfl rfl (any_of HT_.out (by kernel_rfl)) (fun _ _ _ h => h) (Or.inl ⟨by rfl, ?_⟩) ?_ ?_; rotate_left; (· (intro w'; go_simp; with_reducible rfl))
                  rotate_left; (· (simp only [Act.put, sA_, sZ_, sS_, i64_w, i32_w]; rfl))
                  refine pu_ (i := 14) (N := some 45) (v := ?_) (a' := ?_) rfl rfl (any_of HT_.out (by kernel_rfl)) (fun _ _ _ h => h) (Or.inl ⟨by rfl, ?_⟩) ?_ ?_; rotate_left; (· (intro w'; go_simp; with_reducible rfl)); rotate_left; (· (simp only [Act.put, sA_, sZ_, sS_, i64_w, i32_w]; rfl))
                  refine pu_ (i := 15) (N := some 46) (v := ?_) (a' := ?_) rfl rfl (any_of HT_.out (by kernel_rfl)) (fun _ _ _ h => h) (Or.inl ⟨by rfl, ?_⟩) ?_ ?_; rotate_left; (· (intro w'; go_simp; with_reducible rfl))
                  rotate_left; (· (simp only [Act.put, sA_, sZ_, sS_, i64_w, i32_w]; rfl))
                  refine ta_ (i := 16) (N := some 47) (v := ?_) (a' := ?_) rfl rfl (take_ofW HT_.out HW_.out (by kernel_rfl)) (fun _ _ _ h => h) (Or.inl ⟨by rfl, ?_⟩) hHeld ?_ ?_
                  rotate_left
                  ·rintro w' ⟨s0, s1, s2, s3, s4, s5, s6, s7, s8, s9, s10⟩
                   go_simp
                   with_reducible rfl
                  rotate_left; (· (simp only [Act.put, sA_, sZ_, sS_, i64_w, i32_w]; rfl))
                  refine on_ (i := 17) (N := some 48) rfl rfl (one_of HT_.out (by kernel_rfl)) (by decide) (fun K hK => ?_)
                  refine goes_ Try.func82 (by kernel_rfl) rfl #[.int .i64 ((rd_T104 l0_2 x3_2).f2)] (by rfl) rfl rfl (by (try simp only [List.map_toArray, List.map_cons, List.map_nil]); first | done | rfl | (simp only [List.length_drop, List.length_take]; rfl)) ?_
                  with_reducible refine (spec_l1Num.calls ((rd_T104 l0_2 x3_2).f2) true _ A28.out).mono ?_
                  rintro e w' ⟨rfl, ⟨nd, rfl⟩⟩
                  refine ⟨_, rfl, ?_⟩
                  refine hK.out _ _ ⟨(blk_cell BK165.out 0).trans rfl, (blk_cell BK165.out 1).trans rfl, (blk_cell BK165.out 2).trans rfl, (blk_cell BK165.out 3).trans rfl, (blk_cell BK162.out 0).trans rfl, (blk_cell BK162.out 1).trans rfl, (blk_cell BK162.out 2).trans rfl, ((HB.out.cell (World.block_lt_of_cell? w _ hw169_0)).trans hw169_0), ((HB.out.cell (World.block_lt_of_cell? w _ hw169_1)).trans hw169_1), ((HB.out.cell (World.block_lt_of_cell? w _ hw169_2)).trans hw169_2), ((HB.out.cell (World.block_lt_of_cell? w _ hw169_3)).trans hw169_3)⟩ (fun hHeld => ?_)
                  clear hK K
                  refine norm_ (a' := ?_) ?_ ?_
                  rotate_left
                  ·show Act.put _ (some 48) _ = _
                   simp only [Act.put, sA_, sZ_, sS_, i64_w, i32_w]
                   rfl
                  refine pu_ (i := 18) (N := some 49) (v := ?_) (a' := ?_) rfl rfl (any_of HT_.out (by kernel_rfl)) (fun _ _ _ h => h) (Or.inl ⟨by rfl, ?_⟩) ?_ ?_; rotate_left; (· (intro w'; go_simp; with_reducible rfl)); rotate_left; (· (simp only [Act.put, sA_, sZ_, sS_, i64_w, i32_w]; rfl))
                  refine pu_ (i := 19) (N := some 50) (v := ?_) (a' := ?_) rfl rfl (any_of HT_.out (by kernel_rfl)) (fun _ _ _ h => h) (Or.inl ⟨by rfl, ?_⟩) ?_ ?_; rotate_left; (· (intro w'; go_simp; with_reducible rfl))
                  rotate_left; (· (simp only [Act.put, sA_, sZ_, sS_, i64_w, i32_w]; rfl))
                  refine pu_ (i := 20) (N := some 51) (v := ?_) (a' := ?_) rfl rfl (any_of HT_.out (by kernel_rfl)) (fun _ _ _ h => h) (Or.inl ⟨by rfl, ?_⟩) ?_ ?_; rotate_left; (· (intro w'; go_simp; with_reducible rfl)); rotate_left; (· (simp only [Act.put, sA_, sZ_, sS_, i64_w, i32_w]; rfl))
                  refine pu_ (i := 21) (N := some 52) (v := ?_) (a' := ?_) rfl rfl (any_of HT_.out (by kernel_rfl)) (fun _ _ _ h => h) (Or.inl ⟨by rfl, ?_⟩) ?_ ?_; rotate_left; (· (intro w'; go_simp; with_reducible rfl))
                  rotate_left; (· (simp only [Act.put, sA_, sZ_, sS_, i64_w, i32_w]; rfl))
                  refine ta_ (i := 22) (N := some 53) (v := ?_) (a' := ?_) rfl rfl (take_ofW HT_.out HW_.out (by kernel_rfl)) (fun _ _ _ h => h) (Or.inl ⟨by rfl, ?_⟩) hHeld ?_ ?_
                  rotate_left
                  ·rintro w' ⟨s0, s1, s2, s3, s4, s5, s6, s7, s8, s9, s10⟩
                   go_simp
                   with_reducible rfl
                  rotate_left; (· (simp only [Act.put, sA_, sZ_, sS_, i64_w, i32_w]; rfl))
                  refine pu_ (i := 23) (N := some 54) (v := ?_) (a' := ?_) rfl rfl (any_of HT_.out (by kernel_rfl)) (fun _ _ _ h => h) (Or.inl ⟨by rfl, ?_⟩) ?_ ?_; rotate_left; (· (intro w'; go_simp; with_reducible rfl)); rotate_left; (· (simp only [Act.put, sA_, sZ_, sS_, i64_w, i32_w]; rfl))
                  refine pu_ (i := 24) (N := some 55) (v := ?_) (a' := ?_) rfl rfl (any_of HT_.out (by kernel_rfl)) (fun _ _ _ h => h) (Or.inl ⟨by rfl, ?_⟩) ?_ ?_; rotate_left; (· (intro w'; go_simp; with_reducible rfl))
                  rotate_left; (· (simp only [Act.put, sA_, sZ_, sS_, i64_w, i32_w]; rfl))
                  refine pu_ (i := 25) (N := some 56) (v := ?_) (a' := ?_) rfl rfl (any_of HT_.out (by kernel_rfl)) (fun _ _ _ h => h) (Or.inl ⟨by rfl, ?_⟩) ?_ ?_; rotate_left; (· (intro w'; go_simp; with_reducible rfl)); rotate_left; (· (simp only [Act.put, sA_, sZ_, sS_, i64_w, i32_w]; rfl))
                  refine ta_ (i := 26) (N := some 57) (v := ?_) (a' := ?_) rfl rfl (take_ofW HT_.out HW_.out (by kernel_rfl)) (fun _ _ _ h => h) (Or.inl ⟨by rfl, ?_⟩) hHeld ?_ ?_
                  rotate_left
                  ·rintro w' ⟨s0, s1, s2, s3, s4, s5, s6, s7, s8, s9, s10⟩
                   go_simp
                   with_reducible rfl
                  rotate_left; (· (simp only [Act.put, sA_, sZ_, sS_, i64_w, i32_w]; rfl))
                  refine pu_ (i := 27) (N := some 58) (v := ?_) (a' := ?_) rfl rfl (any_of HT_.out (by kernel_rfl)) (fun _ _ _ h => h) (Or.inl ⟨by rfl, ?_⟩) ?_ ?_; rotate_left; (· (intro w'; go_simp; with_reducible rfl)); rotate_left; (· (simp only [Act.put, sA_, sZ_, sS_, i64_w, i32_w]; rfl))
                  refine pu_ (i := 28) (N := some 59) (v := ?_) (a' := ?_) rfl rfl (any_of HT_.out (by kernel_rfl)) (fun _ _ _ h => h) (Or.inl ⟨by rfl, ?_⟩) ?_ ?_; rotate_left; (· (intro w'; go_simp; with_reducible rfl))
                  rotate_left; (· (simp only [Act.put, sA_, sZ_, sS_, i64_w, i32_w]; rfl))
                  refine pu_ (i := 29) (N := some 60) (v := ?_) (a' := ?_) rfl rfl (any_of HT_.out (by kernel_rfl)) (fun _ _ _ h => h) (Or.inl ⟨by rfl, ?_⟩) ?_ ?_; rotate_left; (· (intro w'; go_simp; with_reducible rfl)); rotate_left; (· (simp only [Act.put, sA_, sZ_, sS_, i64_w, i32_w]; rfl))
                  refine pu_ (i := 30) (N := some 61) (v := ?_) (a' := ?_) rfl rfl (any_of HT_.out (by kernel_rfl)) (fun _ _ _ h => h) (Or.inl ⟨by rfl, ?_⟩) ?_ ?_; rotate_left; (· (intro w'; go_simp; with_reducible rfl))
                  rotate_left; (· (simp only [Act.put, sA_, sZ_, sS_, i64_w, i32_w]; rfl))
                  refine pu_ (i := 31) (N := some 62) (v := ?_) (a' := ?_) rfl rfl (any_of HT_.out (by kernel_rfl)) (fun _ _ _ h => h) (Or.inl ⟨by rfl, ?_⟩) ?_ ?_; rotate_left; (· (intro w'; go_simp; with_reducible rfl)); rotate_left; (· (simp only [Act.put, sA_, sZ_, sS_, i64_w, i32_w]; rfl))
                  refine pu_ (i := 32) (N := some 63) (v := ?_) (a' := ?_) rfl rfl (any_of HT_.out (by kernel_rfl)) (fun _ _ _ h => h) (Or.inl ⟨by rfl, ?_⟩) ?_ ?_; rotate_left; (· (intro w'; go_simp; with_reducible rfl))
                  rotate_left; (· (simp only [Act.put, sA_, sZ_, sS_, i64_w, i32_w]; rfl))
                  refine pu_ (i := 33) (N := some 64) (v := ?_) (a' := ?_) rfl rfl (any_of HT_.out (by kernel_rfl)) (fun _ _ _ h => h) (Or.inl ⟨by rfl, ?_⟩) ?_ ?_; rotate_left; (· (intro w'; go_simp; with_reducible rfl)); rotate_left; (· (simp only [Act.put, sA_, sZ_, sS_, i64_w, i32_w]; rfl))
                  refine pu_ (i := 34) (N := some 65) (v := ?_) (a' := ?_) rfl rfl (any_of HT_.out (by kernel_rfl)) (fun _ _ _ h => h) (Or.inl ⟨by rfl, ?_⟩) ?_ ?_; rotate_left; (· (intro w'; go_simp; with_reducible rfl))
                  rotate_left; (· (simp only [Act.put, sA_, sZ_, sS_, i64_w, i32_w]; rfl))
                  refine pu_ (i := 35) (N := some 66) (v := ?_) (a' := ?_) rfl rfl (any_of HT_.out (by kernel_rfl)) (fun _ _ _ h => h) (Or.inl ⟨by rfl, ?_⟩) ?_ ?_; rotate_left; (· (intro w'; go_simp; with_reducible rfl)); rotate_left; (· (simp only [Act.put, sA_, sZ_, sS_, i64_w, i32_w]; rfl))
                  refine pu_ (i := 37) (N := some 68) (v := ?_) (a' := ?_) rfl rfl (any_of HT_.out (by kernel_rfl)) (fun _ _ _ h => h) (Or.inl ⟨by rfl, ?_⟩) ?_ ?_; rotate_left; (· (intro w'; go_simp; with_reducible rfl))
                  rotate_left; (· (simp only [Act.put, sA_, sZ_, sS_, i64_w, i32_w]; rfl))
                  refine pu_ (i := 39) (N := some 70) (v := ?_) (a' := ?_) rfl rfl (any_of HT_.out (by kernel_rfl)) (fun _ _ _ h => h) (Or.inl ⟨by rfl, ?_⟩) ?_ ?_; rotate_left; (· (intro w'; go_simp; with_reducible rfl)); rotate_left; (· (simp only [Act.put, sA_, sZ_, sS_, i64_w, i32_w]; rfl))
                  refine pu_ (i := 40) (N := some 71) (v := ?_) (a' := ?_) rfl rfl (any_of HT_.out (by kernel_rfl)) (fun _ _ _ h => h) (Or.inl ⟨by rfl, ?_⟩) ?_ ?_; rotate_left; (· (intro w'; go_simp; with_reducible rfl))
                  rotate_left; (· (simp only [Act.put, sA_, sZ_, sS_, i64_w, i32_w]; rfl))
                  refine ta_ (i := 36) (N := some 67) (v := ?_) (a' := ?_) rfl rfl (take_ofW HT_.out HW_.out (by kernel_rfl)) (fun _ _ _ h => h) (Or.inl ⟨by rfl, ?_⟩) hHeld ?_ ?_
                  rotate_left
                  ·rintro w' ⟨s0, s1, s2, s3, s4, s5, s6, s7, s8, s9, s10⟩
                   go_simp
                   with_reducible rfl
                  rotate_left; (· (simp only [Act.put, sA_, sZ_, sS_, i64_w, i32_w]; rfl))
                  refine ta_ (i := 38) (N := some 69) (v := ?_) (a' := ?_) rfl rfl (take_ofW HT_.out HW_.out (by kernel_rfl)) (fun _ _ _ h => h) (Or.inl ⟨by rfl, ?_⟩) hHeld ?_ ?_
                  rotate_left
                  ·rintro w' ⟨s0, s1, s2, s3, s4, s5, s6, s7, s8, s9, s10⟩
                   go_simp
                   with_reducible rfl
                  rotate_left; (· (simp only [Act.put, sA_, sZ_, sS_, i64_w, i32_w]; rfl))
                  refine pu_ (i := 41) (N := some 72) (v := ?_) (a' := ?_) rfl rfl (any_of HT_.out (by kernel_rfl)) (fun _ _ _ h => h) (Or.inl ⟨by rfl, ?_⟩) ?_ ?_; rotate_left; (· (intro w'; go_simp; with_reducible rfl)); rotate_left; (· (simp only [Act.put, sA_, sZ_, sS_, i64_w, i32_w]; rfl))
                  refine pu_ (i := 42) (N := some 73) (v := ?_) (a' := ?_) rfl rfl (any_of HT_.out (by kernel_rfl)) (fun _ _ _ h => h) (Or.inl ⟨by rfl, ?_⟩) ?_ ?_; rotate_left; (· (intro w'; go_simp; with_reducible rfl))
                  rotate_left; (· (simp only [Act.put, sA_, sZ_, sS_, i64_w, i32_w]; rfl))
                  refine pu_ (i := 43) (N := some 74) (v := ?_) (a' := ?_) rfl rfl (any_of HT_.out (by kernel_rfl)) (fun _ _ _ h => h) (Or.inl ⟨by rfl, ?_⟩) ?_ ?_; rotate_left; (· (intro w'; go_simp; with_reducible rfl)); rotate_left; (· (simp only [Act.put, sA_, sZ_, sS_, i64_w, i32_w]; rfl))
                  refine ta_ (i := 44) (N := some 75) (v := ?_) (a' := ?_) rfl rfl (take_ofW HT_.out HW_.out (by kernel_rfl)) (fun _ _ _ h => h) (Or.inl ⟨by rfl, ?_⟩) hHeld ?_ ?_
                  rotate_left
                  ·rintro w' ⟨s0, s1, s2, s3, s4, s5, s6, s7, s8, s9, s10⟩
                   go_simp
                   with_reducible rfl
                  rotate_left; (· (simp only [Act.put, sA_, sZ_, sS_, i64_w, i32_w]; rfl))
                  refine pu_ (i := 45) (N := some 76) (v := ?_) (a' := ?_) rfl rfl (any_of HT_.out (by kernel_rfl)) (fun _ _ _ h => h) (Or.inl ⟨by rfl, ?_⟩) ?_ ?_; rotate_left; (· (intro w'; go_simp; with_reducible rfl)); rotate_left; (· (simp only [Act.put, sA_, sZ_, sS_, i64_w, i32_w]; rfl))
                  refine pu_ (i := 46) (N := some 77) (v := ?_) (a' := ?_) rfl rfl (any_of HT_.out (by kernel_rfl)) (fun _ _ _ h => h) (Or.inl ⟨by rfl, ?_⟩) ?_ ?_; rotate_left; (· (intro w'; go_simp; with_reducible rfl))
                  rotate_left; (· (simp only [Act.put, sA_, sZ_, sS_, i64_w, i32_w]; rfl))
                  refine pu_ (i := 47) (N := some 78) (v := ?_) (a' := ?_) rfl rfl (any_of HT_.out (by kernel_rfl)) (fun _ _ _ h => h) (Or.inl ⟨by rfl, ?_⟩) ?_ ?_; rotate_left; (· (intro w'; go_simp; with_reducible rfl)); rotate_left; (· (simp only [Act.put, sA_, sZ_, sS_, i64_w, i32_w]; rfl))
                  refine done_ (done_of HT_.out (by kernel_rfl)) ?_
                  try go_wp2
                  go_meet
                  case rel => exact ⟨_, (decide (((rd_T104 l0_2 x3_2).f0.f0) ≤ ((rd_T104 l0_2 (ji43)).f0.f0))), (by first | rfl | (simp; done) | (simp only [← hji43] <;> (first | rfl | simp)) | (simp [*]; done)), H', ⟨by have := HJ1.out; have := HK2.out; first | omega | exact Nat.le_refl _⟩, ⟨by (with_reducible repeat (first | refine blk_drewN ?_ _ | refine blk_drew ?_ | refine blk_alloc ?_ _)); exact BK162.out⟩, ⟨by (with_reducible repeat (first | refine blk_drewN ?_ _ | refine blk_drew ?_ | refine blk_alloc ?_ _)); exact BK165.out⟩, ⟨by repeat (first | (with_reducible first | exact HB.out | apply below_alloc | apply pw_below_drewN | apply below_drew1 | refine below_set ?_ GE162.out | refine below_set ?_ GE165.out) | exact HB.out)⟩⟩
                 ·rw [if_neg c45] at H
                  exact absurd H (by simp)
                ·rw [if_neg c44] at H
                 exact absurd H (by simp)
               ·rw [if_neg c42] at H
                have c42b0 : decide (0 < x3_2) = false := decide_eq_false c42
                clear c42
                have H' := Aside0.mk H
                clear H
                try go_wp2
                have n0_ : Aside0 (((((w15.setCell ⟨gb165, 0, none⟩ (.int .i64 ((rd_T104 l0_2 x3_2).f0.f0))).setCell ⟨gb165, 1, none⟩ (.int .i64 ((rd_T104 l0_2 x3_2).f0.f1))).setCell ⟨gb165, 2, none⟩ (.int .i64 ((rd_T104 l0_2 x3_2).f1))).setCell ⟨gb165, 3, none⟩ (.int .i64 ((rd_T104 l0_2 x3_2).f2))).heap[gb162]? = some (.cells #[.int .i64 a0_0, .slice A0_1 l0_1.length c0_1, .slice (some ad164) l0_2.length c0_2] 25 (0, 0))) := ⟨by (with_reducible repeat (first | refine blk_drewN ?_ _ | refine blk_drew ?_ | refine blk_alloc ?_ _)); refine blk_far ?_ NB162_165.out _; (with_reducible repeat (first | refine blk_drewN ?_ _ | refine blk_drew ?_ | refine blk_alloc ?_ _)); refine blk_far ?_ NB162_165.out _; (with_reducible repeat (first | refine blk_drewN ?_ _ | refine blk_drew ?_ | refine blk_alloc ?_ _)); refine blk_far ?_ NB162_165.out _; (with_reducible repeat (first | refine blk_drewN ?_ _ | refine blk_drew ?_ | refine blk_alloc ?_ _)); refine blk_far ?_ NB162_165.out _; (with_reducible repeat (first | refine blk_drewN ?_ _ | refine blk_drew ?_ | refine blk_alloc ?_ _)); exact BK162.out⟩
                have n1_ : Aside0 (((((w15.setCell ⟨gb165, 0, none⟩ (.int .i64 ((rd_T104 l0_2 x3_2).f0.f0))).setCell ⟨gb165, 1, none⟩ (.int .i64 ((rd_T104 l0_2 x3_2).f0.f1))).setCell ⟨gb165, 2, none⟩ (.int .i64 ((rd_T104 l0_2 x3_2).f1))).setCell ⟨gb165, 3, none⟩ (.int .i64 ((rd_T104 l0_2 x3_2).f2))).heap[gb165]? = some (.cells #[.int .i64 ((rd_T104 l0_2 x3_2).f0.f0), .int .i64 ((rd_T104 l0_2 x3_2).f0.f1), .int .i64 ((rd_T104 l0_2 x3_2).f1), .int .i64 ((rd_T104 l0_2 x3_2).f2)] 104 (0, 0))) := ⟨by (with_reducible repeat (first | refine blk_drewN ?_ _ | refine blk_drew ?_ | refine blk_alloc ?_ _)); refine blk_put (cs := #[.int .i64 ((rd_T104 l0_2 x3_2).f0.f0), .int .i64 ((rd_T104 l0_2 x3_2).f0.f1), .int .i64 ((rd_T104 l0_2 x3_2).f1), .int .i64 0]) ?_ 3 _ rfl; (with_reducible repeat (first | refine blk_drewN ?_ _ | refine blk_drew ?_ | refine blk_alloc ?_ _)); refine blk_put (cs := #[.int .i64 ((rd_T104 l0_2 x3_2).f0.f0), .int .i64 ((rd_T104 l0_2 x3_2).f0.f1), .int .i64 0, .int .i64 0]) ?_ 2 _ rfl; (with_reducible repeat (first | refine blk_drewN ?_ _ | refine blk_drew ?_ | refine blk_alloc ?_ _)); refine blk_put (cs := #[.int .i64 ((rd_T104 l0_2 x3_2).f0.f0), .int .i64 0, .int .i64 0, .int .i64 0]) ?_ 1 _ rfl; (with_reducible repeat (first | refine blk_drewN ?_ _ | refine blk_drew ?_ | refine blk_alloc ?_ _)); refine blk_put (cs := #[.int .i64 0, .int .i64 0, .int .i64 0, .int .i64 0]) ?_ 0 _ rfl; (with_reducible repeat (first | refine blk_drewN ?_ _ | refine blk_drew ?_ | refine blk_alloc ?_ _)); exact BK165.out⟩
                have n2_ : Aside0 (Below w.heap.size w ((((w15.setCell ⟨gb165, 0, none⟩ (.int .i64 ((rd_T104 l0_2 x3_2).f0.f0))).setCell ⟨gb165, 1, none⟩ (.int .i64 ((rd_T104 l0_2 x3_2).f0.f1))).setCell ⟨gb165, 2, none⟩ (.int .i64 ((rd_T104 l0_2 x3_2).f1))).setCell ⟨gb165, 3, none⟩ (.int .i64 ((rd_T104 l0_2 x3_2).f2)))) := ⟨by repeat (first | (with_reducible first | exact HB.out | apply below_alloc | apply pw_below_drewN | apply below_drew1 | refine below_set ?_ GE162.out | refine below_set ?_ GE165.out) | exact HB.out)⟩
                (try clear BK162)
                (try clear BK165)
                (try clear HB)
                generalize ((((w15.setCell ⟨gb165, 0, none⟩ (.int .i64 ((rd_T104 l0_2 x3_2).f0.f0))).setCell ⟨gb165, 1, none⟩ (.int .i64 ((rd_T104 l0_2 x3_2).f0.f1))).setCell ⟨gb165, 2, none⟩ (.int .i64 ((rd_T104 l0_2 x3_2).f1))).setCell ⟨gb165, 3, none⟩ (.int .i64 ((rd_T104 l0_2 x3_2).f2))) = w49 at n0_ n1_ n2_ ⊢
                have BK162 := n0_
                have BK165 := n1_
                have HB := n2_
                clear n0_ n1_ n2_
                have n0_ := Aside0.mk (blk_drew BK162.out)
                have n1_ := Aside0.mk (blk_drew BK165.out)
                have n2_ := Aside0.mk (below_drew1 HB.out)
                clear BK162
                clear BK165
                clear HB
                have BK162 := n0_
                have BK165 := n1_
                have HB := n2_
                clear n0_ n1_ n2_
                refine start_ (n := 48) (S := fun w' => w'.cell? ⟨gb165, 0, none⟩ = some (.int .i64 ((rd_T104 l0_2 x3_2).f0.f0)) ∧ w'.cell? ⟨gb165, 1, none⟩ = some (.int .i64 ((rd_T104 l0_2 x3_2).f0.f1)) ∧ w'.cell? ⟨gb165, 2, none⟩ = some (.int .i64 ((rd_T104 l0_2 x3_2).f1)) ∧ w'.cell? ⟨gb165, 3, none⟩ = some (.int .i64 ((rd_T104 l0_2 x3_2).f2))) (ds := []) #[false, false, false, false, false, false, false, false, false, false, false, false, false, false, false, false, false, false, false, false, false, false, false, false, false, false, false, false, false, false, false, false, false, false, false, false, false, false, false, false, false, false, false, false, false, false, false, false] (by kernel_rfl) rfl rfl ⟨(blk_cell BK165.out 0).trans rfl, (blk_cell BK165.out 1).trans rfl, (blk_cell BK165.out 2).trans rfl, (blk_cell BK165.out 3).trans rfl⟩ (fun hHeld => ?_); refine with_tabW spec_CertOk.tab7 spec_CertOk.bits7 (fun HT_ HW_ => ?_)
                generalize w49.drew = w50 at BK162 BK165 HB hHeld ⊢
                refine pu_ (i := 0) (N := some 31) (v := ?_) (a' := ?_) rfl rfl (any_of HT_.out (by kernel_rfl)) (fun _ _ _ h => h) (Or.inl ⟨by rfl, ?_⟩) ?_ ?_; rotate_left; (· (intro w'; go_simp; with_reducible rfl)); rotate_left; (· (simp only [Act.put, sA_, sZ_, sS_, i64_w, i32_w]; rfl))
                refine ta_ (i := 1) (N := some 32) (v := ?_) (a' := ?_) rfl rfl (take_ofW HT_.out HW_.out (by kernel_rfl)) (fun _ _ _ h => h) (Or.inl ⟨by rfl, ?_⟩) hHeld ?_ ?_
                rotate_left
                ·rintro w' ⟨s0, s1, s2, s3⟩
                 go_simp
                 with_reducible rfl
                rotate_left; (· (simp only [Act.put, sA_, sZ_, sS_, i64_w, i32_w]; rfl))
                refine on_ (i := 2) (N := some 33) rfl rfl (one_of HT_.out (by kernel_rfl)) (by decide) (fun K hK => ?_)
                refine goes_ Try.func90 (by kernel_rfl) rfl #[.agg #[.int .i64 ((rd_T104 l0_2 x3_2).f0.f0), .int .i64 ((rd_T104 l0_2 x3_2).f0.f1)]] (by rfl) rfl rfl (by (try simp only [List.map_toArray, List.map_cons, List.map_nil]); first | done | rfl | (simp only [List.length_drop, List.length_take]; rfl)) ?_
                with_reducible refine (spec_l5Req.calls ((rd_T104 l0_2 x3_2).f0.f0) ((rd_T104 l0_2 x3_2).f0.f1) true _ A18.out).mono ?_
                rintro e w51 ⟨rfl, hb⟩
                refine ⟨_, rfl, ?_⟩
                have n0_ := Aside0.mk (blk_below (g := gb162) (o := .cells #[.int .i64 a0_0, .slice A0_1 l0_1.length c0_1, .slice (some ad164) l0_2.length c0_2] 25 (0, 0)) (by (with_reducible repeat (first | refine blk_drewN ?_ _ | refine blk_drew ?_ | refine blk_alloc ?_ _)); exact BK162.out) hb)
                have n1_ := Aside0.mk (blk_below (g := gb165) (o := .cells #[.int .i64 ((rd_T104 l0_2 x3_2).f0.f0), .int .i64 ((rd_T104 l0_2 x3_2).f0.f1), .int .i64 ((rd_T104 l0_2 x3_2).f1), .int .i64 ((rd_T104 l0_2 x3_2).f2)] 104 (0, 0)) (by (with_reducible repeat (first | refine blk_drewN ?_ _ | refine blk_drew ?_ | refine blk_alloc ?_ _)); exact BK165.out) hb)
                have n2_ := Aside0.mk (below_step (by repeat (first | (with_reducible first | exact HB.out | apply below_alloc | apply pw_below_drewN | apply below_drew1 | refine below_set ?_ GE162.out | refine below_set ?_ GE165.out) | exact HB.out)) hb)
                clear BK162
                clear BK165
                clear HB
                have BK162 := n0_
                have BK165 := n1_
                have HB := n2_
                clear n0_ n1_ n2_
                (try clear hb)
                (try clear hb2)
                (try clear hk)
                (try clear hi)
                refine hK.out _ _ ⟨(blk_cell BK165.out 0).trans rfl, (blk_cell BK165.out 1).trans rfl, (blk_cell BK165.out 2).trans rfl, (blk_cell BK165.out 3).trans rfl⟩ (fun hHeld => ?_)
                clear hK K
                refine norm_ (a' := ?_) ?_ ?_
                rotate_left
                ·show Act.put _ (some 33) _ = _
                 simp only [Act.put, sA_, sZ_, sS_, i64_w, i32_w]
                 rfl
                refine pu_ (i := 3) (N := some 34) (v := ?_) (a' := ?_) rfl rfl (any_of HT_.out (by kernel_rfl)) (fun _ _ _ h => h) (Or.inl ⟨by rfl, ?_⟩) ?_ ?_; rotate_left; (· (intro w'; go_simp; with_reducible rfl)); rotate_left; (· (simp only [Act.put, sA_, sZ_, sS_, i64_w, i32_w]; rfl))
                refine pu_ (i := 4) (N := some 35) (v := ?_) (a' := ?_) rfl rfl (any_of HT_.out (by kernel_rfl)) (fun _ _ _ h => h) (Or.inl ⟨by rfl, ?_⟩) ?_ ?_; rotate_left; (· (intro w'; go_simp; with_reducible rfl))
                rotate_left; (· (simp only [Act.put, sA_, sZ_, sS_, i64_w, i32_w]; rfl))
                refine pu_ (i := 5) (N := some 36) (v := ?_) (a' := ?_) rfl rfl (any_of HT_.out (by kernel_rfl)) (fun _ _ _ h => h) (Or.inl ⟨by rfl, ?_⟩) ?_ ?_; rotate_left; (· (intro w'; go_simp; with_reducible rfl)); rotate_left; (· (simp only [Act.put, sA_, sZ_, sS_, i64_w, i32_w]; rfl))
                refine ta_ (i := 6) (N := some 37) (v := ?_) (a' := ?_) rfl rfl (take_ofW HT_.out HW_.out (by kernel_rfl)) (fun _ _ _ h => h) (Or.inl ⟨by rfl, ?_⟩) hHeld ?_ ?_
                rotate_left
                ·rintro w' ⟨s0, s1, s2, s3⟩
                 go_simp
                 with_reducible rfl
                rotate_left; (· (simp only [Act.put, sA_, sZ_, sS_, i64_w, i32_w]; rfl))
                refine pu_ (i := 7) (N := some 38) (v := ?_) (a' := ?_) rfl rfl (any_of HT_.out (by kernel_rfl)) (fun _ _ _ h => h) (Or.inl ⟨by rfl, ?_⟩) ?_ ?_; rotate_left; (· (intro w'; go_simp; with_reducible rfl)); rotate_left; (· (simp only [Act.put, sA_, sZ_, sS_, i64_w, i32_w]; rfl))
                refine pu_ (i := 8) (N := some 39) (v := ?_) (a' := ?_) rfl rfl (any_of HT_.out (by kernel_rfl)) (fun _ _ _ h => h) (Or.inl ⟨by rfl, ?_⟩) ?_ ?_; rotate_left; (· (intro w'; go_simp; with_reducible rfl))
                rotate_left; (· (simp only [Act.put, sA_, sZ_, sS_, i64_w, i32_w]; rfl))
                refine pu_ (i := 9) (N := some 40) (v := ?_) (a' := ?_) rfl rfl (any_of HT_.out (by kernel_rfl)) (fun _ _ _ h => h) (Or.inl ⟨by rfl, ?_⟩) ?_ ?_; rotate_left; (· (intro w'; go_simp; with_reducible rfl)); rotate_left; (· (simp only [Act.put, sA_, sZ_, sS_, i64_w, i32_w]; rfl))
                refine pu_ (i := 10) (N := some 41) (v := ?_) (a' := ?_) rfl rfl (any_of HT_.out (by kernel_rfl)) (fun _ _ _ h => h) (Or.inl ⟨by rfl, ?_⟩) ?_ ?_; rotate_left; (· (intro w'; go_simp; with_reducible rfl))
                rotate_left; (· (simp only [Act.put, sA_, sZ_, sS_, i64_w, i32_w]; rfl))
                refine ta_ (i := 11) (N := some 42) (v := ?_) (a' := ?_) rfl rfl (take_ofW HT_.out HW_.out (by kernel_rfl)) (fun _ _ _ h => h) (Or.inl ⟨by rfl, ?_⟩) hHeld ?_ ?_
                rotate_left
                ·rintro w' ⟨s0, s1, s2, s3⟩
                 go_simp
                 with_reducible rfl
                rotate_left; (· (simp only [Act.put, sA_, sZ_, sS_, i64_w, i32_w]; rfl))
                refine pu_ (i := 12) (N := some 43) (v := ?_) (a' := ?_) rfl rfl (any_of HT_.out (by kernel_rfl)) (fun _ _ _ h => h) (Or.inl ⟨by rfl, ?_⟩) ?_ ?_; rotate_left; (· (intro w'; go_simp; with_reducible rfl)); rotate_left; (· (simp only [Act.put, sA_, sZ_, sS_, i64_w, i32_w]; rfl))
                refine pu_ (i := 13) (N := some 44) (v := ?_) (a' := ?_) rfl rfl (any_of HT_.out (by kernel_rfl)) (fun _ _ _ h => h) (Or.inl ⟨by rfl, ?_⟩) ?_ ?_; rotate_left; (· (intro w'; go_simp; with_reducible rfl))
                rotate_left; (· (simp only [Act.put, sA_, sZ_, sS_, i64_w, i32_w]; rfl))
                refine pu_ (i := 14) (N := some 45) (v := ?_) (a' := ?_) rfl rfl (any_of HT_.out (by kernel_rfl)) (fun _ _ _ h => h) (Or.inl ⟨by rfl, ?_⟩) ?_ ?_; rotate_left; (· (intro w'; go_simp; with_reducible rfl)); rotate_left; (· (simp only [Act.put, sA_, sZ_, sS_, i64_w, i32_w]; rfl))
                refine pu_ (i := 15) (N := some 46) (v := ?_) (a' := ?_) rfl rfl (any_of HT_.out (by kernel_rfl)) (fun _ _ _ h => h) (Or.inl ⟨by rfl, ?_⟩) ?_ ?_; rotate_left; (· (intro w'; go_simp; with_reducible rfl))
                rotate_left; (· (simp only [Act.put, sA_, sZ_, sS_, i64_w, i32_w]; rfl))
                refine ta_ (i := 16) (N := some 47) (v := ?_) (a' := ?_) rfl rfl (take_ofW HT_.out HW_.out (by kernel_rfl)) (fun _ _ _ h => h) (Or.inl ⟨by rfl, ?_⟩) hHeld ?_ ?_
                rotate_left
                ·rintro w' ⟨s0, s1, s2, s3⟩
                 go_simp
                 with_reducible rfl
                rotate_left; (· (simp only [Act.put, sA_, sZ_, sS_, i64_w, i32_w]; rfl))
                refine on_ (i := 17) (N := some 48) rfl rfl (one_of HT_.out (by kernel_rfl)) (by decide) (fun K hK => ?_)
                refine goes_ Try.func82 (by kernel_rfl) rfl #[.int .i64 ((rd_T104 l0_2 x3_2).f2)] (by rfl) rfl rfl (by (try simp only [List.map_toArray, List.map_cons, List.map_nil]); first | done | rfl | (simp only [List.length_drop, List.length_take]; rfl)) ?_
                with_reducible refine (spec_l1Num.calls ((rd_T104 l0_2 x3_2).f2) true _ A28.out).mono ?_
                rintro e w' ⟨rfl, ⟨nd, rfl⟩⟩
                refine ⟨_, rfl, ?_⟩
                refine hK.out _ _ ⟨(blk_cell BK165.out 0).trans rfl, (blk_cell BK165.out 1).trans rfl, (blk_cell BK165.out 2).trans rfl, (blk_cell BK165.out 3).trans rfl⟩ (fun hHeld => ?_)
                clear hK K
                refine norm_ (a' := ?_) ?_ ?_
                rotate_left
                ·show Act.put _ (some 48) _ = _
                 simp only [Act.put, sA_, sZ_, sS_, i64_w, i32_w]
                 rfl
                refine pu_ (i := 18) (N := some 49) (v := ?_) (a' := ?_) rfl rfl (any_of HT_.out (by kernel_rfl)) (fun _ _ _ h => h) (Or.inl ⟨by rfl, ?_⟩) ?_ ?_; rotate_left; (· (intro w'; go_simp; with_reducible rfl)); rotate_left; (· (simp only [Act.put, sA_, sZ_, sS_, i64_w, i32_w]; rfl))
                refine pu_ (i := 19) (N := some 50) (v := ?_) (a' := ?_) rfl rfl (any_of HT_.out (by kernel_rfl)) (fun _ _ _ h => h) (Or.inl ⟨by rfl, ?_⟩) ?_ ?_; rotate_left; (· (intro w'; go_simp; with_reducible rfl))
                rotate_left; (· (simp only [Act.put, sA_, sZ_, sS_, i64_w, i32_w]; rfl))
                refine pu_ (i := 20) (N := some 51) (v := ?_) (a' := ?_) rfl rfl (any_of HT_.out (by kernel_rfl)) (fun _ _ _ h => h) (Or.inl ⟨by rfl, ?_⟩) ?_ ?_; rotate_left; (· (intro w'; go_simp; with_reducible rfl)); rotate_left; (· (simp only [Act.put, sA_, sZ_, sS_, i64_w, i32_w]; rfl))
                refine pu_ (i := 21) (N := some 52) (v := ?_) (a' := ?_) rfl rfl (any_of HT_.out (by kernel_rfl)) (fun _ _ _ h => h) (Or.inl ⟨by rfl, ?_⟩) ?_ ?_; rotate_left; (· (intro w'; go_simp; with_reducible rfl))
                rotate_left; (· (simp only [Act.put, sA_, sZ_, sS_, i64_w, i32_w]; rfl))
                refine ta_ (i := 22) (N := some 53) (v := ?_) (a' := ?_) rfl rfl (take_ofW HT_.out HW_.out (by kernel_rfl)) (fun _ _ _ h => h) (Or.inl ⟨by rfl, ?_⟩) hHeld ?_ ?_
                rotate_left
                ·rintro w' ⟨s0, s1, s2, s3⟩
                 go_simp
                 with_reducible rfl
                rotate_left; (· (simp only [Act.put, sA_, sZ_, sS_, i64_w, i32_w]; rfl))
                refine pu_ (i := 23) (N := some 54) (v := ?_) (a' := ?_) rfl rfl (any_of HT_.out (by kernel_rfl)) (fun _ _ _ h => h) (Or.inl ⟨by rfl, ?_⟩) ?_ ?_; rotate_left; (· (intro w'; go_simp; with_reducible rfl)); rotate_left; (· (simp only [Act.put, sA_, sZ_, sS_, i64_w, i32_w]; rfl))
                refine pu_ (i := 24) (N := some 55) (v := ?_) (a' := ?_) rfl rfl (any_of HT_.out (by kernel_rfl)) (fun _ _ _ h => h) (Or.inl ⟨by rfl, ?_⟩) ?_ ?_; rotate_left; (· (intro w'; go_simp; with_reducible rfl))
                rotate_left; (· (simp only [Act.put, sA_, sZ_, sS_, i64_w, i32_w]; rfl))
                refine pu_ (i := 25) (N := some 56) (v := ?_) (a' := ?_) rfl rfl (any_of HT_.out (by kernel_rfl)) (fun _ _ _ h => h) (Or.inl ⟨by rfl, ?_⟩) ?_ ?_; rotate_left; (· (intro w'; go_simp; with_reducible rfl)); rotate_left; (· (simp only [Act.put, sA_, sZ_, sS_, i64_w, i32_w]; rfl))
                refine ta_ (i := 26) (N := some 57) (v := ?_) (a' := ?_) rfl rfl (take_ofW HT_.out HW_.out (by kernel_rfl)) (fun _ _ _ h => h) (Or.inl ⟨by rfl, ?_⟩) hHeld ?_ ?_
                rotate_left
                ·rintro w' ⟨s0, s1, s2, s3⟩
                 go_simp
                 with_reducible rfl
                rotate_left; (· (simp only [Act.put, sA_, sZ_, sS_, i64_w, i32_w]; rfl))
                refine pu_ (i := 27) (N := some 58) (v := ?_) (a' := ?_) rfl rfl (any_of HT_.out (by kernel_rfl)) (fun _ _ _ h => h) (Or.inl ⟨by rfl, ?_⟩) ?_ ?_; rotate_left; (· (intro w'; go_simp; with_reducible rfl)); rotate_left; (· (simp only [Act.put, sA_, sZ_, sS_, i64_w, i32_w]; rfl))
                refine pu_ (i := 28) (N := some 59) (v := ?_) (a' := ?_) rfl rfl (any_of HT_.out (by kernel_rfl)) (fun _ _ _ h => h) (Or.inl ⟨by rfl, ?_⟩) ?_ ?_; rotate_left; (· (intro w'; go_simp; with_reducible rfl))
                rotate_left; (· (simp only [Act.put, sA_, sZ_, sS_, i64_w, i32_w]; rfl))
                refine pu_ (i := 29) (N := some 60) (v := ?_) (a' := ?_) rfl rfl (any_of HT_.out (by kernel_rfl)) (fun _ _ _ h => h) (Or.inl ⟨by rfl, ?_⟩) ?_ ?_; rotate_left; (· (intro w'; go_simp; with_reducible rfl)); rotate_left; (· (simp only [Act.put, sA_, sZ_, sS_, i64_w, i32_w]; rfl))
                refine pu_ (i := 30) (N := some 61) (v := ?_) (a' := ?_) rfl rfl (any_of HT_.out (by kernel_rfl)) (fun _ _ _ h => h) (Or.inl ⟨by rfl, ?_⟩) ?_ ?_; rotate_left; (· (intro w'; go_simp; with_reducible rfl))
                rotate_left; (· (simp only [Act.put, sA_, sZ_, sS_, i64_w, i32_w]; rfl))
                refine pu_ (i := 31) (N := some 62) (v := ?_) (a' := ?_) rfl rfl (any_of HT_.out (by kernel_rfl)) (fun _ _ _ h => h) (Or.inl ⟨by rfl, ?_⟩) ?_ ?_; rotate_left; (· (intro w'; go_simp; with_reducible rfl)); rotate_left; (· (simp only [Act.put, sA_, sZ_, sS_, i64_w, i32_w]; rfl))
                refine pu_ (i := 32) (N := some 63) (v := ?_) (a' := ?_) rfl rfl (any_of HT_.out (by kernel_rfl)) (fun _ _ _ h => h) (Or.inl ⟨by rfl, ?_⟩) ?_ ?_; rotate_left; (· (intro w'; go_simp; with_reducible rfl))
                rotate_left; (· (simp only [Act.put, sA_, sZ_, sS_, i64_w, i32_w]; rfl))
                refine pu_ (i := 33) (N := some 64) (v := ?_) (a' := ?_) rfl rfl (any_of HT_.out (by kernel_rfl)) (fun _ _ _ h => h) (Or.inl ⟨by rfl, ?_⟩) ?_ ?_; rotate_left; (· (intro w'; go_simp; with_reducible rfl)); rotate_left; (· (simp only [Act.put, sA_, sZ_, sS_, i64_w, i32_w]; rfl))
                refine pu_ (i := 34) (N := some 65) (v := undef) (a' := ?_) rfl rfl (any_of HT_.out (by kernel_rfl)) (fun _ _ _ h => h) (Or.inr ⟨by rfl, rfl⟩) ?_ ?_; rotate_left; (· (simp only [Act.put, sA_, sZ_, sS_, i64_w, i32_w]; rfl))
                refine pu_ (i := 35) (N := some 66) (v := undef) (a' := ?_) rfl rfl (any_of HT_.out (by kernel_rfl)) (fun _ _ _ h => h) (Or.inr ⟨by rfl, rfl⟩) ?_ ?_
                rotate_left; (· (simp only [Act.put, sA_, sZ_, sS_, i64_w, i32_w]; rfl))
                refine pu_ (i := 36) (N := some 67) (v := undef) (a' := ?_) rfl rfl (any_of HT_.out (by kernel_rfl)) (fun _ _ _ h => h) (Or.inr ⟨by rfl, rfl⟩) ?_ ?_; rotate_left; (· (simp only [Act.put, sA_, sZ_, sS_, i64_w, i32_w]; rfl))
                refine pu_ (i := 37) (N := some 68) (v := undef) (a' := ?_) rfl rfl (any_of HT_.out (by kernel_rfl)) (fun _ _ _ h => h) (Or.inr ⟨by rfl, rfl⟩) ?_ ?_
                rotate_left; (· (simp only [Act.put, sA_, sZ_, sS_, i64_w, i32_w]; rfl))
                refine pu_ (i := 38) (N := some 69) (v := undef) (a' := ?_) rfl rfl (any_of HT_.out (by kernel_rfl)) (fun _ _ _ h => h) (Or.inr ⟨by rfl, rfl⟩) ?_ ?_; rotate_left; (· (simp only [Act.put, sA_, sZ_, sS_, i64_w, i32_w]; rfl))
                refine pu_ (i := 39) (N := some 70) (v := undef) (a' := ?_) rfl rfl (any_of HT_.out (by kernel_rfl)) (fun _ _ _ h => h) (Or.inr ⟨by rfl, rfl⟩) ?_ ?_
                rotate_left; (· (simp only [Act.put, sA_, sZ_, sS_, i64_w, i32_w]; rfl))
                refine pu_ (i := 40) (N := some 71) (v := undef) (a' := ?_) rfl rfl (any_of HT_.out (by kernel_rfl)) (fun _ _ _ h => h) (Or.inr ⟨by rfl, rfl⟩) ?_ ?_; rotate_left; (· (simp only [Act.put, sA_, sZ_, sS_, i64_w, i32_w]; rfl))
                refine pu_ (i := 41) (N := some 72) (v := undef) (a' := ?_) rfl rfl (any_of HT_.out (by kernel_rfl)) (fun _ _ _ h => h) (Or.inr ⟨by rfl, rfl⟩) ?_ ?_
                rotate_left; (· (simp only [Act.put, sA_, sZ_, sS_, i64_w, i32_w]; rfl))
                refine pu_ (i := 42) (N := some 73) (v := undef) (a' := ?_) rfl rfl (any_of HT_.out (by kernel_rfl)) (fun _ _ _ h => h) (Or.inr ⟨by rfl, rfl⟩) ?_ ?_; rotate_left; (· (simp only [Act.put, sA_, sZ_, sS_, i64_w, i32_w]; rfl))
                refine pu_ (i := 43) (N := some 74) (v := undef) (a' := ?_) rfl rfl (any_of HT_.out (by kernel_rfl)) (fun _ _ _ h => h) (Or.inr ⟨by rfl, rfl⟩) ?_ ?_
                rotate_left; (· (simp only [Act.put, sA_, sZ_, sS_, i64_w, i32_w]; rfl))
                refine pu_ (i := 44) (N := some 75) (v := undef) (a' := ?_) rfl rfl (any_of HT_.out (by kernel_rfl)) (fun _ _ _ h => h) (Or.inr ⟨by rfl, rfl⟩) ?_ ?_; rotate_left; (· (simp only [Act.put, sA_, sZ_, sS_, i64_w, i32_w]; rfl))
                refine pu_ (i := 45) (N := some 76) (v := undef) (a' := ?_) rfl rfl (any_of HT_.out (by kernel_rfl)) (fun _ _ _ h => h) (Or.inr ⟨by rfl, rfl⟩) ?_ ?_
                rotate_left; (· (simp only [Act.put, sA_, sZ_, sS_, i64_w, i32_w]; rfl))
                refine pu_ (i := 46) (N := some 77) (v := ?_) (a' := ?_) rfl rfl (any_of HT_.out (by kernel_rfl)) (fun _ _ _ h => h) (Or.inl ⟨by rfl, ?_⟩) ?_ ?_; rotate_left; (· (intro w'; go_simp; with_reducible rfl)); rotate_left; (· (simp only [Act.put, sA_, sZ_, sS_, i64_w, i32_w]; rfl))
                refine pu_ (i := 47) (N := some 78) (v := ?_) (a' := ?_) rfl rfl (any_of HT_.out (by kernel_rfl)) (fun _ _ _ h => h) (Or.inl ⟨by rfl, ?_⟩) ?_ ?_; rotate_left; (· (intro w'; go_simp; with_reducible rfl))
                rotate_left; (· (simp only [Act.put, sA_, sZ_, sS_, i64_w, i32_w]; rfl))
                refine done_ (done_of HT_.out (by kernel_rfl)) ?_
                try go_wp2
                go_meet
                case rel => exact ⟨_, (false), (by first | rfl | (simp; done) | (simp [*]; done)), H', ⟨by have := HJ1.out; have := HK2.out; first | omega | exact Nat.le_refl _⟩, ⟨by (with_reducible repeat (first | refine blk_drewN ?_ _ | refine blk_drew ?_ | refine blk_alloc ?_ _)); exact BK162.out⟩, ⟨by (with_reducible repeat (first | refine blk_drewN ?_ _ | refine blk_drew ?_ | refine blk_alloc ?_ _)); exact BK165.out⟩, ⟨by repeat (first | (with_reducible first | exact HB.out | apply below_alloc | apply pw_below_drewN | apply below_drew1 | refine below_set ?_ GE162.out | refine below_set ?_ GE165.out) | exact HB.out)⟩⟩
              ·rw [if_neg c41] at H
               have c41b0 : (((rd_T104 l0_2 x3_2).f2) == 0) = false := beq_eq_false_iff_ne.mpr c41
               have c41b1 : (((rd_T104 l0_2 x3_2).f2) != 0) = true := bne_iff_ne.mpr c41
               have H' := Aside0.mk H
               clear H
               try go_wp2
               have n0_ : Aside0 (((((w15.setCell ⟨gb165, 0, none⟩ (.int .i64 ((rd_T104 l0_2 x3_2).f0.f0))).setCell ⟨gb165, 1, none⟩ (.int .i64 ((rd_T104 l0_2 x3_2).f0.f1))).setCell ⟨gb165, 2, none⟩ (.int .i64 ((rd_T104 l0_2 x3_2).f1))).setCell ⟨gb165, 3, none⟩ (.int .i64 ((rd_T104 l0_2 x3_2).f2))).heap[gb162]? = some (.cells #[.int .i64 a0_0, .slice A0_1 l0_1.length c0_1, .slice (some ad164) l0_2.length c0_2] 25 (0, 0))) := ⟨by (with_reducible repeat (first | refine blk_drewN ?_ _ | refine blk_drew ?_ | refine blk_alloc ?_ _)); refine blk_far ?_ NB162_165.out _; (with_reducible repeat (first | refine blk_drewN ?_ _ | refine blk_drew ?_ | refine blk_alloc ?_ _)); refine blk_far ?_ NB162_165.out _; (with_reducible repeat (first | refine blk_drewN ?_ _ | refine blk_drew ?_ | refine blk_alloc ?_ _)); refine blk_far ?_ NB162_165.out _; (with_reducible repeat (first | refine blk_drewN ?_ _ | refine blk_drew ?_ | refine blk_alloc ?_ _)); refine blk_far ?_ NB162_165.out _; (with_reducible repeat (first | refine blk_drewN ?_ _ | refine blk_drew ?_ | refine blk_alloc ?_ _)); exact BK162.out⟩
               have n1_ : Aside0 (((((w15.setCell ⟨gb165, 0, none⟩ (.int .i64 ((rd_T104 l0_2 x3_2).f0.f0))).setCell ⟨gb165, 1, none⟩ (.int .i64 ((rd_T104 l0_2 x3_2).f0.f1))).setCell ⟨gb165, 2, none⟩ (.int .i64 ((rd_T104 l0_2 x3_2).f1))).setCell ⟨gb165, 3, none⟩ (.int .i64 ((rd_T104 l0_2 x3_2).f2))).heap[gb165]? = some (.cells #[.int .i64 ((rd_T104 l0_2 x3_2).f0.f0), .int .i64 ((rd_T104 l0_2 x3_2).f0.f1), .int .i64 ((rd_T104 l0_2 x3_2).f1), .int .i64 ((rd_T104 l0_2 x3_2).f2)] 104 (0, 0))) := ⟨by (with_reducible repeat (first | refine blk_drewN ?_ _ | refine blk_drew ?_ | refine blk_alloc ?_ _)); refine blk_put (cs := #[.int .i64 ((rd_T104 l0_2 x3_2).f0.f0), .int .i64 ((rd_T104 l0_2 x3_2).f0.f1), .int .i64 ((rd_T104 l0_2 x3_2).f1), .int .i64 0]) ?_ 3 _ rfl; (with_reducible repeat (first | refine blk_drewN ?_ _ | refine blk_drew ?_ | refine blk_alloc ?_ _)); refine blk_put (cs := #[.int .i64 ((rd_T104 l0_2 x3_2).f0.f0), .int .i64 ((rd_T104 l0_2 x3_2).f0.f1), .int .i64 0, .int .i64 0]) ?_ 2 _ rfl; (with_reducible repeat (first | refine blk_drewN ?_ _ | refine blk_drew ?_ | refine blk_alloc ?_ _)); refine blk_put (cs := #[.int .i64 ((rd_T104 l0_2 x3_2).f0.f0), .int .i64 0, .int .i64 0, .int .i64 0]) ?_ 1 _ rfl; (with_reducible repeat (first | refine blk_drewN ?_ _ | refine blk_drew ?_ | refine blk_alloc ?_ _)); refine blk_put (cs := #[.int .i64 0, .int .i64 0, .int .i64 0, .int .i64 0]) ?_ 0 _ rfl; (with_reducible repeat (first | refine blk_drewN ?_ _ | refine blk_drew ?_ | refine blk_alloc ?_ _)); exact BK165.out⟩
               have n2_ : Aside0 (Below w.heap.size w ((((w15.setCell ⟨gb165, 0, none⟩ (.int .i64 ((rd_T104 l0_2 x3_2).f0.f0))).setCell ⟨gb165, 1, none⟩ (.int .i64 ((rd_T104 l0_2 x3_2).f0.f1))).setCell ⟨gb165, 2, none⟩ (.int .i64 ((rd_T104 l0_2 x3_2).f1))).setCell ⟨gb165, 3, none⟩ (.int .i64 ((rd_T104 l0_2 x3_2).f2)))) := ⟨by repeat (first | (with_reducible first | exact HB.out | apply below_alloc | apply pw_below_drewN | apply below_drew1 | refine below_set ?_ GE162.out | refine below_set ?_ GE165.out) | exact HB.out)⟩
               (try clear BK162)
               (try clear BK165)
               (try clear HB)
               generalize ((((w15.setCell ⟨gb165, 0, none⟩ (.int .i64 ((rd_T104 l0_2 x3_2).f0.f0))).setCell ⟨gb165, 1, none⟩ (.int .i64 ((rd_T104 l0_2 x3_2).f0.f1))).setCell ⟨gb165, 2, none⟩ (.int .i64 ((rd_T104 l0_2 x3_2).f1))).setCell ⟨gb165, 3, none⟩ (.int .i64 ((rd_T104 l0_2 x3_2).f2))) = w52 at n0_ n1_ n2_ ⊢
               have BK162 := n0_
               have BK165 := n1_
               have HB := n2_
               clear n0_ n1_ n2_
               have n0_ := Aside0.mk (blk_drew BK162.out)
               have n1_ := Aside0.mk (blk_drew BK165.out)
               have n2_ := Aside0.mk (below_drew1 HB.out)
               clear BK162
               clear BK165
               clear HB
               have BK162 := n0_
               have BK165 := n1_
               have HB := n2_
               clear n0_ n1_ n2_
               refine start_ (n := 48) (S := fun w' => w'.cell? ⟨gb165, 0, none⟩ = some (.int .i64 ((rd_T104 l0_2 x3_2).f0.f0)) ∧ w'.cell? ⟨gb165, 1, none⟩ = some (.int .i64 ((rd_T104 l0_2 x3_2).f0.f1)) ∧ w'.cell? ⟨gb165, 2, none⟩ = some (.int .i64 ((rd_T104 l0_2 x3_2).f1)) ∧ w'.cell? ⟨gb165, 3, none⟩ = some (.int .i64 ((rd_T104 l0_2 x3_2).f2))) (ds := []) #[false, false, false, false, false, false, false, false, false, false, false, false, false, false, false, false, false, false, false, false, false, false, false, false, false, false, false, false, false, false, false, false, false, false, false, false, false, false, false, false, false, false, false, false, false, false, false, false] (by kernel_rfl) rfl rfl ⟨(blk_cell BK165.out 0).trans rfl, (blk_cell BK165.out 1).trans rfl, (blk_cell BK165.out 2).trans rfl, (blk_cell BK165.out 3).trans rfl⟩ (fun hHeld => ?_); refine with_tabW spec_CertOk.tab7 spec_CertOk.bits7 (fun HT_ HW_ => ?_)
               generalize w52.drew = w53 at BK162 BK165 HB hHeld ⊢
               refine pu_ (i := 0) (N := some 31) (v := ?_) (a' := ?_) rfl rfl (any_of HT_.out (by kernel_rfl)) (fun _ _ _ h => h) (Or.inl ⟨by rfl, ?_⟩) ?_ ?_; rotate_left; (· (intro w'; go_simp; with_reducible rfl)); rotate_left; (· (simp only [Act.put, sA_, sZ_, sS_, i64_w, i32_w]; rfl))
               refine ta_ (i := 1) (N := some 32) (v := ?_) (a' := ?_) rfl rfl (take_ofW HT_.out HW_.out (by kernel_rfl)) (fun _ _ _ h => h) (Or.inl ⟨by rfl, ?_⟩) hHeld ?_ ?_
               rotate_left
               ·rintro w' ⟨s0, s1, s2, s3⟩
                go_simp
                with_reducible rfl
               rotate_left; (· (simp only [Act.put, sA_, sZ_, sS_, i64_w, i32_w]; rfl))
               refine on_ (i := 2) (N := some 33) rfl rfl (one_of HT_.out (by kernel_rfl)) (by decide) (fun K hK => ?_)
               refine goes_ Try.func90 (by kernel_rfl) rfl #[.agg #[.int .i64 ((rd_T104 l0_2 x3_2).f0.f0), .int .i64 ((rd_T104 l0_2 x3_2).f0.f1)]] (by rfl) rfl rfl (by (try simp only [List.map_toArray, List.map_cons, List.map_nil]); first | done | rfl | (simp only [List.length_drop, List.length_take]; rfl)) ?_
               with_reducible refine (spec_l5Req.calls ((rd_T104 l0_2 x3_2).f0.f0) ((rd_T104 l0_2 x3_2).f0.f1) true _ A18.out).mono ?_
               rintro e w54 ⟨rfl, hb⟩
               refine ⟨_, rfl, ?_⟩
               have n0_ := Aside0.mk (blk_below (g := gb162) (o := .cells #[.int .i64 a0_0, .slice A0_1 l0_1.length c0_1, .slice (some ad164) l0_2.length c0_2] 25 (0, 0)) (by (with_reducible repeat (first | refine blk_drewN ?_ _ | refine blk_drew ?_ | refine blk_alloc ?_ _)); exact BK162.out) hb)
               have n1_ := Aside0.mk (blk_below (g := gb165) (o := .cells #[.int .i64 ((rd_T104 l0_2 x3_2).f0.f0), .int .i64 ((rd_T104 l0_2 x3_2).f0.f1), .int .i64 ((rd_T104 l0_2 x3_2).f1), .int .i64 ((rd_T104 l0_2 x3_2).f2)] 104 (0, 0)) (by (with_reducible repeat (first | refine blk_drewN ?_ _ | refine blk_drew ?_ | refine blk_alloc ?_ _)); exact BK165.out) hb)
               have n2_ := Aside0.mk (below_step (by repeat (first | (with_reducible first | exact HB.out | apply below_alloc | apply pw_below_drewN | apply below_drew1 | refine below_set ?_ GE162.out | refine below_set ?_ GE165.out) | exact HB.out)) hb)
               clear BK162
               clear BK165
               clear HB
               have BK162 := n0_
               have BK165 := n1_
               have HB := n2_
               clear n0_ n1_ n2_
               (try clear hb)
               (try clear hb2)
               (try clear hk)
               (try clear hi)
               refine hK.out _ _ ⟨(blk_cell BK165.out 0).trans rfl, (blk_cell BK165.out 1).trans rfl, (blk_cell BK165.out 2).trans rfl, (blk_cell BK165.out 3).trans rfl⟩ (fun hHeld => ?_)
               clear hK K
               refine norm_ (a' := ?_) ?_ ?_
               rotate_left
               ·show Act.put _ (some 33) _ = _
                simp only [Act.put, sA_, sZ_, sS_, i64_w, i32_w]
                rfl
               refine pu_ (i := 3) (N := some 34) (v := ?_) (a' := ?_) rfl rfl (any_of HT_.out (by kernel_rfl)) (fun _ _ _ h => h) (Or.inl ⟨by rfl, ?_⟩) ?_ ?_; rotate_left; (· (intro w'; go_simp; with_reducible rfl)); rotate_left; (· (simp only [Act.put, sA_, sZ_, sS_, i64_w, i32_w]; rfl))
               refine pu_ (i := 4) (N := some 35) (v := ?_) (a' := ?_) rfl rfl (any_of HT_.out (by kernel_rfl)) (fun _ _ _ h => h) (Or.inl ⟨by rfl, ?_⟩) ?_ ?_; rotate_left; (· (intro w'; go_simp; with_reducible rfl))
               rotate_left; (· (simp only [Act.put, sA_, sZ_, sS_, i64_w, i32_w]; rfl))
               refine pu_ (i := 5) (N := some 36) (v := ?_) (a' := ?_) rfl rfl (any_of HT_.out (by kernel_rfl)) (fun _ _ _ h => h) (Or.inl ⟨by rfl, ?_⟩) ?_ ?_; rotate_left; (· (intro w'; go_simp; with_reducible rfl)); rotate_left; (· (simp only [Act.put, sA_, sZ_, sS_, i64_w, i32_w]; rfl))
               refine ta_ (i := 6) (N := some 37) (v := ?_) (a' := ?_) rfl rfl (take_ofW HT_.out HW_.out (by kernel_rfl)) (fun _ _ _ h => h) (Or.inl ⟨by rfl, ?_⟩) hHeld ?_ ?_
               rotate_left
               ·rintro w' ⟨s0, s1, s2, s3⟩
                go_simp
                with_reducible rfl
               rotate_left; (· (simp only [Act.put, sA_, sZ_, sS_, i64_w, i32_w]; rfl))
               refine pu_ (i := 7) (N := some 38) (v := ?_) (a' := ?_) rfl rfl (any_of HT_.out (by kernel_rfl)) (fun _ _ _ h => h) (Or.inl ⟨by rfl, ?_⟩) ?_ ?_; rotate_left; (· (intro w'; go_simp; with_reducible rfl)); rotate_left; (· (simp only [Act.put, sA_, sZ_, sS_, i64_w, i32_w]; rfl))
               refine pu_ (i := 8) (N := some 39) (v := ?_) (a' := ?_) rfl rfl (any_of HT_.out (by kernel_rfl)) (fun _ _ _ h => h) (Or.inl ⟨by rfl, ?_⟩) ?_ ?_; rotate_left; (· (intro w'; go_simp; with_reducible rfl))
               rotate_left; (· (simp only [Act.put, sA_, sZ_, sS_, i64_w, i32_w]; rfl))
               refine pu_ (i := 9) (N := some 40) (v := ?_) (a' := ?_) rfl rfl (any_of HT_.out (by kernel_rfl)) (fun _ _ _ h => h) (Or.inl ⟨by rfl, ?_⟩) ?_ ?_; rotate_left; (· (intro w'; go_simp; with_reducible rfl)); rotate_left; (· (simp only [Act.put, sA_, sZ_, sS_, i64_w, i32_w]; rfl))
               refine pu_ (i := 10) (N := some 41) (v := ?_) (a' := ?_) rfl rfl (any_of HT_.out (by kernel_rfl)) (fun _ _ _ h => h) (Or.inl ⟨by rfl, ?_⟩) ?_ ?_; rotate_left; (· (intro w'; go_simp; with_reducible rfl))
               rotate_left; (· (simp only [Act.put, sA_, sZ_, sS_, i64_w, i32_w]; rfl))
               refine ta_ (i := 11) (N := some 42) (v := ?_) (a' := ?_) rfl rfl (take_ofW HT_.out HW_.out (by kernel_rfl)) (fun _ _ _ h => h) (Or.inl ⟨by rfl, ?_⟩) hHeld ?_ ?_
               rotate_left
               ·rintro w' ⟨s0, s1, s2, s3⟩
                go_simp
                with_reducible rfl
               rotate_left; (· (simp only [Act.put, sA_, sZ_, sS_, i64_w, i32_w]; rfl))
               refine pu_ (i := 12) (N := some 43) (v := ?_) (a' := ?_) rfl rfl (any_of HT_.out (by kernel_rfl)) (fun _ _ _ h => h) (Or.inl ⟨by rfl, ?_⟩) ?_ ?_; rotate_left; (· (intro w'; go_simp; with_reducible rfl)); rotate_left; (· (simp only [Act.put, sA_, sZ_, sS_, i64_w, i32_w]; rfl))
               refine pu_ (i := 13) (N := some 44) (v := ?_) (a' := ?_) rfl rfl (any_of HT_.out (by kernel_rfl)) (fun _ _ _ h => h) (Or.inl ⟨by rfl, ?_⟩) ?_ ?_; rotate_left; (· (intro w'; go_simp; with_reducible rfl))
               rotate_left; (· (simp only [Act.put, sA_, sZ_, sS_, i64_w, i32_w]; rfl))
               refine pu_ (i := 14) (N := some 45) (v := ?_) (a' := ?_) rfl rfl (any_of HT_.out (by kernel_rfl)) (fun _ _ _ h => h) (Or.inl ⟨by rfl, ?_⟩) ?_ ?_; rotate_left; (· (intro w'; go_simp; with_reducible rfl)); rotate_left; (· (simp only [Act.put, sA_, sZ_, sS_, i64_w, i32_w]; rfl))
               refine pu_ (i := 15) (N := some 46) (v := ?_) (a' := ?_) rfl rfl (any_of HT_.out (by kernel_rfl)) (fun _ _ _ h => h) (Or.inl ⟨by rfl, ?_⟩) ?_ ?_; rotate_left; (· (intro w'; go_simp; with_reducible rfl))
               rotate_left; (· (simp only [Act.put, sA_, sZ_, sS_, i64_w, i32_w]; rfl))
               refine ta_ (i := 16) (N := some 47) (v := ?_) (a' := ?_) rfl rfl (take_ofW HT_.out HW_.out (by kernel_rfl)) (fun _ _ _ h => h) (Or.inl ⟨by rfl, ?_⟩) hHeld ?_ ?_
               rotate_left
               ·rintro w' ⟨s0, s1, s2, s3⟩
                go_simp
                with_reducible rfl
               rotate_left; (· (simp only [Act.put, sA_, sZ_, sS_, i64_w, i32_w]; rfl))
               refine on_ (i := 17) (N := some 48) rfl rfl (one_of HT_.out (by kernel_rfl)) (by decide) (fun K hK => ?_)
               refine goes_ Try.func82 (by kernel_rfl) rfl #[.int .i64 ((rd_T104 l0_2 x3_2).f2)] (by rfl) rfl rfl (by (try simp only [List.map_toArray, List.map_cons, List.map_nil]); first | done | rfl | (simp only [List.length_drop, List.length_take]; rfl)) ?_
               with_reducible refine (spec_l1Num.calls ((rd_T104 l0_2 x3_2).f2) true _ A28.out).mono ?_
               rintro e w' ⟨rfl, ⟨nd, rfl⟩⟩
               refine ⟨_, rfl, ?_⟩
               refine hK.out _ _ ⟨(blk_cell BK165.out 0).trans rfl, (blk_cell BK165.out 1).trans rfl, (blk_cell BK165.out 2).trans rfl, (blk_cell BK165.out 3).trans rfl⟩ (fun hHeld => ?_)
               clear hK K
               refine norm_ (a' := ?_) ?_ ?_
               rotate_left
               ·show Act.put _ (some 48) _ = _
                simp only [Act.put, sA_, sZ_, sS_, i64_w, i32_w]
                rfl
               refine pu_ (i := 18) (N := some 49) (v := ?_) (a' := ?_) rfl rfl (any_of HT_.out (by kernel_rfl)) (fun _ _ _ h => h) (Or.inl ⟨by rfl, ?_⟩) ?_ ?_; rotate_left; (· (intro w'; go_simp; with_reducible rfl)); rotate_left; (· (simp only [Act.put, sA_, sZ_, sS_, i64_w, i32_w]; rfl))
               refine pu_ (i := 19) (N := some 50) (v := ?_) (a' := ?_) rfl rfl (any_of HT_.out (by kernel_rfl)) (fun _ _ _ h => h) (Or.inl ⟨by rfl, ?_⟩) ?_ ?_; rotate_left; (· (intro w'; go_simp; with_reducible rfl))
               rotate_left; (· (simp only [Act.put, sA_, sZ_, sS_, i64_w, i32_w]; rfl))
               refine pu_ (i := 20) (N := some 51) (v := ?_) (a' := ?_) rfl rfl (any_of HT_.out (by kernel_rfl)) (fun _ _ _ h => h) (Or.inl ⟨by rfl, ?_⟩) ?_ ?_; rotate_left; (· (intro w'; go_simp; with_reducible rfl)); rotate_left; (· (simp only [Act.put, sA_, sZ_, sS_, i64_w, i32_w]; rfl))
               refine pu_ (i := 21) (N := some 52) (v := ?_) (a' := ?_) rfl rfl (any_of HT_.out (by kernel_rfl)) (fun _ _ _ h => h) (Or.inl ⟨by rfl, ?_⟩) ?_ ?_; rotate_left; (· (intro w'; go_simp; with_reducible rfl))
               rotate_left; (· (simp only [Act.put, sA_, sZ_, sS_, i64_w, i32_w]; rfl))
               refine ta_ (i := 22) (N := some 53) (v := ?_) (a' := ?_) rfl rfl (take_ofW HT_.out HW_.out (by kernel_rfl)) (fun _ _ _ h => h) (Or.inl ⟨by rfl, ?_⟩) hHeld ?_ ?_
               rotate_left
               ·rintro w' ⟨s0, s1, s2, s3⟩
                go_simp
                with_reducible rfl
               rotate_left; (· (simp only [Act.put, sA_, sZ_, sS_, i64_w, i32_w]; rfl))
               refine pu_ (i := 23) (N := some 54) (v := ?_) (a' := ?_) rfl rfl (any_of HT_.out (by kernel_rfl)) (fun _ _ _ h => h) (Or.inl ⟨by rfl, ?_⟩) ?_ ?_; rotate_left; (· (intro w'; go_simp; with_reducible rfl)); rotate_left; (· (simp only [Act.put, sA_, sZ_, sS_, i64_w, i32_w]; rfl))
               refine pu_ (i := 24) (N := some 55) (v := ?_) (a' := ?_) rfl rfl (any_of HT_.out (by kernel_rfl)) (fun _ _ _ h => h) (Or.inl ⟨by rfl, ?_⟩) ?_ ?_; rotate_left; (· (intro w'; go_simp; with_reducible rfl))
               rotate_left; (· (simp only [Act.put, sA_, sZ_, sS_, i64_w, i32_w]; rfl))
               refine pu_ (i := 25) (N := some 56) (v := ?_) (a' := ?_) rfl rfl (any_of HT_.out (by kernel_rfl)) (fun _ _ _ h => h) (Or.inl ⟨by rfl, ?_⟩) ?_ ?_; rotate_left; (· (intro w'; go_simp; with_reducible rfl)); rotate_left; (· (simp only [Act.put, sA_, sZ_, sS_, i64_w, i32_w]; rfl))
               refine ta_ (i := 26) (N := some 57) (v := ?_) (a' := ?_) rfl rfl (take_ofW HT_.out HW_.out (by kernel_rfl)) (fun _ _ _ h => h) (Or.inl ⟨by rfl, ?_⟩) hHeld ?_ ?_
               rotate_left
               ·rintro w' ⟨s0, s1, s2, s3⟩
                go_simp
                with_reducible rfl
               rotate_left; (· (simp only [Act.put, sA_, sZ_, sS_, i64_w, i32_w]; rfl))
               refine pu_ (i := 27) (N := some 58) (v := ?_) (a' := ?_) rfl rfl (any_of HT_.out (by kernel_rfl)) (fun _ _ _ h => h) (Or.inl ⟨by rfl, ?_⟩) ?_ ?_; rotate_left; (· (intro w'; go_simp; with_reducible rfl)); rotate_left; (· (simp only [Act.put, sA_, sZ_, sS_, i64_w, i32_w]; rfl))
               refine pu_ (i := 28) (N := some 59) (v := ?_) (a' := ?_) rfl rfl (any_of HT_.out (by kernel_rfl)) (fun _ _ _ h => h) (Or.inl ⟨by rfl, ?_⟩) ?_ ?_; rotate_left; (· (intro w'; go_simp; with_reducible rfl))
               rotate_left; (· (simp only [Act.put, sA_, sZ_, sS_, i64_w, i32_w]; rfl))
               refine pu_ (i := 29) (N := some 60) (v := ?_) (a' := ?_) rfl rfl (any_of HT_.out (by kernel_rfl)) (fun _ _ _ h => h) (Or.inl ⟨by rfl, ?_⟩) ?_ ?_; rotate_left; (· (intro w'; go_simp; with_reducible rfl)); rotate_left; (· (simp only [Act.put, sA_, sZ_, sS_, i64_w, i32_w]; rfl))
               refine pu_ (i := 30) (N := some 61) (v := ?_) (a' := ?_) rfl rfl (any_of HT_.out (by kernel_rfl)) (fun _ _ _ h => h) (Or.inl ⟨by rfl, ?_⟩) ?_ ?_; rotate_left; (· (intro w'; go_simp; with_reducible rfl))
               rotate_left; (· (simp only [Act.put, sA_, sZ_, sS_, i64_w, i32_w]; rfl))
               refine pu_ (i := 31) (N := some 62) (v := undef) (a' := ?_) rfl rfl (any_of HT_.out (by kernel_rfl)) (fun _ _ _ h => h) (Or.inr ⟨by rfl, rfl⟩) ?_ ?_; rotate_left; (· (simp only [Act.put, sA_, sZ_, sS_, i64_w, i32_w]; rfl))
               refine pu_ (i := 32) (N := some 63) (v := undef) (a' := ?_) rfl rfl (any_of HT_.out (by kernel_rfl)) (fun _ _ _ h => h) (Or.inr ⟨by rfl, rfl⟩) ?_ ?_
               rotate_left; (· (simp only [Act.put, sA_, sZ_, sS_, i64_w, i32_w]; rfl))
               refine pu_ (i := 33) (N := some 64) (v := undef) (a' := ?_) rfl rfl (any_of HT_.out (by kernel_rfl)) (fun _ _ _ h => h) (Or.inr ⟨by rfl, rfl⟩) ?_ ?_; rotate_left; (· (simp only [Act.put, sA_, sZ_, sS_, i64_w, i32_w]; rfl))
               refine pu_ (i := 34) (N := some 65) (v := undef) (a' := ?_) rfl rfl (any_of HT_.out (by kernel_rfl)) (fun _ _ _ h => h) (Or.inr ⟨by rfl, rfl⟩) ?_ ?_
               rotate_left; (· (simp only [Act.put, sA_, sZ_, sS_, i64_w, i32_w]; rfl))
               refine pu_ (i := 35) (N := some 66) (v := undef) (a' := ?_) rfl rfl (any_of HT_.out (by kernel_rfl)) (fun _ _ _ h => h) (Or.inr ⟨by rfl, rfl⟩) ?_ ?_; rotate_left; (· (simp only [Act.put, sA_, sZ_, sS_, i64_w, i32_w]; rfl))
               refine pu_ (i := 36) (N := some 67) (v := undef) (a' := ?_) rfl rfl (any_of HT_.out (by kernel_rfl)) (fun _ _ _ h => h) (Or.inr ⟨by rfl, rfl⟩) ?_ ?_
               rotate_left; (· (simp only [Act.put, sA_, sZ_, sS_, i64_w, i32_w]; rfl))
               refine pu_ (i := 37) (N := some 68) (v := undef) (a' := ?_) rfl rfl (any_of HT_.out (by kernel_rfl)) (fun _ _ _ h => h) (Or.inr ⟨by rfl, rfl⟩) ?_ ?_; rotate_left; (· (simp only [Act.put, sA_, sZ_, sS_, i64_w, i32_w]; rfl))
               refine pu_ (i := 38) (N := some 69) (v := undef) (a' := ?_) rfl rfl (any_of HT_.out (by kernel_rfl)) (fun _ _ _ h => h) (Or.inr ⟨by rfl, rfl⟩) ?_ ?_
               rotate_left; (· (simp only [Act.put, sA_, sZ_, sS_, i64_w, i32_w]; rfl))
               refine pu_ (i := 39) (N := some 70) (v := undef) (a' := ?_) rfl rfl (any_of HT_.out (by kernel_rfl)) (fun _ _ _ h => h) (Or.inr ⟨by rfl, rfl⟩) ?_ ?_; rotate_left; (· (simp only [Act.put, sA_, sZ_, sS_, i64_w, i32_w]; rfl))
               refine pu_ (i := 40) (N := some 71) (v := undef) (a' := ?_) rfl rfl (any_of HT_.out (by kernel_rfl)) (fun _ _ _ h => h) (Or.inr ⟨by rfl, rfl⟩) ?_ ?_
               rotate_left; (· (simp only [Act.put, sA_, sZ_, sS_, i64_w, i32_w]; rfl))
               refine pu_ (i := 41) (N := some 72) (v := undef) (a' := ?_) rfl rfl (any_of HT_.out (by kernel_rfl)) (fun _ _ _ h => h) (Or.inr ⟨by rfl, rfl⟩) ?_ ?_; rotate_left; (· (simp only [Act.put, sA_, sZ_, sS_, i64_w, i32_w]; rfl))
               refine pu_ (i := 42) (N := some 73) (v := undef) (a' := ?_) rfl rfl (any_of HT_.out (by kernel_rfl)) (fun _ _ _ h => h) (Or.inr ⟨by rfl, rfl⟩) ?_ ?_
               rotate_left; (· (simp only [Act.put, sA_, sZ_, sS_, i64_w, i32_w]; rfl))
               refine pu_ (i := 43) (N := some 74) (v := undef) (a' := ?_) rfl rfl (any_of HT_.out (by kernel_rfl)) (fun _ _ _ h => h) (Or.inr ⟨by rfl, rfl⟩) ?_ ?_; rotate_left; (· (simp only [Act.put, sA_, sZ_, sS_, i64_w, i32_w]; rfl))
               refine pu_ (i := 44) (N := some 75) (v := undef) (a' := ?_) rfl rfl (any_of HT_.out (by kernel_rfl)) (fun _ _ _ h => h) (Or.inr ⟨by rfl, rfl⟩) ?_ ?_
               rotate_left; (· (simp only [Act.put, sA_, sZ_, sS_, i64_w, i32_w]; rfl))
               refine pu_ (i := 45) (N := some 76) (v := undef) (a' := ?_) rfl rfl (any_of HT_.out (by kernel_rfl)) (fun _ _ _ h => h) (Or.inr ⟨by rfl, rfl⟩) ?_ ?_; rotate_left; (· (simp only [Act.put, sA_, sZ_, sS_, i64_w, i32_w]; rfl))
               refine pu_ (i := 46) (N := some 77) (v := undef) (a' := ?_) rfl rfl (any_of HT_.out (by kernel_rfl)) (fun _ _ _ h => h) (Or.inr ⟨by rfl, rfl⟩) ?_ ?_
               rotate_left; (· (simp only [Act.put, sA_, sZ_, sS_, i64_w, i32_w]; rfl))
               refine pu_ (i := 47) (N := some 78) (v := ?_) (a' := ?_) rfl rfl (any_of HT_.out (by kernel_rfl)) (fun _ _ _ h => h) (Or.inl ⟨by rfl, ?_⟩) ?_ ?_; rotate_left; (· (intro w'; go_simp; with_reducible rfl)); rotate_left; (· (simp only [Act.put, sA_, sZ_, sS_, i64_w, i32_w]; rfl))
               refine done_ (done_of HT_.out (by kernel_rfl)) ?_
               try go_wp2
               go_meet
               case rel => exact ⟨_, (true), (by first | rfl | (simp; done) | (simp [*]; done)), H', ⟨by have := HJ1.out; have := HK2.out; first | omega | exact Nat.le_refl _⟩, ⟨by (with_reducible repeat (first | refine blk_drewN ?_ _ | refine blk_drew ?_ | refine blk_alloc ?_ _)); exact BK162.out⟩, ⟨by (with_reducible repeat (first | refine blk_drewN ?_ _ | refine blk_drew ?_ | refine blk_alloc ?_ _)); exact BK165.out⟩, ⟨by repeat (first | (with_reducible first | exact HB.out | apply below_alloc | apply pw_below_drewN | apply below_drew1 | refine below_set ?_ GE162.out | refine below_set ?_ GE165.out) | exact HB.out)⟩⟩
            ·replace c29 := Bool.eq_false_iff.mpr c29
             subst c29
             have H1 : (spec_CertOk.j2 k2 x3_2 true a0_0 l0_1 l0_2) = some r := by rw [if_neg (show ¬ (false = true) by decide)] at H; exact H
             clear H
             have H := H1
             clear H1
             have H' := Aside0.mk H
             clear H
             try go_wp2
             have n0_ : Aside0 (((((w15.setCell ⟨gb165, 0, none⟩ (.int .i64 ((rd_T104 l0_2 x3_2).f0.f0))).setCell ⟨gb165, 1, none⟩ (.int .i64 ((rd_T104 l0_2 x3_2).f0.f1))).setCell ⟨gb165, 2, none⟩ (.int .i64 ((rd_T104 l0_2 x3_2).f1))).setCell ⟨gb165, 3, none⟩ (.int .i64 ((rd_T104 l0_2 x3_2).f2))).heap[gb162]? = some (.cells #[.int .i64 a0_0, .slice A0_1 l0_1.length c0_1, .slice (some ad164) l0_2.length c0_2] 25 (0, 0))) := ⟨by (with_reducible repeat (first | refine blk_drewN ?_ _ | refine blk_drew ?_ | refine blk_alloc ?_ _)); refine blk_far ?_ NB162_165.out _; (with_reducible repeat (first | refine blk_drewN ?_ _ | refine blk_drew ?_ | refine blk_alloc ?_ _)); refine blk_far ?_ NB162_165.out _; (with_reducible repeat (first | refine blk_drewN ?_ _ | refine blk_drew ?_ | refine blk_alloc ?_ _)); refine blk_far ?_ NB162_165.out _; (with_reducible repeat (first | refine blk_drewN ?_ _ | refine blk_drew ?_ | refine blk_alloc ?_ _)); refine blk_far ?_ NB162_165.out _; (with_reducible repeat (first | refine blk_drewN ?_ _ | refine blk_drew ?_ | refine blk_alloc ?_ _)); exact BK162.out⟩
             have n1_ : Aside0 (((((w15.setCell ⟨gb165, 0, none⟩ (.int .i64 ((rd_T104 l0_2 x3_2).f0.f0))).setCell ⟨gb165, 1, none⟩ (.int .i64 ((rd_T104 l0_2 x3_2).f0.f1))).setCell ⟨gb165, 2, none⟩ (.int .i64 ((rd_T104 l0_2 x3_2).f1))).setCell ⟨gb165, 3, none⟩ (.int .i64 ((rd_T104 l0_2 x3_2).f2))).heap[gb165]? = some (.cells #[.int .i64 ((rd_T104 l0_2 x3_2).f0.f0), .int .i64 ((rd_T104 l0_2 x3_2).f0.f1), .int .i64 ((rd_T104 l0_2 x3_2).f1), .int .i64 ((rd_T104 l0_2 x3_2).f2)] 104 (0, 0))) := ⟨by (with_reducible repeat (first | refine blk_drewN ?_ _ | refine blk_drew ?_ | refine blk_alloc ?_ _)); refine blk_put (cs := #[.int .i64 ((rd_T104 l0_2 x3_2).f0.f0), .int .i64 ((rd_T104 l0_2 x3_2).f0.f1), .int .i64 ((rd_T104 l0_2 x3_2).f1), .int .i64 0]) ?_ 3 _ rfl; (with_reducible repeat (first | refine blk_drewN ?_ _ | refine blk_drew ?_ | refine blk_alloc ?_ _)); refine blk_put (cs := #[.int .i64 ((rd_T104 l0_2 x3_2).f0.f0), .int .i64 ((rd_T104 l0_2 x3_2).f0.f1), .int .i64 0, .int .i64 0]) ?_ 2 _ rfl; (with_reducible repeat (first | refine blk_drewN ?_ _ | refine blk_drew ?_ | refine blk_alloc ?_ _)); refine blk_put (cs := #[.int .i64 ((rd_T104 l0_2 x3_2).f0.f0), .int .i64 0, .int .i64 0, .int .i64 0]) ?_ 1 _ rfl; (with_reducible repeat (first | refine blk_drewN ?_ _ | refine blk_drew ?_ | refine blk_alloc ?_ _)); refine blk_put (cs := #[.int .i64 0, .int .i64 0, .int .i64 0, .int .i64 0]) ?_ 0 _ rfl; (with_reducible repeat (first | refine blk_drewN ?_ _ | refine blk_drew ?_ | refine blk_alloc ?_ _)); exact BK165.out⟩
             have n2_ : Aside0 (Below w.heap.size w ((((w15.setCell ⟨gb165, 0, none⟩ (.int .i64 ((rd_T104 l0_2 x3_2).f0.f0))).setCell ⟨gb165, 1, none⟩ (.int .i64 ((rd_T104 l0_2 x3_2).f0.f1))).setCell ⟨gb165, 2, none⟩ (.int .i64 ((rd_T104 l0_2 x3_2).f1))).setCell ⟨gb165, 3, none⟩ (.int .i64 ((rd_T104 l0_2 x3_2).f2)))) := ⟨by repeat (first | (with_reducible first | exact HB.out | apply below_alloc | apply pw_below_drewN | apply below_drew1 | refine below_set ?_ GE162.out | refine below_set ?_ GE165.out) | exact HB.out)⟩
             (try clear BK162)
             (try clear BK165)
             (try clear HB)
             generalize ((((w15.setCell ⟨gb165, 0, none⟩ (.int .i64 ((rd_T104 l0_2 x3_2).f0.f0))).setCell ⟨gb165, 1, none⟩ (.int .i64 ((rd_T104 l0_2 x3_2).f0.f1))).setCell ⟨gb165, 2, none⟩ (.int .i64 ((rd_T104 l0_2 x3_2).f1))).setCell ⟨gb165, 3, none⟩ (.int .i64 ((rd_T104 l0_2 x3_2).f2))) = w55 at n0_ n1_ n2_ ⊢
             have BK162 := n0_
             have BK165 := n1_
             have HB := n2_
             clear n0_ n1_ n2_
             have n0_ := Aside0.mk (blk_drew BK162.out)
             have n1_ := Aside0.mk (blk_drew BK165.out)
             have n2_ := Aside0.mk (below_drew1 HB.out)
             clear BK162
             clear BK165
             clear HB
             have BK162 := n0_
             have BK165 := n1_
             have HB := n2_
             clear n0_ n1_ n2_
             refine start_ (n := 48) (S := fun w' => w'.cell? ⟨gb165, 0, none⟩ = some (.int .i64 ((rd_T104 l0_2 x3_2).f0.f0)) ∧ w'.cell? ⟨gb165, 1, none⟩ = some (.int .i64 ((rd_T104 l0_2 x3_2).f0.f1)) ∧ w'.cell? ⟨gb165, 2, none⟩ = some (.int .i64 ((rd_T104 l0_2 x3_2).f1)) ∧ w'.cell? ⟨gb165, 3, none⟩ = some (.int .i64 ((rd_T104 l0_2 x3_2).f2))) (ds := []) #[false, false, false, false, false, false, false, false, false, false, false, false, false, false, false, false, false, false, false, false, false, false, false, false, false, false, false, false, false, false, false, false, false, false, false, false, false, false, false, false, false, false, false, false, false, false, false, false] (by kernel_rfl) rfl rfl ⟨(blk_cell BK165.out 0).trans rfl, (blk_cell BK165.out 1).trans rfl, (blk_cell BK165.out 2).trans rfl, (blk_cell BK165.out 3).trans rfl⟩ (fun hHeld => ?_); refine with_tabW spec_CertOk.tab7 spec_CertOk.bits7 (fun HT_ HW_ => ?_)
             generalize w55.drew = w56 at BK162 BK165 HB hHeld ⊢
             refine pu_ (i := 0) (N := some 31) (v := ?_) (a' := ?_) rfl rfl (any_of HT_.out (by kernel_rfl)) (fun _ _ _ h => h) (Or.inl ⟨by rfl, ?_⟩) ?_ ?_; rotate_left; (· (intro w'; go_simp; with_reducible rfl)); rotate_left; (· (simp only [Act.put, sA_, sZ_, sS_, i64_w, i32_w]; rfl))
             refine ta_ (i := 1) (N := some 32) (v := ?_) (a' := ?_) rfl rfl (take_ofW HT_.out HW_.out (by kernel_rfl)) (fun _ _ _ h => h) (Or.inl ⟨by rfl, ?_⟩) hHeld ?_ ?_
             rotate_left
             ·rintro w' ⟨s0, s1, s2, s3⟩
              go_simp
              with_reducible rfl
             rotate_left; (· (simp only [Act.put, sA_, sZ_, sS_, i64_w, i32_w]; rfl))
             refine on_ (i := 2) (N := some 33) rfl rfl (one_of HT_.out (by kernel_rfl)) (by decide) (fun K hK => ?_)
             refine goes_ Try.func90 (by kernel_rfl) rfl #[.agg #[.int .i64 ((rd_T104 l0_2 x3_2).f0.f0), .int .i64 ((rd_T104 l0_2 x3_2).f0.f1)]] (by rfl) rfl rfl (by (try simp only [List.map_toArray, List.map_cons, List.map_nil]); first | done | rfl | (simp only [List.length_drop, List.length_take]; rfl)) ?_
             with_reducible refine (spec_l5Req.calls ((rd_T104 l0_2 x3_2).f0.f0) ((rd_T104 l0_2 x3_2).f0.f1) true _ A18.out).mono ?_
             rintro e w57 ⟨rfl, hb⟩
             refine ⟨_, rfl, ?_⟩
             have n0_ := Aside0.mk (blk_below (g := gb162) (o := .cells #[.int .i64 a0_0, .slice A0_1 l0_1.length c0_1, .slice (some ad164) l0_2.length c0_2] 25 (0, 0)) (by (with_reducible repeat (first | refine blk_drewN ?_ _ | refine blk_drew ?_ | refine blk_alloc ?_ _)); exact BK162.out) hb)
             have n1_ := Aside0.mk (blk_below (g := gb165) (o := .cells #[.int .i64 ((rd_T104 l0_2 x3_2).f0.f0), .int .i64 ((rd_T104 l0_2 x3_2).f0.f1), .int .i64 ((rd_T104 l0_2 x3_2).f1), .int .i64 ((rd_T104 l0_2 x3_2).f2)] 104 (0, 0)) (by (with_reducible repeat (first | refine blk_drewN ?_ _ | refine blk_drew ?_ | refine blk_alloc ?_ _)); exact BK165.out) hb)
             have n2_ := Aside0.mk (below_step (by repeat (first | (with_reducible first | exact HB.out | apply below_alloc | apply pw_below_drewN | apply below_drew1 | refine below_set ?_ GE162.out | refine below_set ?_ GE165.out) | exact HB.out)) hb)
             clear BK162
             clear BK165
             clear HB
             have BK162 := n0_
             have BK165 := n1_
             have HB := n2_
             clear n0_ n1_ n2_
             (try clear hb)
             (try clear hb2)
             (try clear hk)
             (try clear hi)
             refine hK.out _ _ ⟨(blk_cell BK165.out 0).trans rfl, (blk_cell BK165.out 1).trans rfl, (blk_cell BK165.out 2).trans rfl, (blk_cell BK165.out 3).trans rfl⟩ (fun hHeld => ?_)
             clear hK K
             refine norm_ (a' := ?_) ?_ ?_
             rotate_left
             ·show Act.put _ (some 33) _ = _
              simp only [Act.put, sA_, sZ_, sS_, i64_w, i32_w]
              rfl
             refine pu_ (i := 3) (N := some 34) (v := ?_) (a' := ?_) rfl rfl (any_of HT_.out (by kernel_rfl)) (fun _ _ _ h => h) (Or.inl ⟨by rfl, ?_⟩) ?_ ?_; rotate_left; (· (intro w'; go_simp; with_reducible rfl)); rotate_left; (· (simp only [Act.put, sA_, sZ_, sS_, i64_w, i32_w]; rfl))
             refine pu_ (i := 4) (N := some 35) (v := ?_) (a' := ?_) rfl rfl (any_of HT_.out (by kernel_rfl)) (fun _ _ _ h => h) (Or.inl ⟨by rfl, ?_⟩) ?_ ?_; rotate_left; (· (intro w'; go_simp; with_reducible rfl))
             rotate_left; (· (simp only [Act.put, sA_, sZ_, sS_, i64_w, i32_w]; rfl))
             refine pu_ (i := 5) (N := some 36) (v := ?_) (a' := ?_) rfl rfl (any_of HT_.out (by kernel_rfl)) (fun _ _ _ h => h) (Or.inl ⟨by rfl, ?_⟩) ?_ ?_; rotate_left; (· (intro w'; go_simp; with_reducible rfl)); rotate_left; (· (simp only [Act.put, sA_, sZ_, sS_, i64_w, i32_w]; rfl))
             refine ta_ (i := 6) (N := some 37) (v := ?_) (a' := ?_) rfl rfl (take_ofW HT_.out HW_.out (by kernel_rfl)) (fun _ _ _ h => h) (Or.inl ⟨by rfl, ?_⟩) hHeld ?_ ?_
             rotate_left
             ·rintro w' ⟨s0, s1, s2, s3⟩
              go_simp
              with_reducible rfl
             rotate_left; (· (simp only [Act.put, sA_, sZ_, sS_, i64_w, i32_w]; rfl))
             refine pu_ (i := 7) (N := some 38) (v := ?_) (a' := ?_) rfl rfl (any_of HT_.out (by kernel_rfl)) (fun _ _ _ h => h) (Or.inl ⟨by rfl, ?_⟩) ?_ ?_; rotate_left; (· (intro w'; go_simp; with_reducible rfl)); rotate_left; (· (simp only [Act.put, sA_, sZ_, sS_, i64_w, i32_w]; rfl))
             refine pu_ (i := 8) (N := some 39) (v := ?_) (a' := ?_) rfl rfl (any_of HT_.out (by kernel_rfl)) (fun _ _ _ h => h) (Or.inl ⟨by rfl, ?_⟩) ?_ ?_; rotate_left; (· (intro w'; go_simp; with_reducible rfl))
             rotate_left; (· (simp only [Act.put, sA_, sZ_, sS_, i64_w, i32_w]; rfl))
             refine pu_ (i := 9) (N := some 40) (v := ?_) (a' := ?_) rfl rfl (any_of HT_.out (by kernel_rfl)) (fun _ _ _ h => h) (Or.inl ⟨by rfl, ?_⟩) ?_ ?_; rotate_left; (· (intro w'; go_simp; with_reducible rfl)); rotate_left; (· (simp only [Act.put, sA_, sZ_, sS_, i64_w, i32_w]; rfl))
             refine pu_ (i := 10) (N := some 41) (v := ?_) (a' := ?_) rfl rfl (any_of HT_.out (by kernel_rfl)) (fun _ _ _ h => h) (Or.inl ⟨by rfl, ?_⟩) ?_ ?_; rotate_left; (· (intro w'; go_simp; with_reducible rfl))
             rotate_left; (· (simp only [Act.put, sA_, sZ_, sS_, i64_w, i32_w]; rfl))
             refine ta_ (i := 11) (N := some 42) (v := ?_) (a' := ?_) rfl rfl (take_ofW HT_.out HW_.out (by kernel_rfl)) (fun _ _ _ h => h) (Or.inl ⟨by rfl, ?_⟩) hHeld ?_ ?_
             rotate_left
             ·rintro w' ⟨s0, s1, s2, s3⟩
              go_simp
              with_reducible rfl
             rotate_left; (· (simp only [Act.put, sA_, sZ_, sS_, i64_w, i32_w]; rfl))
             refine pu_ (i := 12) (N := some 43) (v := ?_) (a' := ?_) rfl rfl (any_of HT_.out (by kernel_rfl)) (fun _ _ _ h => h) (Or.inl ⟨by rfl, ?_⟩) ?_ ?_; rotate_left; (· (intro w'; go_simp; with_reducible rfl)); rotate_left; (· (simp only [Act.put, sA_, sZ_, sS_, i64_w, i32_w]; rfl))
             refine pu_ (i := 13) (N := some 44) (v := ?_) (a' := ?_) rfl rfl (any_of HT_.out (by kernel_rfl)) (fun _ _ _ h => h) (Or.inl ⟨by rfl, ?_⟩) ?_ ?_; rotate_left; (· (intro w'; go_simp; with_reducible rfl))
             rotate_left; (· (simp only [Act.put, sA_, sZ_, sS_, i64_w, i32_w]; rfl))
             refine pu_ (i := 14) (N := some 45) (v := ?_) (a' := ?_) rfl rfl (any_of HT_.out (by kernel_rfl)) (fun _ _ _ h => h) (Or.inl ⟨by rfl, ?_⟩) ?_ ?_; rotate_left; (· (intro w'; go_simp; with_reducible rfl)); rotate_left; (· (simp only [Act.put, sA_, sZ_, sS_, i64_w, i32_w]; rfl))
             refine pu_ (i := 15) (N := some 46) (v := ?_) (a' := ?_) rfl rfl (any_of HT_.out (by kernel_rfl)) (fun _ _ _ h => h) (Or.inl ⟨by rfl, ?_⟩) ?_ ?_; rotate_left; (· (intro w'; go_simp; with_reducible rfl))
             rotate_left; (· (simp only [Act.put, sA_, sZ_, sS_, i64_w, i32_w]; rfl))
             refine ta_ (i := 16) (N := some 47) (v := ?_) (a' := ?_) rfl rfl (take_ofW HT_.out HW_.out (by kernel_rfl)) (fun _ _ _ h => h) (Or.inl ⟨by rfl, ?_⟩) hHeld ?_ ?_
             rotate_left
             ·rintro w' ⟨s0, s1, s2, s3⟩
              go_simp
              with_reducible rfl
             rotate_left; (· (simp only [Act.put, sA_, sZ_, sS_, i64_w, i32_w]; rfl))
             refine on_ (i := 17) (N := some 48) rfl rfl (one_of HT_.out (by kernel_rfl)) (by decide) (fun K hK => ?_)
             refine goes_ Try.func82 (by kernel_rfl) rfl #[.int .i64 ((rd_T104 l0_2 x3_2).f2)] (by rfl) rfl rfl (by (try simp only [List.map_toArray, List.map_cons, List.map_nil]); first | done | rfl | (simp only [List.length_drop, List.length_take]; rfl)) ?_
             with_reducible refine (spec_l1Num.calls ((rd_T104 l0_2 x3_2).f2) false _ A28.out).mono ?_
             rintro e w' ⟨rfl, ⟨nd, rfl⟩⟩
             refine ⟨_, rfl, ?_⟩
             refine hK.out _ _ ⟨(blk_cell BK165.out 0).trans rfl, (blk_cell BK165.out 1).trans rfl, (blk_cell BK165.out 2).trans rfl, (blk_cell BK165.out 3).trans rfl⟩ (fun hHeld => ?_)
             clear hK K
             refine norm_ (a' := ?_) ?_ ?_
             rotate_left
             ·show Act.put _ (some 48) _ = _
              simp only [Act.put, sA_, sZ_, sS_, i64_w, i32_w]
              rfl
             refine pu_ (i := 18) (N := some 49) (v := ?_) (a' := ?_) rfl rfl (any_of HT_.out (by kernel_rfl)) (fun _ _ _ h => h) (Or.inl ⟨by rfl, ?_⟩) ?_ ?_; rotate_left; (· (intro w'; go_simp; with_reducible rfl)); rotate_left; (· (simp only [Act.put, sA_, sZ_, sS_, i64_w, i32_w]; rfl))
             refine pu_ (i := 19) (N := some 50) (v := ?_) (a' := ?_) rfl rfl (any_of HT_.out (by kernel_rfl)) (fun _ _ _ h => h) (Or.inl ⟨by rfl, ?_⟩) ?_ ?_; rotate_left; (· (intro w'; go_simp; with_reducible rfl))
             rotate_left; (· (simp only [Act.put, sA_, sZ_, sS_, i64_w, i32_w]; rfl))
             refine pu_ (i := 20) (N := some 51) (v := ?_) (a' := ?_) rfl rfl (any_of HT_.out (by kernel_rfl)) (fun _ _ _ h => h) (Or.inl ⟨by rfl, ?_⟩) ?_ ?_; rotate_left; (· (intro w'; go_simp; with_reducible rfl)); rotate_left; (· (simp only [Act.put, sA_, sZ_, sS_, i64_w, i32_w]; rfl))
             refine pu_ (i := 21) (N := some 52) (v := undef) (a' := ?_) rfl rfl (any_of HT_.out (by kernel_rfl)) (fun _ _ _ h => h) (Or.inr ⟨by rfl, rfl⟩) ?_ ?_; rotate_left; (· (simp only [Act.put, sA_, sZ_, sS_, i64_w, i32_w]; rfl))
             refine pu_ (i := 22) (N := some 53) (v := undef) (a' := ?_) rfl rfl (any_of HT_.out (by kernel_rfl)) (fun _ _ _ h => h) (Or.inr ⟨by rfl, rfl⟩) ?_ ?_
             rotate_left; (· (simp only [Act.put, sA_, sZ_, sS_, i64_w, i32_w]; rfl))
             refine pu_ (i := 23) (N := some 54) (v := undef) (a' := ?_) rfl rfl (any_of HT_.out (by kernel_rfl)) (fun _ _ _ h => h) (Or.inr ⟨by rfl, rfl⟩) ?_ ?_; rotate_left; (· (simp only [Act.put, sA_, sZ_, sS_, i64_w, i32_w]; rfl))
             refine pu_ (i := 24) (N := some 55) (v := undef) (a' := ?_) rfl rfl (any_of HT_.out (by kernel_rfl)) (fun _ _ _ h => h) (Or.inr ⟨by rfl, rfl⟩) ?_ ?_
             rotate_left; (· (simp only [Act.put, sA_, sZ_, sS_, i64_w, i32_w]; rfl))
             refine pu_ (i := 25) (N := some 56) (v := undef) (a' := ?_) rfl rfl (any_of HT_.out (by kernel_rfl)) (fun _ _ _ h => h) (Or.inr ⟨by rfl, rfl⟩) ?_ ?_; rotate_left; (· (simp only [Act.put, sA_, sZ_, sS_, i64_w, i32_w]; rfl))
             refine pu_ (i := 26) (N := some 57) (v := undef) (a' := ?_) rfl rfl (any_of HT_.out (by kernel_rfl)) (fun _ _ _ h => h) (Or.inr ⟨by rfl, rfl⟩) ?_ ?_
             rotate_left; (· (simp only [Act.put, sA_, sZ_, sS_, i64_w, i32_w]; rfl))
             refine pu_ (i := 27) (N := some 58) (v := undef) (a' := ?_) rfl rfl (any_of HT_.out (by kernel_rfl)) (fun _ _ _ h => h) (Or.inr ⟨by rfl, rfl⟩) ?_ ?_; rotate_left; (· (simp only [Act.put, sA_, sZ_, sS_, i64_w, i32_w]; rfl))
             refine pu_ (i := 28) (N := some 59) (v := undef) (a' := ?_) rfl rfl (any_of HT_.out (by kernel_rfl)) (fun _ _ _ h => h) (Or.inr ⟨by rfl, rfl⟩) ?_ ?_
             rotate_left; (· (simp only [Act.put, sA_, sZ_, sS_, i64_w, i32_w]; rfl))
             refine pu_ (i := 29) (N := some 60) (v := ?_) (a' := ?_) rfl rfl (any_of HT_.out (by kernel_rfl)) (fun _ _ _ h => h) (Or.inl ⟨by rfl, ?_⟩) ?_ ?_; rotate_left; (· (intro w'; go_simp; with_reducible rfl)); rotate_left; (· (simp only [Act.put, sA_, sZ_, sS_, i64_w, i32_w]; rfl))
             refine pu_ (i := 30) (N := some 61) (v := ?_) (a' := ?_) rfl rfl (any_of HT_.out (by kernel_rfl)) (fun _ _ _ h => h) (Or.inl ⟨by rfl, ?_⟩) ?_ ?_; rotate_left; (· (intro w'; go_simp; with_reducible rfl))
             rotate_left; (· (simp only [Act.put, sA_, sZ_, sS_, i64_w, i32_w]; rfl))
             refine pu_ (i := 31) (N := some 62) (v := undef) (a' := ?_) rfl rfl (any_of HT_.out (by kernel_rfl)) (fun _ _ _ h => h) (Or.inr ⟨by rfl, rfl⟩) ?_ ?_; rotate_left; (· (simp only [Act.put, sA_, sZ_, sS_, i64_w, i32_w]; rfl))
             refine pu_ (i := 32) (N := some 63) (v := undef) (a' := ?_) rfl rfl (any_of HT_.out (by kernel_rfl)) (fun _ _ _ h => h) (Or.inr ⟨by rfl, rfl⟩) ?_ ?_
             rotate_left; (· (simp only [Act.put, sA_, sZ_, sS_, i64_w, i32_w]; rfl))
             refine pu_ (i := 33) (N := some 64) (v := undef) (a' := ?_) rfl rfl (any_of HT_.out (by kernel_rfl)) (fun _ _ _ h => h) (Or.inr ⟨by rfl, rfl⟩) ?_ ?_; rotate_left; (· (simp only [Act.put, sA_, sZ_, sS_, i64_w, i32_w]; rfl))
             refine pu_ (i := 34) (N := some 65) (v := undef) (a' := ?_) rfl rfl (any_of HT_.out (by kernel_rfl)) (fun _ _ _ h => h) (Or.inr ⟨by rfl, rfl⟩) ?_ ?_
             rotate_left; (· (simp only [Act.put, sA_, sZ_, sS_, i64_w, i32_w]; rfl))
             refine pu_ (i := 35) (N := some 66) (v := undef) (a' := ?_) rfl rfl (any_of HT_.out (by kernel_rfl)) (fun _ _ _ h => h) (Or.inr ⟨by rfl, rfl⟩) ?_ ?_; rotate_left; (· (simp only [Act.put, sA_, sZ_, sS_, i64_w, i32_w]; rfl))
             refine pu_ (i := 36) (N := some 67) (v := undef) (a' := ?_) rfl rfl (any_of HT_.out (by kernel_rfl)) (fun _ _ _ h => h) (Or.inr ⟨by rfl, rfl⟩) ?_ ?_
             rotate_left; (· (simp only [Act.put, sA_, sZ_, sS_, i64_w, i32_w]; rfl))
             refine pu_ (i := 37) (N := some 68) (v := undef) (a' := ?_) rfl rfl (any_of HT_.out (by kernel_rfl)) (fun _ _ _ h => h) (Or.inr ⟨by rfl, rfl⟩) ?_ ?_; rotate_left; (· (simp only [Act.put, sA_, sZ_, sS_, i64_w, i32_w]; rfl))
             refine pu_ (i := 38) (N := some 69) (v := undef) (a' := ?_) rfl rfl (any_of HT_.out (by kernel_rfl)) (fun _ _ _ h => h) (Or.inr ⟨by rfl, rfl⟩) ?_ ?_
             rotate_left; (· (simp only [Act.put, sA_, sZ_, sS_, i64_w, i32_w]; rfl))
             refine pu_ (i := 39) (N := some 70) (v := undef) (a' := ?_) rfl rfl (any_of HT_.out (by kernel_rfl)) (fun _ _ _ h => h) (Or.inr ⟨by rfl, rfl⟩) ?_ ?_; rotate_left; (· (simp only [Act.put, sA_, sZ_, sS_, i64_w, i32_w]; rfl))
             refine pu_ (i := 40) (N := some 71) (v := undef) (a' := ?_) rfl rfl (any_of HT_.out (by kernel_rfl)) (fun _ _ _ h => h) (Or.inr ⟨by rfl, rfl⟩) ?_ ?_
             rotate_left; (· (simp only [Act.put, sA_, sZ_, sS_, i64_w, i32_w]; rfl))
             refine pu_ (i := 41) (N := some 72) (v := undef) (a' := ?_) rfl rfl (any_of HT_.out (by kernel_rfl)) (fun _ _ _ h => h) (Or.inr ⟨by rfl, rfl⟩) ?_ ?_; rotate_left; (· (simp only [Act.put, sA_, sZ_, sS_, i64_w, i32_w]; rfl))
             refine pu_ (i := 42) (N := some 73) (v := undef) (a' := ?_) rfl rfl (any_of HT_.out (by kernel_rfl)) (fun _ _ _ h => h) (Or.inr ⟨by rfl, rfl⟩) ?_ ?_
             rotate_left; (· (simp only [Act.put, sA_, sZ_, sS_, i64_w, i32_w]; rfl))
             refine pu_ (i := 43) (N := some 74) (v := undef) (a' := ?_) rfl rfl (any_of HT_.out (by kernel_rfl)) (fun _ _ _ h => h) (Or.inr ⟨by rfl, rfl⟩) ?_ ?_; rotate_left; (· (simp only [Act.put, sA_, sZ_, sS_, i64_w, i32_w]; rfl))
             refine pu_ (i := 44) (N := some 75) (v := undef) (a' := ?_) rfl rfl (any_of HT_.out (by kernel_rfl)) (fun _ _ _ h => h) (Or.inr ⟨by rfl, rfl⟩) ?_ ?_
             rotate_left; (· (simp only [Act.put, sA_, sZ_, sS_, i64_w, i32_w]; rfl))
             refine pu_ (i := 45) (N := some 76) (v := undef) (a' := ?_) rfl rfl (any_of HT_.out (by kernel_rfl)) (fun _ _ _ h => h) (Or.inr ⟨by rfl, rfl⟩) ?_ ?_; rotate_left; (· (simp only [Act.put, sA_, sZ_, sS_, i64_w, i32_w]; rfl))
             refine pu_ (i := 46) (N := some 77) (v := undef) (a' := ?_) rfl rfl (any_of HT_.out (by kernel_rfl)) (fun _ _ _ h => h) (Or.inr ⟨by rfl, rfl⟩) ?_ ?_
             rotate_left; (· (simp only [Act.put, sA_, sZ_, sS_, i64_w, i32_w]; rfl))
             refine pu_ (i := 47) (N := some 78) (v := ?_) (a' := ?_) rfl rfl (any_of HT_.out (by kernel_rfl)) (fun _ _ _ h => h) (Or.inl ⟨by rfl, ?_⟩) ?_ ?_; rotate_left; (· (intro w'; go_simp; with_reducible rfl)); rotate_left; (· (simp only [Act.put, sA_, sZ_, sS_, i64_w, i32_w]; rfl))
             refine done_ (done_of HT_.out (by kernel_rfl)) ?_
             try go_wp2
             go_meet
             case rel => exact ⟨_, (true), (by first | rfl | (simp; done) | (simp [*]; done)), H', ⟨by have := HJ1.out; have := HK2.out; first | omega | exact Nat.le_refl _⟩, ⟨by (with_reducible repeat (first | refine blk_drewN ?_ _ | refine blk_drew ?_ | refine blk_alloc ?_ _)); exact BK162.out⟩, ⟨by (with_reducible repeat (first | refine blk_drewN ?_ _ | refine blk_drew ?_ | refine blk_alloc ?_ _)); exact BK165.out⟩, ⟨by repeat (first | (with_reducible first | exact HB.out | apply below_alloc | apply pw_below_drewN | apply below_drew1 | refine below_set ?_ GE162.out | refine below_set ?_ GE165.out) | exact HB.out)⟩⟩
         ·replace c19 := Bool.eq_false_iff.mpr c19
          subst c19
          have H1 : (spec_CertOk.j2 k2 x3_2 true a0_0 l0_1 l0_2) = some r := by rw [if_neg (show ¬ (false = true) by decide)] at H; exact H
          clear H
          have H := H1
          clear H1
          have H' := Aside0.mk H
          clear H
          try go_wp2
          have n0_ : Aside0 (((((w15.setCell ⟨gb165, 0, none⟩ (.int .i64 ((rd_T104 l0_2 x3_2).f0.f0))).setCell ⟨gb165, 1, none⟩ (.int .i64 ((rd_T104 l0_2 x3_2).f0.f1))).setCell ⟨gb165, 2, none⟩ (.int .i64 ((rd_T104 l0_2 x3_2).f1))).setCell ⟨gb165, 3, none⟩ (.int .i64 ((rd_T104 l0_2 x3_2).f2))).heap[gb162]? = some (.cells #[.int .i64 a0_0, .slice A0_1 l0_1.length c0_1, .slice (some ad164) l0_2.length c0_2] 25 (0, 0))) := ⟨by (with_reducible repeat (first | refine blk_drewN ?_ _ | refine blk_drew ?_ | refine blk_alloc ?_ _)); refine blk_far ?_ NB162_165.out _; (with_reducible repeat (first | refine blk_drewN ?_ _ | refine blk_drew ?_ | refine blk_alloc ?_ _)); refine blk_far ?_ NB162_165.out _; (with_reducible repeat (first | refine blk_drewN ?_ _ | refine blk_drew ?_ | refine blk_alloc ?_ _)); refine blk_far ?_ NB162_165.out _; (with_reducible repeat (first | refine blk_drewN ?_ _ | refine blk_drew ?_ | refine blk_alloc ?_ _)); refine blk_far ?_ NB162_165.out _; (with_reducible repeat (first | refine blk_drewN ?_ _ | refine blk_drew ?_ | refine blk_alloc ?_ _)); exact BK162.out⟩
          have n1_ : Aside0 (((((w15.setCell ⟨gb165, 0, none⟩ (.int .i64 ((rd_T104 l0_2 x3_2).f0.f0))).setCell ⟨gb165, 1, none⟩ (.int .i64 ((rd_T104 l0_2 x3_2).f0.f1))).setCell ⟨gb165, 2, none⟩ (.int .i64 ((rd_T104 l0_2 x3_2).f1))).setCell ⟨gb165, 3, none⟩ (.int .i64 ((rd_T104 l0_2 x3_2).f2))).heap[gb165]? = some (.cells #[.int .i64 ((rd_T104 l0_2 x3_2).f0.f0), .int .i64 ((rd_T104 l0_2 x3_2).f0.f1), .int .i64 ((rd_T104 l0_2 x3_2).f1), .int .i64 ((rd_T104 l0_2 x3_2).f2)] 104 (0, 0))) := ⟨by (with_reducible repeat (first | refine blk_drewN ?_ _ | refine blk_drew ?_ | refine blk_alloc ?_ _)); refine blk_put (cs := #[.int .i64 ((rd_T104 l0_2 x3_2).f0.f0), .int .i64 ((rd_T104 l0_2 x3_2).f0.f1), .int .i64 ((rd_T104 l0_2 x3_2).f1), .int .i64 0]) ?_ 3 _ rfl; (with_reducible repeat (first | refine blk_drewN ?_ _ | refine blk_drew ?_ | refine blk_alloc ?_ _)); refine blk_put (cs := #[.int .i64 ((rd_T104 l0_2 x3_2).f0.f0), .int .i64 ((rd_T104 l0_2 x3_2).f0.f1), .int .i64 0, .int .i64 0]) ?_ 2 _ rfl; (with_reducible repeat (first | refine blk_drewN ?_ _ | refine blk_drew ?_ | refine blk_alloc ?_ _)); refine blk_put (cs := #[.int .i64 ((rd_T104 l0_2 x3_2).f0.f0), .int .i64 0, .int .i64 0, .int .i64 0]) ?_ 1 _ rfl; (with_reducible repeat (first | refine blk_drewN ?_ _ | refine blk_drew ?_ | refine blk_alloc ?_ _)); refine blk_put (cs := #[.int .i64 0, .int .i64 0, .int .i64 0, .int .i64 0]) ?_ 0 _ rfl; (with_reducible repeat (first | refine blk_drewN ?_ _ | refine blk_drew ?_ | refine blk_alloc ?_ _)); exact BK165.out⟩
          have n2_ : Aside0 (Below w.heap.size w ((((w15.setCell ⟨gb165, 0, none⟩ (.int .i64 ((rd_T104 l0_2 x3_2).f0.f0))).setCell ⟨gb165, 1, none⟩ (.int .i64 ((rd_T104 l0_2 x3_2).f0.f1))).setCell ⟨gb165, 2, none⟩ (.int .i64 ((rd_T104 l0_2 x3_2).f1))).setCell ⟨gb165, 3, none⟩ (.int .i64 ((rd_T104 l0_2 x3_2).f2)))) := ⟨by repeat (first | (with_reducible first | exact HB.out | apply below_alloc | apply pw_below_drewN | apply below_drew1 | refine below_set ?_ GE162.out | refine below_set ?_ GE165.out) | exact HB.out)⟩
          (try clear BK162)
          (try clear BK165)
          (try clear HB)
          generalize ((((w15.setCell ⟨gb165, 0, none⟩ (.int .i64 ((rd_T104 l0_2 x3_2).f0.f0))).setCell ⟨gb165, 1, none⟩ (.int .i64 ((rd_T104 l0_2 x3_2).f0.f1))).setCell ⟨gb165, 2, none⟩ (.int .i64 ((rd_T104 l0_2 x3_2).f1))).setCell ⟨gb165, 3, none⟩ (.int .i64 ((rd_T104 l0_2 x3_2).f2))) = w58 at n0_ n1_ n2_ ⊢
          have BK162 := n0_
          have BK165 := n1_
          have HB := n2_
          clear n0_ n1_ n2_
          have n0_ := Aside0.mk (blk_drew BK162.out)
          have n1_ := Aside0.mk (blk_drew BK165.out)
          have n2_ := Aside0.mk (below_drew1 HB.out)
          clear BK162
          clear BK165
          clear HB
          have BK162 := n0_
          have BK165 := n1_
          have HB := n2_
          clear n0_ n1_ n2_
          refine start_ (n := 48) (S := fun w' => w'.cell? ⟨gb165, 0, none⟩ = some (.int .i64 ((rd_T104 l0_2 x3_2).f0.f0)) ∧ w'.cell? ⟨gb165, 1, none⟩ = some (.int .i64 ((rd_T104 l0_2 x3_2).f0.f1)) ∧ w'.cell? ⟨gb165, 2, none⟩ = some (.int .i64 ((rd_T104 l0_2 x3_2).f1)) ∧ w'.cell? ⟨gb165, 3, none⟩ = some (.int .i64 ((rd_T104 l0_2 x3_2).f2))) (ds := []) #[false, false, false, false, false, false, false, false, false, false, false, false, false, false, false, false, false, false, false, false, false, false, false, false, false, false, false, false, false, false, false, false, false, false, false, false, false, false, false, false, false, false, false, false, false, false, false, false] (by kernel_rfl) rfl rfl ⟨(blk_cell BK165.out 0).trans rfl, (blk_cell BK165.out 1).trans rfl, (blk_cell BK165.out 2).trans rfl, (blk_cell BK165.out 3).trans rfl⟩ (fun hHeld => ?_); refine with_tabW spec_CertOk.tab7 spec_CertOk.bits7 (fun HT_ HW_ => ?_)
          generalize w58.drew = w59 at BK162 BK165 HB hHeld ⊢
          refine pu_ (i := 0) (N := some 31) (v := ?_) (a' := ?_) rfl rfl (any_of HT_.out (by kernel_rfl)) (fun _ _ _ h => h) (Or.inl ⟨by rfl, ?_⟩) ?_ ?_; rotate_left; (· (intro w'; go_simp; with_reducible rfl)); rotate_left; (· (simp only [Act.put, sA_, sZ_, sS_, i64_w, i32_w]; rfl))
          refine ta_ (i := 1) (N := some 32) (v := ?_) (a' := ?_) rfl rfl (take_ofW HT_.out HW_.out (by kernel_rfl)) (fun _ _ _ h => h) (Or.inl ⟨by rfl, ?_⟩) hHeld ?_ ?_
          rotate_left
          ·rintro w' ⟨s0, s1, s2, s3⟩
           go_simp
           with_reducible rfl
          rotate_left; (· (simp only [Act.put, sA_, sZ_, sS_, i64_w, i32_w]; rfl))
          refine on_ (i := 2) (N := some 33) rfl rfl (one_of HT_.out (by kernel_rfl)) (by decide) (fun K hK => ?_)
          refine goes_ Try.func90 (by kernel_rfl) rfl #[.agg #[.int .i64 ((rd_T104 l0_2 x3_2).f0.f0), .int .i64 ((rd_T104 l0_2 x3_2).f0.f1)]] (by rfl) rfl rfl (by (try simp only [List.map_toArray, List.map_cons, List.map_nil]); first | done | rfl | (simp only [List.length_drop, List.length_take]; rfl)) ?_
          with_reducible refine (spec_l5Req.calls ((rd_T104 l0_2 x3_2).f0.f0) ((rd_T104 l0_2 x3_2).f0.f1) false _ A18.out).mono ?_
          rintro e w60 ⟨rfl, hb⟩
          refine ⟨_, rfl, ?_⟩
          have n0_ := Aside0.mk (blk_below (g := gb162) (o := .cells #[.int .i64 a0_0, .slice A0_1 l0_1.length c0_1, .slice (some ad164) l0_2.length c0_2] 25 (0, 0)) (by (with_reducible repeat (first | refine blk_drewN ?_ _ | refine blk_drew ?_ | refine blk_alloc ?_ _)); exact BK162.out) hb)
          have n1_ := Aside0.mk (blk_below (g := gb165) (o := .cells #[.int .i64 ((rd_T104 l0_2 x3_2).f0.f0), .int .i64 ((rd_T104 l0_2 x3_2).f0.f1), .int .i64 ((rd_T104 l0_2 x3_2).f1), .int .i64 ((rd_T104 l0_2 x3_2).f2)] 104 (0, 0)) (by (with_reducible repeat (first | refine blk_drewN ?_ _ | refine blk_drew ?_ | refine blk_alloc ?_ _)); exact BK165.out) hb)
          have n2_ := Aside0.mk (below_step (by repeat (first | (with_reducible first | exact HB.out | apply below_alloc | apply pw_below_drewN | apply below_drew1 | refine below_set ?_ GE162.out | refine below_set ?_ GE165.out) | exact HB.out)) hb)
          clear BK162
          clear BK165
          clear HB
          have BK162 := n0_
          have BK165 := n1_
          have HB := n2_
          clear n0_ n1_ n2_
          (try clear hb)
          (try clear hb2)
          (try clear hk)
          (try clear hi)
          refine hK.out _ _ ⟨(blk_cell BK165.out 0).trans rfl, (blk_cell BK165.out 1).trans rfl, (blk_cell BK165.out 2).trans rfl, (blk_cell BK165.out 3).trans rfl⟩ (fun hHeld => ?_)
          clear hK K
          refine norm_ (a' := ?_) ?_ ?_
          rotate_left
          ·show Act.put _ (some 33) _ = _
           simp only [Act.put, sA_, sZ_, sS_, i64_w, i32_w]
           rfl
          refine pu_ (i := 3) (N := some 34) (v := ?_) (a' := ?_) rfl rfl (any_of HT_.out (by kernel_rfl)) (fun _ _ _ h => h) (Or.inl ⟨by rfl, ?_⟩) ?_ ?_; rotate_left; (· (intro w'; go_simp; with_reducible rfl)); rotate_left; (· (simp only [Act.put, sA_, sZ_, sS_, i64_w, i32_w]; rfl))
          refine pu_ (i := 4) (N := some 35) (v := ?_) (a' := ?_) rfl rfl (any_of HT_.out (by kernel_rfl)) (fun _ _ _ h => h) (Or.inl ⟨by rfl, ?_⟩) ?_ ?_; rotate_left; (· (intro w'; go_simp; with_reducible rfl))
          rotate_left; (· (simp only [Act.put, sA_, sZ_, sS_, i64_w, i32_w]; rfl))
          refine pu_ (i := 5) (N := some 36) (v := undef) (a' := ?_) rfl rfl (any_of HT_.out (by kernel_rfl)) (fun _ _ _ h => h) (Or.inr ⟨by rfl, rfl⟩) ?_ ?_; rotate_left; (· (simp only [Act.put, sA_, sZ_, sS_, i64_w, i32_w]; rfl))
          refine pu_ (i := 6) (N := some 37) (v := undef) (a' := ?_) rfl rfl (any_of HT_.out (by kernel_rfl)) (fun _ _ _ h => h) (Or.inr ⟨by rfl, rfl⟩) ?_ ?_
          rotate_left; (· (simp only [Act.put, sA_, sZ_, sS_, i64_w, i32_w]; rfl))
          refine pu_ (i := 7) (N := some 38) (v := undef) (a' := ?_) rfl rfl (any_of HT_.out (by kernel_rfl)) (fun _ _ _ h => h) (Or.inr ⟨by rfl, rfl⟩) ?_ ?_; rotate_left; (· (simp only [Act.put, sA_, sZ_, sS_, i64_w, i32_w]; rfl))
          refine pu_ (i := 8) (N := some 39) (v := ?_) (a' := ?_) rfl rfl (any_of HT_.out (by kernel_rfl)) (fun _ _ _ h => h) (Or.inl ⟨by rfl, ?_⟩) ?_ ?_; rotate_left; (· (intro w'; go_simp; with_reducible rfl)); rotate_left; (· (simp only [Act.put, sA_, sZ_, sS_, i64_w, i32_w]; rfl))
          refine pu_ (i := 9) (N := some 40) (v := ?_) (a' := ?_) rfl rfl (any_of HT_.out (by kernel_rfl)) (fun _ _ _ h => h) (Or.inl ⟨by rfl, ?_⟩) ?_ ?_; rotate_left; (· (intro w'; go_simp; with_reducible rfl))
          rotate_left; (· (simp only [Act.put, sA_, sZ_, sS_, i64_w, i32_w]; rfl))
          refine pu_ (i := 10) (N := some 41) (v := undef) (a' := ?_) rfl rfl (any_of HT_.out (by kernel_rfl)) (fun _ _ _ h => h) (Or.inr ⟨by rfl, rfl⟩) ?_ ?_; rotate_left; (· (simp only [Act.put, sA_, sZ_, sS_, i64_w, i32_w]; rfl))
          refine pu_ (i := 11) (N := some 42) (v := undef) (a' := ?_) rfl rfl (any_of HT_.out (by kernel_rfl)) (fun _ _ _ h => h) (Or.inr ⟨by rfl, rfl⟩) ?_ ?_
          rotate_left; (· (simp only [Act.put, sA_, sZ_, sS_, i64_w, i32_w]; rfl))
          refine pu_ (i := 12) (N := some 43) (v := undef) (a' := ?_) rfl rfl (any_of HT_.out (by kernel_rfl)) (fun _ _ _ h => h) (Or.inr ⟨by rfl, rfl⟩) ?_ ?_; rotate_left; (· (simp only [Act.put, sA_, sZ_, sS_, i64_w, i32_w]; rfl))
          refine pu_ (i := 13) (N := some 44) (v := ?_) (a' := ?_) rfl rfl (any_of HT_.out (by kernel_rfl)) (fun _ _ _ h => h) (Or.inl ⟨by rfl, ?_⟩) ?_ ?_; rotate_left; (· (intro w'; go_simp; with_reducible rfl)); rotate_left; (· (simp only [Act.put, sA_, sZ_, sS_, i64_w, i32_w]; rfl))
          refine pu_ (i := 14) (N := some 45) (v := ?_) (a' := ?_) rfl rfl (any_of HT_.out (by kernel_rfl)) (fun _ _ _ h => h) (Or.inl ⟨by rfl, ?_⟩) ?_ ?_; rotate_left; (· (intro w'; go_simp; with_reducible rfl))
          rotate_left; (· (simp only [Act.put, sA_, sZ_, sS_, i64_w, i32_w]; rfl))
          refine pu_ (i := 15) (N := some 46) (v := undef) (a' := ?_) rfl rfl (any_of HT_.out (by kernel_rfl)) (fun _ _ _ h => h) (Or.inr ⟨by rfl, rfl⟩) ?_ ?_; rotate_left; (· (simp only [Act.put, sA_, sZ_, sS_, i64_w, i32_w]; rfl))
          refine pu_ (i := 16) (N := some 47) (v := undef) (a' := ?_) rfl rfl (any_of HT_.out (by kernel_rfl)) (fun _ _ _ h => h) (Or.inr ⟨by rfl, rfl⟩) ?_ ?_
          rotate_left; (· (simp only [Act.put, sA_, sZ_, sS_, i64_w, i32_w]; rfl))
          refine pu_ (i := 17) (N := some 48) (v := undef) (a' := ?_) rfl rfl (any_of HT_.out (by kernel_rfl)) (fun _ _ _ h => h) (Or.inr ⟨by rfl, rfl⟩) ?_ ?_; rotate_left; (· (simp only [Act.put, sA_, sZ_, sS_, i64_w, i32_w]; rfl))
          refine pu_ (i := 18) (N := some 49) (v := undef) (a' := ?_) rfl rfl (any_of HT_.out (by kernel_rfl)) (fun _ _ _ h => h) (Or.inr ⟨by rfl, rfl⟩) ?_ ?_
          rotate_left; (· (simp only [Act.put, sA_, sZ_, sS_, i64_w, i32_w]; rfl))
          refine pu_ (i := 19) (N := some 50) (v := ?_) (a' := ?_) rfl rfl (any_of HT_.out (by kernel_rfl)) (fun _ _ _ h => h) (Or.inl ⟨by rfl, ?_⟩) ?_ ?_; rotate_left; (· (intro w'; go_simp; with_reducible rfl)); rotate_left; (· (simp only [Act.put, sA_, sZ_, sS_, i64_w, i32_w]; rfl))
          refine pu_ (i := 20) (N := some 51) (v := ?_) (a' := ?_) rfl rfl (any_of HT_.out (by kernel_rfl)) (fun _ _ _ h => h) (Or.inl ⟨by rfl, ?_⟩) ?_ ?_; rotate_left; (· (intro w'; go_simp; with_reducible rfl))
          rotate_left; (· (simp only [Act.put, sA_, sZ_, sS_, i64_w, i32_w]; rfl))
          refine pu_ (i := 21) (N := some 52) (v := undef) (a' := ?_) rfl rfl (any_of HT_.out (by kernel_rfl)) (fun _ _ _ h => h) (Or.inr ⟨by rfl, rfl⟩) ?_ ?_; rotate_left; (· (simp only [Act.put, sA_, sZ_, sS_, i64_w, i32_w]; rfl))
          refine pu_ (i := 22) (N := some 53) (v := undef) (a' := ?_) rfl rfl (any_of HT_.out (by kernel_rfl)) (fun _ _ _ h => h) (Or.inr ⟨by rfl, rfl⟩) ?_ ?_
          rotate_left; (· (simp only [Act.put, sA_, sZ_, sS_, i64_w, i32_w]; rfl))
          refine pu_ (i := 23) (N := some 54) (v := undef) (a' := ?_) rfl rfl (any_of HT_.out (by kernel_rfl)) (fun _ _ _ h => h) (Or.inr ⟨by rfl, rfl⟩) ?_ ?_; rotate_left; (· (simp only [Act.put, sA_, sZ_, sS_, i64_w, i32_w]; rfl))
          refine pu_ (i := 24) (N := some 55) (v := undef) (a' := ?_) rfl rfl (any_of HT_.out (by kernel_rfl)) (fun _ _ _ h => h) (Or.inr ⟨by rfl, rfl⟩) ?_ ?_
          rotate_left; (· (simp only [Act.put, sA_, sZ_, sS_, i64_w, i32_w]; rfl))
          refine pu_ (i := 25) (N := some 56) (v := undef) (a' := ?_) rfl rfl (any_of HT_.out (by kernel_rfl)) (fun _ _ _ h => h) (Or.inr ⟨by rfl, rfl⟩) ?_ ?_; rotate_left; (· (simp only [Act.put, sA_, sZ_, sS_, i64_w, i32_w]; rfl))
          refine pu_ (i := 26) (N := some 57) (v := undef) (a' := ?_) rfl rfl (any_of HT_.out (by kernel_rfl)) (fun _ _ _ h => h) (Or.inr ⟨by rfl, rfl⟩) ?_ ?_
          rotate_left; (· (simp only [Act.put, sA_, sZ_, sS_, i64_w, i32_w]; rfl))
          refine pu_ (i := 27) (N := some 58) (v := undef) (a' := ?_) rfl rfl (any_of HT_.out (by kernel_rfl)) (fun _ _ _ h => h) (Or.inr ⟨by rfl, rfl⟩) ?_ ?_; rotate_left; (· (simp only [Act.put, sA_, sZ_, sS_, i64_w, i32_w]; rfl))
          refine pu_ (i := 28) (N := some 59) (v := undef) (a' := ?_) rfl rfl (any_of HT_.out (by kernel_rfl)) (fun _ _ _ h => h) (Or.inr ⟨by rfl, rfl⟩) ?_ ?_
          rotate_left; (· (simp only [Act.put, sA_, sZ_, sS_, i64_w, i32_w]; rfl))
          refine pu_ (i := 29) (N := some 60) (v := ?_) (a' := ?_) rfl rfl (any_of HT_.out (by kernel_rfl)) (fun _ _ _ h => h) (Or.inl ⟨by rfl, ?_⟩) ?_ ?_; rotate_left; (· (intro w'; go_simp; with_reducible rfl)); rotate_left; (· (simp only [Act.put, sA_, sZ_, sS_, i64_w, i32_w]; rfl))
          refine pu_ (i := 30) (N := some 61) (v := ?_) (a' := ?_) rfl rfl (any_of HT_.out (by kernel_rfl)) (fun _ _ _ h => h) (Or.inl ⟨by rfl, ?_⟩) ?_ ?_; rotate_left; (· (intro w'; go_simp; with_reducible rfl))
          rotate_left; (· (simp only [Act.put, sA_, sZ_, sS_, i64_w, i32_w]; rfl))
          refine pu_ (i := 31) (N := some 62) (v := undef) (a' := ?_) rfl rfl (any_of HT_.out (by kernel_rfl)) (fun _ _ _ h => h) (Or.inr ⟨by rfl, rfl⟩) ?_ ?_; rotate_left; (· (simp only [Act.put, sA_, sZ_, sS_, i64_w, i32_w]; rfl))
          refine pu_ (i := 32) (N := some 63) (v := undef) (a' := ?_) rfl rfl (any_of HT_.out (by kernel_rfl)) (fun _ _ _ h => h) (Or.inr ⟨by rfl, rfl⟩) ?_ ?_
          rotate_left; (· (simp only [Act.put, sA_, sZ_, sS_, i64_w, i32_w]; rfl))
          refine pu_ (i := 33) (N := some 64) (v := undef) (a' := ?_) rfl rfl (any_of HT_.out (by kernel_rfl)) (fun _ _ _ h => h) (Or.inr ⟨by rfl, rfl⟩) ?_ ?_; rotate_left; (· (simp only [Act.put, sA_, sZ_, sS_, i64_w, i32_w]; rfl))
          refine pu_ (i := 34) (N := some 65) (v := undef) (a' := ?_) rfl rfl (any_of HT_.out (by kernel_rfl)) (fun _ _ _ h => h) (Or.inr ⟨by rfl, rfl⟩) ?_ ?_
          rotate_left; (· (simp only [Act.put, sA_, sZ_, sS_, i64_w, i32_w]; rfl))
          refine pu_ (i := 35) (N := some 66) (v := undef) (a' := ?_) rfl rfl (any_of HT_.out (by kernel_rfl)) (fun _ _ _ h => h) (Or.inr ⟨by rfl, rfl⟩) ?_ ?_; rotate_left; (· (simp only [Act.put, sA_, sZ_, sS_, i64_w, i32_w]; rfl))
          refine pu_ (i := 36) (N := some 67) (v := undef) (a' := ?_) rfl rfl (any_of HT_.out (by kernel_rfl)) (fun _ _ _ h => h) (Or.inr ⟨by rfl, rfl⟩) ?_ ?_
          rotate_left; (· (simp only [Act.put, sA_, sZ_, sS_, i64_w, i32_w]; rfl))
          refine pu_ (i := 37) (N := some 68) (v := undef) (a' := ?_) rfl rfl (any_of HT_.out (by kernel_rfl)) (fun _ _ _ h => h) (Or.inr ⟨by rfl, rfl⟩) ?_ ?_; rotate_left; (· (simp only [Act.put, sA_, sZ_, sS_, i64_w, i32_w]; rfl))
          refine pu_ (i := 38) (N := some 69) (v := undef) (a' := ?_) rfl rfl (any_of HT_.out (by kernel_rfl)) (fun _ _ _ h => h) (Or.inr ⟨by rfl, rfl⟩) ?_ ?_
          rotate_left; (· (simp only [Act.put, sA_, sZ_, sS_, i64_w, i32_w]; rfl))
          refine pu_ (i := 39) (N := some 70) (v := undef) (a' := ?_) rfl rfl (any_of HT_.out (by kernel_rfl)) (fun _ _ _ h => h) (Or.inr ⟨by rfl, rfl⟩) ?_ ?_; rotate_left; (· (simp only [Act.put, sA_, sZ_, sS_, i64_w, i32_w]; rfl))
          refine pu_ (i := 40) (N := some 71) (v := undef) (a' := ?_) rfl rfl (any_of HT_.out (by kernel_rfl)) (fun _ _ _ h => h) (Or.inr ⟨by rfl, rfl⟩) ?_ ?_
          rotate_left; (· (simp only [Act.put, sA_, sZ_, sS_, i64_w, i32_w]; rfl))
          refine pu_ (i := 41) (N := some 72) (v := undef) (a' := ?_) rfl rfl (any_of HT_.out (by kernel_rfl)) (fun _ _ _ h => h) (Or.inr ⟨by rfl, rfl⟩) ?_ ?_; rotate_left; (· (simp only [Act.put, sA_, sZ_, sS_, i64_w, i32_w]; rfl))
          refine pu_ (i := 42) (N := some 73) (v := undef) (a' := ?_) rfl rfl (any_of HT_.out (by kernel_rfl)) (fun _ _ _ h => h) (Or.inr ⟨by rfl, rfl⟩) ?_ ?_
          rotate_left; (· (simp only [Act.put, sA_, sZ_, sS_, i64_w, i32_w]; rfl))
          refine pu_ (i := 43) (N := some 74) (v := undef) (a' := ?_) rfl rfl (any_of HT_.out (by kernel_rfl)) (fun _ _ _ h => h) (Or.inr ⟨by rfl, rfl⟩) ?_ ?_; rotate_left; (· (simp only [Act.put, sA_, sZ_, sS_, i64_w, i32_w]; rfl))
          refine pu_ (i := 44) (N := some 75) (v := undef) (a' := ?_) rfl rfl (any_of HT_.out (by kernel_rfl)) (fun _ _ _ h => h) (Or.inr ⟨by rfl, rfl⟩) ?_ ?_
          rotate_left; (· (simp only [Act.put, sA_, sZ_, sS_, i64_w, i32_w]; rfl))
          refine pu_ (i := 45) (N := some 76) (v := undef) (a' := ?_) rfl rfl (any_of HT_.out (by kernel_rfl)) (fun _ _ _ h => h) (Or.inr ⟨by rfl, rfl⟩) ?_ ?_; rotate_left; (· (simp only [Act.put, sA_, sZ_, sS_, i64_w, i32_w]; rfl))
          refine pu_ (i := 46) (N := some 77) (v := undef) (a' := ?_) rfl rfl (any_of HT_.out (by kernel_rfl)) (fun _ _ _ h => h) (Or.inr ⟨by rfl, rfl⟩) ?_ ?_
          rotate_left; (· (simp only [Act.put, sA_, sZ_, sS_, i64_w, i32_w]; rfl))
          refine pu_ (i := 47) (N := some 78) (v := ?_) (a' := ?_) rfl rfl (any_of HT_.out (by kernel_rfl)) (fun _ _ _ h => h) (Or.inl ⟨by rfl, ?_⟩) ?_ ?_; rotate_left; (· (intro w'; go_simp; with_reducible rfl)); rotate_left; (· (simp only [Act.put, sA_, sZ_, sS_, i64_w, i32_w]; rfl))
          refine done_ (done_of HT_.out (by kernel_rfl)) ?_
          try go_wp2
          go_meet
          case rel => exact ⟨_, (true), (by first | rfl | (simp; done) | (simp [*]; done)), H', ⟨by have := HJ1.out; have := HK2.out; first | omega | exact Nat.le_refl _⟩, ⟨by (with_reducible repeat (first | refine blk_drewN ?_ _ | refine blk_drew ?_ | refine blk_alloc ?_ _)); exact BK162.out⟩, ⟨by (with_reducible repeat (first | refine blk_drewN ?_ _ | refine blk_drew ?_ | refine blk_alloc ?_ _)); exact BK165.out⟩, ⟨by repeat (first | (with_reducible first | exact HB.out | apply below_alloc | apply pw_below_drewN | apply below_drew1 | refine below_set ?_ GE162.out | refine below_set ?_ GE165.out) | exact HB.out)⟩⟩
        case rest =>
         clear HC13
         try clear c1
         try clear p2
         try clear c8
         try clear c9
         try clear c19
         obtain ⟨kq, x78_12, rfl, HA, HJ12, BK162, BK165, HB⟩ := hcut
         cases kq with
         | zero => exact absurd HA.out (by simp [spec_CertOk.j2])
         | succ kj12 =>
          have H := HA.out
          clear HA
          simp only [spec_CertOk.j2] at H
          by_cases c61 : x78_12 = true
          ·subst c61
           have H1 : (some false) = some r := by rw [if_pos rfl] at H; exact H
           clear H
           have H := H1
           clear H1
           obtain rfl := Option.some.inj H
           go_wp2
           go_ret
           exact ⟨by first | rfl | (simp [errW_none, errW_some] <;> rfl) | (simp [*, errW_none, errW_some] <;> rfl), by repeat (first | (with_reducible first | exact HB.out | apply below_alloc | apply pw_below_drewN | apply below_drew1 | refine below_set ?_ GE162.out | refine below_set ?_ GE165.out) | exact HB.out)⟩
          ·replace c61 := Bool.eq_false_iff.mpr c61
           subst c61
           have H1 : (spec_CertOk.l0 kj12 (wrap64 (x3_2 + 1)) a0_0 l0_1 l0_2) = some r := by rw [if_neg (show ¬ (false = true) by decide)] at H; exact H
           clear H
           have H := H1
           clear H1
           have H' := Aside0.mk H
           clear H
           go_wp2
           go_roundg kj12
           case measure => have := HJ1.out; have := HK2.out; have := HJ12.out; omega
           case rel => exact ⟨(wrap64 (x3_2 + 1)), (by first | rfl | (simp; done) | (simp [*]; done)), H', ⟨by have := HJ1.out; have := HK2.out; have := HJ12.out; omega⟩, ⟨by (with_reducible repeat (first | refine blk_drewN ?_ _ | refine blk_drew ?_ | refine blk_alloc ?_ _)); exact BK162.out⟩, ⟨by repeat (first | (with_reducible first | exact HB.out | apply below_alloc | apply pw_below_drewN | apply below_drew1 | refine below_set ?_ GE162.out | refine below_set ?_ GE165.out) | exact HB.out)⟩⟩
       ·rw [if_neg c12] at H
        exact absurd H (by simp)
      ·rw [if_neg c11] at H
       have c11b0 : decide (x3_2 < (l0_2.length : Int)) = false := decide_eq_false c11
       clear c11
       obtain rfl := Option.some.inj H
       have hcz62_0 : wr.cell? ⟨gb162, 0, none⟩ = some (.int .i64 a0_0) := (blk_cell BK162.out 0).trans rfl
       have hcz62_1 : wr.cell? ⟨gb162, 1, none⟩ = some (.slice A0_1 l0_1.length c0_1) := (blk_cell BK162.out 1).trans rfl
       have hcz62_2 : wr.cell? ⟨gb162, 2, none⟩ = some (.slice A0_2 l0_2.length c0_2) := (blk_cell BK162.out 2).trans rfl
       have hfz62_0 := blk_frozen BK162.out 0
       have hfz62_1 := blk_frozen BK162.out 1
       have hfz62_2 := blk_frozen BK162.out 2
       go_wp2
       go_ret
       exact ⟨by first | rfl | (simp [errW_none, errW_some] <;> rfl) | (simp [*, errW_none, errW_some] <;> rfl), by repeat (first | (with_reducible first | exact HB.out | apply below_alloc | apply pw_below_drewN | apply below_drew1 | refine below_set ?_ GE162.out) | exact HB.out)⟩

end Go.Proofs.Ytbocpmlppkdhmaa.PFnExactCertOk
