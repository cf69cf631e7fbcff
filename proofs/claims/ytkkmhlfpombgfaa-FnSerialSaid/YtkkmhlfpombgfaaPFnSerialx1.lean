/- The machine's texts of FnSerial (links). Conditions: none. -/
import Derived.Test.YtkkmhlfpombgfaaPFnSerialx0
set_option linter.unusedVariables false
set_option linter.unusedSimpArgs false
set_option maxRecDepth 100000
set_option maxHeartbeats 4000000
namespace Go.Proofs.Ytkkmhlfpombgfaa.PFnSerial
open Go.RowKit Go.Proofs.YtkkmhlfpombgfaaW.PrintWords Go.Proofs.YtkkmhlfpombgfaaW.PrintLast Go.Proofs.YtkkmhlfpombgfaaW.PrintMore
open Go Go.Proofs Am
noncomputable def C_84 : Ctr tau Unit := ctr0
noncomputable def D_84 : Drw tau := drawA E_84 C_84
theorem okC_84 : CtrOk Try.prog TT pnT C_84 := ctr0_ok
theorem mC_84 : CtrMono C_84 := ctr0_mono
theorem mD_84 : DrMono D_84 := drawA_mono mC_84
noncomputable def B_84 : Code := Try.f84.body.getD .skip
theorem mc_84 (args : List (AV tau)) (m : Mem tau) (k k' : AV tau → Mem tau → Option Unit) (hk : ∀ av m, k av m = some () → k' av m = some ()) (h : c_84 args m k = some ()) : c_84 args m k' = some () := by
 unfold c_84 at h ⊢
 split at h
 · repeat' first | exact callX_mono (fun _ h => hk _ _ h) h | refine bO_mono (fun _ h => ?_) h
 · cases h
theorem w_84 (a0 : Int) (k : AV tau → Mem tau → Option Unit) : fnA E_84 C_84 D_84 Try.f84 B_84 [.int .i64 a0] ⟨[], []⟩ k = (brA (decide (a0 ≥ (-(1000000 : Int)))) (k (.bool (decide (a0 ≤ (1000000 : Int)))) ⟨[], []⟩) (k (.bool false) ⟨[], []⟩) : Option Unit) := by kernel_rfl
theorem okc_84 (args : List (AV tau)) (m : Mem tau) (κ : AV tau → Mem tau → Option Unit) (hh : c_84 args m κ = some ()) : ∃ av m1, κ av m1 = some () ∧ ToldA Try.prog TT (pnT 84) 84 args m av m1 := by
 obtain ⟨bx_, rw_⟩ := m
 unfold c_84 at hh
 simp only at hh
 split at hh
 case h_2 => cases hh
 rename_i b0
 obtain ⟨a0, hx0, hh0⟩ := bO_some hh
 have ex0 := asI_some hx0
 subst ex0
 obtain ⟨N, t, h, hκ⟩ := callX_some hh0
 refine ⟨_, _, hκ, told_of_run pq okC_84 (fun _ _ _ => drawA_ok pq okC_84 hmix) (E := E_84) (fn := Try.f84) (body := B_84) (by kernel_rfl) (by kernel_rfl) (by kernel_rfl) (by rfl) (by exact Nat.le_of_ble_eq_true rfl) (fun k hk => ?_)⟩
 refine (w_84 a0 k).trans ?_
 replace h : spec_l1Num.f a0 = some t := h
 unfold spec_l1Num.f at h
 refine br_eti h rfl (fun c2 h => ?_) (fun c2 h => ?_)
 ·cases h; exact hk
 cases h; exact hk
noncomputable def C_22 : Ctr tau Unit := ctrS 84 c_84 C_84
noncomputable def D_22 : Drw tau := drawA E_22 C_22
theorem okC_22 : CtrOk Try.prog TT pnT C_22 := ctrS_ok okC_84 okc_84
theorem mC_22 : CtrMono C_22 := ctrS_mono mC_84 mc_84
theorem mD_22 : DrMono D_22 := drawA_mono mC_22
noncomputable def B_22 : Code := Try.f22.body.getD .skip
theorem mc_22 (args : List (AV tau)) (m : Mem tau) (k k' : AV tau → Mem tau → Option Unit) (hk : ∀ av m, k av m = some () → k' av m = some ()) (h : c_22 args m k = some ()) : c_22 args m k' = some () := by
 unfold c_22 at h ⊢
 split at h
 · repeat' first | exact callX_mono (fun _ h => hk _ _ h) h | refine bO_mono (fun _ h => ?_) h
 · cases h
noncomputable def K_22_0 (k : AV tau → Mem tau → Option Unit) : Kon tau := (kBlock 0 (kS E_22 C_22 D_22 (codeP B_22 [1, 1, 1]) (kEnd E_22 Try.f22 k)))
def st_22_0 (x0 : (List S37)) (x1 : Int) : St tau := ⟨tmL 36 0 [(0, .sl 37 x0), (3, .int .i64 x1)], ⟨[], []⟩⟩
noncomputable def LP_22_0 (k : AV tau → Mem tau → Option Unit) (x0 : (List S37)) (x1 : Int) : Option Unit := loopA E_22 (codeA E_22 C_22 D_22 (codeP B_22 [1, 1, 0, 1, 0, 0])) (codeP B_22 [1, 1, 0, 1, 0, 0]) (K_22_0 k) (st_22_0 x0 x1)
theorem w_22_0 (k : AV tau → Mem tau → Option Unit) (x0 : (List S37)) (x1 : Int) : codeA E_22 C_22 D_22 (codeP B_22 [1, 1, 0, 1, 0, 0]) (kL E_22 C_22 D_22 (codeP B_22 [1, 1, 0, 1, 0, 0]) (K_22_0 k)) (st_22_0 x0 x1) = (brA (decide (x1 < ((x0.length : Nat) : Int))) (brA (decide ((0 : Int) ≤ x1)) (brA (decide (x1 < ((x0.length : Nat) : Int))) (brA (decide ((rd_T37 x0 x1).f0 < (0 : Int))) (k (.bool false) ⟨[], []⟩) (brA (decide ((0 : Int) ≤ x1)) (brA (decide (x1 < ((x0.length : Nat) : Int))) (brA (decide ((rd_T37 x0 x1).f0 > (1000000 : Int))) (k (.bool false) ⟨[], []⟩) (brA (decide ((0 : Int) ≤ x1)) (brA (decide (x1 < ((x0.length : Nat) : Int))) (callX (fun n => spec_l1Num.f ((rd_T37 x0 x1).f1)) fun t0 => brA (!t0) (k (.bool false) ⟨[], []⟩) (LP_22_0 k x0 (wrap64 (x1 + (1 : Int))))) (none)) (none))) (none)) (none))) (none)) (none)) (k (.bool true) ⟨[], []⟩) : Option Unit) := by
 simp only [← wrapA_i64]
 kernel_rfl
theorem w_22 (l0 : List S37) (k : AV tau → Mem tau → Option Unit) : fnA E_22 C_22 D_22 Try.f22 B_22 [.sl 37 l0] ⟨[], []⟩ k = (brA (!(decide (((l0.length : Nat) : Int) = (4 : Int)))) (k (.bool false) ⟨[], []⟩) (LP_22_0 k l0 (0 : Int)) : Option Unit) := by kernel_rfl
def S_22_0 (N : Nat) : Prop := ∀ (k : AV tau → Mem tau → Option Unit) (x0 : (List S37)) (x1 : Int) (r : Bool), spec_BoxOk.l0 N (x0) (x1) = some r → k (.bool (r)) ⟨[], []⟩ = some () → LP_22_0 k x0 x1 = some ()
theorem L_22 (N : Nat) : S_22_0 N := by
 induction N using Nat.strongRecOn with | _ N0 ih =>
 skip
 intro k x0 x1 r h hk
 rcases N0 with _ | N
 · cases h
 first | rw [spec_BoxOk.l0] at h | simp only [spec_BoxOk.l0] at h | (unfold spec_BoxOk.l0 at h; dsimp only at h)
 refine loop_fold mC_22 mD_22 ?_
 refine (w_22_0 k x0 x1).trans ?_
 refine br_eti h rfl (fun c15 h => ?_) (fun c15 h => ?_)
 ·cases h; exact hk
 refine br_g h rfl (fun c16 h => ?_)
 refine br_t (by first | (simp [c15]; done) | (simp; omega) | (simp only [List.length_append, List.length_cons, List.length_nil, List.length_take, List.length_drop] at c15 ⊢; simp; omega) | (simp only [List.length_append, List.length_cons, List.length_nil, List.length_take, List.length_drop] at c15; simp; omega) | (simp_all; done)) ?_
 refine br_ite h rfl (fun c17 h => ?_) (fun c17 h => ?_)
 ·cases h; exact hk
 refine br_t (by first | (simp [c16]; done) | (simp; omega) | (simp only [List.length_append, List.length_cons, List.length_nil, List.length_take, List.length_drop] at c15 ⊢; simp; omega) | (simp only [List.length_append, List.length_cons, List.length_nil, List.length_take, List.length_drop] at c15; simp; omega) | (simp_all; done)) ?_
 refine br_t (by first | (simp [c15]; done) | (simp; omega) | (simp only [List.length_append, List.length_cons, List.length_nil, List.length_take, List.length_drop] at c15 ⊢; simp; omega) | (simp only [List.length_append, List.length_cons, List.length_nil, List.length_take, List.length_drop] at c15; simp; omega) | (simp_all; done)) ?_
 refine br_ite h rfl (fun c18 h => ?_) (fun c18 h => ?_)
 ·cases h; exact hk
 refine br_t (by first | (simp [c16]; done) | (simp; omega) | (simp only [List.length_append, List.length_cons, List.length_nil, List.length_take, List.length_drop] at c15 ⊢; simp; omega) | (simp only [List.length_append, List.length_cons, List.length_nil, List.length_take, List.length_drop] at c15; simp; omega) | (simp_all; done)) ?_
 refine br_t (by first | (simp [c15]; done) | (simp; omega) | (simp only [List.length_append, List.length_cons, List.length_nil, List.length_take, List.length_drop] at c15 ⊢; simp; omega) | (simp only [List.length_append, List.length_cons, List.length_nil, List.length_take, List.length_drop] at c15; simp; omega) | (simp_all; done)) ?_
 refine call_h 0 h (fun t0 e19 h => ?_)
 refine br_etn h (congrArg not dect) (fun c20 h => ?_) (fun c20 h => ?_)
 ·cases h; exact hk
 exact (ih N (by omega)) _ _ _ _ h hk
theorem okc_22 (args : List (AV tau)) (m : Mem tau) (κ : AV tau → Mem tau → Option Unit) (hh : c_22 args m κ = some ()) : ∃ av m1, κ av m1 = some () ∧ ToldA Try.prog TT (pnT 22) 22 args m av m1 := by
 obtain ⟨bx_, rw_⟩ := m
 unfold c_22 at hh
 simp only at hh
 split at hh
 case h_2 => cases hh
 rename_i b0
 obtain ⟨l0, hx0, hh0⟩ := bO_some hh
 have ex0 := asSl_some hx0
 subst ex0
 obtain ⟨N, t, h, hκ⟩ := callX_some hh0
 refine ⟨_, _, hκ, told_of_run pq okC_22 (fun _ _ _ => drawA_ok pq okC_22 hmix) (E := E_22) (fn := Try.f22) (body := B_22) (by kernel_rfl) (by kernel_rfl) (by kernel_rfl) (by rfl) (by exact Nat.le_of_ble_eq_true rfl) (fun k hk => ?_)⟩
 refine (w_22 l0 k).trans ?_
 replace h : spec_BoxOk.f N l0 = some t := h
 unfold spec_BoxOk.f at h
 refine br_itn h rfl (fun c21 h => ?_) (fun c21 h => ?_)
 ·exact (L_22 N) _ _ _ _ h hk
 cases h; exact hk
noncomputable def C_89 : Ctr tau Unit := ctrS 22 c_22 C_22
noncomputable def D_89 : Drw tau := drawA E_89 C_89
theorem okC_89 : CtrOk Try.prog TT pnT C_89 := ctrS_ok okC_22 okc_22
theorem mC_89 : CtrMono C_89 := ctrS_mono mC_22 mc_22
theorem mD_89 : DrMono D_89 := drawA_mono mC_89
noncomputable def B_89 : Code := Try.f89.body.getD .skip
theorem mc_89 (args : List (AV tau)) (m : Mem tau) (k k' : AV tau → Mem tau → Option Unit) (hk : ∀ av m, k av m = some () → k' av m = some ()) (h : c_89 args m k = some ()) : c_89 args m k' = some () := by
 unfold c_89 at h ⊢
 split at h
 · repeat' first | exact callX_mono (fun _ h => hk _ _ h) h | refine bO_mono (fun _ h => ?_) h
 · cases h
theorem w_89 (l0 : List S37) (k : AV tau → Mem tau → Option Unit) : fnA E_89 C_89 D_89 Try.f89 B_89 [.sl 37 l0] ⟨[], []⟩ k = (brA (decide ((0 + l0.length) ≤ 8796093022208)) (k (.own 0 0) ⟨[], [some ⟨37, l0, 0⟩]⟩) (none) : Option Unit) := by kernel_rfl
theorem okc_89 (args : List (AV tau)) (m : Mem tau) (κ : AV tau → Mem tau → Option Unit) (hh : c_89 args m κ = some ()) : ∃ av m1, κ av m1 = some () ∧ ToldA Try.prog TT (pnT 89) 89 args m av m1 := by
 obtain ⟨bx_, rw_⟩ := m
 unfold c_89 at hh
 simp only at hh
 split at hh
 case h_2 => cases hh
 rename_i b0
 obtain ⟨l0, hx0, hh0⟩ := bO_some hh
 have ex0 := asSl_some hx0
 subst ex0
 obtain ⟨N, t, h, hκ⟩ := callX_some hh0
 refine ⟨_, _, hκ, told_of_run pq okC_89 (fun _ _ _ => drawA_ok pq okC_89 hmix) (E := E_89) (fn := Try.f89) (body := B_89) (by kernel_rfl) (by kernel_rfl) (by kernel_rfl) (by rfl) (by exact Nat.le_of_ble_eq_true rfl) (fun k hk => ?_)⟩
 refine (w_89 l0 k).trans ?_
 replace h : spec_l1Copy.f l0 = some t := h
 unfold spec_l1Copy.f at h
 replace h := let_h h
 refine ite_x h (fun c2 h => ?_) (fun _ h => by cases h)
 refine br_t (by first | (simp; omega) | (simp only [List.length_append, List.length_cons, List.length_nil, List.length_take, List.length_drop] at c2 ⊢; simp; omega) | (simp only [List.length_append, List.length_cons, List.length_nil, List.length_take, List.length_drop] at c2; simp; omega)) ?_
 cases h; exact hk
noncomputable def C_85 : Ctr tau Unit := ctrS 89 c_89 C_89
noncomputable def D_85 : Drw tau := drawA E_85 C_85
theorem okC_85 : CtrOk Try.prog TT pnT C_85 := ctrS_ok okC_89 okc_89
theorem mC_85 : CtrMono C_85 := ctrS_mono mC_89 mc_89
theorem mD_85 : DrMono D_85 := drawA_mono mC_85
noncomputable def B_85 : Code := Try.f85.body.getD .skip
theorem mc_85 (args : List (AV tau)) (m : Mem tau) (k k' : AV tau → Mem tau → Option Unit) (hk : ∀ av m, k av m = some () → k' av m = some ()) (h : c_85 args m k = some ()) : c_85 args m k' = some () := by
 unfold c_85 at h ⊢
 split at h
 · repeat' first | exact callX_mono (fun _ h => hk _ _ h) h | refine bO_mono (fun _ h => ?_) h
 · cases h
theorem w_85 (a0 : Int) (k : AV tau → Mem tau → Option Unit) : fnA E_85 C_85 D_85 Try.f85 B_85 [.int .i64 a0] ⟨[], []⟩ k = (brA (decide (a0 ≥ (0 : Int))) (k (.bool (decide (a0 < (4 : Int)))) ⟨[], []⟩) (k (.bool false) ⟨[], []⟩) : Option Unit) := by kernel_rfl
theorem okc_85 (args : List (AV tau)) (m : Mem tau) (κ : AV tau → Mem tau → Option Unit) (hh : c_85 args m κ = some ()) : ∃ av m1, κ av m1 = some () ∧ ToldA Try.prog TT (pnT 85) 85 args m av m1 := by
 obtain ⟨bx_, rw_⟩ := m
 unfold c_85 at hh
 simp only at hh
 split at hh
 case h_2 => cases hh
 rename_i b0
 obtain ⟨a0, hx0, hh0⟩ := bO_some hh
 have ex0 := asI_some hx0
 subst ex0
 obtain ⟨N, t, h, hκ⟩ := callX_some hh0
 refine ⟨_, _, hκ, told_of_run pq okC_85 (fun _ _ _ => drawA_ok pq okC_85 hmix) (E := E_85) (fn := Try.f85) (body := B_85) (by kernel_rfl) (by kernel_rfl) (by kernel_rfl) (by rfl) (by exact Nat.le_of_ble_eq_true rfl) (fun k hk => ?_)⟩
 refine (w_85 a0 k).trans ?_
 replace h : spec_l2Box.f a0 = some t := h
 unfold spec_l2Box.f at h
 refine br_eti h rfl (fun c2 h => ?_) (fun c2 h => ?_)
 ·cases h; exact hk
 cases h; exact hk
noncomputable def C_170 : Ctr tau Unit := ctrS 85 c_85 C_85
noncomputable def D_170 : Drw tau := drawA E_170 C_170
theorem okC_170 : CtrOk Try.prog TT pnT C_170 := ctrS_ok okC_85 okc_85
theorem mC_170 : CtrMono C_170 := ctrS_mono mC_85 mc_85
theorem mD_170 : DrMono D_170 := drawA_mono mC_170
noncomputable def B_170 : Code := Try.f170.body.getD .skip
theorem mc_170 (args : List (AV tau)) (m : Mem tau) (k k' : AV tau → Mem tau → Option Unit) (hk : ∀ av m, k av m = some () → k' av m = some ()) (h : c_170 args m k = some ()) : c_170 args m k' = some () := by
 unfold c_170 at h ⊢
 split at h
 · repeat' first | exact callX_mono (fun _ h => hk _ _ h) h | refine bO_mono (fun _ h => ?_) h
 · cases h
theorem w_170 (a0 : Int) (k : AV tau → Mem tau → Option Unit) : fnA E_170 C_170 D_170 Try.f170 B_170 [.int .i64 a0] ⟨[], []⟩ k = (brA (decide (a0 ≥ (0 : Int))) (k (.bool (decide (a0 < (4 : Int)))) ⟨[], []⟩) (k (.bool false) ⟨[], []⟩) : Option Unit) := by kernel_rfl
theorem okc_170 (args : List (AV tau)) (m : Mem tau) (κ : AV tau → Mem tau → Option Unit) (hh : c_170 args m κ = some ()) : ∃ av m1, κ av m1 = some () ∧ ToldA Try.prog TT (pnT 170) 170 args m av m1 := by
 obtain ⟨bx_, rw_⟩ := m
 unfold c_170 at hh
 simp only at hh
 split at hh
 case h_2 => cases hh
 rename_i b0
 obtain ⟨a0, hx0, hh0⟩ := bO_some hh
 have ex0 := asI_some hx0
 subst ex0
 obtain ⟨N, t, h, hκ⟩ := callX_some hh0
 refine ⟨_, _, hκ, told_of_run pq okC_170 (fun _ _ _ => drawA_ok pq okC_170 hmix) (E := E_170) (fn := Try.f170) (body := B_170) (by kernel_rfl) (by kernel_rfl) (by kernel_rfl) (by rfl) (by exact Nat.le_of_ble_eq_true rfl) (fun k hk => ?_)⟩
 refine (w_170 a0 k).trans ?_
 replace h : spec_l2Reg.f a0 = some t := h
 unfold spec_l2Reg.f at h
 refine br_eti h rfl (fun c2 h => ?_) (fun c2 h => ?_)
 ·cases h; exact hk
 cases h; exact hk
noncomputable def C_153 : Ctr tau Unit := ctrS 170 c_170 C_170
noncomputable def D_153 : Drw tau := drawA E_153 C_153
theorem okC_153 : CtrOk Try.prog TT pnT C_153 := ctrS_ok okC_170 okc_170
theorem mC_153 : CtrMono C_153 := ctrS_mono mC_170 mc_170
theorem mD_153 : DrMono D_153 := drawA_mono mC_153
noncomputable def B_153 : Code := Try.f153.body.getD .skip
theorem mc_153 (args : List (AV tau)) (m : Mem tau) (k k' : AV tau → Mem tau → Option Unit) (hk : ∀ av m, k av m = some () → k' av m = some ()) (h : c_153 args m k = some ()) : c_153 args m k' = some () := by
 unfold c_153 at h ⊢
 split at h
 · repeat' first | exact callX_mono (fun _ h => hk _ _ h) h | refine bO_mono (fun _ h => ?_) h
 · cases h
theorem w_153 (a0_0 : Int) (a0_1 : Int) (a0_2 : Int) (a0_3 : Int) (k : AV tau → Mem tau → Option Unit) : fnA E_153 C_153 D_153 Try.f153 B_153 [.agg [.int .i64 a0_0, .int .i64 a0_1, .int .i64 a0_2, .int .i64 a0_3]] ⟨[], []⟩ k = (brA (decide (a0_0 = (1 : Int))) (callX (fun n => spec_l2Reg.f a0_1) fun t0 => brA t0 (callX (fun n => spec_l2Box.f a0_2) fun t1 => brA t1 (k (.bool (decide (a0_3 = (0 : Int)))) ⟨[], []⟩) (k (.bool false) ⟨[], []⟩)) (k (.bool false) ⟨[], []⟩)) (brA (decide (a0_0 = (2 : Int))) (callX (fun n => spec_l2Box.f a0_1) fun t2 => brA t2 (callX (fun n => spec_l2Reg.f a0_2) fun t3 => brA t3 (k (.bool (decide (a0_3 = (0 : Int)))) ⟨[], []⟩) (k (.bool false) ⟨[], []⟩)) (k (.bool false) ⟨[], []⟩)) (brA (decide (a0_0 = (3 : Int))) (callX (fun n => spec_l2Reg.f a0_1) fun t4 => brA t4 (brA (decide (a0_2 = (0 : Int))) (callX (fun n => spec_l1Num.f a0_3) fun t5 => k (.bool t5) ⟨[], []⟩) (k (.bool false) ⟨[], []⟩)) (k (.bool false) ⟨[], []⟩)) (brA (decide (a0_0 = (4 : Int))) (brA (decide (a0_0 = (4 : Int))) (callX (fun n => spec_l2Reg.f a0_1) fun t6 => brA t6 (callX (fun n => spec_l2Reg.f a0_2) fun t7 => brA t7 (k (.bool (decide (a0_3 = (0 : Int)))) ⟨[], []⟩) (k (.bool false) ⟨[], []⟩)) (k (.bool false) ⟨[], []⟩)) (brA (decide (a0_0 = (6 : Int))) (callX (fun n => spec_l2Reg.f a0_1) fun t8 => brA t8 (callX (fun n => spec_l2Reg.f a0_2) fun t9 => brA t9 (brA (decide (a0_3 ≥ (1 : Int))) (k (.bool (decide (a0_3 ≤ (10 : Int)))) ⟨[], []⟩) (k (.bool false) ⟨[], []⟩)) (k (.bool false) ⟨[], []⟩)) (k (.bool false) ⟨[], []⟩)) (brA (decide (a0_0 = (7 : Int))) (brA (decide (a0_1 = (0 : Int))) (brA (decide (a0_2 = (0 : Int))) (k (.bool (decide (a0_3 = (0 : Int)))) ⟨[], []⟩) (k (.bool false) ⟨[], []⟩)) (k (.bool false) ⟨[], []⟩)) (k (.bool false) ⟨[], []⟩)))) (brA (decide (a0_0 = (5 : Int))) (callX (fun n => spec_l2Reg.f a0_1) fun t10 => brA t10 (callX (fun n => spec_l2Reg.f a0_2) fun t11 => brA t11 (k (.bool (decide (a0_3 = (0 : Int)))) ⟨[], []⟩) (k (.bool false) ⟨[], []⟩)) (k (.bool false) ⟨[], []⟩)) (brA (decide (a0_0 = (6 : Int))) (callX (fun n => spec_l2Reg.f a0_1) fun t12 => brA t12 (callX (fun n => spec_l2Reg.f a0_2) fun t13 => brA t13 (brA (decide (a0_3 ≥ (1 : Int))) (k (.bool (decide (a0_3 ≤ (10 : Int)))) ⟨[], []⟩) (k (.bool false) ⟨[], []⟩)) (k (.bool false) ⟨[], []⟩)) (k (.bool false) ⟨[], []⟩)) (brA (decide (a0_0 = (7 : Int))) (brA (decide (a0_1 = (0 : Int))) (brA (decide (a0_2 = (0 : Int))) (k (.bool (decide (a0_3 = (0 : Int)))) ⟨[], []⟩) (k (.bool false) ⟨[], []⟩)) (k (.bool false) ⟨[], []⟩)) (k (.bool false) ⟨[], []⟩))))))) : Option Unit) := by kernel_rfl
theorem okc_153 (args : List (AV tau)) (m : Mem tau) (κ : AV tau → Mem tau → Option Unit) (hh : c_153 args m κ = some ()) : ∃ av m1, κ av m1 = some () ∧ ToldA Try.prog TT (pnT 153) 153 args m av m1 := by
 obtain ⟨bx_, rw_⟩ := m
 unfold c_153 at hh
 simp only at hh
 split at hh
 case h_2 => cases hh
 rename_i b0 b1 b2 b3
 obtain ⟨a0_0, hx0, hh0⟩ := bO_some hh
 obtain ⟨a0_1, hx1, hh1⟩ := bO_some hh0
 obtain ⟨a0_2, hx2, hh2⟩ := bO_some hh1
 obtain ⟨a0_3, hx3, hh3⟩ := bO_some hh2
 have ex0 := asI_some hx0
 have ex1 := asI_some hx1
 have ex2 := asI_some hx2
 have ex3 := asI_some hx3
 subst ex0 ex1 ex2 ex3
 obtain ⟨N, t, h, hκ⟩ := callX_some hh3
 refine ⟨_, _, hκ, told_of_run pq okC_153 (fun _ _ _ => drawA_ok pq okC_153 hmix) (E := E_153) (fn := Try.f153) (body := B_153) (by kernel_rfl) (by kernel_rfl) (by kernel_rfl) (by rfl) (by exact Nat.le_of_ble_eq_true rfl) (fun k hk => ?_)⟩
 refine (w_153 a0_0 a0_1 a0_2 a0_3 k).trans ?_
 replace h : spec_l2Ins.f N a0_0 a0_1 a0_2 a0_3 = some t := h
 unfold spec_l2Ins.f at h
 refine br_ite h rfl (fun c45 h => ?_) (fun c45 h => ?_)
 ·refine call_h 0 h (fun t0 e46 h => ?_)
  refine br_eti h dect (fun c47 h => ?_) (fun c47 h => ?_)
  ·cases h; exact hk
  refine call_h 0 h (fun t1 e48 h => ?_)
  refine br_eti h dect (fun c49 h => ?_) (fun c49 h => ?_)
  ·cases h; exact hk
  cases h; exact hk
 refine br_ite h rfl (fun c50 h => ?_) (fun c50 h => ?_)
 ·refine call_h 0 h (fun t2 e51 h => ?_)
  refine br_eti h dect (fun c52 h => ?_) (fun c52 h => ?_)
  ·cases h; exact hk
  refine call_h 0 h (fun t3 e53 h => ?_)
  refine br_eti h dect (fun c54 h => ?_) (fun c54 h => ?_)
  ·cases h; exact hk
  cases h; exact hk
 refine br_ite h rfl (fun c55 h => ?_) (fun c55 h => ?_)
 ·refine call_h 0 h (fun t4 e56 h => ?_)
  refine br_eti h dect (fun c57 h => ?_) (fun c57 h => ?_)
  ·cases h; exact hk
  refine br_eti h rfl (fun c58 h => ?_) (fun c58 h => ?_)
  ·cases h; exact hk
  refine call_h 0 h (fun t5 e59 h => ?_)
  cases h; exact hk
 refine br_ite h rfl (fun c60 h => ?_) (fun c60 h => ?_)
 ·rcases N with _ | N
  · cases h
  first | rw [spec_l2Ins.j0] at h | simp only [spec_l2Ins.j0] at h | (unfold spec_l2Ins.j0 at h; dsimp only at h)
  refine br_ite h (by first | rfl | exact dect | exact (congrArg not dect) | (simp; done) | (simp [beqI]; done) | (simp; omega)) (fun c61 h => ?_) (fun c61 h => ?_)
  ·refine call_h 0 h (fun t6 e62 h => ?_)
   refine br_eti h dect (fun c63 h => ?_) (fun c63 h => ?_)
   ·cases h; exact hk
   refine call_h 0 h (fun t7 e64 h => ?_)
   refine br_eti h dect (fun c65 h => ?_) (fun c65 h => ?_)
   ·cases h; exact hk
   cases h; exact hk
  refine br_eti h rfl (fun c66 h => ?_) (fun c66 h => ?_)
  ·refine br_eti h rfl (fun c67 h => ?_) (fun c67 h => ?_)
   ·cases h; exact hk
   refine br_eti h rfl (fun c68 h => ?_) (fun c68 h => ?_)
   ·cases h; exact hk
   refine br_eti h rfl (fun c69 h => ?_) (fun c69 h => ?_)
   ·cases h; exact hk
   cases h; exact hk
  refine call_h 0 h (fun t8 e70 h => ?_)
  refine br_eti h dect (fun c71 h => ?_) (fun c71 h => ?_)
  ·cases h; exact hk
  refine call_h 0 h (fun t9 e72 h => ?_)
  refine br_eti h dect (fun c73 h => ?_) (fun c73 h => ?_)
  ·cases h; exact hk
  refine br_eti h rfl (fun c74 h => ?_) (fun c74 h => ?_)
  ·cases h; exact hk
  cases h; exact hk
 rcases N with _ | N
 · cases h
 first | rw [spec_l2Ins.j0] at h | simp only [spec_l2Ins.j0] at h | (unfold spec_l2Ins.j0 at h; dsimp only at h)
 refine br_ite h (by first | rfl | exact dect | exact (congrArg not dect) | (simp; done) | (simp [beqI]; done) | (simp; omega)) (fun c75 h => ?_) (fun c75 h => ?_)
 ·refine call_h 0 h (fun t10 e76 h => ?_)
  refine br_eti h dect (fun c77 h => ?_) (fun c77 h => ?_)
  ·cases h; exact hk
  refine call_h 0 h (fun t11 e78 h => ?_)
  refine br_eti h dect (fun c79 h => ?_) (fun c79 h => ?_)
  ·cases h; exact hk
  cases h; exact hk
 refine br_eti h rfl (fun c80 h => ?_) (fun c80 h => ?_)
 ·refine br_eti h rfl (fun c81 h => ?_) (fun c81 h => ?_)
  ·cases h; exact hk
  refine br_eti h rfl (fun c82 h => ?_) (fun c82 h => ?_)
  ·cases h; exact hk
  refine br_eti h rfl (fun c83 h => ?_) (fun c83 h => ?_)
  ·cases h; exact hk
  cases h; exact hk
 refine call_h 0 h (fun t12 e84 h => ?_)
 refine br_eti h dect (fun c85 h => ?_) (fun c85 h => ?_)
 ·cases h; exact hk
 refine call_h 0 h (fun t13 e86 h => ?_)
 refine br_eti h dect (fun c87 h => ?_) (fun c87 h => ?_)
 ·cases h; exact hk
 refine br_eti h rfl (fun c88 h => ?_) (fun c88 h => ?_)
 ·cases h; exact hk
 cases h; exact hk
noncomputable def C_106 : Ctr tau Unit := ctrS 153 c_153 C_153
noncomputable def D_106 : Drw tau := drawA E_106 C_106
theorem okC_106 : CtrOk Try.prog TT pnT C_106 := ctrS_ok okC_153 okc_153
theorem mC_106 : CtrMono C_106 := ctrS_mono mC_153 mc_153
theorem mD_106 : DrMono D_106 := drawA_mono mC_106
noncomputable def B_106 : Code := Try.f106.body.getD .skip
theorem mc_106 (args : List (AV tau)) (m : Mem tau) (k k' : AV tau → Mem tau → Option Unit) (hk : ∀ av m, k av m = some () → k' av m = some ()) (h : c_106 args m k = some ()) : c_106 args m k' = some () := by
 unfold c_106 at h ⊢
 split at h
 · repeat' first | exact callX_mono (fun _ h => hk _ _ h) h | refine bO_mono (fun _ h => ?_) h
 · cases h
noncomputable def K_106_0 (k : AV tau → Mem tau → Option Unit) : Kon tau := (kBlock 0 (kS E_106 C_106 D_106 (codeP B_106 [1, 1, 1]) (kEnd E_106 Try.f106 k)))
def st_106_0 (x0 : (List S95)) (x1 : Int) : St tau := ⟨tmL 19 0 [(0, .sl 95 x0), (3, .int .i64 x1)], ⟨[], []⟩⟩
noncomputable def LP_106_0 (k : AV tau → Mem tau → Option Unit) (x0 : (List S95)) (x1 : Int) : Option Unit := loopA E_106 (codeA E_106 C_106 D_106 (codeP B_106 [1, 1, 0, 1, 0, 0])) (codeP B_106 [1, 1, 0, 1, 0, 0]) (K_106_0 k) (st_106_0 x0 x1)
theorem w_106_0 (k : AV tau → Mem tau → Option Unit) (x0 : (List S95)) (x1 : Int) : codeA E_106 C_106 D_106 (codeP B_106 [1, 1, 0, 1, 0, 0]) (kL E_106 C_106 D_106 (codeP B_106 [1, 1, 0, 1, 0, 0]) (K_106_0 k)) (st_106_0 x0 x1) = (brA (decide (x1 < ((x0.length : Nat) : Int))) (brA (decide ((0 : Int) ≤ x1)) (brA (decide (x1 < ((x0.length : Nat) : Int))) (callX (fun n => spec_l2Ins.f n ((rd_T95 x0 x1).f0) ((rd_T95 x0 x1).f1) ((rd_T95 x0 x1).f2) ((rd_T95 x0 x1).f3)) fun t0 => brA (!t0) (k (.bool false) ⟨[], []⟩) (LP_106_0 k x0 (wrap64 (x1 + (1 : Int))))) (none)) (none)) (k (.bool true) ⟨[], []⟩) : Option Unit) := by
 simp only [← wrapA_i64]
 kernel_rfl
theorem w_106 (l0 : List S95) (k : AV tau → Mem tau → Option Unit) : fnA E_106 C_106 D_106 Try.f106 B_106 [.sl 95 l0] ⟨[], []⟩ k = (brA (decide (((l0.length : Nat) : Int) > (10 : Int))) (k (.bool false) ⟨[], []⟩) (LP_106_0 k l0 (0 : Int)) : Option Unit) := by kernel_rfl
def S_106_0 (N : Nat) : Prop := ∀ (k : AV tau → Mem tau → Option Unit) (x0 : (List S95)) (x1 : Int) (r : Bool), spec_ProgOk.l0 N (x0) (x1) = some r → k (.bool (r)) ⟨[], []⟩ = some () → LP_106_0 k x0 x1 = some ()
theorem L_106 (N : Nat) : S_106_0 N := by
 induction N using Nat.strongRecOn with | _ N0 ih =>
 skip
 intro k x0 x1 r h hk
 rcases N0 with _ | N
 · cases h
 first | rw [spec_ProgOk.l0] at h | simp only [spec_ProgOk.l0] at h | (unfold spec_ProgOk.l0 at h; dsimp only at h)
 refine loop_fold mC_106 mD_106 ?_
 refine (w_106_0 k x0 x1).trans ?_
 refine br_eti h rfl (fun c11 h => ?_) (fun c11 h => ?_)
 ·cases h; exact hk
 refine br_g h rfl (fun c12 h => ?_)
 refine br_t (by first | (simp [c11]; done) | (simp; omega) | (simp only [List.length_append, List.length_cons, List.length_nil, List.length_take, List.length_drop] at c11 ⊢; simp; omega) | (simp only [List.length_append, List.length_cons, List.length_nil, List.length_take, List.length_drop] at c11; simp; omega) | (simp_all; done)) ?_
 refine call_h N h (fun t0 e13 h => ?_)
 refine br_etn h (congrArg not dect) (fun c14 h => ?_) (fun c14 h => ?_)
 ·cases h; exact hk
 exact (ih N (by omega)) _ _ _ _ h hk
theorem okc_106 (args : List (AV tau)) (m : Mem tau) (κ : AV tau → Mem tau → Option Unit) (hh : c_106 args m κ = some ()) : ∃ av m1, κ av m1 = some () ∧ ToldA Try.prog TT (pnT 106) 106 args m av m1 := by
 obtain ⟨bx_, rw_⟩ := m
 unfold c_106 at hh
 simp only at hh
 split at hh
 case h_2 => cases hh
 rename_i b0
 obtain ⟨l0, hx0, hh0⟩ := bO_some hh
 have ex0 := asSl_some hx0
 subst ex0
 obtain ⟨N, t, h, hκ⟩ := callX_some hh0
 refine ⟨_, _, hκ, told_of_run pq okC_106 (fun _ _ _ => drawA_ok pq okC_106 hmix) (E := E_106) (fn := Try.f106) (body := B_106) (by kernel_rfl) (by kernel_rfl) (by kernel_rfl) (by rfl) (by exact Nat.le_of_ble_eq_true rfl) (fun k hk => ?_)⟩
 refine (w_106 l0 k).trans ?_
 replace h : spec_ProgOk.f N l0 = some t := h
 unfold spec_ProgOk.f at h
 refine br_eti h rfl (fun c15 h => ?_) (fun c15 h => ?_)
 ·exact (L_106 N) _ _ _ _ h hk
 cases h; exact hk
noncomputable def C_86 : Ctr tau Unit := ctrS 106 c_106 C_106
noncomputable def D_86 : Drw tau := drawA E_86 C_86
theorem okC_86 : CtrOk Try.prog TT pnT C_86 := ctrS_ok okC_106 okc_106
theorem mC_86 : CtrMono C_86 := ctrS_mono mC_106 mc_106
theorem mD_86 : DrMono D_86 := drawA_mono mC_86
noncomputable def B_86 : Code := Try.f86.body.getD .skip
theorem mc_86 (args : List (AV tau)) (m : Mem tau) (k k' : AV tau → Mem tau → Option Unit) (hk : ∀ av m, k av m = some () → k' av m = some ()) (h : c_86 args m k = some ()) : c_86 args m k' = some () := by
 unfold c_86 at h ⊢
 split at h
 · repeat' first | exact callX_mono (fun _ h => hk _ _ h) h | refine bO_mono (fun _ h => ?_) h
 · cases h
noncomputable def K_86_0 (k : AV tau → Mem tau → Option Unit) : Kon tau := (kBlock 0 (kS E_86 C_86 D_86 (codeP B_86 [1, 1]) (kEnd E_86 Try.f86 k)))
def st_86_0 (x0 : (List S39)) (x1 : Int) (x2 : Int) : St tau := ⟨tmL 19 0 [(0, .sl 39 x0), (1, .int .i64 x1), (5, .int .i64 x2)], ⟨[], []⟩⟩
noncomputable def LP_86_0 (k : AV tau → Mem tau → Option Unit) (x0 : (List S39)) (x1 : Int) (x2 : Int) : Option Unit := loopA E_86 (codeA E_86 C_86 D_86 (codeP B_86 [1, 0, 1, 0, 0])) (codeP B_86 [1, 0, 1, 0, 0]) (K_86_0 k) (st_86_0 x0 x1 x2)
theorem w_86_0 (k : AV tau → Mem tau → Option Unit) (x0 : (List S39)) (x1 : Int) (x2 : Int) : codeA E_86 C_86 D_86 (codeP B_86 [1, 0, 1, 0, 0]) (kL E_86 C_86 D_86 (codeP B_86 [1, 0, 1, 0, 0]) (K_86_0 k)) (st_86_0 x0 x1 x2) = (brA (decide (x2 < ((x0.length : Nat) : Int))) (brA (decide ((0 : Int) ≤ x2)) (brA (decide (x2 < ((x0.length : Nat) : Int))) (brA (decide ((rd_T39 x0 x2).f0 = x1)) (k (.bool true) ⟨[], []⟩) (LP_86_0 k x0 x1 (wrap64 (x2 + (1 : Int))))) (none)) (none)) (k (.bool false) ⟨[], []⟩) : Option Unit) := by
 simp only [← wrapA_i64]
 kernel_rfl
theorem w_86 (l0 : List S39) (a1 : Int) (k : AV tau → Mem tau → Option Unit) : fnA E_86 C_86 D_86 Try.f86 B_86 [.sl 39 l0, .int .i64 a1] ⟨[], []⟩ k = (LP_86_0 k l0 a1 (0 : Int) : Option Unit) := by kernel_rfl
def S_86_0 (N : Nat) : Prop := ∀ (k : AV tau → Mem tau → Option Unit) (x0 : (List S39)) (x1 : Int) (x2 : Int) (r : Bool), spec_l3Saw.l0 N (x0) (x1) (x2) = some r → k (.bool (r)) ⟨[], []⟩ = some () → LP_86_0 k x0 x1 x2 = some ()
theorem L_86 (N : Nat) : S_86_0 N := by
 induction N using Nat.strongRecOn with | _ N0 ih =>
 skip
 intro k x0 x1 x2 r h hk
 rcases N0 with _ | N
 · cases h
 first | rw [spec_l3Saw.l0] at h | simp only [spec_l3Saw.l0] at h | (unfold spec_l3Saw.l0 at h; dsimp only at h)
 refine loop_fold mC_86 mD_86 ?_
 refine (w_86_0 k x0 x1 x2).trans ?_
 refine br_eti h rfl (fun c7 h => ?_) (fun c7 h => ?_)
 ·cases h; exact hk
 refine br_g h rfl (fun c8 h => ?_)
 refine br_t (by first | (simp [c7]; done) | (simp; omega) | (simp only [List.length_append, List.length_cons, List.length_nil, List.length_take, List.length_drop] at c7 ⊢; simp; omega) | (simp only [List.length_append, List.length_cons, List.length_nil, List.length_take, List.length_drop] at c7; simp; omega) | (simp_all; done)) ?_
 refine br_ite h rfl (fun c9 h => ?_) (fun c9 h => ?_)
 ·cases h; exact hk
 exact (ih N (by omega)) _ _ _ _ _ h hk
theorem okc_86 (args : List (AV tau)) (m : Mem tau) (κ : AV tau → Mem tau → Option Unit) (hh : c_86 args m κ = some ()) : ∃ av m1, κ av m1 = some () ∧ ToldA Try.prog TT (pnT 86) 86 args m av m1 := by
 obtain ⟨bx_, rw_⟩ := m
 unfold c_86 at hh
 simp only at hh
 split at hh
 case h_2 => cases hh
 rename_i b0 b1
 obtain ⟨l0, hx0, hh0⟩ := bO_some hh
 obtain ⟨a1, hx1, hh1⟩ := bO_some hh0
 have ex0 := asSl_some hx0
 have ex1 := asI_some hx1
 subst ex0 ex1
 obtain ⟨N, t, h, hκ⟩ := callX_some hh1
 refine ⟨_, _, hκ, told_of_run pq okC_86 (fun _ _ _ => drawA_ok pq okC_86 hmix) (E := E_86) (fn := Try.f86) (body := B_86) (by kernel_rfl) (by kernel_rfl) (by kernel_rfl) (by rfl) (by exact Nat.le_of_ble_eq_true rfl) (fun k hk => ?_)⟩
 refine (w_86 l0 a1 k).trans ?_
 replace h : spec_l3Saw.f N l0 a1 = some t := h
 unfold spec_l3Saw.f at h
 exact (L_86 N) _ _ _ _ _ h hk
noncomputable def C_87 : Ctr tau Unit := ctrS 86 c_86 C_86
noncomputable def D_87 : Drw tau := drawA E_87 C_87
theorem okC_87 : CtrOk Try.prog TT pnT C_87 := ctrS_ok okC_86 okc_86
theorem mC_87 : CtrMono C_87 := ctrS_mono mC_86 mc_86
theorem mD_87 : DrMono D_87 := drawA_mono mC_87
noncomputable def B_87 : Code := Try.f87.body.getD .skip
theorem mc_87 (args : List (AV tau)) (m : Mem tau) (k k' : AV tau → Mem tau → Option Unit) (hk : ∀ av m, k av m = some () → k' av m = some ()) (h : c_87 args m k = some ()) : c_87 args m k' = some () := by
 unfold c_87 at h ⊢
 split at h
 · repeat' first | exact callX_mono (fun _ h => hk _ _ h) h | refine bO_mono (fun _ h => ?_) h
 · cases h
noncomputable def K_87_0 (k : AV tau → Mem tau → Option Unit) : Kon tau := (kBlock 0 (kS E_87 C_87 D_87 (codeP B_87 [1, 1]) (kEnd E_87 Try.f87 k)))
def st_87_0 (x0 : (List S82)) (x1 : Int) (x2 : Int) : St tau := ⟨tmL 20 0 [(0, .sl 82 x0), (1, .int .i64 x1), (5, .int .i64 x2)], ⟨[], []⟩⟩
noncomputable def LP_87_0 (k : AV tau → Mem tau → Option Unit) (x0 : (List S82)) (x1 : Int) (x2 : Int) : Option Unit := loopA E_87 (codeA E_87 C_87 D_87 (codeP B_87 [1, 0, 1, 0, 0])) (codeP B_87 [1, 0, 1, 0, 0]) (K_87_0 k) (st_87_0 x0 x1 x2)
theorem w_87_0 (k : AV tau → Mem tau → Option Unit) (x0 : (List S82)) (x1 : Int) (x2 : Int) : codeA E_87 C_87 D_87 (codeP B_87 [1, 0, 1, 0, 0]) (kL E_87 C_87 D_87 (codeP B_87 [1, 0, 1, 0, 0]) (K_87_0 k)) (st_87_0 x0 x1 x2) = (brA (decide (x2 < ((x0.length : Nat) : Int))) (brA (decide ((0 : Int) ≤ x2)) (brA (decide (x2 < ((x0.length : Nat) : Int))) (brA (decide ((rd_T82 x0 x2).f0 = x1)) (k (.int .i64 x2) ⟨[], []⟩) (LP_87_0 k x0 x1 (wrap64 (x2 + (1 : Int))))) (none)) (none)) (k (.int .i64 (-(1 : Int))) ⟨[], []⟩) : Option Unit) := by
 simp only [← wrapA_i64]
 kernel_rfl
theorem w_87 (l0 : List S82) (a1 : Int) (k : AV tau → Mem tau → Option Unit) : fnA E_87 C_87 D_87 Try.f87 B_87 [.sl 82 l0, .int .i64 a1] ⟨[], []⟩ k = (LP_87_0 k l0 a1 (0 : Int) : Option Unit) := by kernel_rfl
def S_87_0 (N : Nat) : Prop := ∀ (k : AV tau → Mem tau → Option Unit) (x0 : (List S82)) (x1 : Int) (x2 : Int) (r : Int), spec_l3At.l0 N (x0) (x1) (x2) = some r → k (.int .i64 (r)) ⟨[], []⟩ = some () → LP_87_0 k x0 x1 x2 = some ()
theorem L_87 (N : Nat) : S_87_0 N := by
 induction N using Nat.strongRecOn with | _ N0 ih =>
 skip
 intro k x0 x1 x2 r h hk
 rcases N0 with _ | N
 · cases h
 first | rw [spec_l3At.l0] at h | simp only [spec_l3At.l0] at h | (unfold spec_l3At.l0 at h; dsimp only at h)
 refine loop_fold mC_87 mD_87 ?_
 refine (w_87_0 k x0 x1 x2).trans ?_
 refine br_eti h rfl (fun c7 h => ?_) (fun c7 h => ?_)
 ·cases h; exact hk
 refine br_g h rfl (fun c8 h => ?_)
 refine br_t (by first | (simp [c7]; done) | (simp; omega) | (simp only [List.length_append, List.length_cons, List.length_nil, List.length_take, List.length_drop] at c7 ⊢; simp; omega) | (simp only [List.length_append, List.length_cons, List.length_nil, List.length_take, List.length_drop] at c7; simp; omega) | (simp_all; done)) ?_
 refine br_ite h rfl (fun c9 h => ?_) (fun c9 h => ?_)
 ·cases h; exact hk
 exact (ih N (by omega)) _ _ _ _ _ h hk
theorem okc_87 (args : List (AV tau)) (m : Mem tau) (κ : AV tau → Mem tau → Option Unit) (hh : c_87 args m κ = some ()) : ∃ av m1, κ av m1 = some () ∧ ToldA Try.prog TT (pnT 87) 87 args m av m1 := by
 obtain ⟨bx_, rw_⟩ := m
 unfold c_87 at hh
 simp only at hh
 split at hh
 case h_2 => cases hh
 rename_i b0 b1
 obtain ⟨l0, hx0, hh0⟩ := bO_some hh
 obtain ⟨a1, hx1, hh1⟩ := bO_some hh0
 have ex0 := asSl_some hx0
 have ex1 := asI_some hx1
 subst ex0 ex1
 obtain ⟨N, t, h, hκ⟩ := callX_some hh1
 refine ⟨_, _, hκ, told_of_run pq okC_87 (fun _ _ _ => drawA_ok pq okC_87 hmix) (E := E_87) (fn := Try.f87) (body := B_87) (by kernel_rfl) (by kernel_rfl) (by kernel_rfl) (by rfl) (by exact Nat.le_of_ble_eq_true rfl) (fun k hk => ?_)⟩
 refine (w_87 l0 a1 k).trans ?_
 replace h : spec_l3At.f N l0 a1 = some t := h
 unfold spec_l3At.f at h
 exact (L_87 N) _ _ _ _ _ h hk
noncomputable def C_175 : Ctr tau Unit := ctrS 87 c_87 C_87
noncomputable def D_175 : Drw tau := drawA E_175 C_175
theorem okC_175 : CtrOk Try.prog TT pnT C_175 := ctrS_ok okC_87 okc_87
theorem mC_175 : CtrMono C_175 := ctrS_mono mC_87 mc_87
theorem mD_175 : DrMono D_175 := drawA_mono mC_175
noncomputable def B_175 : Code := Try.f175.body.getD .skip
theorem mc_175 (args : List (AV tau)) (m : Mem tau) (k k' : AV tau → Mem tau → Option Unit) (hk : ∀ av m, k av m = some () → k' av m = some ()) (h : c_175 args m k = some ()) : c_175 args m k' = some () := by
 unfold c_175 at h ⊢
 split at h
 · repeat' first | exact callX_mono (fun _ h => hk _ _ h) h | refine bO_mono (fun _ h => ?_) h
 · cases h
theorem w_175 (l0 : List S37) (l1_0 : List S39) (l1_1 : List S82) (a1_2 : Int) (a1_3 : Int) (a2 : Int) (k : AV tau → Mem tau → Option Unit) : fnA E_175 C_175 D_175 Try.f175 B_175 [.sl 37 l0, .agg [.own 0 0, .own 1 0, .int .i64 a1_2, .int .i64 a1_3], .int .i64 a2] ⟨[], [some ⟨39, l1_0, 0⟩, some ⟨82, l1_1, 0⟩]⟩ k = (callX (fun n => spec_l3At.f n l1_1 a2) fun t0 => brA (decide (t0 ≥ (0 : Int))) (brA (decide ((0 : Int) ≤ t0)) (brA (decide (t0 < ((l1_1.length : Nat) : Int))) (k (.tup [.int .i64 ((rd_T82 l1_1 t0).f1), .agg [.own 0 0, .own 1 0, .int .i64 a1_2, .int .i64 a1_3]]) ⟨[], [some ⟨39, l1_0, 0⟩, some ⟨82, l1_1, 0⟩]⟩) (none)) (none)) (callX (fun n => spec_l3Saw.f n l1_0 a2) fun t1 => brA (!t1) (brA (decide ((0 : Int) ≤ a2)) (brA (decide (a2 < ((l0.length : Nat) : Int))) (brA (decide ((l1_0.length + 1) ≤ 8796093022208)) (brA (decide ((0 : Int) ≤ a2)) (brA (decide (a2 < ((l0.length : Nat) : Int))) (k (.tup [.int .i64 ((rd_T37 l0 a2).f1), .agg [.own 0 0, .own 1 0, .int .i64 a1_2, .int .i64 a1_3]]) ⟨[], [some ⟨39, (l1_0 ++ ([(⟨a2, (rd_T37 l0 a2).f0⟩ : S39)] : List S39)), 0⟩, some ⟨82, l1_1, 0⟩]⟩) (none)) (none)) (none)) (none)) (none)) (brA (decide ((0 : Int) ≤ a2)) (brA (decide (a2 < ((l0.length : Nat) : Int))) (k (.tup [.int .i64 ((rd_T37 l0 a2).f1), .agg [.own 0 0, .own 1 0, .int .i64 a1_2, .int .i64 a1_3]]) ⟨[], [some ⟨39, l1_0, 0⟩, some ⟨82, l1_1, 0⟩]⟩) (none)) (none))) : Option Unit) := by kernel_rfl
theorem okc_175 (args : List (AV tau)) (m : Mem tau) (κ : AV tau → Mem tau → Option Unit) (hh : c_175 args m κ = some ()) : ∃ av m1, κ av m1 = some () ∧ ToldA Try.prog TT (pnT 175) 175 args m av m1 := by
 obtain ⟨bx_, rw_⟩ := m
 unfold c_175 at hh
 simp only at hh
 split at hh
 case h_2 => cases hh
 rename_i b0 b1 b2 b3 b4 b5 r0 r1
 obtain ⟨l0, hx0, hh0⟩ := bO_some hh
 obtain ⟨u12, hx1, hh1⟩ := bO_some hh0
 obtain ⟨l1_0, hx2, hh2⟩ := bO_some hh1
 obtain ⟨u13, hx3, hh3⟩ := bO_some hh2
 obtain ⟨l1_1, hx4, hh4⟩ := bO_some hh3
 obtain ⟨a1_2, hx5, hh5⟩ := bO_some hh4
 obtain ⟨a1_3, hx6, hh6⟩ := bO_some hh5
 obtain ⟨a2, hx7, hh7⟩ := bO_some hh6
 have ex0 := asSl_some hx0
 have ex1 := asOwn_some hx1
 have ex2 := asRow_some hx2
 have ex3 := asOwn_some hx3
 have ex4 := asRow_some hx4
 have ex5 := asI_some hx5
 have ex6 := asI_some hx6
 have ex7 := asI_some hx7
 subst ex0 ex1 ex2 ex3 ex4 ex5 ex6 ex7
 obtain ⟨N, t, h, hκ⟩ := callX_some hh7
 refine ⟨_, _, hκ, told_of_run pq okC_175 (fun _ _ _ => drawA_ok pq okC_175 hmix) (E := E_175) (fn := Try.f175) (body := B_175) (by kernel_rfl) (by kernel_rfl) (by kernel_rfl) (by rfl) (by exact Nat.le_of_ble_eq_true rfl) (fun k hk => ?_)⟩
 refine (w_175 l0 l1_0 l1_1 a1_2 a1_3 a2 k).trans ?_
 replace h : spec_l3Look.f N l0 l1_0 l1_1 a1_2 a1_3 a2 = some t := h
 unfold spec_l3Look.f at h
 refine call_h N h (fun t0 e14 h => ?_)
 refine br_ite h rfl (fun c15 h => ?_) (fun c15 h => ?_)
 ·refine br_g h rfl (fun c16 h => ?_)
  refine br_g h rfl (fun c17 h => ?_)
  cases h; exact hk
 refine call_h N h (fun t1 e18 h => ?_)
 refine br_itn h (congrArg not dect) (fun c19 h => ?_) (fun c19 h => ?_)
 ·refine br_g h rfl (fun c20 h => ?_)
  refine br_g h rfl (fun c21 h => ?_)
  cases h; exact hk
 refine br_g h rfl (fun c22 h => ?_)
 refine br_g h rfl (fun c23 h => ?_)
 refine br_g h (by first | rfl | exact dect | exact (congrArg not dect) | (simp; done) | (simp [beqI]; done) | (simp; omega)) (fun c24 h => ?_)
 refine br_t (by first | (simp [c22]; done) | (simp; omega) | (simp only [List.length_append, List.length_cons, List.length_nil, List.length_take, List.length_drop] at c24 c23 ⊢; simp; omega) | (simp only [List.length_append, List.length_cons, List.length_nil, List.length_take, List.length_drop] at c24 c23; simp; omega) | (simp_all; done)) ?_
 refine br_t (by first | (simp [c23]; done) | (simp; omega) | (simp only [List.length_append, List.length_cons, List.length_nil, List.length_take, List.length_drop] at c24 c23 ⊢; simp; omega) | (simp only [List.length_append, List.length_cons, List.length_nil, List.length_take, List.length_drop] at c24 c23; simp; omega) | (simp_all; done)) ?_
 cases h; exact hk
noncomputable def C_176 : Ctr tau Unit := ctrS 175 c_175 C_175
noncomputable def D_176 : Drw tau := drawA E_176 C_176
theorem okC_176 : CtrOk Try.prog TT pnT C_176 := ctrS_ok okC_175 okc_175
theorem mC_176 : CtrMono C_176 := ctrS_mono mC_175 mc_175
theorem mD_176 : DrMono D_176 := drawA_mono mC_176
noncomputable def B_176 : Code := Try.f176.body.getD .skip
theorem mc_176 (args : List (AV tau)) (m : Mem tau) (k k' : AV tau → Mem tau → Option Unit) (hk : ∀ av m, k av m = some () → k' av m = some ()) (h : c_176 args m k = some ()) : c_176 args m k' = some () := by
 unfold c_176 at h ⊢
 split at h
 · repeat' first | exact callX_mono (fun _ h => hk _ _ h) h | refine bO_mono (fun _ h => ?_) h
 · cases h
theorem w_176 (l0_0 : List S39) (l0_1 : List S82) (a0_2 : Int) (a0_3 : Int) (a1 : Int) (a2 : Int) (k : AV tau → Mem tau → Option Unit) : fnA E_176 C_176 D_176 Try.f176 B_176 [.agg [.own 0 0, .own 1 0, .int .i64 a0_2, .int .i64 a0_3], .int .i64 a1, .int .i64 a2] ⟨[], [some ⟨39, l0_0, 0⟩, some ⟨82, l0_1, 0⟩]⟩ k = (callX (fun n => spec_l3At.f n l0_1 a1) fun t0 => brA (decide (t0 ≥ (0 : Int))) (brA (decide ((0 : Int) ≤ t0)) (brA (decide (t0 < ((l0_1.length : Nat) : Int))) (k (.agg [.own 0 0, .own 1 0, .int .i64 a0_2, .int .i64 a0_3]) ⟨[], [some ⟨39, l0_0, 0⟩, some ⟨82, (List.set l0_1 (Int.toNat t0) (⟨(rd_T82 l0_1 t0).f0, a2⟩ : S82)), 0⟩]⟩) (none)) (none)) (brA (decide ((l0_1.length + 1) ≤ 8796093022208)) (k (.agg [.own 0 0, .own 1 0, .int .i64 a0_2, .int .i64 a0_3]) ⟨[], [some ⟨39, l0_0, 0⟩, some ⟨82, (l0_1 ++ ([(⟨a1, a2⟩ : S82)] : List S82)), 0⟩]⟩) (none)) : Option Unit) := by kernel_rfl
theorem okc_176 (args : List (AV tau)) (m : Mem tau) (κ : AV tau → Mem tau → Option Unit) (hh : c_176 args m κ = some ()) : ∃ av m1, κ av m1 = some () ∧ ToldA Try.prog TT (pnT 176) 176 args m av m1 := by
 obtain ⟨bx_, rw_⟩ := m
 unfold c_176 at hh
 simp only at hh
 split at hh
 case h_2 => cases hh
 rename_i b0 b1 b2 b3 b4 b5 r0 r1
 obtain ⟨u6, hx0, hh0⟩ := bO_some hh
 obtain ⟨l0_0, hx1, hh1⟩ := bO_some hh0
 obtain ⟨u7, hx2, hh2⟩ := bO_some hh1
 obtain ⟨l0_1, hx3, hh3⟩ := bO_some hh2
 obtain ⟨a0_2, hx4, hh4⟩ := bO_some hh3
 obtain ⟨a0_3, hx5, hh5⟩ := bO_some hh4
 obtain ⟨a1, hx6, hh6⟩ := bO_some hh5
 obtain ⟨a2, hx7, hh7⟩ := bO_some hh6
 have ex0 := asOwn_some hx0
 have ex1 := asRow_some hx1
 have ex2 := asOwn_some hx2
 have ex3 := asRow_some hx3
 have ex4 := asI_some hx4
 have ex5 := asI_some hx5
 have ex6 := asI_some hx6
 have ex7 := asI_some hx7
 subst ex0 ex1 ex2 ex3 ex4 ex5 ex6 ex7
 obtain ⟨N, t, h, hκ⟩ := callX_some hh7
 refine ⟨_, _, hκ, told_of_run pq okC_176 (fun _ _ _ => drawA_ok pq okC_176 hmix) (E := E_176) (fn := Try.f176) (body := B_176) (by kernel_rfl) (by kernel_rfl) (by kernel_rfl) (by rfl) (by exact Nat.le_of_ble_eq_true rfl) (fun k hk => ?_)⟩
 refine (w_176 l0_0 l0_1 a0_2 a0_3 a1 a2 k).trans ?_
 replace h : spec_l3Put.f N l0_0 l0_1 a0_2 a0_3 a1 a2 = some t := h
 unfold spec_l3Put.f at h
 refine call_h N h (fun t0 e8 h => ?_)
 refine br_eti h rfl (fun c9 h => ?_) (fun c9 h => ?_)
 ·refine br_g h (by first | rfl | exact dect | exact (congrArg not dect) | (simp; done) | (simp [beqI]; done) | (simp; omega)) (fun c10 h => ?_)
  cases h; exact hk
 refine br_g h rfl (fun c11 h => ?_)
 refine br_g h rfl (fun c12 h => ?_)
 cases h; exact hk
noncomputable def C_166 : Ctr tau Unit := ctrS 176 c_176 C_176
noncomputable def D_166 : Drw tau := drawA E_166 C_166
theorem okC_166 : CtrOk Try.prog TT pnT C_166 := ctrS_ok okC_176 okc_176
theorem mC_166 : CtrMono C_166 := ctrS_mono mC_176 mc_176
theorem mD_166 : DrMono D_166 := drawA_mono mC_166
noncomputable def B_166 : Code := Try.f166.body.getD .skip
theorem mc_166 (args : List (AV tau)) (m : Mem tau) (k k' : AV tau → Mem tau → Option Unit) (hk : ∀ av m, k av m = some () → k' av m = some ()) (h : c_166 args m k = some ()) : c_166 args m k' = some () := by
 unfold c_166 at h ⊢
 split at h
 · repeat' first | exact callX_mono (fun _ h => hk _ _ h) h | refine bO_mono (fun _ h => ?_) h
 · cases h
theorem w_166 (l0 : List S37) (l1_0 : List S39) (l1_1 : List S82) (a1_2 : Int) (a1_3 : Int) (l2 : List Int) (a3_0 : Int) (a3_1 : Int) (a3_2 : Int) (a3_3 : Int) (k : AV tau → Mem tau → Option Unit) : fnA E_166 C_166 D_166 Try.f166 B_166 [.sl 37 l0, .agg [.own 1 0, .own 2 0, .int .i64 a1_2, .int .i64 a1_3], .own 0 0, .agg [.int .i64 a3_0, .int .i64 a3_1, .int .i64 a3_2, .int .i64 a3_3]] ⟨[], [some ⟨3, l2, 0⟩, some ⟨39, l1_0, 0⟩, some ⟨82, l1_1, 0⟩]⟩ k = (brA (decide (a3_0 = (1 : Int))) (callX (fun n => spec_l3Look.f n l0 l1_0 l1_1 a1_2 a1_3 a3_2) fun t0 => brA (decide ((0 : Int) ≤ a3_1)) (brA (decide (a3_1 < ((l2.length : Nat) : Int))) (brA (!(decide (a3_0 = (2 : Int)))) (brA (decide ((0 : Int) ≤ a3_1)) (brA (decide (a3_1 < (((List.set l2 (Int.toNat a3_1) t0.1).length : Nat) : Int))) (callX (fun n => spec_l1Num.f (rd (List.set l2 (Int.toNat a3_1) t0.1) a3_1)) fun t1 => brA (!t1) (k (.agg [.own 1 0, .own 2 0, .int .i64 t0.2.2.2.1, .int .i64 (2 : Int)]) ⟨[], [some ⟨3, (List.set l2 (Int.toNat a3_1) t0.1), 0⟩, some ⟨39, t0.2.1, 0⟩, some ⟨82, t0.2.2.1, 0⟩]⟩) (k (.agg [.own 1 0, .own 2 0, .int .i64 t0.2.2.2.1, .int .i64 t0.2.2.2.2]) ⟨[], [some ⟨3, (List.set l2 (Int.toNat a3_1) t0.1), 0⟩, some ⟨39, t0.2.1, 0⟩, some ⟨82, t0.2.2.1, 0⟩]⟩)) (none)) (none)) (k (.agg [.own 1 0, .own 2 0, .int .i64 t0.2.2.2.1, .int .i64 t0.2.2.2.2]) ⟨[], [some ⟨3, (List.set l2 (Int.toNat a3_1) t0.1), 0⟩, some ⟨39, t0.2.1, 0⟩, some ⟨82, t0.2.2.1, 0⟩]⟩)) (none)) (none)) (brA (decide (a3_0 = (2 : Int))) (brA (decide ((0 : Int) ≤ a3_2)) (brA (decide (a3_2 < ((l2.length : Nat) : Int))) (callX (fun n => spec_l3Put.f n l1_0 l1_1 a1_2 a1_3 a3_1 (rd l2 a3_2)) fun t2 => brA (!(decide (a3_0 = (2 : Int)))) (brA (decide ((0 : Int) ≤ a3_1)) (brA (decide (a3_1 < ((l2.length : Nat) : Int))) (callX (fun n => spec_l1Num.f (rd l2 a3_1)) fun t3 => brA (!t3) (k (.agg [.own 1 0, .own 2 0, .int .i64 t2.2.2.1, .int .i64 (2 : Int)]) ⟨[], [some ⟨3, l2, 0⟩, some ⟨39, t2.1, 0⟩, some ⟨82, t2.2.1, 0⟩]⟩) (k (.agg [.own 1 0, .own 2 0, .int .i64 t2.2.2.1, .int .i64 t2.2.2.2]) ⟨[], [some ⟨3, l2, 0⟩, some ⟨39, t2.1, 0⟩, some ⟨82, t2.2.1, 0⟩]⟩)) (none)) (none)) (k (.agg [.own 1 0, .own 2 0, .int .i64 t2.2.2.1, .int .i64 t2.2.2.2]) ⟨[], [some ⟨3, l2, 0⟩, some ⟨39, t2.1, 0⟩, some ⟨82, t2.2.1, 0⟩]⟩)) (none)) (none)) (brA (decide (a3_0 = (3 : Int))) (brA (decide ((0 : Int) ≤ a3_1)) (brA (decide (a3_1 < ((l2.length : Nat) : Int))) (brA (!(decide (a3_0 = (2 : Int)))) (brA (decide ((0 : Int) ≤ a3_1)) (brA (decide (a3_1 < (((List.set l2 (Int.toNat a3_1) a3_3).length : Nat) : Int))) (callX (fun n => spec_l1Num.f (rd (List.set l2 (Int.toNat a3_1) a3_3) a3_1)) fun t4 => brA (!t4) (k (.agg [.own 1 0, .own 2 0, .int .i64 a1_2, .int .i64 (2 : Int)]) ⟨[], [some ⟨3, (List.set l2 (Int.toNat a3_1) a3_3), 0⟩, some ⟨39, l1_0, 0⟩, some ⟨82, l1_1, 0⟩]⟩) (k (.agg [.own 1 0, .own 2 0, .int .i64 a1_2, .int .i64 a1_3]) ⟨[], [some ⟨3, (List.set l2 (Int.toNat a3_1) a3_3), 0⟩, some ⟨39, l1_0, 0⟩, some ⟨82, l1_1, 0⟩]⟩)) (none)) (none)) (k (.agg [.own 1 0, .own 2 0, .int .i64 a1_2, .int .i64 a1_3]) ⟨[], [some ⟨3, (List.set l2 (Int.toNat a3_1) a3_3), 0⟩, some ⟨39, l1_0, 0⟩, some ⟨82, l1_1, 0⟩]⟩)) (none)) (none)) (brA (decide (a3_0 = (4 : Int))) (brA (decide ((0 : Int) ≤ a3_1)) (brA (decide (a3_1 < ((l2.length : Nat) : Int))) (brA (decide ((0 : Int) ≤ a3_2)) (brA (decide (a3_2 < ((l2.length : Nat) : Int))) (brA (decide ((0 : Int) ≤ a3_1)) (brA (decide (a3_1 < ((l2.length : Nat) : Int))) (brA (!(decide (a3_0 = (2 : Int)))) (brA (decide ((0 : Int) ≤ a3_1)) (brA (decide (a3_1 < (((List.set l2 (Int.toNat a3_1) (wrap64 ((rd l2 a3_1) + (rd l2 a3_2)))).length : Nat) : Int))) (callX (fun n => spec_l1Num.f (rd (List.set l2 (Int.toNat a3_1) (wrap64 ((rd l2 a3_1) + (rd l2 a3_2)))) a3_1)) fun t5 => brA (!t5) (k (.agg [.own 1 0, .own 2 0, .int .i64 a1_2, .int .i64 (2 : Int)]) ⟨[], [some ⟨3, (List.set l2 (Int.toNat a3_1) (wrap64 ((rd l2 a3_1) + (rd l2 a3_2)))), 0⟩, some ⟨39, l1_0, 0⟩, some ⟨82, l1_1, 0⟩]⟩) (k (.agg [.own 1 0, .own 2 0, .int .i64 a1_2, .int .i64 a1_3]) ⟨[], [some ⟨3, (List.set l2 (Int.toNat a3_1) (wrap64 ((rd l2 a3_1) + (rd l2 a3_2)))), 0⟩, some ⟨39, l1_0, 0⟩, some ⟨82, l1_1, 0⟩]⟩)) (none)) (none)) (k (.agg [.own 1 0, .own 2 0, .int .i64 a1_2, .int .i64 a1_3]) ⟨[], [some ⟨3, (List.set l2 (Int.toNat a3_1) (wrap64 ((rd l2 a3_1) + (rd l2 a3_2)))), 0⟩, some ⟨39, l1_0, 0⟩, some ⟨82, l1_1, 0⟩]⟩)) (none)) (none)) (none)) (none)) (none)) (none)) (brA (decide (a3_0 = (5 : Int))) (brA (decide ((0 : Int) ≤ a3_1)) (brA (decide (a3_1 < ((l2.length : Nat) : Int))) (brA (decide ((0 : Int) ≤ a3_2)) (brA (decide (a3_2 < ((l2.length : Nat) : Int))) (brA (decide ((0 : Int) ≤ a3_1)) (brA (decide (a3_1 < ((l2.length : Nat) : Int))) (brA (!(decide (a3_0 = (2 : Int)))) (brA (decide ((0 : Int) ≤ a3_1)) (brA (decide (a3_1 < (((List.set l2 (Int.toNat a3_1) (wrap64 ((rd l2 a3_1) - (rd l2 a3_2)))).length : Nat) : Int))) (callX (fun n => spec_l1Num.f (rd (List.set l2 (Int.toNat a3_1) (wrap64 ((rd l2 a3_1) - (rd l2 a3_2)))) a3_1)) fun t6 => brA (!t6) (k (.agg [.own 1 0, .own 2 0, .int .i64 a1_2, .int .i64 (2 : Int)]) ⟨[], [some ⟨3, (List.set l2 (Int.toNat a3_1) (wrap64 ((rd l2 a3_1) - (rd l2 a3_2)))), 0⟩, some ⟨39, l1_0, 0⟩, some ⟨82, l1_1, 0⟩]⟩) (k (.agg [.own 1 0, .own 2 0, .int .i64 a1_2, .int .i64 a1_3]) ⟨[], [some ⟨3, (List.set l2 (Int.toNat a3_1) (wrap64 ((rd l2 a3_1) - (rd l2 a3_2)))), 0⟩, some ⟨39, l1_0, 0⟩, some ⟨82, l1_1, 0⟩]⟩)) (none)) (none)) (k (.agg [.own 1 0, .own 2 0, .int .i64 a1_2, .int .i64 a1_3]) ⟨[], [some ⟨3, (List.set l2 (Int.toNat a3_1) (wrap64 ((rd l2 a3_1) - (rd l2 a3_2)))), 0⟩, some ⟨39, l1_0, 0⟩, some ⟨82, l1_1, 0⟩]⟩)) (none)) (none)) (none)) (none)) (none)) (none)) (brA (decide (a3_0 = (7 : Int))) (brA (!(decide (a3_0 = (2 : Int)))) (brA (decide ((0 : Int) ≤ a3_1)) (brA (decide (a3_1 < ((l2.length : Nat) : Int))) (callX (fun n => spec_l1Num.f (rd l2 a3_1)) fun t7 => brA (!t7) (k (.agg [.own 1 0, .own 2 0, .int .i64 a1_2, .int .i64 (2 : Int)]) ⟨[], [some ⟨3, l2, 0⟩, some ⟨39, l1_0, 0⟩, some ⟨82, l1_1, 0⟩]⟩) (k (.agg [.own 1 0, .own 2 0, .int .i64 a1_2, .int .i64 (1 : Int)]) ⟨[], [some ⟨3, l2, 0⟩, some ⟨39, l1_0, 0⟩, some ⟨82, l1_1, 0⟩]⟩)) (none)) (none)) (k (.agg [.own 1 0, .own 2 0, .int .i64 a1_2, .int .i64 (1 : Int)]) ⟨[], [some ⟨3, l2, 0⟩, some ⟨39, l1_0, 0⟩, some ⟨82, l1_1, 0⟩]⟩)) (brA (!(decide (a3_0 = (2 : Int)))) (brA (decide ((0 : Int) ≤ a3_1)) (brA (decide (a3_1 < ((l2.length : Nat) : Int))) (callX (fun n => spec_l1Num.f (rd l2 a3_1)) fun t8 => brA (!t8) (k (.agg [.own 1 0, .own 2 0, .int .i64 a1_2, .int .i64 (2 : Int)]) ⟨[], [some ⟨3, l2, 0⟩, some ⟨39, l1_0, 0⟩, some ⟨82, l1_1, 0⟩]⟩) (k (.agg [.own 1 0, .own 2 0, .int .i64 a1_2, .int .i64 a1_3]) ⟨[], [some ⟨3, l2, 0⟩, some ⟨39, l1_0, 0⟩, some ⟨82, l1_1, 0⟩]⟩)) (none)) (none)) (k (.agg [.own 1 0, .own 2 0, .int .i64 a1_2, .int .i64 a1_3]) ⟨[], [some ⟨3, l2, 0⟩, some ⟨39, l1_0, 0⟩, some ⟨82, l1_1, 0⟩]⟩))))))) : Option Unit) := by
 simp only [← wrapA_i64]
 kernel_rfl
theorem okc_166 (args : List (AV tau)) (m : Mem tau) (κ : AV tau → Mem tau → Option Unit) (hh : c_166 args m κ = some ()) : ∃ av m1, κ av m1 = some () ∧ ToldA Try.prog TT (pnT 166) 166 args m av m1 := by
 obtain ⟨bx_, rw_⟩ := m
 unfold c_166 at hh
 simp only at hh
 split at hh
 case h_2 => cases hh
 rename_i b0 b1 b2 b3 b4 b5 b6 b7 b8 b9 r0 r1 r2
 obtain ⟨l0, hx0, hh0⟩ := bO_some hh
 obtain ⟨u58, hx1, hh1⟩ := bO_some hh0
 obtain ⟨l1_0, hx2, hh2⟩ := bO_some hh1
 obtain ⟨u59, hx3, hh3⟩ := bO_some hh2
 obtain ⟨l1_1, hx4, hh4⟩ := bO_some hh3
 obtain ⟨a1_2, hx5, hh5⟩ := bO_some hh4
 obtain ⟨a1_3, hx6, hh6⟩ := bO_some hh5
 obtain ⟨u60, hx7, hh7⟩ := bO_some hh6
 obtain ⟨l2, hx8, hh8⟩ := bO_some hh7
 obtain ⟨a3_0, hx9, hh9⟩ := bO_some hh8
 obtain ⟨a3_1, hx10, hh10⟩ := bO_some hh9
 obtain ⟨a3_2, hx11, hh11⟩ := bO_some hh10
 obtain ⟨a3_3, hx12, hh12⟩ := bO_some hh11
 have ex0 := asSl_some hx0
 have ex1 := asOwn_some hx1
 have ex2 := asRow_some hx2
 have ex3 := asOwn_some hx3
 have ex4 := asRow_some hx4
 have ex5 := asI_some hx5
 have ex6 := asI_some hx6
 have ex7 := asOwn_some hx7
 have ex8 := asRow_some hx8
 have ex9 := asI_some hx9
 have ex10 := asI_some hx10
 have ex11 := asI_some hx11
 have ex12 := asI_some hx12
 subst ex0 ex1 ex2 ex3 ex4 ex5 ex6 ex7 ex8 ex9 ex10 ex11 ex12
 obtain ⟨N, t, h, hκ⟩ := callX_some hh12
 refine ⟨_, _, hκ, told_of_run pq okC_166 (fun _ _ _ => drawA_ok pq okC_166 hmix) (E := E_166) (fn := Try.f166) (body := B_166) (by kernel_rfl) (by kernel_rfl) (by kernel_rfl) (by rfl) (by exact Nat.le_of_ble_eq_true rfl) (fun k hk => ?_)⟩
 refine (w_166 l0 l1_0 l1_1 a1_2 a1_3 l2 a3_0 a3_1 a3_2 a3_3 k).trans ?_
 replace h : spec_l3Step.f N l0 l1_0 l1_1 a1_2 a1_3 l2 a3_0 a3_1 a3_2 a3_3 = some t := h
 unfold spec_l3Step.f at h
 refine br_ite h rfl (fun c61 h => ?_) (fun c61 h => ?_)
 ·refine call_h N h (fun t0 e62 h => ?_)
  refine br_g h rfl (fun c63 h => ?_)
  refine br_g h rfl (fun c64 h => ?_)
  rcases N with _ | N
  · cases h
  first | rw [spec_l3Step.j0] at h | simp only [spec_l3Step.j0] at h | (unfold spec_l3Step.j0 at h; dsimp only at h)
  refine br_itn h rfl (fun c65 h => ?_) (fun c65 h => ?_)
  ·cases h; exact hk
  refine br_g h rfl (fun c66 h => ?_)
  refine br_g h rfl (fun c67 h => ?_)
  refine call_h 0 h (fun t1 e68 h => ?_)
  refine br_etn h (congrArg not dect) (fun c69 h => ?_) (fun c69 h => ?_)
  ·cases h; exact hk
  cases h; exact hk
 refine br_ite h rfl (fun c70 h => ?_) (fun c70 h => ?_)
 ·refine br_g h rfl (fun c71 h => ?_)
  refine br_g h rfl (fun c72 h => ?_)
  refine call_h N h (fun t2 e73 h => ?_)
  rcases N with _ | N
  · cases h
  first | rw [spec_l3Step.j0] at h | simp only [spec_l3Step.j0] at h | (unfold spec_l3Step.j0 at h; dsimp only at h)
  refine br_itn h rfl (fun c74 h => ?_) (fun c74 h => ?_)
  ·cases h; exact hk
  refine br_g h rfl (fun c75 h => ?_)
  refine br_g h rfl (fun c76 h => ?_)
  refine call_h 0 h (fun t3 e77 h => ?_)
  refine br_etn h (congrArg not dect) (fun c78 h => ?_) (fun c78 h => ?_)
  ·cases h; exact hk
  cases h; exact hk
 refine br_ite h rfl (fun c79 h => ?_) (fun c79 h => ?_)
 ·refine br_g h rfl (fun c80 h => ?_)
  refine br_g h rfl (fun c81 h => ?_)
  rcases N with _ | N
  · cases h
  first | rw [spec_l3Step.j0] at h | simp only [spec_l3Step.j0] at h | (unfold spec_l3Step.j0 at h; dsimp only at h)
  refine br_itn h rfl (fun c82 h => ?_) (fun c82 h => ?_)
  ·cases h; exact hk
  refine br_g h rfl (fun c83 h => ?_)
  refine br_g h rfl (fun c84 h => ?_)
  refine call_h 0 h (fun t4 e85 h => ?_)
  refine br_etn h (congrArg not dect) (fun c86 h => ?_) (fun c86 h => ?_)
  ·cases h; exact hk
  cases h; exact hk
 refine br_ite h rfl (fun c87 h => ?_) (fun c87 h => ?_)
 ·refine br_g h rfl (fun c88 h => ?_)
  refine br_g h rfl (fun c89 h => ?_)
  refine br_g h rfl (fun c90 h => ?_)
  refine br_g h rfl (fun c91 h => ?_)
  rcases N with _ | N
  · cases h
  first | rw [spec_l3Step.j0] at h | simp only [spec_l3Step.j0] at h | (unfold spec_l3Step.j0 at h; dsimp only at h)
  refine br_t (by first | (simp [c88]; done) | (simp; omega) | (simp only [List.length_append, List.length_cons, List.length_nil, List.length_take, List.length_drop] at c91 c89 ⊢; simp; omega) | (simp only [List.length_append, List.length_cons, List.length_nil, List.length_take, List.length_drop] at c91 c89; simp; omega) | (simp_all; done)) ?_
  refine br_t (by first | (simp [c89]; done) | (simp; omega) | (simp only [List.length_append, List.length_cons, List.length_nil, List.length_take, List.length_drop] at c91 c89 ⊢; simp; omega) | (simp only [List.length_append, List.length_cons, List.length_nil, List.length_take, List.length_drop] at c91 c89; simp; omega) | (simp_all; done)) ?_
  refine br_itn h rfl (fun c92 h => ?_) (fun c92 h => ?_)
  ·cases h; exact hk
  refine br_g h rfl (fun c93 h => ?_)
  refine br_g h rfl (fun c94 h => ?_)
  refine call_h 0 h (fun t5 e95 h => ?_)
  refine br_etn h (congrArg not dect) (fun c96 h => ?_) (fun c96 h => ?_)
  ·cases h; exact hk
  cases h; exact hk
 refine br_ite h rfl (fun c97 h => ?_) (fun c97 h => ?_)
 ·refine br_g h rfl (fun c98 h => ?_)
  refine br_g h rfl (fun c99 h => ?_)
  refine br_g h rfl (fun c100 h => ?_)
  refine br_g h rfl (fun c101 h => ?_)
  rcases N with _ | N
  · cases h
  first | rw [spec_l3Step.j0] at h | simp only [spec_l3Step.j0] at h | (unfold spec_l3Step.j0 at h; dsimp only at h)
  refine br_t (by first | (simp [c98]; done) | (simp; omega) | (simp only [List.length_append, List.length_cons, List.length_nil, List.length_take, List.length_drop] at c101 c99 ⊢; simp; omega) | (simp only [List.length_append, List.length_cons, List.length_nil, List.length_take, List.length_drop] at c101 c99; simp; omega) | (simp_all; done)) ?_
  refine br_t (by first | (simp [c99]; done) | (simp; omega) | (simp only [List.length_append, List.length_cons, List.length_nil, List.length_take, List.length_drop] at c101 c99 ⊢; simp; omega) | (simp only [List.length_append, List.length_cons, List.length_nil, List.length_take, List.length_drop] at c101 c99; simp; omega) | (simp_all; done)) ?_
  refine br_itn h rfl (fun c102 h => ?_) (fun c102 h => ?_)
  ·cases h; exact hk
  refine br_g h rfl (fun c103 h => ?_)
  refine br_g h rfl (fun c104 h => ?_)
  refine call_h 0 h (fun t6 e105 h => ?_)
  refine br_etn h (congrArg not dect) (fun c106 h => ?_) (fun c106 h => ?_)
  ·cases h; exact hk
  cases h; exact hk
 refine br_ite h rfl (fun c107 h => ?_) (fun c107 h => ?_)
 ·rcases N with _ | N
  · cases h
  first | rw [spec_l3Step.j0] at h | simp only [spec_l3Step.j0] at h | (unfold spec_l3Step.j0 at h; dsimp only at h)
  refine br_itn h rfl (fun c108 h => ?_) (fun c108 h => ?_)
  ·cases h; exact hk
  refine br_g h rfl (fun c109 h => ?_)
  refine br_g h rfl (fun c110 h => ?_)
  refine call_h 0 h (fun t7 e111 h => ?_)
  refine br_etn h (congrArg not dect) (fun c112 h => ?_) (fun c112 h => ?_)
  ·cases h; exact hk
  cases h; exact hk
 rcases N with _ | N
 · cases h
 first | rw [spec_l3Step.j0] at h | simp only [spec_l3Step.j0] at h | (unfold spec_l3Step.j0 at h; dsimp only at h)
 refine br_itn h rfl (fun c113 h => ?_) (fun c113 h => ?_)
 ·cases h; exact hk
 refine br_g h rfl (fun c114 h => ?_)
 refine br_g h rfl (fun c115 h => ?_)
 refine call_h 0 h (fun t8 e116 h => ?_)
 refine br_etn h (congrArg not dect) (fun c117 h => ?_) (fun c117 h => ?_)
 ·cases h; exact hk
 cases h; exact hk
noncomputable def C_144 : Ctr tau Unit := ctrS 166 c_166 C_166
noncomputable def D_144 : Drw tau := drawA E_144 C_144
theorem okC_144 : CtrOk Try.prog TT pnT C_144 := ctrS_ok okC_166 okc_166
theorem mC_144 : CtrMono C_144 := ctrS_mono mC_166 mc_166
theorem mD_144 : DrMono D_144 := drawA_mono mC_144
noncomputable def B_144 : Code := Try.f144.body.getD .skip
theorem mc_144 (args : List (AV tau)) (m : Mem tau) (k k' : AV tau → Mem tau → Option Unit) (hk : ∀ av m, k av m = some () → k' av m = some ()) (h : c_144 args m k = some ()) : c_144 args m k' = some () := by
 unfold c_144 at h ⊢
 split at h
 · repeat' first | exact callX_mono (fun _ h => hk _ _ h) h | refine bO_mono (fun _ h => ?_) h
 · cases h
noncomputable def K_144_0 (k : AV tau → Mem tau → Option Unit) : Kon tau := (kBlock 0 (kS E_144 C_144 D_144 (codeP B_144 [1, 1, 1, 1, 1]) (kEnd E_144 Try.f144 k)))
def st_144_0 (x0 : (List S37)) (x1 : (List S95)) (x2 : Int) (x3 : Int) (x4 : Int) (x5 : Int) (x6 : Int) (x7 : (List Int)) (x8 : (List S39)) (x9 : (List S82)) (x10 : (List S39)) (x11 : (List S82)) : St tau := ⟨tmL 68 0 [(0, .sl 37 x0), (1, .sl 95 x1), (4, .ptr 0 0), (5, .ptr 1 0), (6, .own 0 0), (7, .int .i64 x2)], ⟨[some (26, [.own 1 0, .own 2 0, .int .i64 x3, .int .i64 x4]), some (26, [.own 3 0, .own 4 0, .int .i64 x5, .int .i64 x6])], [some ⟨3, x7, 0⟩, some ⟨39, x8, 0⟩, some ⟨82, x9, 0⟩, some ⟨39, x10, 0⟩, some ⟨82, x11, 0⟩]⟩⟩
noncomputable def LP_144_0 (k : AV tau → Mem tau → Option Unit) (x0 : (List S37)) (x1 : (List S95)) (x2 : Int) (x3 : Int) (x4 : Int) (x5 : Int) (x6 : Int) (x7 : (List Int)) (x8 : (List S39)) (x9 : (List S82)) (x10 : (List S39)) (x11 : (List S82)) : Option Unit := loopA E_144 (codeA E_144 C_144 D_144 (codeP B_144 [1, 1, 1, 1, 0, 1, 0, 0])) (codeP B_144 [1, 1, 1, 1, 0, 1, 0, 0]) (K_144_0 k) (st_144_0 x0 x1 x2 x3 x4 x5 x6 x7 x8 x9 x10 x11)
theorem w_144_0 (k : AV tau → Mem tau → Option Unit) (x0 : (List S37)) (x1 : (List S95)) (x2 : Int) (x3 : Int) (x4 : Int) (x5 : Int) (x6 : Int) (x7 : (List Int)) (x8 : (List S39)) (x9 : (List S82)) (x10 : (List S39)) (x11 : (List S82)) : codeA E_144 C_144 D_144 (codeP B_144 [1, 1, 1, 1, 0, 1, 0, 0]) (kL E_144 C_144 D_144 (codeP B_144 [1, 1, 1, 1, 0, 1, 0, 0]) (K_144_0 k)) (st_144_0 x0 x1 x2 x3 x4 x5 x6 x7 x8 x9 x10 x11) = (brA (decide (x2 < ((x1.length : Nat) : Int))) (brA (decide (x6 = (0 : Int))) (brA (decide ((0 : Int) ≤ x2)) (brA (decide (x2 < ((x1.length : Nat) : Int))) (brA (decide ((rd_T95 x1 x2).f0 = (6 : Int))) (brA (decide ((0 : Int) ≤ (rd_T95 x1 x2).f1)) (brA (decide ((rd_T95 x1 x2).f1 < ((x7.length : Nat) : Int))) (brA (decide ((0 : Int) ≤ (rd_T95 x1 x2).f2)) (brA (decide ((rd_T95 x1 x2).f2 < ((x7.length : Nat) : Int))) (brA (decide ((rd x7 ((rd_T95 x1 x2).f1)) < (rd x7 ((rd_T95 x1 x2).f2)))) (LP_144_0 k x0 x1 (wrap64 ((wrap64 (x2 + (rd_T95 x1 x2).f3)) + (1 : Int))) x3 x4 x5 x6 x7 x8 x9 x10 x11) (LP_144_0 k x0 x1 (wrap64 (x2 + (1 : Int))) x3 x4 x5 x6 x7 x8 x9 x10 x11)) (none)) (none)) (none)) (none)) (callX (fun n => spec_l3Step.f n x0 x10 x11 x5 x6 x7 ((rd_T95 x1 x2).f0) ((rd_T95 x1 x2).f1) ((rd_T95 x1 x2).f2) ((rd_T95 x1 x2).f3)) fun t2 => LP_144_0 k x0 x1 (wrap64 (x2 + (1 : Int))) x3 x4 t2.2.2.1 t2.2.2.2.1 t2.2.2.2.2 x8 x9 t2.1 t2.2.1)) (none)) (none)) (brA (!(decide (x6 = (0 : Int)))) (k (.agg [.own 0 0, .own 1 0, .int .i64 x5, .int .i64 x6]) ⟨[], [some ⟨39, x10, 0⟩, some ⟨82, ([] : List S82), 0⟩]⟩) (brA (decide ((0 : Int) < ((x7.length : Nat) : Int))) (k (.agg [.own 0 0, .own 1 0, .int .i64 (rd x7 (0 : Int)), .int .i64 x6]) ⟨[], [some ⟨39, x10, 0⟩, some ⟨82, x11, 0⟩]⟩) (none)))) (brA (!(decide (x6 = (0 : Int)))) (k (.agg [.own 0 0, .own 1 0, .int .i64 x5, .int .i64 x6]) ⟨[], [some ⟨39, x10, 0⟩, some ⟨82, ([] : List S82), 0⟩]⟩) (brA (decide ((0 : Int) < ((x7.length : Nat) : Int))) (k (.agg [.own 0 0, .own 1 0, .int .i64 (rd x7 (0 : Int)), .int .i64 x6]) ⟨[], [some ⟨39, x10, 0⟩, some ⟨82, x11, 0⟩]⟩) (none))) : Option Unit) := by
 simp only [← wrapA_i64]
 kernel_rfl
theorem w_144 (l0 : List S37) (l1 : List S95) (k : AV tau → Mem tau → Option Unit) : fnA E_144 C_144 D_144 Try.f144 B_144 [.sl 37 l0, .sl 95 l1] ⟨[], []⟩ k = (callX (fun n => spec_BoxOk.f n l0) fun t0 => brA (!t0) (k (.agg [.own 0 0, .own 1 0, .int .i64 (0 : Int), .int .i64 (3 : Int)]) ⟨[], [some ⟨39, ([] : List S39), 0⟩, some ⟨82, ([] : List S82), 0⟩]⟩) (callX (fun n => spec_ProgOk.f n l1) fun t1 => brA (!t1) (k (.agg [.own 0 0, .own 1 0, .int .i64 (0 : Int), .int .i64 (3 : Int)]) ⟨[], [some ⟨39, ([] : List S39), 0⟩, some ⟨82, ([] : List S82), 0⟩]⟩) (LP_144_0 k l0 l1 (0 : Int) (0 : Int) (0 : Int) (0 : Int) (0 : Int) ([(0 : Int), (0 : Int), (0 : Int), (0 : Int)] : List Int) ([] : List S39) ([] : List S82) ([] : List S39) ([] : List S82))) : Option Unit) := by kernel_rfl
def S_144_0 (N : Nat) : Prop := ∀ (k : AV tau → Mem tau → Option Unit) (x0 : (List S37)) (x1 : (List S95)) (x2 : Int) (x3 : Int) (x4 : Int) (x5 : Int) (x6 : Int) (x7 : (List Int)) (x8 : (List S39)) (x9 : (List S82)) (x10 : (List S39)) (x11 : (List S82)) (r : (List (S39)) × (List (S82)) × Int × Int), spec_ExecRun.l0 N (x0) (x1) (x7) (x2) (x10) (x11) (x5) (x6) = some r → k (.agg [.own 0 0, .own 1 0, .int .i64 (r.2.2.1), .int .i64 (r.2.2.2)]) ⟨[], [some ⟨39, r.1, 0⟩, some ⟨82, r.2.1, 0⟩]⟩ = some () → LP_144_0 k x0 x1 x2 x3 x4 x5 x6 x7 x8 x9 x10 x11 = some ()
theorem L_144 (N : Nat) : S_144_0 N := by
 induction N using Nat.strongRecOn with | _ N0 ih =>
 skip
 intro k x0 x1 x2 x3 x4 x5 x6 x7 x8 x9 x10 x11 r h hk
 rcases N0 with _ | N
 · cases h
 first | rw [spec_ExecRun.l0] at h | simp only [spec_ExecRun.l0] at h | (unfold spec_ExecRun.l0 at h; dsimp only at h)
 refine loop_fold mC_144 mD_144 ?_
 refine (w_144_0 k x0 x1 x2 x3 x4 x5 x6 x7 x8 x9 x10 x11).trans ?_
 refine br_eti h rfl (fun c55 h => ?_) (fun c55 h => ?_)
 ·rcases N with _ | N
  · cases h
  first | rw [spec_ExecRun.j2] at h | simp only [spec_ExecRun.j2] at h | (unfold spec_ExecRun.j2 at h; dsimp only at h)
  replace h := ite_f h (by first | assumption | omega | simp_all)
  refine br_etn h rfl (fun c56 h => ?_) (fun c56 h => ?_)
  ·cases h; exact hk
  refine br_g h rfl (fun c57 h => ?_)
  cases h; exact hk
 rcases N with _ | N
 · cases h
 first | rw [spec_ExecRun.j2] at h | simp only [spec_ExecRun.j2] at h | (unfold spec_ExecRun.j2 at h; dsimp only at h)
 refine br_eti h (by first | rfl | exact dect | exact (congrArg not dect) | (simp; done) | (simp [beqI]; done) | (simp; omega)) (fun c58 h => ?_) (fun c58 h => ?_)
 ·refine br_etn h rfl (fun c59 h => ?_) (fun c59 h => ?_)
  ·cases h; exact hk
  refine br_g h rfl (fun c60 h => ?_)
  cases h; exact hk
 refine br_g h rfl (fun c61 h => ?_)
 refine br_g h rfl (fun c62 h => ?_)
 refine br_eti h rfl (fun c63 h => ?_) (fun c63 h => ?_)
 ·refine call_h N h (fun t2 e64 h => ?_)
  exact (ih N (by omega)) _ _ _ _ _ _ _ _ _ _ _ _ _ _ h hk
 refine br_g h rfl (fun c65 h => ?_)
 refine br_g h rfl (fun c66 h => ?_)
 refine br_g h rfl (fun c67 h => ?_)
 refine br_g h rfl (fun c68 h => ?_)
 refine br_eti h rfl (fun c69 h => ?_) (fun c69 h => ?_)
 ·exact (ih N (by omega)) _ _ _ _ _ _ _ _ _ _ _ _ _ _ h hk
 exact (ih N (by omega)) _ _ _ _ _ _ _ _ _ _ _ _ _ _ h hk
theorem okc_144 (args : List (AV tau)) (m : Mem tau) (κ : AV tau → Mem tau → Option Unit) (hh : c_144 args m κ = some ()) : ∃ av m1, κ av m1 = some () ∧ ToldA Try.prog TT (pnT 144) 144 args m av m1 := by
 obtain ⟨bx_, rw_⟩ := m
 unfold c_144 at hh
 simp only at hh
 split at hh
 case h_2 => cases hh
 rename_i b0 b1
 obtain ⟨l0, hx0, hh0⟩ := bO_some hh
 obtain ⟨l1, hx1, hh1⟩ := bO_some hh0
 have ex0 := asSl_some hx0
 have ex1 := asSl_some hx1
 subst ex0 ex1
 obtain ⟨N, t, h, hκ⟩ := callX_some hh1
 refine ⟨_, _, hκ, told_of_run pq okC_144 (fun _ _ _ => drawA_ok pq okC_144 hmix) (E := E_144) (fn := Try.f144) (body := B_144) (by kernel_rfl) (by kernel_rfl) (by kernel_rfl) (by rfl) (by exact Nat.le_of_ble_eq_true rfl) (fun k hk => ?_)⟩
 refine (w_144 l0 l1 k).trans ?_
 replace h : spec_ExecRun.f N l0 l1 = some t := h
 unfold spec_ExecRun.f at h
 refine call_h N h (fun t0 e70 h => ?_)
 refine br_etn h (congrArg not dect) (fun c71 h => ?_) (fun c71 h => ?_)
 ·rcases N with _ | N
  · cases h
  first | rw [spec_ExecRun.j0] at h | simp only [spec_ExecRun.j0] at h | (unfold spec_ExecRun.j0 at h; dsimp only at h)
  replace h := ite_t h (by first | assumption | omega | simp_all)
  cases h; exact hk
 refine call_h N h (fun t1 e72 h => ?_)
 rcases N with _ | N
 · cases h
 first | rw [spec_ExecRun.j0] at h | simp only [spec_ExecRun.j0] at h | (unfold spec_ExecRun.j0 at h; dsimp only at h)
 refine br_eti h dect (fun c73 h => ?_) (fun c73 h => ?_)
 ·replace h := ite_t h (by first | assumption | omega | simp_all)
  exact (L_144 N) _ _ _ _ _ _ _ _ _ _ _ _ _ _ h hk
 cases h; exact hk
noncomputable def C_167 : Ctr tau Unit := ctrS 144 c_144 C_144
noncomputable def D_167 : Drw tau := drawA E_167 C_167
theorem okC_167 : CtrOk Try.prog TT pnT C_167 := ctrS_ok okC_144 okc_144
theorem mC_167 : CtrMono C_167 := ctrS_mono mC_144 mc_144
theorem mD_167 : DrMono D_167 := drawA_mono mC_167
noncomputable def B_167 : Code := Try.f167.body.getD .skip
theorem mc_167 (args : List (AV tau)) (m : Mem tau) (k k' : AV tau → Mem tau → Option Unit) (hk : ∀ av m, k av m = some () → k' av m = some ()) (h : c_167 args m k = some ()) : c_167 args m k' = some () := by
 unfold c_167 at h ⊢
 split at h
 · repeat' first | exact callX_mono (fun _ h => hk _ _ h) h | refine bO_mono (fun _ h => ?_) h
 · cases h
theorem w_167 (a0 : Int) (a1 : Int) (k : AV tau → Mem tau → Option Unit) : fnA E_167 C_167 D_167 Try.f167 B_167 [.int .i64 a0, .int .i64 a1] ⟨[], []⟩ k = (brA (decide (a0 < a1)) (k (.int .i64 a0) ⟨[], []⟩) (k (.int .i64 a1) ⟨[], []⟩) : Option Unit) := by kernel_rfl
theorem okc_167 (args : List (AV tau)) (m : Mem tau) (κ : AV tau → Mem tau → Option Unit) (hh : c_167 args m κ = some ()) : ∃ av m1, κ av m1 = some () ∧ ToldA Try.prog TT (pnT 167) 167 args m av m1 := by
 obtain ⟨bx_, rw_⟩ := m
 unfold c_167 at hh
 simp only at hh
 split at hh
 case h_2 => cases hh
 rename_i b0 b1
 obtain ⟨a0, hx0, hh0⟩ := bO_some hh
 obtain ⟨a1, hx1, hh1⟩ := bO_some hh0
 have ex0 := asI_some hx0
 have ex1 := asI_some hx1
 subst ex0 ex1
 obtain ⟨N, t, h, hκ⟩ := callX_some hh1
 refine ⟨_, _, hκ, told_of_run pq okC_167 (fun _ _ _ => drawA_ok pq okC_167 hmix) (E := E_167) (fn := Try.f167) (body := B_167) (by kernel_rfl) (by kernel_rfl) (by kernel_rfl) (by rfl) (by exact Nat.le_of_ble_eq_true rfl) (fun k hk => ?_)⟩
 refine (w_167 a0 a1 k).trans ?_
 replace h : spec_l1Min.f a0 a1 = some t := h
 unfold spec_l1Min.f at h
 refine br_ite h rfl (fun c2 h => ?_) (fun c2 h => ?_)
 ·cases h; exact hk
 cases h; exact hk
noncomputable def C_146 : Ctr tau Unit := ctrS 167 c_167 C_167
noncomputable def D_146 : Drw tau := drawA E_146 C_146
theorem okC_146 : CtrOk Try.prog TT pnT C_146 := ctrS_ok okC_167 okc_167
theorem mC_146 : CtrMono C_146 := ctrS_mono mC_167 mc_167
theorem mD_146 : DrMono D_146 := drawA_mono mC_146
noncomputable def B_146 : Code := Try.f146.body.getD .skip
theorem mc_146 (args : List (AV tau)) (m : Mem tau) (k k' : AV tau → Mem tau → Option Unit) (hk : ∀ av m, k av m = some () → k' av m = some ()) (h : c_146 args m k = some ()) : c_146 args m k' = some () := by
 unfold c_146 at h ⊢
 split at h
 · repeat' first | exact callX_mono (fun _ h => hk _ _ h) h | refine bO_mono (fun _ h => ?_) h
 · cases h
noncomputable def K_146_0 (k : AV tau → Mem tau → Option Unit) : Kon tau := (kBlock 0 (kS E_146 C_146 D_146 (codeP B_146 [1, 1]) (kEnd E_146 Try.f146 k)))
def st_146_0 (x0 : Int) (x1 : (List S39)) (x2 : (List S82)) (x3 : Int) (x4 : Int) (x5 : (List S37)) : St tau := ⟨tmL 38 0 [(0, .own 0 0), (3, .ptr 0 0), (5, .int .i64 x0)], ⟨[some (26, [.sl 39 x1, .sl 82 x2, .int .i64 x3, .int .i64 x4])], [some ⟨37, x5, 0⟩]⟩⟩
noncomputable def LP_146_0 (k : AV tau → Mem tau → Option Unit) (x0 : Int) (x1 : (List S39)) (x2 : (List S82)) (x3 : Int) (x4 : Int) (x5 : (List S37)) : Option Unit := loopA E_146 (codeA E_146 C_146 D_146 (codeP B_146 [1, 0, 1, 0, 0])) (codeP B_146 [1, 0, 1, 0, 0]) (K_146_0 k) (st_146_0 x0 x1 x2 x3 x4 x5)
theorem w_146_0 (k : AV tau → Mem tau → Option Unit) (x0 : Int) (x1 : (List S39)) (x2 : (List S82)) (x3 : Int) (x4 : Int) (x5 : (List S37)) : codeA E_146 C_146 D_146 (codeP B_146 [1, 0, 1, 0, 0]) (kL E_146 C_146 D_146 (codeP B_146 [1, 0, 1, 0, 0]) (K_146_0 k)) (st_146_0 x0 x1 x2 x3 x4 x5) = (brA (decide (x0 < ((x2.length : Nat) : Int))) (brA (decide ((0 : Int) ≤ x0)) (brA (decide (x0 < ((x2.length : Nat) : Int))) (brA (decide ((0 : Int) ≤ (rd_T82 x2 x0).f0)) (brA (decide ((rd_T82 x2 x0).f0 < ((x5.length : Nat) : Int))) (brA (decide ((0 : Int) ≤ x0)) (brA (decide (x0 < ((x2.length : Nat) : Int))) (callX (fun n => spec_l1Min.f (1000000 : Int) (wrap64 ((rd_T37 x5 ((rd_T82 x2 x0).f0)).f0 + (1 : Int)))) fun t0 => brA (decide ((0 : Int) ≤ (rd_T82 x2 x0).f0)) (brA (decide ((rd_T82 x2 x0).f0 < ((x5.length : Nat) : Int))) (LP_146_0 k (wrap64 (x0 + (1 : Int))) x1 x2 x3 x4 (List.set x5 (Int.toNat ((rd_T82 x2 x0).f0)) (⟨t0, (rd_T82 x2 x0).f1⟩ : S37))) (none)) (none)) (none)) (none)) (none)) (none)) (none)) (none)) (k (.own 0 0) ⟨[], [some ⟨37, x5, 0⟩]⟩) : Option Unit) := by
 simp only [← wrapA_i64]
 kernel_rfl
theorem w_146 (l0 : List S37) (l1_0 : List S39) (l1_1 : List S82) (a1_2 : Int) (a1_3 : Int) (k : AV tau → Mem tau → Option Unit) : fnA E_146 C_146 D_146 Try.f146 B_146 [.own 0 0, .agg [.sl 39 l1_0, .sl 82 l1_1, .int .i64 a1_2, .int .i64 a1_3]] ⟨[], [some ⟨37, l0, 0⟩]⟩ k = (LP_146_0 k (0 : Int) l1_0 l1_1 a1_2 a1_3 l0 : Option Unit) := by kernel_rfl
def S_146_0 (N : Nat) : Prop := ∀ (k : AV tau → Mem tau → Option Unit) (x0 : Int) (x1 : (List S39)) (x2 : (List S82)) (x3 : Int) (x4 : Int) (x5 : (List S37)) (r : (List (S37))), spec_l3Do.l0 N (x5) (x0) (x1) (x2) (x3) (x4) = some r → k (.own 0 0) ⟨[], [some ⟨37, r, 0⟩]⟩ = some () → LP_146_0 k x0 x1 x2 x3 x4 x5 = some ()
theorem L_146 (N : Nat) : S_146_0 N := by
 induction N using Nat.strongRecOn with | _ N0 ih =>
 skip
 intro k x0 x1 x2 x3 x4 x5 r h hk
 rcases N0 with _ | N
 · cases h
 first | rw [spec_l3Do.l0] at h | simp only [spec_l3Do.l0] at h | (unfold spec_l3Do.l0 at h; dsimp only at h)
 refine loop_fold mC_146 mD_146 ?_
 refine (w_146_0 k x0 x1 x2 x3 x4 x5).trans ?_
 refine br_eti h rfl (fun c11 h => ?_) (fun c11 h => ?_)
 ·cases h; exact hk
 refine br_g h rfl (fun c12 h => ?_)
 refine br_t (by first | (simp [c11]; done) | (simp; omega) | (simp only [List.length_append, List.length_cons, List.length_nil, List.length_take, List.length_drop] at c11 ⊢; simp; omega) | (simp only [List.length_append, List.length_cons, List.length_nil, List.length_take, List.length_drop] at c11; simp; omega) | (simp_all; done)) ?_
 refine br_g h rfl (fun c13 h => ?_)
 refine br_g h rfl (fun c14 h => ?_)
 refine br_t (by first | (simp [c12]; done) | (simp; omega) | (simp only [List.length_append, List.length_cons, List.length_nil, List.length_take, List.length_drop] at c14 c11 ⊢; simp; omega) | (simp only [List.length_append, List.length_cons, List.length_nil, List.length_take, List.length_drop] at c14 c11; simp; omega) | (simp_all; done)) ?_
 refine br_t (by first | (simp [c11]; done) | (simp; omega) | (simp only [List.length_append, List.length_cons, List.length_nil, List.length_take, List.length_drop] at c14 c11 ⊢; simp; omega) | (simp only [List.length_append, List.length_cons, List.length_nil, List.length_take, List.length_drop] at c14 c11; simp; omega) | (simp_all; done)) ?_
 refine call_h 0 h (fun t0 e15 h => ?_)
 refine br_t (by first | (simp [c13]; done) | (simp; omega) | (simp only [List.length_append, List.length_cons, List.length_nil, List.length_take, List.length_drop] at c14 c11 ⊢; simp; omega) | (simp only [List.length_append, List.length_cons, List.length_nil, List.length_take, List.length_drop] at c14 c11; simp; omega) | (simp_all; done)) ?_
 refine br_t (by first | (simp [c14]; done) | (simp; omega) | (simp only [List.length_append, List.length_cons, List.length_nil, List.length_take, List.length_drop] at c14 c11 ⊢; simp; omega) | (simp only [List.length_append, List.length_cons, List.length_nil, List.length_take, List.length_drop] at c14 c11; simp; omega) | (simp_all; done)) ?_
 exact (ih N (by omega)) _ _ _ _ _ _ _ _ h hk
theorem okc_146 (args : List (AV tau)) (m : Mem tau) (κ : AV tau → Mem tau → Option Unit) (hh : c_146 args m κ = some ()) : ∃ av m1, κ av m1 = some () ∧ ToldA Try.prog TT (pnT 146) 146 args m av m1 := by
 obtain ⟨bx_, rw_⟩ := m
 unfold c_146 at hh
 simp only at hh
 split at hh
 case h_2 => cases hh
 rename_i b0 b1 b2 b3 b4 r0
 obtain ⟨u16, hx0, hh0⟩ := bO_some hh
 obtain ⟨l0, hx1, hh1⟩ := bO_some hh0
 obtain ⟨l1_0, hx2, hh2⟩ := bO_some hh1
 obtain ⟨l1_1, hx3, hh3⟩ := bO_some hh2
 obtain ⟨a1_2, hx4, hh4⟩ := bO_some hh3
 obtain ⟨a1_3, hx5, hh5⟩ := bO_some hh4
 have ex0 := asOwn_some hx0
 have ex1 := asRow_some hx1
 have ex2 := asSl_some hx2
 have ex3 := asSl_some hx3
 have ex4 := asI_some hx4
 have ex5 := asI_some hx5
 subst ex0 ex1 ex2 ex3 ex4 ex5
 obtain ⟨N, t, h, hκ⟩ := callX_some hh5
 refine ⟨_, _, hκ, told_of_run pq okC_146 (fun _ _ _ => drawA_ok pq okC_146 hmix) (E := E_146) (fn := Try.f146) (body := B_146) (by kernel_rfl) (by kernel_rfl) (by kernel_rfl) (by rfl) (by exact Nat.le_of_ble_eq_true rfl) (fun k hk => ?_)⟩
 refine (w_146 l0 l1_0 l1_1 a1_2 a1_3 k).trans ?_
 replace h : spec_l3Do.f N l0 l1_0 l1_1 a1_2 a1_3 = some t := h
 unfold spec_l3Do.f at h
 exact (L_146 N) _ _ _ _ _ _ _ _ h hk
noncomputable def C_90 : Ctr tau Unit := ctrS 146 c_146 C_146
noncomputable def D_90 : Drw tau := drawA E_90 C_90
theorem okC_90 : CtrOk Try.prog TT pnT C_90 := ctrS_ok okC_146 okc_146
theorem mC_90 : CtrMono C_90 := ctrS_mono mC_146 mc_146
theorem mD_90 : DrMono D_90 := drawA_mono mC_90
noncomputable def B_90 : Code := Try.f90.body.getD .skip
theorem mc_90 (args : List (AV tau)) (m : Mem tau) (k k' : AV tau → Mem tau → Option Unit) (hk : ∀ av m, k av m = some () → k' av m = some ()) (h : c_90 args m k = some ()) : c_90 args m k' = some () := by
 unfold c_90 at h ⊢
 split at h
 · repeat' first | exact callX_mono (fun _ h => hk _ _ h) h | refine bO_mono (fun _ h => ?_) h
 · cases h
theorem w_90 (l0 : List S37) (l1 : List S95) (k : AV tau → Mem tau → Option Unit) : fnA E_90 C_90 D_90 Try.f90 B_90 [.sl 37 l0, .sl 95 l1] ⟨[], []⟩ k = (callX (fun n => spec_ExecRun.f n l0 l1) fun t0 => brA (decide (t0.2.2.2 = (3 : Int))) (k (.tup [.own 0 0, .int .i64 (0 : Int), .int .i64 (3 : Int)]) ⟨[], [some ⟨37, ([] : List S37), 0⟩]⟩) (callX (fun n => spec_l1Copy.f l0) fun t1 => callX (fun n => spec_l3Do.f n t1 t0.1 t0.2.1 t0.2.2.1 t0.2.2.2) fun t2 => k (.tup [.own 0 0, .int .i64 t0.2.2.1, .int .i64 t0.2.2.2]) ⟨[], [some ⟨37, t2, 0⟩]⟩) : Option Unit) := by kernel_rfl
theorem okc_90 (args : List (AV tau)) (m : Mem tau) (κ : AV tau → Mem tau → Option Unit) (hh : c_90 args m κ = some ()) : ∃ av m1, κ av m1 = some () ∧ ToldA Try.prog TT (pnT 90) 90 args m av m1 := by
 obtain ⟨bx_, rw_⟩ := m
 unfold c_90 at hh
 simp only at hh
 split at hh
 case h_2 => cases hh
 rename_i b0 b1
 obtain ⟨l0, hx0, hh0⟩ := bO_some hh
 obtain ⟨l1, hx1, hh1⟩ := bO_some hh0
 have ex0 := asSl_some hx0
 have ex1 := asSl_some hx1
 subst ex0 ex1
 obtain ⟨N, t, h, hκ⟩ := callX_some hh1
 refine ⟨_, _, hκ, told_of_run pq okC_90 (fun _ _ _ => drawA_ok pq okC_90 hmix) (E := E_90) (fn := Try.f90) (body := B_90) (by kernel_rfl) (by kernel_rfl) (by kernel_rfl) (by rfl) (by exact Nat.le_of_ble_eq_true rfl) (fun k hk => ?_)⟩
 refine (w_90 l0 l1 k).trans ?_
 replace h : spec_SerialOne.f N l0 l1 = some t := h
 unfold spec_SerialOne.f at h
 refine call_h N h (fun t0 e5 h => ?_)
 refine br_ite h rfl (fun c6 h => ?_) (fun c6 h => ?_)
 ·cases h; exact hk
 refine call_h 0 h (fun t1 e7 h => ?_)
 refine call_h N h (fun t2 e8 h => ?_)
 cases h; exact hk
noncomputable def C_26 : Ctr tau Unit := ctrS 90 c_90 C_90
noncomputable def D_26 : Drw tau := drawA E_26 C_26
theorem okC_26 : CtrOk Try.prog TT pnT C_26 := ctrS_ok okC_90 okc_90
theorem mC_26 : CtrMono C_26 := ctrS_mono mC_90 mc_90
theorem mD_26 : DrMono D_26 := drawA_mono mC_26
noncomputable def B_26 : Code := Try.f26.body.getD .skip
theorem mc_26 (args : List (AV tau)) (m : Mem tau) (k k' : AV tau → Mem tau → Option Unit) (hk : ∀ av m, k av m = some () → k' av m = some ()) (h : c_26 args m k = some ()) : c_26 args m k' = some () := by
 unfold c_26 at h ⊢
 split at h
 · repeat' first | exact callX_mono (fun _ h => hk _ _ h) h | refine bO_mono (fun _ h => ?_) h
 · cases h
noncomputable def K_26_0 (k : AV tau → Mem tau → Option Unit) : Kon tau := (kBlock 0 (kS E_26 C_26 D_26 (codeP B_26 [1, 1, 1, 1, 1]) (kEnd E_26 Try.f26 k)))
def st_26_0 (x0 : (List (List S95))) (x1 : Int) (x2 : (List Int)) (x3 : (List S37)) : St tau := ⟨tmL 52 0 [(1, .sl 60 x0), (6, .own 0 0), (7, .own 1 0), (8, .int .i64 x1)], ⟨[], [some ⟨3, x2, 0⟩, some ⟨37, x3, 0⟩]⟩⟩
noncomputable def LP_26_0 (k : AV tau → Mem tau → Option Unit) (x0 : (List (List S95))) (x1 : Int) (x2 : (List Int)) (x3 : (List S37)) : Option Unit := loopA E_26 (codeA E_26 C_26 D_26 (codeP B_26 [1, 1, 1, 1, 0, 1, 0, 0])) (codeP B_26 [1, 1, 1, 1, 0, 1, 0, 0]) (K_26_0 k) (st_26_0 x0 x1 x2 x3)
theorem w_26_0 (k : AV tau → Mem tau → Option Unit) (x0 : (List (List S95))) (x1 : Int) (x2 : (List Int)) (x3 : (List S37)) : codeA E_26 C_26 D_26 (codeP B_26 [1, 1, 1, 1, 0, 1, 0, 0]) (kL E_26 C_26 D_26 (codeP B_26 [1, 1, 1, 1, 0, 1, 0, 0]) (K_26_0 k)) (st_26_0 x0 x1 x2 x3) = (brA (decide (x1 < ((x0.length : Nat) : Int))) (brA (decide ((0 : Int) ≤ x1)) (brA (decide (x1 < ((x0.length : Nat) : Int))) (callX (fun n => spec_SerialOne.f n x3 (List.getD x0 (Int.toNat x1) [])) fun t2 => brA (decide (t2.2.2 = (3 : Int))) (k (.tup [.own 0 0, .own 1 0]) ⟨[], [some ⟨37, ([] : List S37), 0⟩, some ⟨3, ([] : List Int), 0⟩]⟩) (brA (decide ((x2.length + 1) ≤ 17592186044416)) (LP_26_0 k x0 (wrap64 (x1 + (1 : Int))) (x2 ++ ([t2.2.1] : List Int)) t2.1) (none))) (none)) (none)) (k (.tup [.own 0 0, .own 1 0]) ⟨[], [some ⟨37, x3, 0⟩, some ⟨3, x2, 0⟩]⟩) : Option Unit) := by
 simp only [← wrapA_i64]
 kernel_rfl
theorem w_26 (l0 : List S37) (l1 : List (List S95)) (k : AV tau → Mem tau → Option Unit) : fnA E_26 C_26 D_26 Try.f26 B_26 [.sl 37 l0, .sl 60 l1] ⟨[], []⟩ k = (callX (fun n => spec_BoxOk.f n l0) fun t0 => brA (!t0) (k (.tup [.own 0 0, .own 1 0]) ⟨[], [some ⟨37, ([] : List S37), 0⟩, some ⟨3, ([] : List Int), 0⟩]⟩) (brA (decide (((l1.length : Nat) : Int) > (100 : Int))) (k (.tup [.own 0 0, .own 1 0]) ⟨[], [some ⟨37, ([] : List S37), 0⟩, some ⟨3, ([] : List Int), 0⟩]⟩) (callX (fun n => spec_l1Copy.f l0) fun t1 => LP_26_0 k l1 (0 : Int) ([] : List Int) t1)) : Option Unit) := by kernel_rfl
def S_26_0 (N : Nat) : Prop := ∀ (k : AV tau → Mem tau → Option Unit) (x0 : (List (List S95))) (x1 : Int) (x2 : (List Int)) (x3 : (List S37)) (r : (List (S37)) × List Int), spec_SerialAll.l0 N (x0) (x2) (x3) (x1) = some r → k (.tup [.own 0 0, .own 1 0]) ⟨[], [some ⟨37, r.1, 0⟩, some ⟨3, r.2, 0⟩]⟩ = some () → LP_26_0 k x0 x1 x2 x3 = some ()
theorem L_26 (N : Nat) : S_26_0 N := by
 induction N using Nat.strongRecOn with | _ N0 ih =>
 skip
 intro k x0 x1 x2 x3 r h hk
 rcases N0 with _ | N
 · cases h
 first | rw [spec_SerialAll.l0] at h | simp only [spec_SerialAll.l0] at h | (unfold spec_SerialAll.l0 at h; dsimp only at h)
 refine loop_fold mC_26 mD_26 ?_
 refine (w_26_0 k x0 x1 x2 x3).trans ?_
 refine br_eti h rfl (fun c19 h => ?_) (fun c19 h => ?_)
 ·cases h; exact hk
 refine br_g h rfl (fun c20 h => ?_)
 refine br_t (by first | (simp [c19]; done) | (simp; omega) | (simp only [List.length_append, List.length_cons, List.length_nil, List.length_take, List.length_drop] at c19 ⊢; simp; omega) | (simp only [List.length_append, List.length_cons, List.length_nil, List.length_take, List.length_drop] at c19; simp; omega) | (simp_all; done)) ?_
 refine call_h N h (fun t2 e21 h => ?_)
 refine br_ite h rfl (fun c22 h => ?_) (fun c22 h => ?_)
 ·cases h; exact hk
 refine br_g h (by first | rfl | exact dect | exact (congrArg not dect) | (simp; done) | (simp [beqI]; done) | (simp; omega)) (fun c23 h => ?_)
 exact (ih N (by omega)) _ _ _ _ _ _ h hk
theorem okc_26 (args : List (AV tau)) (m : Mem tau) (κ : AV tau → Mem tau → Option Unit) (hh : c_26 args m κ = some ()) : ∃ av m1, κ av m1 = some () ∧ ToldA Try.prog TT (pnT 26) 26 args m av m1 := by
 obtain ⟨bx_, rw_⟩ := m
 unfold c_26 at hh
 simp only at hh
 split at hh
 case h_2 => cases hh
 rename_i b0 b1
 obtain ⟨l0, hx0, hh0⟩ := bO_some hh
 obtain ⟨l1, hx1, hh1⟩ := bO_some hh0
 have ex0 := asSl_some hx0
 have ex1 := asSl_some hx1
 subst ex0 ex1
 obtain ⟨N, t, h, hκ⟩ := callX_some hh1
 refine ⟨_, _, hκ, told_of_run pq okC_26 (fun _ _ _ => drawA_ok pq okC_26 hmix) (E := E_26) (fn := Try.f26) (body := B_26) (by kernel_rfl) (by kernel_rfl) (by kernel_rfl) (by rfl) (by exact Nat.le_of_ble_eq_true rfl) (fun k hk => ?_)⟩
 refine (w_26 l0 l1 k).trans ?_
 replace h : spec_SerialAll.f N l0 l1 = some t := h
 unfold spec_SerialAll.f at h
 refine call_h N h (fun t0 e24 h => ?_)
 refine br_etn h (congrArg not dect) (fun c25 h => ?_) (fun c25 h => ?_)
 ·rcases N with _ | N
  · cases h
  first | rw [spec_SerialAll.j0] at h | simp only [spec_SerialAll.j0] at h | (unfold spec_SerialAll.j0 at h; dsimp only at h)
  replace h := ite_t h (by first | assumption | omega | simp_all)
  cases h; exact hk
 rcases N with _ | N
 · cases h
 first | rw [spec_SerialAll.j0] at h | simp only [spec_SerialAll.j0] at h | (unfold spec_SerialAll.j0 at h; dsimp only at h)
 refine br_eti h (by first | rfl | exact dect | exact (congrArg not dect) | (simp; done) | (simp [beqI]; done) | (simp; omega)) (fun c26 h => ?_) (fun c26 h => ?_)
 ·refine call_h 0 h (fun t1 e27 h => ?_)
  exact (L_26 N) _ _ _ _ _ _ h hk
 cases h; exact hk
noncomputable def C_122 : Ctr tau Unit := ctrS 26 c_26 C_26
noncomputable def D_122 : Drw tau := drawA E_122 C_122
theorem okC_122 : CtrOk Try.prog TT pnT C_122 := ctrS_ok okC_26 okc_26
theorem mC_122 : CtrMono C_122 := ctrS_mono mC_26 mc_26
theorem mD_122 : DrMono D_122 := drawA_mono mC_122
noncomputable def B_122 : Code := Try.f122.body.getD .skip
theorem mc_122 (args : List (AV tau)) (m : Mem tau) (k k' : AV tau → Mem tau → Option Unit) (hk : ∀ av m, k av m = some () → k' av m = some ()) (h : c_122 args m k = some ()) : c_122 args m k' = some () := by
 unfold c_122 at h ⊢
 split at h
 · repeat' first | exact callX_mono (fun _ h => hk _ _ h) h | refine bO_mono (fun _ h => ?_) h
 · cases h
theorem w_122 (a0 : Int) (a1 : Int) (a2 : Int) (k : AV tau → Mem tau → Option Unit) : fnA E_122 C_122 D_122 Try.f122 B_122 [.int .i64 a0, .int .i64 a1, .int .i64 a2] ⟨[], []⟩ k = (brA (decide (a0 ≥ a1)) (k (.bool (decide (a0 ≤ a2))) ⟨[], []⟩) (k (.bool false) ⟨[], []⟩) : Option Unit) := by kernel_rfl
theorem okc_122 (args : List (AV tau)) (m : Mem tau) (κ : AV tau → Mem tau → Option Unit) (hh : c_122 args m κ = some ()) : ∃ av m1, κ av m1 = some () ∧ ToldA Try.prog TT (pnT 122) 122 args m av m1 := by
 obtain ⟨bx_, rw_⟩ := m
 unfold c_122 at hh
 simp only at hh
 split at hh
 case h_2 => cases hh
 rename_i b0 b1 b2
 obtain ⟨a0, hx0, hh0⟩ := bO_some hh
 obtain ⟨a1, hx1, hh1⟩ := bO_some hh0
 obtain ⟨a2, hx2, hh2⟩ := bO_some hh1
 have ex0 := asI_some hx0
 have ex1 := asI_some hx1
 have ex2 := asI_some hx2
 subst ex0 ex1 ex2
 obtain ⟨N, t, h, hκ⟩ := callX_some hh2
 refine ⟨_, _, hκ, told_of_run pq okC_122 (fun _ _ _ => drawA_ok pq okC_122 hmix) (E := E_122) (fn := Try.f122) (body := B_122) (by kernel_rfl) (by kernel_rfl) (by kernel_rfl) (by rfl) (by exact Nat.le_of_ble_eq_true rfl) (fun k hk => ?_)⟩
 refine (w_122 a0 a1 a2 k).trans ?_
 replace h : impl_in.f a0 a1 a2 = some t := h
 unfold impl_in.f at h
 refine br_eti h rfl (fun c2 h => ?_) (fun c2 h => ?_)
 ·cases h; exact hk
 cases h; exact hk
noncomputable def C_82 : Ctr tau Unit := ctrS 122 c_122 C_122
noncomputable def D_82 : Drw tau := drawA E_82 C_82
theorem okC_82 : CtrOk Try.prog TT pnT C_82 := ctrS_ok okC_122 okc_122
theorem mC_82 : CtrMono C_82 := ctrS_mono mC_122 mc_122
theorem mD_82 : DrMono D_82 := drawA_mono mC_82
noncomputable def B_82 : Code := Try.f82.body.getD .skip
theorem mc_82 (args : List (AV tau)) (m : Mem tau) (k k' : AV tau → Mem tau → Option Unit) (hk : ∀ av m, k av m = some () → k' av m = some ()) (h : c_82 args m k = some ()) : c_82 args m k' = some () := by
 unfold c_82 at h ⊢
 split at h
 · repeat' first | exact callX_mono (fun _ h => hk _ _ h) h | refine bO_mono (fun _ h => ?_) h
 · cases h
noncomputable def K_82_0 (k : AV tau → Mem tau → Option Unit) : Kon tau := (kBlock 0 (kS E_82 C_82 D_82 (codeP B_82 [1, 1]) (kEnd E_82 Try.f82 k)))
def st_82_0 (x0 : (List S37)) (x1 : (List S37)) (x2 : Int) (x3 : Int) : St tau := ⟨tmL 25 0 [(0, .sl 37 x0), (5, .sl 37 x1), (6, .int .i64 x2), (7, .int .i64 x3)], ⟨[], []⟩⟩
noncomputable def LP_82_0 (k : AV tau → Mem tau → Option Unit) (x0 : (List S37)) (x1 : (List S37)) (x2 : Int) (x3 : Int) : Option Unit := loopA E_82 (codeA E_82 C_82 D_82 (codeP B_82 [1, 0, 1, 0, 0])) (codeP B_82 [1, 0, 1, 0, 0]) (K_82_0 k) (st_82_0 x0 x1 x2 x3)
theorem w_82_0 (k : AV tau → Mem tau → Option Unit) (x0 : (List S37)) (x1 : (List S37)) (x2 : Int) (x3 : Int) : codeA E_82 C_82 D_82 (codeP B_82 [1, 0, 1, 0, 0]) (kL E_82 C_82 D_82 (codeP B_82 [1, 0, 1, 0, 0]) (K_82_0 k)) (st_82_0 x0 x1 x2 x3) = (brA (decide (x3 < x2)) (brA (decide ((0 : Int) ≤ x3)) (brA (decide (x3 < ((x1.length : Nat) : Int))) (callX (fun n => impl_in.f ((rd_T37 x1 x3).f0) (0 : Int) (1000000 : Int)) fun t0 => brA (!t0) (k (.bool false) ⟨[], []⟩) (callX (fun n => impl_in.f ((rd_T37 x1 x3).f1) (-(1000000 : Int)) (1000000 : Int)) fun t1 => brA (!t1) (k (.bool false) ⟨[], []⟩) (LP_82_0 k x0 x1 x2 (wrap64 (x3 + (1 : Int)))))) (none)) (none)) (k (.bool (decide (((x0.length : Nat) : Int) = (4 : Int)))) ⟨[], []⟩) : Option Unit) := by
 simp only [← wrapA_i64]
 kernel_rfl
theorem w_82 (l0 : List S37) (k : AV tau → Mem tau → Option Unit) : fnA E_82 C_82 D_82 Try.f82 B_82 [.sl 37 l0] ⟨[], []⟩ k = (LP_82_0 k l0 l0 ((l0.length : Nat) : Int) (0 : Int) : Option Unit) := by kernel_rfl
def S_82_0 (N : Nat) : Prop := ∀ (k : AV tau → Mem tau → Option Unit) (x0 : (List S37)) (x1 : (List S37)) (x2 : Int) (x3 : Int) (r : Bool), impl_BoxOk.l0 N (x0) (x1) (x2) (x3) = some r → k (.bool (r)) ⟨[], []⟩ = some () → LP_82_0 k x0 x1 x2 x3 = some ()
theorem L_82 (N : Nat) : S_82_0 N := by
 induction N using Nat.strongRecOn with | _ N0 ih =>
 skip
 intro k x0 x1 x2 x3 r h hk
 rcases N0 with _ | N
 · cases h
 first | rw [impl_BoxOk.l0] at h | simp only [impl_BoxOk.l0] at h | (unfold impl_BoxOk.l0 at h; dsimp only at h)
 refine loop_fold mC_82 mD_82 ?_
 refine (w_82_0 k x0 x1 x2 x3).trans ?_
 refine br_eti h rfl (fun c15 h => ?_) (fun c15 h => ?_)
 ·cases h; exact hk
 refine br_g h rfl (fun c16 h => ?_)
 refine br_g h rfl (fun c17 h => ?_)
 refine call_h 0 h (fun t0 e18 h => ?_)
 refine br_etn h (congrArg not dect) (fun c19 h => ?_) (fun c19 h => ?_)
 ·cases h; exact hk
 refine call_h 0 h (fun t1 e20 h => ?_)
 refine br_etn h (congrArg not dect) (fun c21 h => ?_) (fun c21 h => ?_)
 ·cases h; exact hk
 exact (ih N (by omega)) _ _ _ _ _ _ h hk
theorem okc_82 (args : List (AV tau)) (m : Mem tau) (κ : AV tau → Mem tau → Option Unit) (hh : c_82 args m κ = some ()) : ∃ av m1, κ av m1 = some () ∧ ToldA Try.prog TT (pnT 82) 82 args m av m1 := by
 obtain ⟨bx_, rw_⟩ := m
 unfold c_82 at hh
 simp only at hh
 split at hh
 case h_2 => cases hh
 rename_i b0
 obtain ⟨l0, hx0, hh0⟩ := bO_some hh
 have ex0 := asSl_some hx0
 subst ex0
 obtain ⟨N, t, h, hκ⟩ := callX_some hh0
 refine ⟨_, _, hκ, told_of_run pq okC_82 (fun _ _ _ => drawA_ok pq okC_82 hmix) (E := E_82) (fn := Try.f82) (body := B_82) (by kernel_rfl) (by kernel_rfl) (by kernel_rfl) (by rfl) (by exact Nat.le_of_ble_eq_true rfl) (fun k hk => ?_)⟩
 refine (w_82 l0 k).trans ?_
 replace h : impl_BoxOk.f N l0 = some t := h
 unfold impl_BoxOk.f at h
 exact (L_82 N) _ _ _ _ _ _ h hk
noncomputable def C_168 : Ctr tau Unit := ctrS 82 c_82 C_82
noncomputable def D_168 : Drw tau := drawA E_168 C_168
theorem okC_168 : CtrOk Try.prog TT pnT C_168 := ctrS_ok okC_82 okc_82
theorem mC_168 : CtrMono C_168 := ctrS_mono mC_82 mc_82
theorem mD_168 : DrMono D_168 := drawA_mono mC_168
noncomputable def B_168 : Code := Try.f168.body.getD .skip
theorem mc_168 (args : List (AV tau)) (m : Mem tau) (k k' : AV tau → Mem tau → Option Unit) (hk : ∀ av m, k av m = some () → k' av m = some ()) (h : c_168 args m k = some ()) : c_168 args m k' = some () := by
 unfold c_168 at h ⊢
 split at h
 · repeat' first | exact callX_mono (fun _ h => hk _ _ h) h | refine bO_mono (fun _ h => ?_) h
 · cases h
theorem w_168 (a0 : Int) (k : AV tau → Mem tau → Option Unit) : fnA E_168 C_168 D_168 Try.f168 B_168 [.int .i64 a0] ⟨[], []⟩ k = (callX (fun n => impl_in.f a0 (0 : Int) (3 : Int)) fun t0 => k (.bool t0) ⟨[], []⟩ : Option Unit) := by kernel_rfl
theorem okc_168 (args : List (AV tau)) (m : Mem tau) (κ : AV tau → Mem tau → Option Unit) (hh : c_168 args m κ = some ()) : ∃ av m1, κ av m1 = some () ∧ ToldA Try.prog TT (pnT 168) 168 args m av m1 := by
 obtain ⟨bx_, rw_⟩ := m
 unfold c_168 at hh
 simp only at hh
 split at hh
 case h_2 => cases hh
 rename_i b0
 obtain ⟨a0, hx0, hh0⟩ := bO_some hh
 have ex0 := asI_some hx0
 subst ex0
 obtain ⟨N, t, h, hκ⟩ := callX_some hh0
 refine ⟨_, _, hκ, told_of_run pq okC_168 (fun _ _ _ => drawA_ok pq okC_168 hmix) (E := E_168) (fn := Try.f168) (body := B_168) (by kernel_rfl) (by kernel_rfl) (by kernel_rfl) (by rfl) (by exact Nat.le_of_ble_eq_true rfl) (fun k hk => ?_)⟩
 refine (w_168 a0 k).trans ?_
 replace h : impl_insOk_1.f a0 = some t := h
 unfold impl_insOk_1.f at h
 refine call_h 0 h (fun t0 e2 h => ?_)
 cases h; exact hk
noncomputable def C_169 : Ctr tau Unit := ctrS 168 c_168 C_168
noncomputable def D_169 : Drw tau := drawA E_169 C_169
theorem okC_169 : CtrOk Try.prog TT pnT C_169 := ctrS_ok okC_168 okc_168
theorem mC_169 : CtrMono C_169 := ctrS_mono mC_168 mc_168
theorem mD_169 : DrMono D_169 := drawA_mono mC_169
noncomputable def B_169 : Code := Try.f169.body.getD .skip
theorem mc_169 (args : List (AV tau)) (m : Mem tau) (k k' : AV tau → Mem tau → Option Unit) (hk : ∀ av m, k av m = some () → k' av m = some ()) (h : c_169 args m k = some ()) : c_169 args m k' = some () := by
 unfold c_169 at h ⊢
 split at h
 · repeat' first | exact callX_mono (fun _ h => hk _ _ h) h | refine bO_mono (fun _ h => ?_) h
 · cases h
theorem w_169 (a0 : Int) (k : AV tau → Mem tau → Option Unit) : fnA E_169 C_169 D_169 Try.f169 B_169 [.int .i64 a0] ⟨[], []⟩ k = (callX (fun n => impl_in.f a0 (0 : Int) (3 : Int)) fun t0 => k (.bool t0) ⟨[], []⟩ : Option Unit) := by kernel_rfl
theorem okc_169 (args : List (AV tau)) (m : Mem tau) (κ : AV tau → Mem tau → Option Unit) (hh : c_169 args m κ = some ()) : ∃ av m1, κ av m1 = some () ∧ ToldA Try.prog TT (pnT 169) 169 args m av m1 := by
 obtain ⟨bx_, rw_⟩ := m
 unfold c_169 at hh
 simp only at hh
 split at hh
 case h_2 => cases hh
 rename_i b0
 obtain ⟨a0, hx0, hh0⟩ := bO_some hh
 have ex0 := asI_some hx0
 subst ex0
 obtain ⟨N, t, h, hκ⟩ := callX_some hh0
 refine ⟨_, _, hκ, told_of_run pq okC_169 (fun _ _ _ => drawA_ok pq okC_169 hmix) (E := E_169) (fn := Try.f169) (body := B_169) (by kernel_rfl) (by kernel_rfl) (by kernel_rfl) (by rfl) (by exact Nat.le_of_ble_eq_true rfl) (fun k hk => ?_)⟩
 refine (w_169 a0 k).trans ?_
 replace h : impl_insOk_2.f a0 = some t := h
 unfold impl_insOk_2.f at h
 refine call_h 0 h (fun t0 e2 h => ?_)
 cases h; exact hk
noncomputable def C_151 : Ctr tau Unit := ctrS 169 c_169 C_169
noncomputable def D_151 : Drw tau := drawA E_151 C_151
theorem okC_151 : CtrOk Try.prog TT pnT C_151 := ctrS_ok okC_169 okc_169
theorem mC_151 : CtrMono C_151 := ctrS_mono mC_169 mc_169
theorem mD_151 : DrMono D_151 := drawA_mono mC_151
noncomputable def B_151 : Code := Try.f151.body.getD .skip
theorem mc_151 (args : List (AV tau)) (m : Mem tau) (k k' : AV tau → Mem tau → Option Unit) (hk : ∀ av m, k av m = some () → k' av m = some ()) (h : c_151 args m k = some ()) : c_151 args m k' = some () := by
 unfold c_151 at h ⊢
 split at h
 · repeat' first | exact callX_mono (fun _ h => hk _ _ h) h | refine bO_mono (fun _ h => ?_) h
 · cases h
theorem w_151 (a0_0 : Int) (a0_1 : Int) (a0_2 : Int) (a0_3 : Int) (k : AV tau → Mem tau → Option Unit) : fnA E_151 C_151 D_151 Try.f151 B_151 [.agg [.int .i64 a0_0, .int .i64 a0_1, .int .i64 a0_2, .int .i64 a0_3]] ⟨[], []⟩ k = (brA (decide (a0_0 = (1 : Int))) (callX (fun n => impl_insOk_1.f a0_1) fun t0 => brA t0 (callX (fun n => impl_insOk_2.f a0_2) fun t1 => brA t1 (k (.bool (decide (a0_3 = (0 : Int)))) ⟨[], []⟩) (k (.bool false) ⟨[], []⟩)) (k (.bool false) ⟨[], []⟩)) (brA (decide (a0_0 = (2 : Int))) (callX (fun n => impl_insOk_2.f a0_1) fun t2 => brA t2 (callX (fun n => impl_insOk_1.f a0_2) fun t3 => brA t3 (k (.bool (decide (a0_3 = (0 : Int)))) ⟨[], []⟩) (k (.bool false) ⟨[], []⟩)) (k (.bool false) ⟨[], []⟩)) (brA (decide (a0_0 = (3 : Int))) (callX (fun n => impl_insOk_1.f a0_1) fun t4 => brA t4 (brA (decide (a0_2 = (0 : Int))) (callX (fun n => impl_in.f a0_3 (-(1000000 : Int)) (1000000 : Int)) fun t5 => k (.bool t5) ⟨[], []⟩) (k (.bool false) ⟨[], []⟩)) (k (.bool false) ⟨[], []⟩)) (brA (decide (a0_0 = (4 : Int))) (brA (decide (a0_0 = (4 : Int))) (callX (fun n => impl_insOk_1.f a0_1) fun t6 => brA t6 (callX (fun n => impl_insOk_1.f a0_2) fun t7 => brA t7 (k (.bool (decide (a0_3 = (0 : Int)))) ⟨[], []⟩) (k (.bool false) ⟨[], []⟩)) (k (.bool false) ⟨[], []⟩)) (brA (decide (a0_0 = (6 : Int))) (callX (fun n => impl_insOk_1.f a0_1) fun t8 => brA t8 (callX (fun n => impl_insOk_1.f a0_2) fun t9 => brA t9 (callX (fun n => impl_in.f a0_3 (1 : Int) (10 : Int)) fun t10 => k (.bool t10) ⟨[], []⟩) (k (.bool false) ⟨[], []⟩)) (k (.bool false) ⟨[], []⟩)) (brA (decide (a0_0 = (7 : Int))) (brA (decide (a0_1 = (0 : Int))) (brA (decide (a0_2 = (0 : Int))) (k (.bool (decide (a0_3 = (0 : Int)))) ⟨[], []⟩) (k (.bool false) ⟨[], []⟩)) (k (.bool false) ⟨[], []⟩)) (k (.bool false) ⟨[], []⟩)))) (brA (decide (a0_0 = (5 : Int))) (callX (fun n => impl_insOk_1.f a0_1) fun t11 => brA t11 (callX (fun n => impl_insOk_1.f a0_2) fun t12 => brA t12 (k (.bool (decide (a0_3 = (0 : Int)))) ⟨[], []⟩) (k (.bool false) ⟨[], []⟩)) (k (.bool false) ⟨[], []⟩)) (brA (decide (a0_0 = (6 : Int))) (callX (fun n => impl_insOk_1.f a0_1) fun t13 => brA t13 (callX (fun n => impl_insOk_1.f a0_2) fun t14 => brA t14 (callX (fun n => impl_in.f a0_3 (1 : Int) (10 : Int)) fun t15 => k (.bool t15) ⟨[], []⟩) (k (.bool false) ⟨[], []⟩)) (k (.bool false) ⟨[], []⟩)) (brA (decide (a0_0 = (7 : Int))) (brA (decide (a0_1 = (0 : Int))) (brA (decide (a0_2 = (0 : Int))) (k (.bool (decide (a0_3 = (0 : Int)))) ⟨[], []⟩) (k (.bool false) ⟨[], []⟩)) (k (.bool false) ⟨[], []⟩)) (k (.bool false) ⟨[], []⟩))))))) : Option Unit) := by kernel_rfl
theorem okc_151 (args : List (AV tau)) (m : Mem tau) (κ : AV tau → Mem tau → Option Unit) (hh : c_151 args m κ = some ()) : ∃ av m1, κ av m1 = some () ∧ ToldA Try.prog TT (pnT 151) 151 args m av m1 := by
 obtain ⟨bx_, rw_⟩ := m
 unfold c_151 at hh
 simp only at hh
 split at hh
 case h_2 => cases hh
 rename_i b0 b1 b2 b3
 obtain ⟨a0_0, hx0, hh0⟩ := bO_some hh
 obtain ⟨a0_1, hx1, hh1⟩ := bO_some hh0
 obtain ⟨a0_2, hx2, hh2⟩ := bO_some hh1
 obtain ⟨a0_3, hx3, hh3⟩ := bO_some hh2
 have ex0 := asI_some hx0
 have ex1 := asI_some hx1
 have ex2 := asI_some hx2
 have ex3 := asI_some hx3
 subst ex0 ex1 ex2 ex3
 obtain ⟨N, t, h, hκ⟩ := callX_some hh3
 refine ⟨_, _, hκ, told_of_run pq okC_151 (fun _ _ _ => drawA_ok pq okC_151 hmix) (E := E_151) (fn := Try.f151) (body := B_151) (by kernel_rfl) (by kernel_rfl) (by kernel_rfl) (by rfl) (by exact Nat.le_of_ble_eq_true rfl) (fun k hk => ?_)⟩
 refine (w_151 a0_0 a0_1 a0_2 a0_3 k).trans ?_
 replace h : impl_insOk.f N a0_0 a0_1 a0_2 a0_3 = some t := h
 unfold impl_insOk.f at h
 refine br_ite h rfl (fun c45 h => ?_) (fun c45 h => ?_)
 ·refine call_h 0 h (fun t0 e46 h => ?_)
  refine br_eti h dect (fun c47 h => ?_) (fun c47 h => ?_)
  ·cases h; exact hk
  refine call_h 0 h (fun t1 e48 h => ?_)
  refine br_eti h dect (fun c49 h => ?_) (fun c49 h => ?_)
  ·cases h; exact hk
  cases h; exact hk
 refine br_ite h rfl (fun c50 h => ?_) (fun c50 h => ?_)
 ·refine call_h 0 h (fun t2 e51 h => ?_)
  refine br_eti h dect (fun c52 h => ?_) (fun c52 h => ?_)
  ·cases h; exact hk
  refine call_h 0 h (fun t3 e53 h => ?_)
  refine br_eti h dect (fun c54 h => ?_) (fun c54 h => ?_)
  ·cases h; exact hk
  cases h; exact hk
 refine br_ite h rfl (fun c55 h => ?_) (fun c55 h => ?_)
 ·refine call_h 0 h (fun t4 e56 h => ?_)
  refine br_eti h dect (fun c57 h => ?_) (fun c57 h => ?_)
  ·cases h; exact hk
  refine br_eti h rfl (fun c58 h => ?_) (fun c58 h => ?_)
  ·cases h; exact hk
  refine call_h 0 h (fun t5 e59 h => ?_)
  cases h; exact hk
 refine br_ite h rfl (fun c60 h => ?_) (fun c60 h => ?_)
 ·rcases N with _ | N
  · cases h
  first | rw [impl_insOk.j0] at h | simp only [impl_insOk.j0] at h | (unfold impl_insOk.j0 at h; dsimp only at h)
  refine br_ite h (by first | rfl | exact dect | exact (congrArg not dect) | (simp; done) | (simp [beqI]; done) | (simp; omega)) (fun c61 h => ?_) (fun c61 h => ?_)
  ·refine call_h 0 h (fun t6 e62 h => ?_)
   refine br_eti h dect (fun c63 h => ?_) (fun c63 h => ?_)
   ·cases h; exact hk
   refine call_h 0 h (fun t7 e64 h => ?_)
   refine br_eti h dect (fun c65 h => ?_) (fun c65 h => ?_)
   ·cases h; exact hk
   cases h; exact hk
  refine br_eti h rfl (fun c66 h => ?_) (fun c66 h => ?_)
  ·refine br_eti h rfl (fun c67 h => ?_) (fun c67 h => ?_)
   ·cases h; exact hk
   refine br_eti h rfl (fun c68 h => ?_) (fun c68 h => ?_)
   ·cases h; exact hk
   refine br_eti h rfl (fun c69 h => ?_) (fun c69 h => ?_)
   ·cases h; exact hk
   cases h; exact hk
  refine call_h 0 h (fun t8 e70 h => ?_)
  refine br_eti h dect (fun c71 h => ?_) (fun c71 h => ?_)
  ·cases h; exact hk
  refine call_h 0 h (fun t9 e72 h => ?_)
  refine br_eti h dect (fun c73 h => ?_) (fun c73 h => ?_)
  ·cases h; exact hk
  refine call_h 0 h (fun t10 e74 h => ?_)
  cases h; exact hk
 rcases N with _ | N
 · cases h
 first | rw [impl_insOk.j0] at h | simp only [impl_insOk.j0] at h | (unfold impl_insOk.j0 at h; dsimp only at h)
 refine br_ite h (by first | rfl | exact dect | exact (congrArg not dect) | (simp; done) | (simp [beqI]; done) | (simp; omega)) (fun c75 h => ?_) (fun c75 h => ?_)
 ·refine call_h 0 h (fun t11 e76 h => ?_)
  refine br_eti h dect (fun c77 h => ?_) (fun c77 h => ?_)
  ·cases h; exact hk
  refine call_h 0 h (fun t12 e78 h => ?_)
  refine br_eti h dect (fun c79 h => ?_) (fun c79 h => ?_)
  ·cases h; exact hk
  cases h; exact hk
 refine br_eti h rfl (fun c80 h => ?_) (fun c80 h => ?_)
 ·refine br_eti h rfl (fun c81 h => ?_) (fun c81 h => ?_)
  ·cases h; exact hk
  refine br_eti h rfl (fun c82 h => ?_) (fun c82 h => ?_)
  ·cases h; exact hk
  refine br_eti h rfl (fun c83 h => ?_) (fun c83 h => ?_)
  ·cases h; exact hk
  cases h; exact hk
 refine call_h 0 h (fun t13 e84 h => ?_)
 refine br_eti h dect (fun c85 h => ?_) (fun c85 h => ?_)
 ·cases h; exact hk
 refine call_h 0 h (fun t14 e86 h => ?_)
 refine br_eti h dect (fun c87 h => ?_) (fun c87 h => ?_)
 ·cases h; exact hk
 refine call_h 0 h (fun t15 e88 h => ?_)
 cases h; exact hk
noncomputable def C_102 : Ctr tau Unit := ctrS 151 c_151 C_151
noncomputable def D_102 : Drw tau := drawA E_102 C_102
theorem okC_102 : CtrOk Try.prog TT pnT C_102 := ctrS_ok okC_151 okc_151
theorem mC_102 : CtrMono C_102 := ctrS_mono mC_151 mc_151
theorem mD_102 : DrMono D_102 := drawA_mono mC_102
noncomputable def B_102 : Code := Try.f102.body.getD .skip
theorem mc_102 (args : List (AV tau)) (m : Mem tau) (k k' : AV tau → Mem tau → Option Unit) (hk : ∀ av m, k av m = some () → k' av m = some ()) (h : c_102 args m k = some ()) : c_102 args m k' = some () := by
 unfold c_102 at h ⊢
 split at h
 · repeat' first | exact callX_mono (fun _ h => hk _ _ h) h | refine bO_mono (fun _ h => ?_) h
 · cases h
noncomputable def K_102_0 (k : AV tau → Mem tau → Option Unit) : Kon tau := (kBlock 0 (kS E_102 C_102 D_102 (codeP B_102 [1, 1]) (kEnd E_102 Try.f102 k)))
def st_102_0 (x0 : (List S95)) (x1 : (List S95)) (x2 : Int) (x3 : Int) : St tau := ⟨tmL 18 0 [(0, .sl 95 x0), (5, .sl 95 x1), (6, .int .i64 x2), (7, .int .i64 x3)], ⟨[], []⟩⟩
noncomputable def LP_102_0 (k : AV tau → Mem tau → Option Unit) (x0 : (List S95)) (x1 : (List S95)) (x2 : Int) (x3 : Int) : Option Unit := loopA E_102 (codeA E_102 C_102 D_102 (codeP B_102 [1, 0, 1, 0, 0])) (codeP B_102 [1, 0, 1, 0, 0]) (K_102_0 k) (st_102_0 x0 x1 x2 x3)
theorem w_102_0 (k : AV tau → Mem tau → Option Unit) (x0 : (List S95)) (x1 : (List S95)) (x2 : Int) (x3 : Int) : codeA E_102 C_102 D_102 (codeP B_102 [1, 0, 1, 0, 0]) (kL E_102 C_102 D_102 (codeP B_102 [1, 0, 1, 0, 0]) (K_102_0 k)) (st_102_0 x0 x1 x2 x3) = (brA (decide (x3 < x2)) (brA (decide ((0 : Int) ≤ x3)) (brA (decide (x3 < ((x1.length : Nat) : Int))) (callX (fun n => impl_insOk.f n ((rd_T95 x1 x3).f0) ((rd_T95 x1 x3).f1) ((rd_T95 x1 x3).f2) ((rd_T95 x1 x3).f3)) fun t0 => brA (!t0) (k (.bool false) ⟨[], []⟩) (LP_102_0 k x0 x1 x2 (wrap64 (x3 + (1 : Int))))) (none)) (none)) (k (.bool (decide (((x0.length : Nat) : Int) ≤ (10 : Int)))) ⟨[], []⟩) : Option Unit) := by
 simp only [← wrapA_i64]
 kernel_rfl
theorem w_102 (l0 : List S95) (k : AV tau → Mem tau → Option Unit) : fnA E_102 C_102 D_102 Try.f102 B_102 [.sl 95 l0] ⟨[], []⟩ k = (LP_102_0 k l0 l0 ((l0.length : Nat) : Int) (0 : Int) : Option Unit) := by kernel_rfl
def S_102_0 (N : Nat) : Prop := ∀ (k : AV tau → Mem tau → Option Unit) (x0 : (List S95)) (x1 : (List S95)) (x2 : Int) (x3 : Int) (r : Bool), impl_ProgOk.l0 N (x0) (x1) (x2) (x3) = some r → k (.bool (r)) ⟨[], []⟩ = some () → LP_102_0 k x0 x1 x2 x3 = some ()
theorem L_102 (N : Nat) : S_102_0 N := by
 induction N using Nat.strongRecOn with | _ N0 ih =>
 skip
 intro k x0 x1 x2 x3 r h hk
 rcases N0 with _ | N
 · cases h
 first | rw [impl_ProgOk.l0] at h | simp only [impl_ProgOk.l0] at h | (unfold impl_ProgOk.l0 at h; dsimp only at h)
 refine loop_fold mC_102 mD_102 ?_
 refine (w_102_0 k x0 x1 x2 x3).trans ?_
 refine br_eti h rfl (fun c11 h => ?_) (fun c11 h => ?_)
 ·cases h; exact hk
 refine br_g h rfl (fun c12 h => ?_)
 refine br_g h rfl (fun c13 h => ?_)
 refine call_h N h (fun t0 e14 h => ?_)
 refine br_etn h (congrArg not dect) (fun c15 h => ?_) (fun c15 h => ?_)
 ·cases h; exact hk
 exact (ih N (by omega)) _ _ _ _ _ _ h hk
theorem okc_102 (args : List (AV tau)) (m : Mem tau) (κ : AV tau → Mem tau → Option Unit) (hh : c_102 args m κ = some ()) : ∃ av m1, κ av m1 = some () ∧ ToldA Try.prog TT (pnT 102) 102 args m av m1 := by
 obtain ⟨bx_, rw_⟩ := m
 unfold c_102 at hh
 simp only at hh
 split at hh
 case h_2 => cases hh
 rename_i b0
 obtain ⟨l0, hx0, hh0⟩ := bO_some hh
 have ex0 := asSl_some hx0
 subst ex0
 obtain ⟨N, t, h, hκ⟩ := callX_some hh0
 refine ⟨_, _, hκ, told_of_run pq okC_102 (fun _ _ _ => drawA_ok pq okC_102 hmix) (E := E_102) (fn := Try.f102) (body := B_102) (by kernel_rfl) (by kernel_rfl) (by kernel_rfl) (by rfl) (by exact Nat.le_of_ble_eq_true rfl) (fun k hk => ?_)⟩
 refine (w_102 l0 k).trans ?_
 replace h : impl_ProgOk.f N l0 = some t := h
 unfold impl_ProgOk.f at h
 exact (L_102 N) _ _ _ _ _ _ h hk
noncomputable def C_126 : Ctr tau Unit := ctrS 102 c_102 C_102
noncomputable def D_126 : Drw tau := drawA E_126 C_126
theorem okC_126 : CtrOk Try.prog TT pnT C_126 := ctrS_ok okC_102 okc_102
theorem mC_126 : CtrMono C_126 := ctrS_mono mC_102 mc_102
theorem mD_126 : DrMono D_126 := drawA_mono mC_126
noncomputable def B_126 : Code := Try.f126.body.getD .skip
theorem mc_126 (args : List (AV tau)) (m : Mem tau) (k k' : AV tau → Mem tau → Option Unit) (hk : ∀ av m, k av m = some () → k' av m = some ()) (h : c_126 args m k = some ()) : c_126 args m k' = some () := by
 unfold c_126 at h ⊢
 split at h
 · repeat' first | exact callX_mono (fun _ h => hk _ _ h) h | refine bO_mono (fun _ h => ?_) h
 · cases h
noncomputable def K_126_0 (k : AV tau → Mem tau → Option Unit) : Kon tau := (kBlock 0 (kS E_126 C_126 D_126 (codeP B_126 [1, 1]) (kEnd E_126 Try.f126 k)))
def st_126_0 (x0 : Int) (x1 : (List S82)) (x2 : Int) (x3 : Int) : St tau := ⟨tmL 21 0 [(1, .int .i64 x0), (8, .sl 82 x1), (9, .int .i64 x2), (10, .int .i64 x3)], ⟨[], []⟩⟩
noncomputable def LP_126_0 (k : AV tau → Mem tau → Option Unit) (x0 : Int) (x1 : (List S82)) (x2 : Int) (x3 : Int) : Option Unit := loopA E_126 (codeA E_126 C_126 D_126 (codeP B_126 [1, 0, 1, 0, 0])) (codeP B_126 [1, 0, 1, 0, 0]) (K_126_0 k) (st_126_0 x0 x1 x2 x3)
theorem w_126_0 (k : AV tau → Mem tau → Option Unit) (x0 : Int) (x1 : (List S82)) (x2 : Int) (x3 : Int) : codeA E_126 C_126 D_126 (codeP B_126 [1, 0, 1, 0, 0]) (kL E_126 C_126 D_126 (codeP B_126 [1, 0, 1, 0, 0]) (K_126_0 k)) (st_126_0 x0 x1 x2 x3) = (brA (decide (x3 < x2)) (brA (decide ((0 : Int) ≤ x3)) (brA (decide (x3 < ((x1.length : Nat) : Int))) (brA (decide ((rd_T82 x1 x3).f0 = x0)) (k (.int .i64 x3) ⟨[], []⟩) (LP_126_0 k x0 x1 x2 (wrap64 (x3 + (1 : Int))))) (none)) (none)) (k (.int .i64 (-(1 : Int))) ⟨[], []⟩) : Option Unit) := by
 simp only [← wrapA_i64]
 kernel_rfl
theorem w_126 (l0_0 : List S39) (l0_1 : List S82) (a0_2 : Int) (a0_3 : Int) (a1 : Int) (k : AV tau → Mem tau → Option Unit) : fnA E_126 C_126 D_126 Try.f126 B_126 [.agg [.sl 39 l0_0, .sl 82 l0_1, .int .i64 a0_2, .int .i64 a0_3], .int .i64 a1] ⟨[], []⟩ k = (LP_126_0 k a1 l0_1 ((l0_1.length : Nat) : Int) (0 : Int) : Option Unit) := by kernel_rfl
def S_126_0 (N : Nat) : Prop := ∀ (k : AV tau → Mem tau → Option Unit) (x0 : Int) (x1 : (List S82)) (x2 : Int) (x3 : Int) (r : Int), impl_putAt.l0 N (x0) (x1) (x2) (x3) = some r → k (.int .i64 (r)) ⟨[], []⟩ = some () → LP_126_0 k x0 x1 x2 x3 = some ()
theorem L_126 (N : Nat) : S_126_0 N := by
 induction N using Nat.strongRecOn with | _ N0 ih =>
 skip
 intro k x0 x1 x2 x3 r h hk
 rcases N0 with _ | N
 · cases h
 first | rw [impl_putAt.l0] at h | simp only [impl_putAt.l0] at h | (unfold impl_putAt.l0 at h; dsimp only at h)
 refine loop_fold mC_126 mD_126 ?_
 refine (w_126_0 k x0 x1 x2 x3).trans ?_
 refine br_eti h rfl (fun c9 h => ?_) (fun c9 h => ?_)
 ·cases h; exact hk
 refine br_g h rfl (fun c10 h => ?_)
 refine br_g h rfl (fun c11 h => ?_)
 refine br_ite h rfl (fun c12 h => ?_) (fun c12 h => ?_)
 ·cases h; exact hk
 exact (ih N (by omega)) _ _ _ _ _ _ h hk
theorem okc_126 (args : List (AV tau)) (m : Mem tau) (κ : AV tau → Mem tau → Option Unit) (hh : c_126 args m κ = some ()) : ∃ av m1, κ av m1 = some () ∧ ToldA Try.prog TT (pnT 126) 126 args m av m1 := by
 obtain ⟨bx_, rw_⟩ := m
 unfold c_126 at hh
 simp only at hh
 split at hh
 case h_2 => cases hh
 rename_i b0 b1 b2 b3 b4
 obtain ⟨l0_0, hx0, hh0⟩ := bO_some hh
 obtain ⟨l0_1, hx1, hh1⟩ := bO_some hh0
 obtain ⟨a0_2, hx2, hh2⟩ := bO_some hh1
 obtain ⟨a0_3, hx3, hh3⟩ := bO_some hh2
 obtain ⟨a1, hx4, hh4⟩ := bO_some hh3
 have ex0 := asSl_some hx0
 have ex1 := asSl_some hx1
 have ex2 := asI_some hx2
 have ex3 := asI_some hx3
 have ex4 := asI_some hx4
 subst ex0 ex1 ex2 ex3 ex4
 obtain ⟨N, t, h, hκ⟩ := callX_some hh4
 refine ⟨_, _, hκ, told_of_run pq okC_126 (fun _ _ _ => drawA_ok pq okC_126 hmix) (E := E_126) (fn := Try.f126) (body := B_126) (by kernel_rfl) (by kernel_rfl) (by kernel_rfl) (by rfl) (by exact Nat.le_of_ble_eq_true rfl) (fun k hk => ?_)⟩
 refine (w_126 l0_0 l0_1 a0_2 a0_3 a1 k).trans ?_
 replace h : impl_putAt.f N l0_0 l0_1 a0_2 a0_3 a1 = some t := h
 unfold impl_putAt.f at h
 exact (L_126 N) _ _ _ _ _ _ h hk
noncomputable def C_127 : Ctr tau Unit := ctrS 126 c_126 C_126
noncomputable def D_127 : Drw tau := drawA E_127 C_127
theorem okC_127 : CtrOk Try.prog TT pnT C_127 := ctrS_ok okC_126 okc_126
theorem mC_127 : CtrMono C_127 := ctrS_mono mC_126 mc_126
theorem mD_127 : DrMono D_127 := drawA_mono mC_127
noncomputable def B_127 : Code := Try.f127.body.getD .skip
theorem mc_127 (args : List (AV tau)) (m : Mem tau) (k k' : AV tau → Mem tau → Option Unit) (hk : ∀ av m, k av m = some () → k' av m = some ()) (h : c_127 args m k = some ()) : c_127 args m k' = some () := by
 unfold c_127 at h ⊢
 split at h
 · repeat' first | exact callX_mono (fun _ h => hk _ _ h) h | refine bO_mono (fun _ h => ?_) h
 · cases h
noncomputable def K_127_0 (k : AV tau → Mem tau → Option Unit) : Kon tau := (kBlock 0 (kS E_127 C_127 D_127 (codeP B_127 [1, 1]) (kEnd E_127 Try.f127 k)))
def st_127_0 (x0 : Int) (x1 : (List S39)) (x2 : Int) (x3 : Int) : St tau := ⟨tmL 21 0 [(1, .int .i64 x0), (8, .sl 39 x1), (9, .int .i64 x2), (10, .int .i64 x3)], ⟨[], []⟩⟩
noncomputable def LP_127_0 (k : AV tau → Mem tau → Option Unit) (x0 : Int) (x1 : (List S39)) (x2 : Int) (x3 : Int) : Option Unit := loopA E_127 (codeA E_127 C_127 D_127 (codeP B_127 [1, 0, 1, 0, 0])) (codeP B_127 [1, 0, 1, 0, 0]) (K_127_0 k) (st_127_0 x0 x1 x2 x3)
theorem w_127_0 (k : AV tau → Mem tau → Option Unit) (x0 : Int) (x1 : (List S39)) (x2 : Int) (x3 : Int) : codeA E_127 C_127 D_127 (codeP B_127 [1, 0, 1, 0, 0]) (kL E_127 C_127 D_127 (codeP B_127 [1, 0, 1, 0, 0]) (K_127_0 k)) (st_127_0 x0 x1 x2 x3) = (brA (decide (x3 < x2)) (brA (decide ((0 : Int) ≤ x3)) (brA (decide (x3 < ((x1.length : Nat) : Int))) (brA (decide ((rd_T39 x1 x3).f0 = x0)) (k (.int .i64 x3) ⟨[], []⟩) (LP_127_0 k x0 x1 x2 (wrap64 (x3 + (1 : Int))))) (none)) (none)) (k (.int .i64 (-(1 : Int))) ⟨[], []⟩) : Option Unit) := by
 simp only [← wrapA_i64]
 kernel_rfl
theorem w_127 (l0_0 : List S39) (l0_1 : List S82) (a0_2 : Int) (a0_3 : Int) (a1 : Int) (k : AV tau → Mem tau → Option Unit) : fnA E_127 C_127 D_127 Try.f127 B_127 [.agg [.sl 39 l0_0, .sl 82 l0_1, .int .i64 a0_2, .int .i64 a0_3], .int .i64 a1] ⟨[], []⟩ k = (LP_127_0 k a1 l0_0 ((l0_0.length : Nat) : Int) (0 : Int) : Option Unit) := by kernel_rfl
def S_127_0 (N : Nat) : Prop := ∀ (k : AV tau → Mem tau → Option Unit) (x0 : Int) (x1 : (List S39)) (x2 : Int) (x3 : Int) (r : Int), impl_readAt.l0 N (x0) (x1) (x2) (x3) = some r → k (.int .i64 (r)) ⟨[], []⟩ = some () → LP_127_0 k x0 x1 x2 x3 = some ()
theorem L_127 (N : Nat) : S_127_0 N := by
 induction N using Nat.strongRecOn with | _ N0 ih =>
 skip
 intro k x0 x1 x2 x3 r h hk
 rcases N0 with _ | N
 · cases h
 first | rw [impl_readAt.l0] at h | simp only [impl_readAt.l0] at h | (unfold impl_readAt.l0 at h; dsimp only at h)
 refine loop_fold mC_127 mD_127 ?_
 refine (w_127_0 k x0 x1 x2 x3).trans ?_
 refine br_eti h rfl (fun c9 h => ?_) (fun c9 h => ?_)
 ·cases h; exact hk
 refine br_g h rfl (fun c10 h => ?_)
 refine br_g h rfl (fun c11 h => ?_)
 refine br_ite h rfl (fun c12 h => ?_) (fun c12 h => ?_)
 ·cases h; exact hk
 exact (ih N (by omega)) _ _ _ _ _ _ h hk
theorem okc_127 (args : List (AV tau)) (m : Mem tau) (κ : AV tau → Mem tau → Option Unit) (hh : c_127 args m κ = some ()) : ∃ av m1, κ av m1 = some () ∧ ToldA Try.prog TT (pnT 127) 127 args m av m1 := by
 obtain ⟨bx_, rw_⟩ := m
 unfold c_127 at hh
 simp only at hh
 split at hh
 case h_2 => cases hh
 rename_i b0 b1 b2 b3 b4
 obtain ⟨l0_0, hx0, hh0⟩ := bO_some hh
 obtain ⟨l0_1, hx1, hh1⟩ := bO_some hh0
 obtain ⟨a0_2, hx2, hh2⟩ := bO_some hh1
 obtain ⟨a0_3, hx3, hh3⟩ := bO_some hh2
 obtain ⟨a1, hx4, hh4⟩ := bO_some hh3
 have ex0 := asSl_some hx0
 have ex1 := asSl_some hx1
 have ex2 := asI_some hx2
 have ex3 := asI_some hx3
 have ex4 := asI_some hx4
 subst ex0 ex1 ex2 ex3 ex4
 obtain ⟨N, t, h, hκ⟩ := callX_some hh4
 refine ⟨_, _, hκ, told_of_run pq okC_127 (fun _ _ _ => drawA_ok pq okC_127 hmix) (E := E_127) (fn := Try.f127) (body := B_127) (by kernel_rfl) (by kernel_rfl) (by kernel_rfl) (by rfl) (by exact Nat.le_of_ble_eq_true rfl) (fun k hk => ?_)⟩
 refine (w_127 l0_0 l0_1 a0_2 a0_3 a1 k).trans ?_
 replace h : impl_readAt.f N l0_0 l0_1 a0_2 a0_3 a1 = some t := h
 unfold impl_readAt.f at h
 exact (L_127 N) _ _ _ _ _ _ h hk
noncomputable def C_128 : Ctr tau Unit := ctrS 127 c_127 C_127
noncomputable def D_128 : Drw tau := drawA E_128 C_128
theorem okC_128 : CtrOk Try.prog TT pnT C_128 := ctrS_ok okC_127 okc_127
theorem mC_128 : CtrMono C_128 := ctrS_mono mC_127 mc_127
theorem mD_128 : DrMono D_128 := drawA_mono mC_128
noncomputable def B_128 : Code := Try.f128.body.getD .skip
theorem mc_128 (args : List (AV tau)) (m : Mem tau) (k k' : AV tau → Mem tau → Option Unit) (hk : ∀ av m, k av m = some () → k' av m = some ()) (h : c_128 args m k = some ()) : c_128 args m k' = some () := by
 unfold c_128 at h ⊢
 split at h
 · repeat' first | exact callX_mono (fun _ h => hk _ _ h) h | refine bO_mono (fun _ h => ?_) h
 · cases h
theorem w_128 (l0 : List S39) (k : AV tau → Mem tau → Option Unit) : fnA E_128 C_128 D_128 Try.f128 B_128 [.sl 39 l0] ⟨[], []⟩ k = (brA (decide (((l0.length : Nat) : Int) = (0 : Int))) (k (.own 0 0) ⟨[], [some ⟨39, ([] : List S39), 0⟩]⟩) (brA (decide ((Int.toNat ((l0.length : Nat) : Int)) ≤ 17592186044416)) (k (.own 0 0) ⟨[], [some ⟨39, ((List.take ((List.replicate (Int.toNat ((l0.length : Nat) : Int)) (⟨(0 : Int), (0 : Int)⟩ : S39)).length) l0) ++ (List.drop l0.length (List.replicate (Int.toNat ((l0.length : Nat) : Int)) (⟨(0 : Int), (0 : Int)⟩ : S39)))), 0⟩]⟩) (none)) : Option Unit) := by kernel_rfl
theorem okc_128 (args : List (AV tau)) (m : Mem tau) (κ : AV tau → Mem tau → Option Unit) (hh : c_128 args m κ = some ()) : ∃ av m1, κ av m1 = some () ∧ ToldA Try.prog TT (pnT 128) 128 args m av m1 := by
 obtain ⟨bx_, rw_⟩ := m
 unfold c_128 at hh
 simp only at hh
 split at hh
 case h_2 => cases hh
 rename_i b0
 obtain ⟨l0, hx0, hh0⟩ := bO_some hh
 have ex0 := asSl_some hx0
 subst ex0
 obtain ⟨N, t, h, hκ⟩ := callX_some hh0
 refine ⟨_, _, hκ, told_of_run pq okC_128 (fun _ _ _ => drawA_ok pq okC_128 hmix) (E := E_128) (fn := Try.f128) (body := B_128) (by kernel_rfl) (by kernel_rfl) (by kernel_rfl) (by rfl) (by exact Nat.le_of_ble_eq_true rfl) (fun k hk => ?_)⟩
 refine (w_128 l0 k).trans ?_
 replace h : impl_copied_impl_Read.f l0 = some t := h
 unfold impl_copied_impl_Read.f at h
 refine ite_x h (fun c1 h => ?_) (fun _ h => by cases h)
 cases h
 exact copied_of (α := S39) l0 _ _ (k := fun q : List S39 => k (.own 0 0) ⟨[], [some ⟨39, q, 0⟩]⟩) c1 hk
noncomputable def C_129 : Ctr tau Unit := ctrS 128 c_128 C_128
noncomputable def D_129 : Drw tau := drawA E_129 C_129
theorem okC_129 : CtrOk Try.prog TT pnT C_129 := ctrS_ok okC_128 okc_128
theorem mC_129 : CtrMono C_129 := ctrS_mono mC_128 mc_128
theorem mD_129 : DrMono D_129 := drawA_mono mC_129
noncomputable def B_129 : Code := Try.f129.body.getD .skip
theorem mc_129 (args : List (AV tau)) (m : Mem tau) (k k' : AV tau → Mem tau → Option Unit) (hk : ∀ av m, k av m = some () → k' av m = some ()) (h : c_129 args m k = some ()) : c_129 args m k' = some () := by
 unfold c_129 at h ⊢
 split at h
 · repeat' first | exact callX_mono (fun _ h => hk _ _ h) h | refine bO_mono (fun _ h => ?_) h
 · cases h
theorem w_129 (l0 : List S82) (k : AV tau → Mem tau → Option Unit) : fnA E_129 C_129 D_129 Try.f129 B_129 [.sl 82 l0] ⟨[], []⟩ k = (brA (decide (((l0.length : Nat) : Int) = (0 : Int))) (k (.own 0 0) ⟨[], [some ⟨82, ([] : List S82), 0⟩]⟩) (brA (decide ((Int.toNat ((l0.length : Nat) : Int)) ≤ 17592186044416)) (k (.own 0 0) ⟨[], [some ⟨82, ((List.take ((List.replicate (Int.toNat ((l0.length : Nat) : Int)) (⟨(0 : Int), (0 : Int)⟩ : S82)).length) l0) ++ (List.drop l0.length (List.replicate (Int.toNat ((l0.length : Nat) : Int)) (⟨(0 : Int), (0 : Int)⟩ : S82)))), 0⟩]⟩) (none)) : Option Unit) := by kernel_rfl
theorem okc_129 (args : List (AV tau)) (m : Mem tau) (κ : AV tau → Mem tau → Option Unit) (hh : c_129 args m κ = some ()) : ∃ av m1, κ av m1 = some () ∧ ToldA Try.prog TT (pnT 129) 129 args m av m1 := by
 obtain ⟨bx_, rw_⟩ := m
 unfold c_129 at hh
 simp only at hh
 split at hh
 case h_2 => cases hh
 rename_i b0
 obtain ⟨l0, hx0, hh0⟩ := bO_some hh
 have ex0 := asSl_some hx0
 subst ex0
 obtain ⟨N, t, h, hκ⟩ := callX_some hh0
 refine ⟨_, _, hκ, told_of_run pq okC_129 (fun _ _ _ => drawA_ok pq okC_129 hmix) (E := E_129) (fn := Try.f129) (body := B_129) (by kernel_rfl) (by kernel_rfl) (by kernel_rfl) (by rfl) (by exact Nat.le_of_ble_eq_true rfl) (fun k hk => ?_)⟩
 refine (w_129 l0 k).trans ?_
 replace h : impl_copied_impl_Put.f l0 = some t := h
 unfold impl_copied_impl_Put.f at h
 refine ite_x h (fun c1 h => ?_) (fun _ h => by cases h)
 cases h
 exact copied_of (α := S82) l0 _ _ (k := fun q : List S82 => k (.own 0 0) ⟨[], [some ⟨82, q, 0⟩]⟩) c1 hk
noncomputable def C_61 : Ctr tau Unit := ctrS 129 c_129 C_129
noncomputable def D_61 : Drw tau := drawA E_61 C_61
theorem okC_61 : CtrOk Try.prog TT pnT C_61 := ctrS_ok okC_129 okc_129
theorem mC_61 : CtrMono C_61 := ctrS_mono mC_129 mc_129
theorem mD_61 : DrMono D_61 := drawA_mono mC_61
noncomputable def B_61 : Code := Try.f61.body.getD .skip
theorem mc_61 (args : List (AV tau)) (m : Mem tau) (k k' : AV tau → Mem tau → Option Unit) (hk : ∀ av m, k av m = some () → k' av m = some ()) (h : c_61 args m k = some ()) : c_61 args m k' = some () := by
 unfold c_61 at h ⊢
 split at h
 · repeat' first | exact callX_mono (fun _ h => hk _ _ h) h | refine bO_mono (fun _ h => ?_) h
 · cases h
noncomputable def K_61_0 (k : AV tau → Mem tau → Option Unit) : Kon tau := (kBlock 0 (kS E_61 C_61 D_61 (codeP B_61 [1, 1, 1, 1, 1]) (kEnd E_61 Try.f61 k)))
noncomputable def K_61_1 (k : AV tau → Mem tau → Option Unit) : Kon tau := (kBlock 3 (kBlock 1 (kS E_61 C_61 D_61 (codeP B_61 [1, 1, 1, 1, 0, 1, 0, 0, 1, 1]) (kL E_61 C_61 D_61 (codeP B_61 [1, 1, 1, 1, 0, 1, 0, 0]) (kBlock 0 (kS E_61 C_61 D_61 (codeP B_61 [1, 1, 1, 1, 1]) (kEnd E_61 Try.f61 k)))))))
def st_61_0 (x0 : (List S37)) (x1 : (List S95)) (x2 : Int) (x3 : Int) (x4 : Int) (x5 : Int) (x6 : Int) (x7 : Int) (x8 : Int) (x9 : Int) (x10 : Int) (x11 : (List S39)) (x12 : (List S82)) (x13 : (List S39)) (x14 : (List S82)) : St tau := ⟨tmL 182 0 [(0, .sl 37 x0), (1, .sl 95 x1), (4, .ptr 0 0), (5, .ptr 1 0), (6, .ptr 2 0), (7, .int .i64 x2)], ⟨[some (26, [.own 0 0, .own 1 0, .int .i64 x3, .int .i64 x4]), some (158, [.int .i64 x5, .int .i64 x6, .int .i64 x7, .int .i64 x8]), some (26, [.own 2 0, .own 3 0, .int .i64 x9, .int .i64 x10])], [some ⟨39, x11, 0⟩, some ⟨82, x12, 0⟩, some ⟨39, x13, 0⟩, some ⟨82, x14, 0⟩]⟩⟩
noncomputable def LP_61_0 (k : AV tau → Mem tau → Option Unit) (x0 : (List S37)) (x1 : (List S95)) (x2 : Int) (x3 : Int) (x4 : Int) (x5 : Int) (x6 : Int) (x7 : Int) (x8 : Int) (x9 : Int) (x10 : Int) (x11 : (List S39)) (x12 : (List S82)) (x13 : (List S39)) (x14 : (List S82)) : Option Unit := loopA E_61 (codeA E_61 C_61 D_61 (codeP B_61 [1, 1, 1, 1, 0, 1, 0, 0])) (codeP B_61 [1, 1, 1, 1, 0, 1, 0, 0]) (K_61_0 k) (st_61_0 x0 x1 x2 x3 x4 x5 x6 x7 x8 x9 x10 x11 x12 x13 x14)
def st_61_1 (x0 : (List S37)) (x1 : (List S95)) (x2 : Int) (x3 : Int) (x4 : Int) (x5 : Int) (x6 : Int) (x7 : Int) (x8 : Int) (x9 : Int) (x10 : Int) (x11 : Int) (x12 : Int) (x13 : Int) (x14 : Int) (x15 : Int) (x16 : (List S39)) (x17 : (List S82)) (x18 : (List S39)) (x19 : (List S82)) : St tau := ⟨tmL 182 0 [(0, .sl 37 x0), (1, .sl 95 x1), (4, .ptr 0 0), (5, .ptr 1 0), (6, .ptr 2 0), (7, .int .i64 x2), (161, .agg [.int .i64 x3, .int .i64 x4, .int .i64 x5, .int .i64 x6]), (162, .int .i64 x7)], ⟨[some (26, [.own 0 0, .own 1 0, .int .i64 x8, .int .i64 x9]), some (158, [.int .i64 x10, .int .i64 x11, .int .i64 x12, .int .i64 x13]), some (26, [.own 2 0, .own 3 0, .int .i64 x14, .int .i64 x15])], [some ⟨39, x16, 0⟩, some ⟨82, x17, 0⟩, some ⟨39, x18, 0⟩, some ⟨82, x19, 0⟩]⟩⟩
noncomputable def LP_61_1 (k : AV tau → Mem tau → Option Unit) (x0 : (List S37)) (x1 : (List S95)) (x2 : Int) (x3 : Int) (x4 : Int) (x5 : Int) (x6 : Int) (x7 : Int) (x8 : Int) (x9 : Int) (x10 : Int) (x11 : Int) (x12 : Int) (x13 : Int) (x14 : Int) (x15 : Int) (x16 : (List S39)) (x17 : (List S82)) (x18 : (List S39)) (x19 : (List S82)) : Option Unit := loopA E_61 (codeA E_61 C_61 D_61 (codeP B_61 [1, 1, 1, 1, 0, 1, 0, 0, 1, 0, 0, 1, 1, 1, 0, 0])) (codeP B_61 [1, 1, 1, 1, 0, 1, 0, 0, 1, 0, 0, 1, 1, 1, 0, 0]) (K_61_1 k) (st_61_1 x0 x1 x2 x3 x4 x5 x6 x7 x8 x9 x10 x11 x12 x13 x14 x15 x16 x17 x18 x19)
theorem w_61_0 (k : AV tau → Mem tau → Option Unit) (x0 : (List S37)) (x1 : (List S95)) (x2 : Int) (x3 : Int) (x4 : Int) (x5 : Int) (x6 : Int) (x7 : Int) (x8 : Int) (x9 : Int) (x10 : Int) (x11 : (List S39)) (x12 : (List S82)) (x13 : (List S39)) (x14 : (List S82)) : codeA E_61 C_61 D_61 (codeP B_61 [1, 1, 1, 1, 0, 1, 0, 0]) (kL E_61 C_61 D_61 (codeP B_61 [1, 1, 1, 1, 0, 1, 0, 0]) (K_61_0 k)) (st_61_0 x0 x1 x2 x3 x4 x5 x6 x7 x8 x9 x10 x11 x12 x13 x14) = (brA (decide (x2 < ((x1.length : Nat) : Int))) (brA (decide ((0 : Int) ≤ x2)) (brA (decide (x2 < ((x1.length : Nat) : Int))) (brA (decide ((rd_T95 x1 x2).f0 = (1 : Int))) (callX (fun n => impl_putAt.f n x13 x14 x9 x10 ((rd_T95 x1 x2).f2)) fun t2 => brA (decide (t2 ≥ (0 : Int))) (brA (decide ((0 : Int) ≤ t2)) (brA (decide (t2 < ((x14.length : Nat) : Int))) (brA (decide ((0 : Int) ≤ (rd_T95 x1 x2).f1)) (brA (decide ((rd_T95 x1 x2).f1 < (4 : Int))) (LP_61_1 k x0 x1 x2 (if (rd_T95 x1 x2).f1 = (0 : Int) then (rd_T82 x14 t2).f1 else x5) (if (rd_T95 x1 x2).f1 = (1 : Int) then (rd_T82 x14 t2).f1 else x6) (if (rd_T95 x1 x2).f1 = (2 : Int) then (rd_T82 x14 t2).f1 else x7) (if (rd_T95 x1 x2).f1 = (3 : Int) then (rd_T82 x14 t2).f1 else x8) (0 : Int) x3 x4 (if (rd_T95 x1 x2).f1 = (0 : Int) then (rd_T82 x14 t2).f1 else x5) (if (rd_T95 x1 x2).f1 = (1 : Int) then (rd_T82 x14 t2).f1 else x6) (if (rd_T95 x1 x2).f1 = (2 : Int) then (rd_T82 x14 t2).f1 else x7) (if (rd_T95 x1 x2).f1 = (3 : Int) then (rd_T82 x14 t2).f1 else x8) x9 x10 x11 x12 x13 x14) (none)) (none)) (none)) (none)) (callX (fun n => impl_readAt.f n x13 x14 x9 x10 ((rd_T95 x1 x2).f2)) fun t3 => brA (decide (t3 < (0 : Int))) (brA (decide ((0 : Int) ≤ (rd_T95 x1 x2).f2)) (brA (decide ((rd_T95 x1 x2).f2 < ((x0.length : Nat) : Int))) (brA (decide ((x13.length + 1) ≤ 8796093022208)) (brA (decide ((0 : Int) ≤ (rd_T95 x1 x2).f2)) (brA (decide ((rd_T95 x1 x2).f2 < ((x0.length : Nat) : Int))) (brA (decide ((0 : Int) ≤ (rd_T95 x1 x2).f1)) (brA (decide ((rd_T95 x1 x2).f1 < (4 : Int))) (LP_61_1 k x0 x1 x2 (if (rd_T95 x1 x2).f1 = (0 : Int) then (rd_T37 x0 ((rd_T95 x1 x2).f2)).f1 else x5) (if (rd_T95 x1 x2).f1 = (1 : Int) then (rd_T37 x0 ((rd_T95 x1 x2).f2)).f1 else x6) (if (rd_T95 x1 x2).f1 = (2 : Int) then (rd_T37 x0 ((rd_T95 x1 x2).f2)).f1 else x7) (if (rd_T95 x1 x2).f1 = (3 : Int) then (rd_T37 x0 ((rd_T95 x1 x2).f2)).f1 else x8) (0 : Int) x3 x4 (if (rd_T95 x1 x2).f1 = (0 : Int) then (rd_T37 x0 ((rd_T95 x1 x2).f2)).f1 else x5) (if (rd_T95 x1 x2).f1 = (1 : Int) then (rd_T37 x0 ((rd_T95 x1 x2).f2)).f1 else x6) (if (rd_T95 x1 x2).f1 = (2 : Int) then (rd_T37 x0 ((rd_T95 x1 x2).f2)).f1 else x7) (if (rd_T95 x1 x2).f1 = (3 : Int) then (rd_T37 x0 ((rd_T95 x1 x2).f2)).f1 else x8) x9 x10 x11 x12 (x13 ++ ([(⟨(rd_T95 x1 x2).f2, (rd_T37 x0 ((rd_T95 x1 x2).f2)).f0⟩ : S39)] : List S39)) x14) (none)) (none)) (none)) (none)) (none)) (none)) (none)) (brA (decide ((0 : Int) ≤ (rd_T95 x1 x2).f2)) (brA (decide ((rd_T95 x1 x2).f2 < ((x0.length : Nat) : Int))) (brA (decide ((0 : Int) ≤ (rd_T95 x1 x2).f1)) (brA (decide ((rd_T95 x1 x2).f1 < (4 : Int))) (LP_61_1 k x0 x1 x2 (if (rd_T95 x1 x2).f1 = (0 : Int) then (rd_T37 x0 ((rd_T95 x1 x2).f2)).f1 else x5) (if (rd_T95 x1 x2).f1 = (1 : Int) then (rd_T37 x0 ((rd_T95 x1 x2).f2)).f1 else x6) (if (rd_T95 x1 x2).f1 = (2 : Int) then (rd_T37 x0 ((rd_T95 x1 x2).f2)).f1 else x7) (if (rd_T95 x1 x2).f1 = (3 : Int) then (rd_T37 x0 ((rd_T95 x1 x2).f2)).f1 else x8) (0 : Int) x3 x4 (if (rd_T95 x1 x2).f1 = (0 : Int) then (rd_T37 x0 ((rd_T95 x1 x2).f2)).f1 else x5) (if (rd_T95 x1 x2).f1 = (1 : Int) then (rd_T37 x0 ((rd_T95 x1 x2).f2)).f1 else x6) (if (rd_T95 x1 x2).f1 = (2 : Int) then (rd_T37 x0 ((rd_T95 x1 x2).f2)).f1 else x7) (if (rd_T95 x1 x2).f1 = (3 : Int) then (rd_T37 x0 ((rd_T95 x1 x2).f2)).f1 else x8) x9 x10 x11 x12 x13 x14) (none)) (none)) (none)) (none)))) (brA (decide ((rd_T95 x1 x2).f0 = (2 : Int))) (callX (fun n => impl_putAt.f n x13 x14 x9 x10 ((rd_T95 x1 x2).f1)) fun t4 => brA (decide (t4 ≥ (0 : Int))) (brA (decide ((0 : Int) ≤ (rd_T95 x1 x2).f2)) (brA (decide ((rd_T95 x1 x2).f2 < (4 : Int))) (brA (decide ((0 : Int) ≤ t4)) (brA (decide (t4 < ((x14.length : Nat) : Int))) (LP_61_1 k x0 x1 x2 x5 x6 x7 x8 (0 : Int) x3 x4 x5 x6 x7 x8 x9 x10 x11 x12 x13 (List.set x14 (Int.toNat t4) (⟨(rd_T82 x14 t4).f0, (rd ([x5, x6, x7, x8] : List Int) ((rd_T95 x1 x2).f2))⟩ : S82))) (none)) (none)) (none)) (none)) (brA (decide ((0 : Int) ≤ (rd_T95 x1 x2).f2)) (brA (decide ((rd_T95 x1 x2).f2 < (4 : Int))) (brA (decide ((x14.length + 1) ≤ 8796093022208)) (LP_61_1 k x0 x1 x2 x5 x6 x7 x8 (0 : Int) x3 x4 x5 x6 x7 x8 x9 x10 x11 x12 x13 (x14 ++ ([(⟨(rd_T95 x1 x2).f1, (rd ([x5, x6, x7, x8] : List Int) ((rd_T95 x1 x2).f2))⟩ : S82)] : List S82))) (none)) (none)) (none))) (brA (decide ((rd_T95 x1 x2).f0 = (3 : Int))) (brA (decide ((0 : Int) ≤ (rd_T95 x1 x2).f1)) (brA (decide ((rd_T95 x1 x2).f1 < (4 : Int))) (LP_61_1 k x0 x1 x2 (if (rd_T95 x1 x2).f1 = (0 : Int) then (rd_T95 x1 x2).f3 else x5) (if (rd_T95 x1 x2).f1 = (1 : Int) then (rd_T95 x1 x2).f3 else x6) (if (rd_T95 x1 x2).f1 = (2 : Int) then (rd_T95 x1 x2).f3 else x7) (if (rd_T95 x1 x2).f1 = (3 : Int) then (rd_T95 x1 x2).f3 else x8) (0 : Int) x3 x4 (if (rd_T95 x1 x2).f1 = (0 : Int) then (rd_T95 x1 x2).f3 else x5) (if (rd_T95 x1 x2).f1 = (1 : Int) then (rd_T95 x1 x2).f3 else x6) (if (rd_T95 x1 x2).f1 = (2 : Int) then (rd_T95 x1 x2).f3 else x7) (if (rd_T95 x1 x2).f1 = (3 : Int) then (rd_T95 x1 x2).f3 else x8) x9 x10 x11 x12 x13 x14) (none)) (none)) (brA (decide ((rd_T95 x1 x2).f0 = (4 : Int))) (brA (decide ((0 : Int) ≤ (rd_T95 x1 x2).f1)) (brA (decide ((rd_T95 x1 x2).f1 < (4 : Int))) (brA (decide ((0 : Int) ≤ (rd_T95 x1 x2).f2)) (brA (decide ((rd_T95 x1 x2).f2 < (4 : Int))) (brA (decide ((0 : Int) ≤ (rd_T95 x1 x2).f1)) (brA (decide ((rd_T95 x1 x2).f1 < (4 : Int))) (LP_61_1 k x0 x1 x2 (if (rd_T95 x1 x2).f1 = (0 : Int) then (wrap64 ((rd ([x5, x6, x7, x8] : List Int) ((rd_T95 x1 x2).f1)) + (rd ([x5, x6, x7, x8] : List Int) ((rd_T95 x1 x2).f2)))) else x5) (if (rd_T95 x1 x2).f1 = (1 : Int) then (wrap64 ((rd ([x5, x6, x7, x8] : List Int) ((rd_T95 x1 x2).f1)) + (rd ([x5, x6, x7, x8] : List Int) ((rd_T95 x1 x2).f2)))) else x6) (if (rd_T95 x1 x2).f1 = (2 : Int) then (wrap64 ((rd ([x5, x6, x7, x8] : List Int) ((rd_T95 x1 x2).f1)) + (rd ([x5, x6, x7, x8] : List Int) ((rd_T95 x1 x2).f2)))) else x7) (if (rd_T95 x1 x2).f1 = (3 : Int) then (wrap64 ((rd ([x5, x6, x7, x8] : List Int) ((rd_T95 x1 x2).f1)) + (rd ([x5, x6, x7, x8] : List Int) ((rd_T95 x1 x2).f2)))) else x8) (0 : Int) x3 x4 (if (rd_T95 x1 x2).f1 = (0 : Int) then (wrap64 ((rd ([x5, x6, x7, x8] : List Int) ((rd_T95 x1 x2).f1)) + (rd ([x5, x6, x7, x8] : List Int) ((rd_T95 x1 x2).f2)))) else x5) (if (rd_T95 x1 x2).f1 = (1 : Int) then (wrap64 ((rd ([x5, x6, x7, x8] : List Int) ((rd_T95 x1 x2).f1)) + (rd ([x5, x6, x7, x8] : List Int) ((rd_T95 x1 x2).f2)))) else x6) (if (rd_T95 x1 x2).f1 = (2 : Int) then (wrap64 ((rd ([x5, x6, x7, x8] : List Int) ((rd_T95 x1 x2).f1)) + (rd ([x5, x6, x7, x8] : List Int) ((rd_T95 x1 x2).f2)))) else x7) (if (rd_T95 x1 x2).f1 = (3 : Int) then (wrap64 ((rd ([x5, x6, x7, x8] : List Int) ((rd_T95 x1 x2).f1)) + (rd ([x5, x6, x7, x8] : List Int) ((rd_T95 x1 x2).f2)))) else x8) x9 x10 x11 x12 x13 x14) (none)) (none)) (none)) (none)) (none)) (none)) (brA (decide ((rd_T95 x1 x2).f0 = (5 : Int))) (brA (decide ((0 : Int) ≤ (rd_T95 x1 x2).f1)) (brA (decide ((rd_T95 x1 x2).f1 < (4 : Int))) (brA (decide ((0 : Int) ≤ (rd_T95 x1 x2).f2)) (brA (decide ((rd_T95 x1 x2).f2 < (4 : Int))) (brA (decide ((0 : Int) ≤ (rd_T95 x1 x2).f1)) (brA (decide ((rd_T95 x1 x2).f1 < (4 : Int))) (LP_61_1 k x0 x1 x2 (if (rd_T95 x1 x2).f1 = (0 : Int) then (wrap64 ((rd ([x5, x6, x7, x8] : List Int) ((rd_T95 x1 x2).f1)) - (rd ([x5, x6, x7, x8] : List Int) ((rd_T95 x1 x2).f2)))) else x5) (if (rd_T95 x1 x2).f1 = (1 : Int) then (wrap64 ((rd ([x5, x6, x7, x8] : List Int) ((rd_T95 x1 x2).f1)) - (rd ([x5, x6, x7, x8] : List Int) ((rd_T95 x1 x2).f2)))) else x6) (if (rd_T95 x1 x2).f1 = (2 : Int) then (wrap64 ((rd ([x5, x6, x7, x8] : List Int) ((rd_T95 x1 x2).f1)) - (rd ([x5, x6, x7, x8] : List Int) ((rd_T95 x1 x2).f2)))) else x7) (if (rd_T95 x1 x2).f1 = (3 : Int) then (wrap64 ((rd ([x5, x6, x7, x8] : List Int) ((rd_T95 x1 x2).f1)) - (rd ([x5, x6, x7, x8] : List Int) ((rd_T95 x1 x2).f2)))) else x8) (0 : Int) x3 x4 (if (rd_T95 x1 x2).f1 = (0 : Int) then (wrap64 ((rd ([x5, x6, x7, x8] : List Int) ((rd_T95 x1 x2).f1)) - (rd ([x5, x6, x7, x8] : List Int) ((rd_T95 x1 x2).f2)))) else x5) (if (rd_T95 x1 x2).f1 = (1 : Int) then (wrap64 ((rd ([x5, x6, x7, x8] : List Int) ((rd_T95 x1 x2).f1)) - (rd ([x5, x6, x7, x8] : List Int) ((rd_T95 x1 x2).f2)))) else x6) (if (rd_T95 x1 x2).f1 = (2 : Int) then (wrap64 ((rd ([x5, x6, x7, x8] : List Int) ((rd_T95 x1 x2).f1)) - (rd ([x5, x6, x7, x8] : List Int) ((rd_T95 x1 x2).f2)))) else x7) (if (rd_T95 x1 x2).f1 = (3 : Int) then (wrap64 ((rd ([x5, x6, x7, x8] : List Int) ((rd_T95 x1 x2).f1)) - (rd ([x5, x6, x7, x8] : List Int) ((rd_T95 x1 x2).f2)))) else x8) x9 x10 x11 x12 x13 x14) (none)) (none)) (none)) (none)) (none)) (none)) (brA (decide ((rd_T95 x1 x2).f0 = (6 : Int))) (brA (decide ((0 : Int) ≤ (rd_T95 x1 x2).f1)) (brA (decide ((rd_T95 x1 x2).f1 < (4 : Int))) (brA (decide ((0 : Int) ≤ (rd_T95 x1 x2).f2)) (brA (decide ((rd_T95 x1 x2).f2 < (4 : Int))) (brA (decide ((rd ([x5, x6, x7, x8] : List Int) ((rd_T95 x1 x2).f1)) < (rd ([x5, x6, x7, x8] : List Int) ((rd_T95 x1 x2).f2)))) (LP_61_1 k x0 x1 (wrap64 (x2 + (rd_T95 x1 x2).f3)) x5 x6 x7 x8 (0 : Int) x3 x4 x5 x6 x7 x8 x9 x10 x11 x12 x13 x14) (LP_61_1 k x0 x1 x2 x5 x6 x7 x8 (0 : Int) x3 x4 x5 x6 x7 x8 x9 x10 x11 x12 x13 x14)) (none)) (none)) (none)) (none)) (brA (decide ((rd_T95 x1 x2).f0 = (7 : Int))) (callX (fun n => impl_copied_impl_Read.f x13) fun t5 => k (.agg [.own 0 0, .own 1 0, .int .i64 (0 : Int), .int .i64 (1 : Int)]) ⟨[], [some ⟨39, t5, 0⟩, some ⟨82, ([] : List S82), 0⟩]⟩) (LP_61_1 k x0 x1 x2 x5 x6 x7 x8 (0 : Int) x3 x4 x5 x6 x7 x8 x9 x10 x11 x12 x13 x14)))))))) (none)) (none)) (callX (fun n => impl_copied_impl_Read.f x13) fun t6 => callX (fun n => impl_copied_impl_Put.f x14) fun t7 => k (.agg [.own 0 0, .own 1 0, .int .i64 (rd ([x5, x6, x7, x8] : List Int) (0 : Int)), .int .i64 (0 : Int)]) ⟨[], [some ⟨39, t6, 0⟩, some ⟨82, t7, 0⟩]⟩) : Option Unit) := by
 simp only [← wrapA_i64]
 kernel_rfl
theorem w_61_1 (k : AV tau → Mem tau → Option Unit) (x0 : (List S37)) (x1 : (List S95)) (x2 : Int) (x3 : Int) (x4 : Int) (x5 : Int) (x6 : Int) (x7 : Int) (x8 : Int) (x9 : Int) (x10 : Int) (x11 : Int) (x12 : Int) (x13 : Int) (x14 : Int) (x15 : Int) (x16 : (List S39)) (x17 : (List S82)) (x18 : (List S39)) (x19 : (List S82)) : codeA E_61 C_61 D_61 (codeP B_61 [1, 1, 1, 1, 0, 1, 0, 0, 1, 0, 0, 1, 1, 1, 0, 0]) (kL E_61 C_61 D_61 (codeP B_61 [1, 1, 1, 1, 0, 1, 0, 0, 1, 0, 0, 1, 1, 1, 0, 0]) (K_61_1 k)) (st_61_1 x0 x1 x2 x3 x4 x5 x6 x7 x8 x9 x10 x11 x12 x13 x14 x15 x16 x17 x18 x19) = (brA (decide (x7 < (4 : Int))) (brA (decide ((0 : Int) ≤ x7)) (brA (decide (x7 < (4 : Int))) (callX (fun n => impl_in.f (rd ([x3, x4, x5, x6] : List Int) x7) (-(1000000 : Int)) (1000000 : Int)) fun t8 => brA (!t8) (callX (fun n => impl_copied_impl_Read.f x18) fun t9 => k (.agg [.own 0 0, .own 1 0, .int .i64 (0 : Int), .int .i64 (2 : Int)]) ⟨[], [some ⟨39, t9, 0⟩, some ⟨82, ([] : List S82), 0⟩]⟩) (LP_61_1 k x0 x1 x2 x3 x4 x5 x6 (wrap64 (x7 + (1 : Int))) x8 x9 x10 x11 x12 x13 x14 x15 x16 x17 x18 x19)) (none)) (none)) (LP_61_0 k x0 x1 (wrap64 (x2 + (1 : Int))) x8 x9 x10 x11 x12 x13 x14 x15 x16 x17 x18 x19) : Option Unit) := by
 simp only [← wrapA_i64]
 kernel_rfl
theorem w_61 (l0 : List S37) (l1 : List S95) (k : AV tau → Mem tau → Option Unit) : fnA E_61 C_61 D_61 Try.f61 B_61 [.sl 37 l0, .sl 95 l1] ⟨[], []⟩ k = (callX (fun n => impl_BoxOk.f n l0) fun t0 => brA (!t0) (k (.agg [.own 0 0, .own 1 0, .int .i64 (0 : Int), .int .i64 (3 : Int)]) ⟨[], [some ⟨39, ([] : List S39), 0⟩, some ⟨82, ([] : List S82), 0⟩]⟩) (callX (fun n => impl_ProgOk.f n l1) fun t1 => brA (!t1) (k (.agg [.own 0 0, .own 1 0, .int .i64 (0 : Int), .int .i64 (3 : Int)]) ⟨[], [some ⟨39, ([] : List S39), 0⟩, some ⟨82, ([] : List S82), 0⟩]⟩) (LP_61_0 k l0 l1 (0 : Int) (0 : Int) (0 : Int) (0 : Int) (0 : Int) (0 : Int) (0 : Int) (0 : Int) (0 : Int) ([] : List S39) ([] : List S82) ([] : List S39) ([] : List S82))) : Option Unit) := by kernel_rfl
def S_61_0 (N : Nat) : Prop := ∀ (k : AV tau → Mem tau → Option Unit) (x0 : (List S37)) (x1 : (List S95)) (x2 : Int) (x3 : Int) (x4 : Int) (x5 : Int) (x6 : Int) (x7 : Int) (x8 : Int) (x9 : Int) (x10 : Int) (x11 : (List S39)) (x12 : (List S82)) (x13 : (List S39)) (x14 : (List S82)) (r : (List (S39)) × (List (S82)) × Int × Int), impl_ExecRun.l0 N (x0) (x1) (x2) (x5) (x6) (x7) (x8) (x13) (x14) (x9) (x10) = some r → k (.agg [.own 0 0, .own 1 0, .int .i64 (r.2.2.1), .int .i64 (r.2.2.2)]) ⟨[], [some ⟨39, r.1, 0⟩, some ⟨82, r.2.1, 0⟩]⟩ = some () → LP_61_0 k x0 x1 x2 x3 x4 x5 x6 x7 x8 x9 x10 x11 x12 x13 x14 = some ()
def S_61_1 (N : Nat) : Prop := ∀ (k : AV tau → Mem tau → Option Unit) (x0 : (List S37)) (x1 : (List S95)) (x2 : Int) (x3 : Int) (x4 : Int) (x5 : Int) (x6 : Int) (x7 : Int) (x8 : Int) (x9 : Int) (x10 : Int) (x11 : Int) (x12 : Int) (x13 : Int) (x14 : Int) (x15 : Int) (x16 : (List S39)) (x17 : (List S82)) (x18 : (List S39)) (x19 : (List S82)) (r : (List (S39)) × (List (S82)) × Int × Int), impl_ExecRun.l1 N (x0) (x1) (x2) (x7) (x10) (x11) (x12) (x13) (x18) (x19) (x14) (x15) (x3) (x4) (x5) (x6) = some r → k (.agg [.own 0 0, .own 1 0, .int .i64 (r.2.2.1), .int .i64 (r.2.2.2)]) ⟨[], [some ⟨39, r.1, 0⟩, some ⟨82, r.2.1, 0⟩]⟩ = some () → LP_61_1 k x0 x1 x2 x3 x4 x5 x6 x7 x8 x9 x10 x11 x12 x13 x14 x15 x16 x17 x18 x19 = some ()
theorem L_61 (N : Nat) : S_61_0 N ∧ S_61_1 N := by
 induction N using Nat.strongRecOn with | _ N0 ih =>
 refine ⟨?_, ?_⟩
 ·intro k x0 x1 x2 x3 x4 x5 x6 x7 x8 x9 x10 x11 x12 x13 x14 r h hk
  rcases N0 with _ | N
  · cases h
  first | rw [impl_ExecRun.l0] at h | simp only [impl_ExecRun.l0] at h | (unfold impl_ExecRun.l0 at h; dsimp only at h)
  refine loop_fold mC_61 mD_61 ?_
  refine (w_61_0 k x0 x1 x2 x3 x4 x5 x6 x7 x8 x9 x10 x11 x12 x13 x14).trans ?_
  refine br_eti h rfl (fun c135 h => ?_) (fun c135 h => ?_)
  ·refine call_h 0 h (fun t6 e136 h => ?_)
   refine call_h 0 h (fun t7 e137 h => ?_)
   cases h; exact hk
  refine br_g h rfl (fun c138 h => ?_)
  refine br_t (by first | (simp [c135]; done) | (simp; omega) | (simp only [List.length_append, List.length_cons, List.length_nil, List.length_take, List.length_drop] at c135 ⊢; simp; omega) | (simp only [List.length_append, List.length_cons, List.length_nil, List.length_take, List.length_drop] at c135; simp; omega) | (simp_all; done)) ?_
  refine br_ite h rfl (fun c139 h => ?_) (fun c139 h => ?_)
  ·refine call_h N h (fun t2 e140 h => ?_)
   refine br_ite h rfl (fun c141 h => ?_) (fun c141 h => ?_)
   ·refine br_g h rfl (fun c142 h => ?_)
    refine br_g h rfl (fun c143 h => ?_)
    refine br_g h rfl (fun c144 h => ?_)
    refine br_g h rfl (fun c145 h => ?_)
    rcases N with _ | N
    · cases h
    first | rw [impl_ExecRun.j2] at h | simp only [impl_ExecRun.j2] at h | (unfold impl_ExecRun.j2 at h; dsimp only at h)
    exact (ih N (by omega)).2 _ _ _ _ _ _ _ _ _ _ _ _ _ _ _ _ _ _ _ _ _ _ h hk
   refine call_h N h (fun t3 e146 h => ?_)
   refine br_eti h rfl (fun c147 h => ?_) (fun c147 h => ?_)
   ·refine br_g h rfl (fun c148 h => ?_)
    refine br_g h rfl (fun c149 h => ?_)
    refine br_g h rfl (fun c150 h => ?_)
    refine br_g h rfl (fun c151 h => ?_)
    rcases N with _ | N
    · cases h
    first | rw [impl_ExecRun.j2] at h | simp only [impl_ExecRun.j2] at h | (unfold impl_ExecRun.j2 at h; dsimp only at h)
    exact (ih N (by omega)).2 _ _ _ _ _ _ _ _ _ _ _ _ _ _ _ _ _ _ _ _ _ _ h hk
   refine br_g h rfl (fun c152 h => ?_)
   refine br_g h rfl (fun c153 h => ?_)
   refine br_g h (by first | rfl | exact dect | exact (congrArg not dect) | (simp; done) | (simp [beqI]; done) | (simp; omega)) (fun c154 h => ?_)
   refine br_t (by first | (simp [c152]; done) | (simp; omega) | (simp only [List.length_append, List.length_cons, List.length_nil, List.length_take, List.length_drop] at c154 c153 c135 ⊢; simp; omega) | (simp only [List.length_append, List.length_cons, List.length_nil, List.length_take, List.length_drop] at c154 c153 c135; simp; omega) | (simp_all; done)) ?_
   refine br_t (by first | (simp [c153]; done) | (simp; omega) | (simp only [List.length_append, List.length_cons, List.length_nil, List.length_take, List.length_drop] at c154 c153 c135 ⊢; simp; omega) | (simp only [List.length_append, List.length_cons, List.length_nil, List.length_take, List.length_drop] at c154 c153 c135; simp; omega) | (simp_all; done)) ?_
   refine br_g h rfl (fun c155 h => ?_)
   refine br_g h rfl (fun c156 h => ?_)
   rcases N with _ | N
   · cases h
   first | rw [impl_ExecRun.j2] at h | simp only [impl_ExecRun.j2] at h | (unfold impl_ExecRun.j2 at h; dsimp only at h)
   exact (ih N (by omega)).2 _ _ _ _ _ _ _ _ _ _ _ _ _ _ _ _ _ _ _ _ _ _ h hk
  refine br_ite h rfl (fun c157 h => ?_) (fun c157 h => ?_)
  ·refine call_h N h (fun t4 e158 h => ?_)
   refine br_eti h rfl (fun c159 h => ?_) (fun c159 h => ?_)
   ·refine br_g h rfl (fun c160 h => ?_)
    refine br_g h rfl (fun c161 h => ?_)
    refine br_g h (by first | rfl | exact dect | exact (congrArg not dect) | (simp; done) | (simp [beqI]; done) | (simp; omega)) (fun c162 h => ?_)
    rcases N with _ | N
    · cases h
    first | rw [impl_ExecRun.j2] at h | simp only [impl_ExecRun.j2] at h | (unfold impl_ExecRun.j2 at h; dsimp only at h)
    exact (ih N (by omega)).2 _ _ _ _ _ _ _ _ _ _ _ _ _ _ _ _ _ _ _ _ _ _ h hk
   refine br_g h rfl (fun c163 h => ?_)
   refine br_g h rfl (fun c164 h => ?_)
   refine br_g h rfl (fun c165 h => ?_)
   refine br_g h rfl (fun c166 h => ?_)
   rcases N with _ | N
   · cases h
   first | rw [impl_ExecRun.j2] at h | simp only [impl_ExecRun.j2] at h | (unfold impl_ExecRun.j2 at h; dsimp only at h)
   exact (ih N (by omega)).2 _ _ _ _ _ _ _ _ _ _ _ _ _ _ _ _ _ _ _ _ _ _ h hk
  refine br_ite h rfl (fun c167 h => ?_) (fun c167 h => ?_)
  ·refine br_g h rfl (fun c168 h => ?_)
   refine br_g h rfl (fun c169 h => ?_)
   rcases N with _ | N
   · cases h
   first | rw [impl_ExecRun.j2] at h | simp only [impl_ExecRun.j2] at h | (unfold impl_ExecRun.j2 at h; dsimp only at h)
   exact (ih N (by omega)).2 _ _ _ _ _ _ _ _ _ _ _ _ _ _ _ _ _ _ _ _ _ _ h hk
  refine br_ite h rfl (fun c170 h => ?_) (fun c170 h => ?_)
  ·refine br_g h rfl (fun c171 h => ?_)
   refine br_g h rfl (fun c172 h => ?_)
   refine br_g h rfl (fun c173 h => ?_)
   refine br_g h rfl (fun c174 h => ?_)
   rcases N with _ | N
   · cases h
   first | rw [impl_ExecRun.j2] at h | simp only [impl_ExecRun.j2] at h | (unfold impl_ExecRun.j2 at h; dsimp only at h)
   refine br_t (by first | (simp [c171]; done) | (simp; omega) | (simp only [List.length_append, List.length_cons, List.length_nil, List.length_take, List.length_drop] at c135 ⊢; simp; omega) | (simp only [List.length_append, List.length_cons, List.length_nil, List.length_take, List.length_drop] at c135; simp; omega) | (simp_all; done)) ?_
   refine br_t (by first | (simp [c172]; done) | (simp; omega) | (simp only [List.length_append, List.length_cons, List.length_nil, List.length_take, List.length_drop] at c135 ⊢; simp; omega) | (simp only [List.length_append, List.length_cons, List.length_nil, List.length_take, List.length_drop] at c135; simp; omega) | (simp_all; done)) ?_
   exact (ih N (by omega)).2 _ _ _ _ _ _ _ _ _ _ _ _ _ _ _ _ _ _ _ _ _ _ h hk
  refine br_eti h rfl (fun c175 h => ?_) (fun c175 h => ?_)
  ·refine br_eti h rfl (fun c176 h => ?_) (fun c176 h => ?_)
   ·refine br_eti h rfl (fun c177 h => ?_) (fun c177 h => ?_)
    ·rcases N with _ | N
     · cases h
     first | rw [impl_ExecRun.j2] at h | simp only [impl_ExecRun.j2] at h | (unfold impl_ExecRun.j2 at h; dsimp only at h)
     exact (ih N (by omega)).2 _ _ _ _ _ _ _ _ _ _ _ _ _ _ _ _ _ _ _ _ _ _ h hk
    refine call_h 0 h (fun t5 e178 h => ?_)
    cases h; exact hk
   refine br_g h rfl (fun c179 h => ?_)
   refine br_g h rfl (fun c180 h => ?_)
   refine br_g h rfl (fun c181 h => ?_)
   refine br_g h rfl (fun c182 h => ?_)
   refine br_eti h rfl (fun c183 h => ?_) (fun c183 h => ?_)
   ·rcases N with _ | N
    · cases h
    first | rw [impl_ExecRun.j2] at h | simp only [impl_ExecRun.j2] at h | (unfold impl_ExecRun.j2 at h; dsimp only at h)
    exact (ih N (by omega)).2 _ _ _ _ _ _ _ _ _ _ _ _ _ _ _ _ _ _ _ _ _ _ h hk
   rcases N with _ | N
   · cases h
   first | rw [impl_ExecRun.j2] at h | simp only [impl_ExecRun.j2] at h | (unfold impl_ExecRun.j2 at h; dsimp only at h)
   exact (ih N (by omega)).2 _ _ _ _ _ _ _ _ _ _ _ _ _ _ _ _ _ _ _ _ _ _ h hk
  refine br_g h rfl (fun c184 h => ?_)
  refine br_g h rfl (fun c185 h => ?_)
  refine br_g h rfl (fun c186 h => ?_)
  refine br_g h rfl (fun c187 h => ?_)
  rcases N with _ | N
  · cases h
  first | rw [impl_ExecRun.j2] at h | simp only [impl_ExecRun.j2] at h | (unfold impl_ExecRun.j2 at h; dsimp only at h)
  refine br_t (by first | (simp [c184]; done) | (simp; omega) | (simp only [List.length_append, List.length_cons, List.length_nil, List.length_take, List.length_drop] at c135 ⊢; simp; omega) | (simp only [List.length_append, List.length_cons, List.length_nil, List.length_take, List.length_drop] at c135; simp; omega) | (simp_all; done)) ?_
  refine br_t (by first | (simp [c185]; done) | (simp; omega) | (simp only [List.length_append, List.length_cons, List.length_nil, List.length_take, List.length_drop] at c135 ⊢; simp; omega) | (simp only [List.length_append, List.length_cons, List.length_nil, List.length_take, List.length_drop] at c135; simp; omega) | (simp_all; done)) ?_
  exact (ih N (by omega)).2 _ _ _ _ _ _ _ _ _ _ _ _ _ _ _ _ _ _ _ _ _ _ h hk
 ·intro k x0 x1 x2 x3 x4 x5 x6 x7 x8 x9 x10 x11 x12 x13 x14 x15 x16 x17 x18 x19 r h hk
  rcases N0 with _ | N
  · cases h
  first | rw [impl_ExecRun.l1] at h | simp only [impl_ExecRun.l1] at h | (unfold impl_ExecRun.l1 at h; dsimp only at h)
  refine loop_fold mC_61 mD_61 ?_
  refine (w_61_1 k x0 x1 x2 x3 x4 x5 x6 x7 x8 x9 x10 x11 x12 x13 x14 x15 x16 x17 x18 x19).trans ?_
  refine br_eti h rfl (fun c188 h => ?_) (fun c188 h => ?_)
  ·exact (ih N (by omega)).1 _ _ _ _ _ _ _ _ _ _ _ _ _ _ _ _ _ h hk
  refine br_g h rfl (fun c189 h => ?_)
  refine br_t (by first | (simp [c188]; done) | (simp; omega) | (simp_all; done)) ?_
  refine call_h 0 h (fun t8 e190 h => ?_)
  refine br_itn h (congrArg not dect) (fun c191 h => ?_) (fun c191 h => ?_)
  ·exact (ih N (by omega)).2 _ _ _ _ _ _ _ _ _ _ _ _ _ _ _ _ _ _ _ _ _ _ h hk
  refine call_h 0 h (fun t9 e192 h => ?_)
  cases h; exact hk
theorem okc_61 (args : List (AV tau)) (m : Mem tau) (κ : AV tau → Mem tau → Option Unit) (hh : c_61 args m κ = some ()) : ∃ av m1, κ av m1 = some () ∧ ToldA Try.prog TT (pnT 61) 61 args m av m1 := by
 obtain ⟨bx_, rw_⟩ := m
 unfold c_61 at hh
 simp only at hh
 split at hh
 case h_2 => cases hh
 rename_i b0 b1
 obtain ⟨l0, hx0, hh0⟩ := bO_some hh
 obtain ⟨l1, hx1, hh1⟩ := bO_some hh0
 have ex0 := asSl_some hx0
 have ex1 := asSl_some hx1
 subst ex0 ex1
 obtain ⟨N, t, h, hκ⟩ := callX_some hh1
 refine ⟨_, _, hκ, told_of_run pq okC_61 (fun _ _ _ => drawA_ok pq okC_61 hmix) (E := E_61) (fn := Try.f61) (body := B_61) (by kernel_rfl) (by kernel_rfl) (by kernel_rfl) (by rfl) (by exact Nat.le_of_ble_eq_true rfl) (fun k hk => ?_)⟩
 refine (w_61 l0 l1 k).trans ?_
 replace h : impl_ExecRun.f N l0 l1 = some t := h
 unfold impl_ExecRun.f at h
 refine call_h N h (fun t0 e193 h => ?_)
 refine br_etn h (congrArg not dect) (fun c194 h => ?_) (fun c194 h => ?_)
 ·rcases N with _ | N
  · cases h
  first | rw [impl_ExecRun.j0] at h | simp only [impl_ExecRun.j0] at h | (unfold impl_ExecRun.j0 at h; dsimp only at h)
  replace h := ite_t h (by first | assumption | omega | simp_all)
  cases h; exact hk
 refine call_h N h (fun t1 e195 h => ?_)
 rcases N with _ | N
 · cases h
 first | rw [impl_ExecRun.j0] at h | simp only [impl_ExecRun.j0] at h | (unfold impl_ExecRun.j0 at h; dsimp only at h)
 refine br_eti h dect (fun c196 h => ?_) (fun c196 h => ?_)
 ·exact (L_61 N).1 _ _ _ _ _ _ _ _ _ _ _ _ _ _ _ _ _ h hk
 cases h; exact hk
noncomputable def C_83 : Ctr tau Unit := ctrS 61 c_61 C_61
noncomputable def D_83 : Drw tau := drawA E_83 C_83
theorem okC_83 : CtrOk Try.prog TT pnT C_83 := ctrS_ok okC_61 okc_61
theorem mC_83 : CtrMono C_83 := ctrS_mono mC_61 mc_61
theorem mD_83 : DrMono D_83 := drawA_mono mC_83
noncomputable def B_83 : Code := Try.f83.body.getD .skip
theorem mc_83 (args : List (AV tau)) (m : Mem tau) (k k' : AV tau → Mem tau → Option Unit) (hk : ∀ av m, k av m = some () → k' av m = some ()) (h : c_83 args m k = some ()) : c_83 args m k' = some () := by
 unfold c_83 at h ⊢
 split at h
 · repeat' first | exact callX_mono (fun _ h => hk _ _ h) h | refine bO_mono (fun _ h => ?_) h
 · cases h
noncomputable def K_83_0 (k : AV tau → Mem tau → Option Unit) : Kon tau := (kBlock 0 (kS E_83 C_83 D_83 (codeP B_83 [1, 1, 1, 1]) (kEnd E_83 Try.f83 k)))
noncomputable def K_83_1 (k : AV tau → Mem tau → Option Unit) : Kon tau := (kBlock 2 (kS E_83 C_83 D_83 (codeP B_83 [1, 1, 1, 1, 1]) (kEnd E_83 Try.f83 k)))
def st_83_0 (x0 : (List S39)) (x1 : Int) (x2 : Int) (x3 : (List S39)) (x4 : (List S82)) (x5 : Int) (x6 : Int) (x7 : Bool) (x8 : Bool) (x9 : Bool) (x10 : Bool) (x11 : Bool) (x12 : Bool) (x13 : Bool) (x14 : Bool) : St tau := ⟨tmL 100 0 [(1, .ptr 0 0), (3, .ptr 1 0), (4, .ptr 2 0), (47, .sl 39 x0), (48, .int .i64 x1), (49, .int .i64 x2)], ⟨[some (26, [.sl 39 x3, .sl 82 x4, .int .i64 x5, .int .i64 x6]), some (173, [.bool x7, .bool x8, .bool x9, .bool x10]), some (173, [.bool x11, .bool x12, .bool x13, .bool x14])], []⟩⟩
noncomputable def LP_83_0 (k : AV tau → Mem tau → Option Unit) (x0 : (List S39)) (x1 : Int) (x2 : Int) (x3 : (List S39)) (x4 : (List S82)) (x5 : Int) (x6 : Int) (x7 : Bool) (x8 : Bool) (x9 : Bool) (x10 : Bool) (x11 : Bool) (x12 : Bool) (x13 : Bool) (x14 : Bool) : Option Unit := loopA E_83 (codeA E_83 C_83 D_83 (codeP B_83 [1, 1, 1, 0, 1, 0, 0])) (codeP B_83 [1, 1, 1, 0, 1, 0, 0]) (K_83_0 k) (st_83_0 x0 x1 x2 x3 x4 x5 x6 x7 x8 x9 x10 x11 x12 x13 x14)
def st_83_1 (x0 : (List S82)) (x1 : Int) (x2 : Int) (x3 : Bool) (x4 : Bool) (x5 : Bool) (x6 : Bool) : St tau := ⟨tmL 100 0 [(4, .ptr 0 0), (74, .sl 82 x0), (75, .int .i64 x1), (76, .int .i64 x2)], ⟨[some (173, [.bool x3, .bool x4, .bool x5, .bool x6])], []⟩⟩
noncomputable def LP_83_1 (k : AV tau → Mem tau → Option Unit) (x0 : (List S82)) (x1 : Int) (x2 : Int) (x3 : Bool) (x4 : Bool) (x5 : Bool) (x6 : Bool) : Option Unit := loopA E_83 (codeA E_83 C_83 D_83 (codeP B_83 [1, 1, 1, 1, 0, 1, 0, 0])) (codeP B_83 [1, 1, 1, 1, 0, 1, 0, 0]) (K_83_1 k) (st_83_1 x0 x1 x2 x3 x4 x5 x6)
theorem w_83_0 (k : AV tau → Mem tau → Option Unit) (x0 : (List S39)) (x1 : Int) (x2 : Int) (x3 : (List S39)) (x4 : (List S82)) (x5 : Int) (x6 : Int) (x7 : Bool) (x8 : Bool) (x9 : Bool) (x10 : Bool) (x11 : Bool) (x12 : Bool) (x13 : Bool) (x14 : Bool) : codeA E_83 C_83 D_83 (codeP B_83 [1, 1, 1, 0, 1, 0, 0]) (kL E_83 C_83 D_83 (codeP B_83 [1, 1, 1, 0, 1, 0, 0]) (K_83_0 k)) (st_83_0 x0 x1 x2 x3 x4 x5 x6 x7 x8 x9 x10 x11 x12 x13 x14) = (brA (decide (x2 < x1)) (brA (decide ((0 : Int) ≤ x2)) (brA (decide (x2 < ((x0.length : Nat) : Int))) (callX (fun n => impl_in.f ((rd_T39 x0 x2).f0) (0 : Int) (3 : Int)) fun t2 => brA (!t2) (k (.bool false) ⟨[], []⟩) (brA (decide ((0 : Int) ≤ (rd_T39 x0 x2).f0)) (brA (decide ((rd_T39 x0 x2).f0 < (4 : Int))) (brA (rdOf false ([x7, x8, x9, x10] : List Bool) ((rd_T39 x0 x2).f0)) (k (.bool false) ⟨[], []⟩) (callX (fun n => impl_in.f ((rd_T39 x0 x2).f1) (0 : Int) (1000000 : Int)) fun t3 => brA (!t3) (k (.bool false) ⟨[], []⟩) (brA (decide ((0 : Int) ≤ (rd_T39 x0 x2).f0)) (brA (decide ((rd_T39 x0 x2).f0 < (4 : Int))) (LP_83_0 k x0 x1 (wrap64 (x2 + (1 : Int))) x3 x4 x5 x6 (if (rd_T39 x0 x2).f0 = (0 : Int) then true else x7) (if (rd_T39 x0 x2).f0 = (1 : Int) then true else x8) (if (rd_T39 x0 x2).f0 = (2 : Int) then true else x9) (if (rd_T39 x0 x2).f0 = (3 : Int) then true else x10) x11 x12 x13 x14) (none)) (none)))) (none)) (none))) (none)) (none)) (LP_83_1 k x4 ((x4.length : Nat) : Int) (0 : Int) x11 x12 x13 x14) : Option Unit) := by
 simp only [← wrapA_i64]
 kernel_rfl
theorem w_83_1 (k : AV tau → Mem tau → Option Unit) (x0 : (List S82)) (x1 : Int) (x2 : Int) (x3 : Bool) (x4 : Bool) (x5 : Bool) (x6 : Bool) : codeA E_83 C_83 D_83 (codeP B_83 [1, 1, 1, 1, 0, 1, 0, 0]) (kL E_83 C_83 D_83 (codeP B_83 [1, 1, 1, 1, 0, 1, 0, 0]) (K_83_1 k)) (st_83_1 x0 x1 x2 x3 x4 x5 x6) = (brA (decide (x2 < x1)) (brA (decide ((0 : Int) ≤ x2)) (brA (decide (x2 < ((x0.length : Nat) : Int))) (callX (fun n => impl_in.f ((rd_T82 x0 x2).f0) (0 : Int) (3 : Int)) fun t4 => brA (!t4) (k (.bool false) ⟨[], []⟩) (brA (decide ((0 : Int) ≤ (rd_T82 x0 x2).f0)) (brA (decide ((rd_T82 x0 x2).f0 < (4 : Int))) (brA (rdOf false ([x3, x4, x5, x6] : List Bool) ((rd_T82 x0 x2).f0)) (k (.bool false) ⟨[], []⟩) (callX (fun n => impl_in.f ((rd_T82 x0 x2).f1) (-(1000000 : Int)) (1000000 : Int)) fun t5 => brA (!t5) (k (.bool false) ⟨[], []⟩) (brA (decide ((0 : Int) ≤ (rd_T82 x0 x2).f0)) (brA (decide ((rd_T82 x0 x2).f0 < (4 : Int))) (LP_83_1 k x0 x1 (wrap64 (x2 + (1 : Int))) (if (rd_T82 x0 x2).f0 = (0 : Int) then true else x3) (if (rd_T82 x0 x2).f0 = (1 : Int) then true else x4) (if (rd_T82 x0 x2).f0 = (2 : Int) then true else x5) (if (rd_T82 x0 x2).f0 = (3 : Int) then true else x6)) (none)) (none)))) (none)) (none))) (none)) (none)) (k (.bool true) ⟨[], []⟩) : Option Unit) := by
 simp only [← wrapA_i64]
 kernel_rfl
theorem w_83 (l0_0 : List S39) (l0_1 : List S82) (a0_2 : Int) (a0_3 : Int) (k : AV tau → Mem tau → Option Unit) : fnA E_83 C_83 D_83 Try.f83 B_83 [.agg [.sl 39 l0_0, .sl 82 l0_1, .int .i64 a0_2, .int .i64 a0_3]] ⟨[], []⟩ k = (callX (fun n => impl_in.f a0_3 (0 : Int) (3 : Int)) fun t0 => brA (!t0) (k (.bool false) ⟨[], []⟩) (callX (fun n => impl_in.f a0_2 (-(1000000 : Int)) (1000000 : Int)) fun t1 => brA (!t1) (k (.bool false) ⟨[], []⟩) (brA (!(decide (a0_3 = (0 : Int)))) (brA (!(decide (a0_2 = (0 : Int)))) (k (.bool false) ⟨[], []⟩) (brA (decide (((l0_1.length : Nat) : Int) > (0 : Int))) (k (.bool false) ⟨[], []⟩) (brA (decide (a0_3 = (3 : Int))) (brA (decide (((l0_0.length : Nat) : Int) > (0 : Int))) (k (.bool false) ⟨[], []⟩) (LP_83_0 k l0_0 ((l0_0.length : Nat) : Int) (0 : Int) l0_0 l0_1 a0_2 a0_3 false false false false false false false false)) (LP_83_0 k l0_0 ((l0_0.length : Nat) : Int) (0 : Int) l0_0 l0_1 a0_2 a0_3 false false false false false false false false)))) (brA (decide (a0_3 = (3 : Int))) (brA (decide (((l0_0.length : Nat) : Int) > (0 : Int))) (k (.bool false) ⟨[], []⟩) (LP_83_0 k l0_0 ((l0_0.length : Nat) : Int) (0 : Int) l0_0 l0_1 a0_2 a0_3 false false false false false false false false)) (LP_83_0 k l0_0 ((l0_0.length : Nat) : Int) (0 : Int) l0_0 l0_1 a0_2 a0_3 false false false false false false false false)))) : Option Unit) := by kernel_rfl
def S_83_0 (N : Nat) : Prop := ∀ (k : AV tau → Mem tau → Option Unit) (x0 : (List S39)) (x1 : Int) (x2 : Int) (x3 : (List S39)) (x4 : (List S82)) (x5 : Int) (x6 : Int) (x7 : Bool) (x8 : Bool) (x9 : Bool) (x10 : Bool) (x11 : Bool) (x12 : Bool) (x13 : Bool) (x14 : Bool) (r : Bool), impl_ExecOk.l0 N (x0) (x1) (x2) (x3) (x4) (x5) (x6) (x7) (x8) (x9) (x10) (x11) (x12) (x13) (x14) = some r → k (.bool (r)) ⟨[], []⟩ = some () → LP_83_0 k x0 x1 x2 x3 x4 x5 x6 x7 x8 x9 x10 x11 x12 x13 x14 = some ()
def S_83_1 (N : Nat) : Prop := ∀ (k : AV tau → Mem tau → Option Unit) (x0 : (List S82)) (x1 : Int) (x2 : Int) (x3 : Bool) (x4 : Bool) (x5 : Bool) (x6 : Bool) (r : Bool), impl_ExecOk.l1 N (x0) (x1) (x2) (x3) (x4) (x5) (x6) = some r → k (.bool (r)) ⟨[], []⟩ = some () → LP_83_1 k x0 x1 x2 x3 x4 x5 x6 = some ()
theorem L_83 (N : Nat) : S_83_0 N ∧ S_83_1 N := by
 induction N using Nat.strongRecOn with | _ N0 ih =>
 refine ⟨?_, ?_⟩
 ·intro k x0 x1 x2 x3 x4 x5 x6 x7 x8 x9 x10 x11 x12 x13 x14 r h hk
  rcases N0 with _ | N
  · cases h
  first | rw [impl_ExecOk.l0] at h | simp only [impl_ExecOk.l0] at h | (unfold impl_ExecOk.l0 at h; dsimp only at h)
  refine loop_fold mC_83 mD_83 ?_
  refine (w_83_0 k x0 x1 x2 x3 x4 x5 x6 x7 x8 x9 x10 x11 x12 x13 x14).trans ?_
  refine br_eti h rfl (fun c63 h => ?_) (fun c63 h => ?_)
  ·exact (ih N (by omega)).2 _ _ _ _ _ _ _ _ _ h hk
  refine br_g h rfl (fun c64 h => ?_)
  refine br_g h rfl (fun c65 h => ?_)
  refine call_h 0 h (fun t2 e66 h => ?_)
  refine br_etn h (congrArg not dect) (fun c67 h => ?_) (fun c67 h => ?_)
  ·cases h; exact hk
  refine br_g h rfl (fun c68 h => ?_)
  refine br_g h rfl (fun c69 h => ?_)
  refine br_ite h dect (fun c70 h => ?_) (fun c70 h => ?_)
  ·cases h; exact hk
  refine call_h 0 h (fun t3 e71 h => ?_)
  refine br_etn h (congrArg not dect) (fun c72 h => ?_) (fun c72 h => ?_)
  ·cases h; exact hk
  refine br_t (by first | (simp [c68]; done) | (simp; omega) | (simp only [List.length_append, List.length_cons, List.length_nil, List.length_take, List.length_drop] at c65 ⊢; simp; omega) | (simp only [List.length_append, List.length_cons, List.length_nil, List.length_take, List.length_drop] at c65; simp; omega) | (simp_all; done)) ?_
  refine br_t (by first | (simp [c69]; done) | (simp; omega) | (simp only [List.length_append, List.length_cons, List.length_nil, List.length_take, List.length_drop] at c65 ⊢; simp; omega) | (simp only [List.length_append, List.length_cons, List.length_nil, List.length_take, List.length_drop] at c65; simp; omega) | (simp_all; done)) ?_
  exact (ih N (by omega)).1 _ _ _ _ _ _ _ _ _ _ _ _ _ _ _ _ _ h hk
 ·intro k x0 x1 x2 x3 x4 x5 x6 r h hk
  rcases N0 with _ | N
  · cases h
  first | rw [impl_ExecOk.l1] at h | simp only [impl_ExecOk.l1] at h | (unfold impl_ExecOk.l1 at h; dsimp only at h)
  refine loop_fold mC_83 mD_83 ?_
  refine (w_83_1 k x0 x1 x2 x3 x4 x5 x6).trans ?_
  refine br_eti h rfl (fun c73 h => ?_) (fun c73 h => ?_)
  ·cases h; exact hk
  refine br_g h rfl (fun c74 h => ?_)
  refine br_g h rfl (fun c75 h => ?_)
  refine call_h 0 h (fun t4 e76 h => ?_)
  refine br_etn h (congrArg not dect) (fun c77 h => ?_) (fun c77 h => ?_)
  ·cases h; exact hk
  refine br_g h rfl (fun c78 h => ?_)
  refine br_g h rfl (fun c79 h => ?_)
  refine br_ite h dect (fun c80 h => ?_) (fun c80 h => ?_)
  ·cases h; exact hk
  refine call_h 0 h (fun t5 e81 h => ?_)
  refine br_etn h (congrArg not dect) (fun c82 h => ?_) (fun c82 h => ?_)
  ·cases h; exact hk
  refine br_t (by first | (simp [c78]; done) | (simp; omega) | (simp only [List.length_append, List.length_cons, List.length_nil, List.length_take, List.length_drop] at c75 ⊢; simp; omega) | (simp only [List.length_append, List.length_cons, List.length_nil, List.length_take, List.length_drop] at c75; simp; omega) | (simp_all; done)) ?_
  refine br_t (by first | (simp [c79]; done) | (simp; omega) | (simp only [List.length_append, List.length_cons, List.length_nil, List.length_take, List.length_drop] at c75 ⊢; simp; omega) | (simp only [List.length_append, List.length_cons, List.length_nil, List.length_take, List.length_drop] at c75; simp; omega) | (simp_all; done)) ?_
  exact (ih N (by omega)).2 _ _ _ _ _ _ _ _ _ h hk
theorem okc_83 (args : List (AV tau)) (m : Mem tau) (κ : AV tau → Mem tau → Option Unit) (hh : c_83 args m κ = some ()) : ∃ av m1, κ av m1 = some () ∧ ToldA Try.prog TT (pnT 83) 83 args m av m1 := by
 obtain ⟨bx_, rw_⟩ := m
 unfold c_83 at hh
 simp only at hh
 split at hh
 case h_2 => cases hh
 rename_i b0 b1 b2 b3
 obtain ⟨l0_0, hx0, hh0⟩ := bO_some hh
 obtain ⟨l0_1, hx1, hh1⟩ := bO_some hh0
 obtain ⟨a0_2, hx2, hh2⟩ := bO_some hh1
 obtain ⟨a0_3, hx3, hh3⟩ := bO_some hh2
 have ex0 := asSl_some hx0
 have ex1 := asSl_some hx1
 have ex2 := asI_some hx2
 have ex3 := asI_some hx3
 subst ex0 ex1 ex2 ex3
 obtain ⟨N, t, h, hκ⟩ := callX_some hh3
 refine ⟨_, _, hκ, told_of_run pq okC_83 (fun _ _ _ => drawA_ok pq okC_83 hmix) (E := E_83) (fn := Try.f83) (body := B_83) (by kernel_rfl) (by kernel_rfl) (by kernel_rfl) (by rfl) (by exact Nat.le_of_ble_eq_true rfl) (fun k hk => ?_)⟩
 refine (w_83 l0_0 l0_1 a0_2 a0_3 k).trans ?_
 replace h : impl_ExecOk.f N l0_0 l0_1 a0_2 a0_3 = some t := h
 unfold impl_ExecOk.f at h
 refine call_h 0 h (fun t0 e83 h => ?_)
 refine br_etn h (congrArg not dect) (fun c84 h => ?_) (fun c84 h => ?_)
 ·rcases N with _ | N
  · cases h
  first | rw [impl_ExecOk.j0] at h | simp only [impl_ExecOk.j0] at h | (unfold impl_ExecOk.j0 at h; dsimp only at h)
  replace h := ite_t h (by first | assumption | omega | simp_all)
  cases h; exact hk
 refine call_h 0 h (fun t1 e85 h => ?_)
 refine br_etn h (congrArg not dect) (fun c86 h => ?_) (fun c86 h => ?_)
 ·rcases N with _ | N
  · cases h
  first | rw [impl_ExecOk.j0] at h | simp only [impl_ExecOk.j0] at h | (unfold impl_ExecOk.j0 at h; dsimp only at h)
  replace h := ite_t h (by first | assumption | omega | simp_all)
  cases h; exact hk
 refine br_itn h rfl (fun c87 h => ?_) (fun c87 h => ?_)
 ·refine br_eti h rfl (fun c88 h => ?_) (fun c88 h => ?_)
  ·rcases N with _ | N
   · cases h
   first | rw [impl_ExecOk.j0] at h | simp only [impl_ExecOk.j0] at h | (unfold impl_ExecOk.j0 at h; dsimp only at h)
   replace h := ite_f h (by first | assumption | omega | simp_all)
   exact (L_83 N).1 _ _ _ _ _ _ _ _ _ _ _ _ _ _ _ _ _ h hk
  rcases N with _ | N
  · cases h
  first | rw [impl_ExecOk.j0] at h | simp only [impl_ExecOk.j0] at h | (unfold impl_ExecOk.j0 at h; dsimp only at h)
  refine br_ite h (by first | rfl | exact dect | exact (congrArg not dect) | (simp; done) | (simp [beqI]; done) | (simp; omega)) (fun c89 h => ?_) (fun c89 h => ?_)
  ·cases h; exact hk
  exact (L_83 N).1 _ _ _ _ _ _ _ _ _ _ _ _ _ _ _ _ _ h hk
 refine br_etn h rfl (fun c90 h => ?_) (fun c90 h => ?_)
 ·rcases N with _ | N
  · cases h
  first | rw [impl_ExecOk.j0] at h | simp only [impl_ExecOk.j0] at h | (unfold impl_ExecOk.j0 at h; dsimp only at h)
  replace h := ite_t h (by first | assumption | omega | simp_all)
  cases h; exact hk
 refine br_ite h rfl (fun c91 h => ?_) (fun c91 h => ?_)
 ·rcases N with _ | N
  · cases h
  first | rw [impl_ExecOk.j0] at h | simp only [impl_ExecOk.j0] at h | (unfold impl_ExecOk.j0 at h; dsimp only at h)
  replace h := ite_t h (by first | assumption | omega | simp_all)
  cases h; exact hk
 refine br_eti h rfl (fun c92 h => ?_) (fun c92 h => ?_)
 ·rcases N with _ | N
  · cases h
  first | rw [impl_ExecOk.j0] at h | simp only [impl_ExecOk.j0] at h | (unfold impl_ExecOk.j0 at h; dsimp only at h)
  replace h := ite_f h (by first | assumption | omega | simp_all)
  exact (L_83 N).1 _ _ _ _ _ _ _ _ _ _ _ _ _ _ _ _ _ h hk
 rcases N with _ | N
 · cases h
 first | rw [impl_ExecOk.j0] at h | simp only [impl_ExecOk.j0] at h | (unfold impl_ExecOk.j0 at h; dsimp only at h)
 refine br_ite h (by first | rfl | exact dect | exact (congrArg not dect) | (simp; done) | (simp [beqI]; done) | (simp; omega)) (fun c93 h => ?_) (fun c93 h => ?_)
 ·cases h; exact hk
 exact (L_83 N).1 _ _ _ _ _ _ _ _ _ _ _ _ _ _ _ _ _ h hk
noncomputable def C_93 : Ctr tau Unit := ctrS 83 c_83 C_83
noncomputable def D_93 : Drw tau := drawA E_93 C_93
theorem okC_93 : CtrOk Try.prog TT pnT C_93 := ctrS_ok okC_83 okc_83
theorem mC_93 : CtrMono C_93 := ctrS_mono mC_83 mc_83
theorem mD_93 : DrMono D_93 := drawA_mono mC_93
noncomputable def B_93 : Code := Try.f93.body.getD .skip
theorem mc_93 (args : List (AV tau)) (m : Mem tau) (k k' : AV tau → Mem tau → Option Unit) (hk : ∀ av m, k av m = some () → k' av m = some ()) (h : c_93 args m k = some ()) : c_93 args m k' = some () := by
 unfold c_93 at h ⊢
 split at h
 · repeat' first | exact callX_mono (fun _ h => hk _ _ h) h | refine bO_mono (fun _ h => ?_) h
 · cases h
theorem w_93 (l0 : List S37) (k : AV tau → Mem tau → Option Unit) : fnA E_93 C_93 D_93 Try.f93 B_93 [.sl 37 l0] ⟨[], []⟩ k = (brA (decide (((l0.length : Nat) : Int) = (0 : Int))) (k (.own 0 0) ⟨[], [some ⟨37, ([] : List S37), 0⟩]⟩) (brA (decide ((Int.toNat ((l0.length : Nat) : Int)) ≤ 17592186044416)) (k (.own 0 0) ⟨[], [some ⟨37, ((List.take ((List.replicate (Int.toNat ((l0.length : Nat) : Int)) (⟨(0 : Int), (0 : Int)⟩ : S37)).length) l0) ++ (List.drop l0.length (List.replicate (Int.toNat ((l0.length : Nat) : Int)) (⟨(0 : Int), (0 : Int)⟩ : S37)))), 0⟩]⟩) (none)) : Option Unit) := by kernel_rfl
theorem okc_93 (args : List (AV tau)) (m : Mem tau) (κ : AV tau → Mem tau → Option Unit) (hh : c_93 args m κ = some ()) : ∃ av m1, κ av m1 = some () ∧ ToldA Try.prog TT (pnT 93) 93 args m av m1 := by
 obtain ⟨bx_, rw_⟩ := m
 unfold c_93 at hh
 simp only at hh
 split at hh
 case h_2 => cases hh
 rename_i b0
 obtain ⟨l0, hx0, hh0⟩ := bO_some hh
 have ex0 := asSl_some hx0
 subst ex0
 obtain ⟨N, t, h, hκ⟩ := callX_some hh0
 refine ⟨_, _, hκ, told_of_run pq okC_93 (fun _ _ _ => drawA_ok pq okC_93 hmix) (E := E_93) (fn := Try.f93) (body := B_93) (by kernel_rfl) (by kernel_rfl) (by kernel_rfl) (by rfl) (by exact Nat.le_of_ble_eq_true rfl) (fun k hk => ?_)⟩
 refine (w_93 l0 k).trans ?_
 replace h : impl_copied_impl_Box.f l0 = some t := h
 unfold impl_copied_impl_Box.f at h
 refine ite_x h (fun c1 h => ?_) (fun _ h => by cases h)
 cases h
 exact copied_of (α := S37) l0 _ _ (k := fun q : List S37 => k (.own 0 0) ⟨[], [some ⟨37, q, 0⟩]⟩) c1 hk
noncomputable def C_117 : Ctr tau Unit := ctrS 93 c_93 C_93
noncomputable def D_117 : Drw tau := drawA E_117 C_117
theorem okC_117 : CtrOk Try.prog TT pnT C_117 := ctrS_ok okC_93 okc_93
theorem mC_117 : CtrMono C_117 := ctrS_mono mC_93 mc_93
theorem mD_117 : DrMono D_117 := drawA_mono mC_117
noncomputable def B_117 : Code := Try.f117.body.getD .skip
theorem mc_117 (args : List (AV tau)) (m : Mem tau) (k k' : AV tau → Mem tau → Option Unit) (hk : ∀ av m, k av m = some () → k' av m = some ()) (h : c_117 args m k = some ()) : c_117 args m k' = some () := by
 unfold c_117 at h ⊢
 split at h
 · repeat' first | exact callX_mono (fun _ h => hk _ _ h) h | refine bO_mono (fun _ h => ?_) h
 · cases h
noncomputable def K_117_0 (k : AV tau → Mem tau → Option Unit) : Kon tau := (kBlock 0 (kS E_117 C_117 D_117 (codeP B_117 [1, 1, 1, 1]) (kEnd E_117 Try.f117 k)))
def st_117_0 (x0 : (List S82)) (x1 : Int) (x2 : Int) (x3 : (List S37)) : St tau := ⟨tmL 42 0 [(5, .own 0 0), (19, .sl 82 x0), (20, .int .i64 x1), (21, .int .i64 x2)], ⟨[], [some ⟨37, x3, 0⟩]⟩⟩
noncomputable def LP_117_0 (k : AV tau → Mem tau → Option Unit) (x0 : (List S82)) (x1 : Int) (x2 : Int) (x3 : (List S37)) : Option Unit := loopA E_117 (codeA E_117 C_117 D_117 (codeP B_117 [1, 1, 1, 0, 1, 0, 0])) (codeP B_117 [1, 1, 1, 0, 1, 0, 0]) (K_117_0 k) (st_117_0 x0 x1 x2 x3)
theorem w_117_0 (k : AV tau → Mem tau → Option Unit) (x0 : (List S82)) (x1 : Int) (x2 : Int) (x3 : (List S37)) : codeA E_117 C_117 D_117 (codeP B_117 [1, 1, 1, 0, 1, 0, 0]) (kL E_117 C_117 D_117 (codeP B_117 [1, 1, 1, 0, 1, 0, 0]) (K_117_0 k)) (st_117_0 x0 x1 x2 x3) = (brA (decide (x2 < x1)) (brA (decide ((0 : Int) ≤ x2)) (brA (decide (x2 < ((x0.length : Nat) : Int))) (brA (decide ((0 : Int) ≤ (rd_T82 x0 x2).f0)) (brA (decide ((rd_T82 x0 x2).f0 < ((x3.length : Nat) : Int))) (brA (decide ((0 : Int) ≤ (rd_T82 x0 x2).f0)) (brA (decide ((rd_T82 x0 x2).f0 < ((x3.length : Nat) : Int))) (LP_117_0 k x0 x1 (wrap64 (x2 + (1 : Int))) (List.set x3 (Int.toNat ((rd_T82 x0 x2).f0)) (⟨(if (wrap64 ((rd_T37 x3 ((rd_T82 x0 x2).f0)).f0 + (1 : Int))) < (1000000 : Int) then (wrap64 ((rd_T37 x3 ((rd_T82 x0 x2).f0)).f0 + (1 : Int))) else (1000000 : Int)), (rd_T82 x0 x2).f1⟩ : S37))) (none)) (none)) (none)) (none)) (none)) (none)) (k (.own 0 0) ⟨[], [some ⟨37, x3, 0⟩]⟩) : Option Unit) := by
 simp only [← wrapA_i64]
 kernel_rfl
theorem w_117 (l0 : List S37) (l1_0 : List S39) (l1_1 : List S82) (a1_2 : Int) (a1_3 : Int) (k : AV tau → Mem tau → Option Unit) : fnA E_117 C_117 D_117 Try.f117 B_117 [.sl 37 l0, .agg [.sl 39 l1_0, .sl 82 l1_1, .int .i64 a1_2, .int .i64 a1_3]] ⟨[], []⟩ k = (callX (fun n => impl_BoxOk.f n l0) fun t0 => brA (!t0) (k (.own 0 0) ⟨[], [some ⟨37, ([] : List S37), 0⟩]⟩) (callX (fun n => impl_ExecOk.f n l1_0 l1_1 a1_2 a1_3) fun t1 => brA (!t1) (k (.own 0 0) ⟨[], [some ⟨37, ([] : List S37), 0⟩]⟩) (callX (fun n => impl_copied_impl_Box.f l0) fun t2 => LP_117_0 k l1_1 ((l1_1.length : Nat) : Int) (0 : Int) t2)) : Option Unit) := by kernel_rfl
def S_117_0 (N : Nat) : Prop := ∀ (k : AV tau → Mem tau → Option Unit) (x0 : (List S82)) (x1 : Int) (x2 : Int) (x3 : (List S37)) (r : (List (S37))), impl_ExecDo.l0 N (x3) (x0) (x1) (x2) = some r → k (.own 0 0) ⟨[], [some ⟨37, r, 0⟩]⟩ = some () → LP_117_0 k x0 x1 x2 x3 = some ()
theorem L_117 (N : Nat) : S_117_0 N := by
 induction N using Nat.strongRecOn with | _ N0 ih =>
 skip
 intro k x0 x1 x2 x3 r h hk
 rcases N0 with _ | N
 · cases h
 first | rw [impl_ExecDo.l0] at h | simp only [impl_ExecDo.l0] at h | (unfold impl_ExecDo.l0 at h; dsimp only at h)
 refine loop_fold mC_117 mD_117 ?_
 refine (w_117_0 k x0 x1 x2 x3).trans ?_
 refine br_eti h rfl (fun c21 h => ?_) (fun c21 h => ?_)
 ·cases h; exact hk
 refine br_g h rfl (fun c22 h => ?_)
 refine br_g h rfl (fun c23 h => ?_)
 refine br_g h rfl (fun c24 h => ?_)
 refine br_g h rfl (fun c25 h => ?_)
 refine br_t (by first | (simp [c24]; done) | (simp; omega) | (simp only [List.length_append, List.length_cons, List.length_nil, List.length_take, List.length_drop] at c25 c23 ⊢; simp; omega) | (simp only [List.length_append, List.length_cons, List.length_nil, List.length_take, List.length_drop] at c25 c23; simp; omega) | (simp_all; done)) ?_
 refine br_t (by first | (simp [c25]; done) | (simp; omega) | (simp only [List.length_append, List.length_cons, List.length_nil, List.length_take, List.length_drop] at c25 c23 ⊢; simp; omega) | (simp only [List.length_append, List.length_cons, List.length_nil, List.length_take, List.length_drop] at c25 c23; simp; omega) | (simp_all; done)) ?_
 exact (ih N (by omega)) _ _ _ _ _ _ h hk
theorem okc_117 (args : List (AV tau)) (m : Mem tau) (κ : AV tau → Mem tau → Option Unit) (hh : c_117 args m κ = some ()) : ∃ av m1, κ av m1 = some () ∧ ToldA Try.prog TT (pnT 117) 117 args m av m1 := by
 obtain ⟨bx_, rw_⟩ := m
 unfold c_117 at hh
 simp only at hh
 split at hh
 case h_2 => cases hh
 rename_i b0 b1 b2 b3 b4
 obtain ⟨l0, hx0, hh0⟩ := bO_some hh
 obtain ⟨l1_0, hx1, hh1⟩ := bO_some hh0
 obtain ⟨l1_1, hx2, hh2⟩ := bO_some hh1
 obtain ⟨a1_2, hx3, hh3⟩ := bO_some hh2
 obtain ⟨a1_3, hx4, hh4⟩ := bO_some hh3
 have ex0 := asSl_some hx0
 have ex1 := asSl_some hx1
 have ex2 := asSl_some hx2
 have ex3 := asI_some hx3
 have ex4 := asI_some hx4
 subst ex0 ex1 ex2 ex3 ex4
 obtain ⟨N, t, h, hκ⟩ := callX_some hh4
 refine ⟨_, _, hκ, told_of_run pq okC_117 (fun _ _ _ => drawA_ok pq okC_117 hmix) (E := E_117) (fn := Try.f117) (body := B_117) (by kernel_rfl) (by kernel_rfl) (by kernel_rfl) (by rfl) (by exact Nat.le_of_ble_eq_true rfl) (fun k hk => ?_)⟩
 refine (w_117 l0 l1_0 l1_1 a1_2 a1_3 k).trans ?_
 replace h : impl_ExecDo.f N l0 l1_0 l1_1 a1_2 a1_3 = some t := h
 unfold impl_ExecDo.f at h
 refine call_h N h (fun t0 e26 h => ?_)
 refine br_etn h (congrArg not dect) (fun c27 h => ?_) (fun c27 h => ?_)
 ·rcases N with _ | N
  · cases h
  first | rw [impl_ExecDo.j0] at h | simp only [impl_ExecDo.j0] at h | (unfold impl_ExecDo.j0 at h; dsimp only at h)
  replace h := ite_t h (by first | assumption | omega | simp_all)
  cases h; exact hk
 refine call_h N h (fun t1 e28 h => ?_)
 rcases N with _ | N
 · cases h
 first | rw [impl_ExecDo.j0] at h | simp only [impl_ExecDo.j0] at h | (unfold impl_ExecDo.j0 at h; dsimp only at h)
 refine br_ite h dect (fun c29 h => ?_) (fun c29 h => ?_)
 ·cases h; exact hk
 refine call_h 0 h (fun t2 e30 h => ?_)
 exact (L_117 N) _ _ _ _ _ _ h hk
noncomputable def C_63 : Ctr tau Unit := ctrS 117 c_117 C_117
noncomputable def D_63 : Drw tau := drawA E_63 C_63
theorem okC_63 : CtrOk Try.prog TT pnT C_63 := ctrS_ok okC_117 okc_117
theorem mC_63 : CtrMono C_63 := ctrS_mono mC_117 mc_117
theorem mD_63 : DrMono D_63 := drawA_mono mC_63
noncomputable def B_63 : Code := Try.f63.body.getD .skip
theorem mc_63 (args : List (AV tau)) (m : Mem tau) (k k' : AV tau → Mem tau → Option Unit) (hk : ∀ av m, k av m = some () → k' av m = some ()) (h : c_63 args m k = some ()) : c_63 args m k' = some () := by
 unfold c_63 at h ⊢
 split at h
 · repeat' first | exact callX_mono (fun _ h => hk _ _ h) h | refine bO_mono (fun _ h => ?_) h
 · cases h
theorem w_63 (l0 : List S37) (l1 : List S95) (k : AV tau → Mem tau → Option Unit) : fnA E_63 C_63 D_63 Try.f63 B_63 [.sl 37 l0, .sl 95 l1] ⟨[], []⟩ k = (callX (fun n => impl_ExecRun.f n l0 l1) fun t0 => brA (decide (t0.2.2.2 = (3 : Int))) (k (.tup [.own 0 0, .int .i64 (0 : Int), .int .i64 (3 : Int)]) ⟨[], [some ⟨37, ([] : List S37), 0⟩]⟩) (callX (fun n => impl_ExecDo.f n l0 t0.1 t0.2.1 t0.2.2.1 t0.2.2.2) fun t1 => k (.tup [.own 0 0, .int .i64 t0.2.2.1, .int .i64 t0.2.2.2]) ⟨[], [some ⟨37, t1, 0⟩]⟩) : Option Unit) := by kernel_rfl
theorem okc_63 (args : List (AV tau)) (m : Mem tau) (κ : AV tau → Mem tau → Option Unit) (hh : c_63 args m κ = some ()) : ∃ av m1, κ av m1 = some () ∧ ToldA Try.prog TT (pnT 63) 63 args m av m1 := by
 obtain ⟨bx_, rw_⟩ := m
 unfold c_63 at hh
 simp only at hh
 split at hh
 case h_2 => cases hh
 rename_i b0 b1
 obtain ⟨l0, hx0, hh0⟩ := bO_some hh
 obtain ⟨l1, hx1, hh1⟩ := bO_some hh0
 have ex0 := asSl_some hx0
 have ex1 := asSl_some hx1
 subst ex0 ex1
 obtain ⟨N, t, h, hκ⟩ := callX_some hh1
 refine ⟨_, _, hκ, told_of_run pq okC_63 (fun _ _ _ => drawA_ok pq okC_63 hmix) (E := E_63) (fn := Try.f63) (body := B_63) (by kernel_rfl) (by kernel_rfl) (by kernel_rfl) (by rfl) (by exact Nat.le_of_ble_eq_true rfl) (fun k hk => ?_)⟩
 refine (w_63 l0 l1 k).trans ?_
 replace h : impl_SerialOne.f N l0 l1 = some t := h
 unfold impl_SerialOne.f at h
 refine call_h N h (fun t0 e4 h => ?_)
 refine br_ite h rfl (fun c5 h => ?_) (fun c5 h => ?_)
 ·cases h; exact hk
 refine call_h N h (fun t1 e6 h => ?_)
 cases h; exact hk
noncomputable def C_94 : Ctr tau Unit := ctrS 63 c_63 C_63
noncomputable def D_94 : Drw tau := drawA E_94 C_94
theorem okC_94 : CtrOk Try.prog TT pnT C_94 := ctrS_ok okC_63 okc_63
theorem mC_94 : CtrMono C_94 := ctrS_mono mC_63 mc_63
theorem mD_94 : DrMono D_94 := drawA_mono mC_94
noncomputable def B_94 : Code := Try.f94.body.getD .skip
theorem mc_94 (args : List (AV tau)) (m : Mem tau) (k k' : AV tau → Mem tau → Option Unit) (hk : ∀ av m, k av m = some () → k' av m = some ()) (h : c_94 args m k = some ()) : c_94 args m k' = some () := by
 unfold c_94 at h ⊢
 split at h
 · repeat' first | exact callX_mono (fun _ h => hk _ _ h) h | refine bO_mono (fun _ h => ?_) h
 · cases h
theorem w_94 (l0 : List Int) (k : AV tau → Mem tau → Option Unit) : fnA E_94 C_94 D_94 Try.f94 B_94 [.sl 3 l0] ⟨[], []⟩ k = (brA (decide (((l0.length : Nat) : Int) = (0 : Int))) (k (.own 0 0) ⟨[], [some ⟨3, ([] : List Int), 0⟩]⟩) (brA (decide ((Int.toNat ((l0.length : Nat) : Int)) ≤ 35184372088832)) (k (.own 0 0) ⟨[], [some ⟨3, ((List.take ((List.replicate (Int.toNat ((l0.length : Nat) : Int)) (0 : Int)).length) l0) ++ (List.drop l0.length (List.replicate (Int.toNat ((l0.length : Nat) : Int)) (0 : Int)))), 0⟩]⟩) (none)) : Option Unit) := by kernel_rfl
theorem okc_94 (args : List (AV tau)) (m : Mem tau) (κ : AV tau → Mem tau → Option Unit) (hh : c_94 args m κ = some ()) : ∃ av m1, κ av m1 = some () ∧ ToldA Try.prog TT (pnT 94) 94 args m av m1 := by
 obtain ⟨bx_, rw_⟩ := m
 unfold c_94 at hh
 simp only at hh
 split at hh
 case h_2 => cases hh
 rename_i b0
 obtain ⟨l0, hx0, hh0⟩ := bO_some hh
 have ex0 := asSl_some hx0
 subst ex0
 obtain ⟨N, t, h, hκ⟩ := callX_some hh0
 refine ⟨_, _, hκ, told_of_run pq okC_94 (fun _ _ _ => drawA_ok pq okC_94 hmix) (E := E_94) (fn := Try.f94) (body := B_94) (by kernel_rfl) (by kernel_rfl) (by kernel_rfl) (by rfl) (by exact Nat.le_of_ble_eq_true rfl) (fun k hk => ?_)⟩
 refine (w_94 l0 k).trans ?_
 replace h : impl_copied_int.f l0 = some t := h
 unfold impl_copied_int.f at h
 refine ite_x h (fun c1 h => ?_) (fun _ h => by cases h)
 cases h
 exact copied_of (α := Int) l0 _ _ (k := fun q : List Int => k (.own 0 0) ⟨[], [some ⟨3, q, 0⟩]⟩) c1 hk
noncomputable def C_29 : Ctr tau Unit := ctrS 94 c_94 C_94
noncomputable def D_29 : Drw tau := drawA E_29 C_29
theorem okC_29 : CtrOk Try.prog TT pnT C_29 := ctrS_ok okC_94 okc_94
theorem mC_29 : CtrMono C_29 := ctrS_mono mC_94 mc_94
theorem mD_29 : DrMono D_29 := drawA_mono mC_29
noncomputable def B_29 : Code := Try.f29.body.getD .skip
theorem mc_29 (args : List (AV tau)) (m : Mem tau) (k k' : AV tau → Mem tau → Option Unit) (hk : ∀ av m, k av m = some () → k' av m = some ()) (h : c_29 args m k = some ()) : c_29 args m k' = some () := by
 unfold c_29 at h ⊢
 split at h
 · repeat' first | exact callX_mono (fun _ h => hk _ _ h) h | refine bO_mono (fun _ h => ?_) h
 · cases h
noncomputable def K_29_0 (k : AV tau → Mem tau → Option Unit) : Kon tau := (kBlock 0 (kS E_29 C_29 D_29 (codeP B_29 [1, 1, 1, 1, 1]) (kEnd E_29 Try.f29 k)))
def st_29_0 (x0 : (List (List S95))) (x1 : Int) (x2 : Int) (x3 : (List S37)) (x4 : (List Int)) : St tau := ⟨tmL 47 0 [(6, .own 0 0), (7, .own 1 0), (23, .sl 60 x0), (24, .int .i64 x1), (25, .int .i64 x2)], ⟨[], [some ⟨37, x3, 0⟩, some ⟨3, x4, 0⟩]⟩⟩
noncomputable def LP_29_0 (k : AV tau → Mem tau → Option Unit) (x0 : (List (List S95))) (x1 : Int) (x2 : Int) (x3 : (List S37)) (x4 : (List Int)) : Option Unit := loopA E_29 (codeA E_29 C_29 D_29 (codeP B_29 [1, 1, 1, 1, 0, 1, 0, 0])) (codeP B_29 [1, 1, 1, 1, 0, 1, 0, 0]) (K_29_0 k) (st_29_0 x0 x1 x2 x3 x4)
theorem w_29_0 (k : AV tau → Mem tau → Option Unit) (x0 : (List (List S95))) (x1 : Int) (x2 : Int) (x3 : (List S37)) (x4 : (List Int)) : codeA E_29 C_29 D_29 (codeP B_29 [1, 1, 1, 1, 0, 1, 0, 0]) (kL E_29 C_29 D_29 (codeP B_29 [1, 1, 1, 1, 0, 1, 0, 0]) (K_29_0 k)) (st_29_0 x0 x1 x2 x3 x4) = (brA (decide (x2 < x1)) (brA (decide ((0 : Int) ≤ x2)) (brA (decide (x2 < ((x0.length : Nat) : Int))) (callX (fun n => impl_SerialOne.f n x3 (List.getD x0 (Int.toNat x2) [])) fun t2 => brA (decide (t2.2.2 = (3 : Int))) (k (.tup [.own 0 0, .own 1 0]) ⟨[], [some ⟨37, ([] : List S37), 0⟩, some ⟨3, ([] : List Int), 0⟩]⟩) (brA (decide ((x4.length + 1) ≤ 17592186044416)) (LP_29_0 k x0 x1 (wrap64 (x2 + (1 : Int))) t2.1 (x4 ++ ([t2.2.1] : List Int))) (none))) (none)) (none)) (callX (fun n => impl_copied_int.f x4) fun t3 => k (.tup [.own 0 0, .own 1 0]) ⟨[], [some ⟨37, x3, 0⟩, some ⟨3, t3, 0⟩]⟩) : Option Unit) := by
 simp only [← wrapA_i64]
 kernel_rfl
theorem w_29 (l0 : List S37) (l1 : List (List S95)) (k : AV tau → Mem tau → Option Unit) : fnA E_29 C_29 D_29 Try.f29 B_29 [.sl 37 l0, .sl 60 l1] ⟨[], []⟩ k = (callX (fun n => impl_BoxOk.f n l0) fun t0 => brA (!t0) (k (.tup [.own 0 0, .own 1 0]) ⟨[], [some ⟨37, ([] : List S37), 0⟩, some ⟨3, ([] : List Int), 0⟩]⟩) (brA (decide (((l1.length : Nat) : Int) > (100 : Int))) (k (.tup [.own 0 0, .own 1 0]) ⟨[], [some ⟨37, ([] : List S37), 0⟩, some ⟨3, ([] : List Int), 0⟩]⟩) (callX (fun n => impl_copied_impl_Box.f l0) fun t1 => LP_29_0 k l1 ((l1.length : Nat) : Int) (0 : Int) t1 ([] : List Int))) : Option Unit) := by kernel_rfl
def S_29_0 (N : Nat) : Prop := ∀ (k : AV tau → Mem tau → Option Unit) (x0 : (List (List S95))) (x1 : Int) (x2 : Int) (x3 : (List S37)) (x4 : (List Int)) (r : (List (S37)) × List Int), impl_SerialAll.l0 N (x3) (x4) (x0) (x1) (x2) = some r → k (.tup [.own 0 0, .own 1 0]) ⟨[], [some ⟨37, r.1, 0⟩, some ⟨3, r.2, 0⟩]⟩ = some () → LP_29_0 k x0 x1 x2 x3 x4 = some ()
theorem L_29 (N : Nat) : S_29_0 N := by
 induction N using Nat.strongRecOn with | _ N0 ih =>
 skip
 intro k x0 x1 x2 x3 x4 r h hk
 rcases N0 with _ | N
 · cases h
 first | rw [impl_SerialAll.l0] at h | simp only [impl_SerialAll.l0] at h | (unfold impl_SerialAll.l0 at h; dsimp only at h)
 refine loop_fold mC_29 mD_29 ?_
 refine (w_29_0 k x0 x1 x2 x3 x4).trans ?_
 refine br_eti h rfl (fun c23 h => ?_) (fun c23 h => ?_)
 ·refine call_h 0 h (fun t3 e24 h => ?_)
  cases h; exact hk
 refine br_g h rfl (fun c25 h => ?_)
 refine br_g h rfl (fun c26 h => ?_)
 refine call_h N h (fun t2 e27 h => ?_)
 refine br_ite h rfl (fun c28 h => ?_) (fun c28 h => ?_)
 ·cases h; exact hk
 refine br_g h (by first | rfl | exact dect | exact (congrArg not dect) | (simp; done) | (simp [beqI]; done) | (simp; omega)) (fun c29 h => ?_)
 exact (ih N (by omega)) _ _ _ _ _ _ _ h hk
theorem okc_29 (args : List (AV tau)) (m : Mem tau) (κ : AV tau → Mem tau → Option Unit) (hh : c_29 args m κ = some ()) : ∃ av m1, κ av m1 = some () ∧ ToldA Try.prog TT (pnT 29) 29 args m av m1 := by
 obtain ⟨bx_, rw_⟩ := m
 unfold c_29 at hh
 simp only at hh
 split at hh
 case h_2 => cases hh
 rename_i b0 b1
 obtain ⟨l0, hx0, hh0⟩ := bO_some hh
 obtain ⟨l1, hx1, hh1⟩ := bO_some hh0
 have ex0 := asSl_some hx0
 have ex1 := asSl_some hx1
 subst ex0 ex1
 obtain ⟨N, t, h, hκ⟩ := callX_some hh1
 refine ⟨_, _, hκ, told_of_run pq okC_29 (fun _ _ _ => drawA_ok pq okC_29 hmix) (E := E_29) (fn := Try.f29) (body := B_29) (by kernel_rfl) (by kernel_rfl) (by kernel_rfl) (by rfl) (by exact Nat.le_of_ble_eq_true rfl) (fun k hk => ?_)⟩
 refine (w_29 l0 l1 k).trans ?_
 replace h : impl_SerialAll.f N l0 l1 = some t := h
 unfold impl_SerialAll.f at h
 refine call_h N h (fun t0 e30 h => ?_)
 refine br_etn h (congrArg not dect) (fun c31 h => ?_) (fun c31 h => ?_)
 ·rcases N with _ | N
  · cases h
  first | rw [impl_SerialAll.j0] at h | simp only [impl_SerialAll.j0] at h | (unfold impl_SerialAll.j0 at h; dsimp only at h)
  replace h := ite_t h (by first | assumption | omega | simp_all)
  cases h; exact hk
 rcases N with _ | N
 · cases h
 first | rw [impl_SerialAll.j0] at h | simp only [impl_SerialAll.j0] at h | (unfold impl_SerialAll.j0 at h; dsimp only at h)
 refine br_ite h (by first | rfl | exact dect | exact (congrArg not dect) | (simp; done) | (simp [beqI]; done) | (simp; omega)) (fun c32 h => ?_) (fun c32 h => ?_)
 ·cases h; exact hk
 refine call_h 0 h (fun t1 e33 h => ?_)
 exact (L_29 N) _ _ _ _ _ _ _ h hk
noncomputable def C_78 : Ctr tau Unit := ctrS 29 c_29 C_29
noncomputable def D_78 : Drw tau := drawA E_78 C_78
theorem okC_78 : CtrOk Try.prog TT pnT C_78 := ctrS_ok okC_29 okc_29
theorem mC_78 : CtrMono C_78 := ctrS_mono mC_29 mc_29
theorem mD_78 : DrMono D_78 := drawA_mono mC_78
noncomputable def B_78 : Code := Try.f78.body.getD .skip
theorem mc_78 (args : List (AV tau)) (m : Mem tau) (k k' : AV tau → Mem tau → Option Unit) (hk : ∀ av m, k av m = some () → k' av m = some ()) (h : c_78 args m k = some ()) : c_78 args m k' = some () := by
 unfold c_78 at h ⊢
 split at h
 · repeat' first | exact callX_mono (fun _ h => hk _ _ h) h | refine bO_mono (fun _ h => ?_) h
 · cases h
theorem w_78 (l0 : List Int) (k : AV tau → Mem tau → Option Unit) : fnA E_78 C_78 D_78 Try.f78 B_78 [.sl 5 l0] ⟨[], []⟩ k = (brA (decide (((l0.length : Nat) : Int) > (2000 : Int))) (brA (decide ((2000 : Int) ≤ ((l0.length : Nat) : Int))) (k (.ptr 0 0) ⟨[some (172, [.sl 5 (List.take 2000 l0), .int .i64 (0 : Int)])], []⟩) (none)) (k (.ptr 0 0) ⟨[some (172, [.sl 5 l0, .int .i64 (0 : Int)])], []⟩) : Option Unit) := by kernel_rfl
theorem okc_78 (args : List (AV tau)) (m : Mem tau) (κ : AV tau → Mem tau → Option Unit) (hh : c_78 args m κ = some ()) : ∃ av m1, κ av m1 = some () ∧ ToldA Try.prog TT (pnT 78) 78 args m av m1 := by
 obtain ⟨bx_, rw_⟩ := m
 unfold c_78 at hh
 simp only at hh
 split at hh
 case h_2 => cases hh
 rename_i b0
 obtain ⟨l0, hx0, hh0⟩ := bO_some hh
 have ex0 := asSl_some hx0
 subst ex0
 obtain ⟨N, t, h, hκ⟩ := callX_some hh0
 refine ⟨_, _, hκ, told_of_run pq okC_78 (fun _ _ _ => drawA_ok pq okC_78 hmix) (E := E_78) (fn := Try.f78) (body := B_78) (by kernel_rfl) (by kernel_rfl) (by kernel_rfl) (by rfl) (by exact Nat.le_of_ble_eq_true rfl) (fun k hk => ?_)⟩
 refine (w_78 l0 k).trans ?_
 replace h : spec_l15Open.f l0 = some t := h
 unfold spec_l15Open.f at h
 refine br_eti h rfl (fun c3 h => ?_) (fun c3 h => ?_)
 ·cases h; exact hk
 refine br_g h rfl (fun c4 h => ?_)
 cases h; exact hk
noncomputable def C_79 : Ctr tau Unit := ctrS 78 c_78 C_78
noncomputable def D_79 : Drw tau := drawA E_79 C_79
theorem okC_79 : CtrOk Try.prog TT pnT C_79 := ctrS_ok okC_78 okc_78
theorem mC_79 : CtrMono C_79 := ctrS_mono mC_78 mc_78
theorem mD_79 : DrMono D_79 := drawA_mono mC_79
noncomputable def B_79 : Code := Try.f79.body.getD .skip
theorem mc_79 (args : List (AV tau)) (m : Mem tau) (k k' : AV tau → Mem tau → Option Unit) (hk : ∀ av m, k av m = some () → k' av m = some ()) (h : c_79 args m k = some ()) : c_79 args m k' = some () := by
 unfold c_79 at h ⊢
 split at h
 · repeat' first | exact callX_mono (fun _ h => hk _ _ h) h | refine bO_mono (fun _ h => ?_) h
 · cases h
theorem w_79 (s0_0 : List Int) (s0_1 : Int) (a1 : Int) (k : AV tau → Mem tau → Option Unit) : fnA E_79 C_79 D_79 Try.f79 B_79 [.ptr 0 0, .int .i64 a1] ⟨[some (172, [.sl 5 s0_0, .int .i64 s0_1])], []⟩ k = (brA (decide (a1 < (1 : Int))) (k (.int .i64 (0 : Int)) ⟨[some (172, [.sl 5 s0_0, .int .i64 (wrap64 (s0_1 + (1 : Int)))])], []⟩) (brA (decide (((s0_0.length : Nat) : Int) = (0 : Int))) (k (.int .i64 (0 : Int)) ⟨[some (172, [.sl 5 s0_0, .int .i64 (wrap64 (s0_1 + (1 : Int)))])], []⟩) (brA (decide ((wrap64 ((wrap64 (s0_1 + (1 : Int))) - (1 : Int))) < ((s0_0.length : Nat) : Int))) (brA (decide ((0 : Int) ≤ (wrap64 ((wrap64 (s0_1 + (1 : Int))) - (1 : Int))))) (brA (decide ((wrap64 ((wrap64 (s0_1 + (1 : Int))) - (1 : Int))) < ((s0_0.length : Nat) : Int))) (brA (!(decide (a1 = (0 : Int)))) (k (.int .i64 (Int.tmod (wrap64 (rd s0_0 (wrap64 ((wrap64 (s0_1 + (1 : Int))) - (1 : Int))))) a1)) ⟨[some (172, [.sl 5 s0_0, .int .i64 (wrap64 (s0_1 + (1 : Int)))])], []⟩) (none)) (none)) (none)) (brA (!(decide (((s0_0.length : Nat) : Int) = (0 : Int)))) (brA (decide ((0 : Int) ≤ (Int.tmod (wrap64 ((wrap64 (s0_1 + (1 : Int))) - (1 : Int))) ((s0_0.length : Nat) : Int)))) (brA (decide ((Int.tmod (wrap64 ((wrap64 (s0_1 + (1 : Int))) - (1 : Int))) ((s0_0.length : Nat) : Int)) < ((s0_0.length : Nat) : Int))) (brA (!(decide (((s0_0.length : Nat) : Int) = (0 : Int)))) (brA (decide ((0 : Int) ≤ (Int.tmod (wrap64 ((wrap64 ((wrap64 ((wrap64 (s0_1 + (1 : Int))) - (1 : Int))) * (7 : Int))) + (3 : Int))) ((s0_0.length : Nat) : Int)))) (brA (decide ((Int.tmod (wrap64 ((wrap64 ((wrap64 ((wrap64 (s0_1 + (1 : Int))) - (1 : Int))) * (7 : Int))) + (3 : Int))) ((s0_0.length : Nat) : Int)) < ((s0_0.length : Nat) : Int))) (brA (!(decide (((s0_0.length : Nat) : Int) = (0 : Int)))) (brA (!(decide (a1 = (0 : Int)))) (k (.int .i64 (Int.tmod (Go.bits .xor .i64 (wrap64 ((wrap64 ((wrap64 ((wrap64 ((wrap64 (rd s0_0 (Int.tmod (wrap64 ((wrap64 (s0_1 + (1 : Int))) - (1 : Int))) ((s0_0.length : Nat) : Int)))) * (131 : Int))) + (wrap64 ((wrap64 (rd s0_0 (Int.tmod (wrap64 ((wrap64 ((wrap64 ((wrap64 (s0_1 + (1 : Int))) - (1 : Int))) * (7 : Int))) + (3 : Int))) ((s0_0.length : Nat) : Int)))) * (1117 : Int))))) + (wrap64 ((wrap64 ((wrap64 (s0_1 + (1 : Int))) - (1 : Int))) * (29 : Int))))) + (wrap64 ((wrap64 (Int.tdiv (wrap64 ((wrap64 (s0_1 + (1 : Int))) - (1 : Int))) ((s0_0.length : Nat) : Int))) * (53 : Int))))) (wrap64 (Int.tdiv (wrap64 ((wrap64 ((wrap64 ((wrap64 ((wrap64 (rd s0_0 (Int.tmod (wrap64 ((wrap64 (s0_1 + (1 : Int))) - (1 : Int))) ((s0_0.length : Nat) : Int)))) * (131 : Int))) + (wrap64 ((wrap64 (rd s0_0 (Int.tmod (wrap64 ((wrap64 ((wrap64 ((wrap64 (s0_1 + (1 : Int))) - (1 : Int))) * (7 : Int))) + (3 : Int))) ((s0_0.length : Nat) : Int)))) * (1117 : Int))))) + (wrap64 ((wrap64 ((wrap64 (s0_1 + (1 : Int))) - (1 : Int))) * (29 : Int))))) + (wrap64 ((wrap64 (Int.tdiv (wrap64 ((wrap64 (s0_1 + (1 : Int))) - (1 : Int))) ((s0_0.length : Nat) : Int))) * (53 : Int))))) (64 : Int)))) a1)) ⟨[some (172, [.sl 5 s0_0, .int .i64 (wrap64 (s0_1 + (1 : Int)))])], []⟩) (none)) (none)) (none)) (none)) (none)) (none)) (none)) (none)))) : Option Unit) := by
 simp only [← wrapA_i64]
 kernel_rfl
theorem okc_79 (args : List (AV tau)) (m : Mem tau) (κ : AV tau → Mem tau → Option Unit) (hh : c_79 args m κ = some ()) : ∃ av m1, κ av m1 = some () ∧ ToldA Try.prog TT (pnT 79) 79 args m av m1 := by
 obtain ⟨bx_, rw_⟩ := m
 unfold c_79 at hh
 simp only at hh
 split at hh
 case h_2 => cases hh
 rename_i p0 b0 t0_ c0_0 c0_1
 obtain ⟨u12, hx0, hh0⟩ := bO_some hh
 obtain ⟨u13, hx1, hh1⟩ := bO_some hh0
 obtain ⟨s0_0, hx2, hh2⟩ := bO_some hh1
 obtain ⟨s0_1, hx3, hh3⟩ := bO_some hh2
 obtain ⟨a1, hx4, hh4⟩ := bO_some hh3
 have ex0 := asPtr_some hx0
 have ex1 := asT_some hx1
 have ex2 := asSl_some hx2
 have ex3 := asI_some hx3
 have ex4 := asI_some hx4
 subst ex0 ex1 ex2 ex3 ex4
 obtain ⟨N, t, h, hκ⟩ := callX_some hh4
 refine ⟨_, _, hκ, told_of_run pq okC_79 (fun _ _ _ => drawA_ok pq okC_79 hmix) (E := E_79) (fn := Try.f79) (body := B_79) (by kernel_rfl) (by kernel_rfl) (by kernel_rfl) (by rfl) (by exact Nat.le_of_ble_eq_true rfl) (fun k hk => ?_)⟩
 refine (w_79 s0_0 s0_1 a1 k).trans ?_
 replace h : spec_l15Rd_pick.f N s0_0 s0_1 a1 = some t := h
 unfold spec_l15Rd_pick.f at h
 refine br_ite h rfl (fun c14 h => ?_) (fun c14 h => ?_)
 ·rcases N with _ | N
  · cases h
  first | rw [spec_l15Rd_pick.j0] at h | simp only [spec_l15Rd_pick.j0] at h | (unfold spec_l15Rd_pick.j0 at h; dsimp only at h)
  replace h := ite_t h (by first | assumption | omega | simp_all)
  cases h; exact hk
 rcases N with _ | N
 · cases h
 first | rw [spec_l15Rd_pick.j0] at h | simp only [spec_l15Rd_pick.j0] at h | (unfold spec_l15Rd_pick.j0 at h; dsimp only at h)
 refine br_ite h (by first | rfl | exact dect | exact (congrArg not dect) | (simp; done) | (simp [beqI]; done) | (simp; omega)) (fun c15 h => ?_) (fun c15 h => ?_)
 ·cases h; exact hk
 refine br_ite h rfl (fun c16 h => ?_) (fun c16 h => ?_)
 ·refine br_g h rfl (fun c17 h => ?_)
  refine br_t (by first | (simp [c16]; done) | (simp; omega) | (simp only [List.length_append, List.length_cons, List.length_nil, List.length_take, List.length_drop] at c16 c15 ⊢; simp; omega) | (simp only [List.length_append, List.length_cons, List.length_nil, List.length_take, List.length_drop] at c16 c15; simp; omega) | (simp_all; done)) ?_
  refine br_nn h rfl (fun c18 h => ?_)
  cases h; exact hk
 refine br_nn h rfl (fun c19 h => ?_)
 refine br_g h rfl (fun c20 h => ?_)
 refine br_g h rfl (fun c21 h => ?_)
 refine br_t (by first | (simp [c19]; done) | (simp; omega) | (simp only [List.length_append, List.length_cons, List.length_nil, List.length_take, List.length_drop] at c21 c20 c19 c16 c15 ⊢; simp; omega) | (simp only [List.length_append, List.length_cons, List.length_nil, List.length_take, List.length_drop] at c21 c20 c19 c16 c15; simp; omega) | (simp_all; done)) ?_
 refine br_g h rfl (fun c22 h => ?_)
 refine br_g h rfl (fun c23 h => ?_)
 refine br_t (by first | (simp [c19]; done) | (simp; omega) | (simp only [List.length_append, List.length_cons, List.length_nil, List.length_take, List.length_drop] at c23 c22 c21 c20 c19 ⊢; simp; omega) | (simp only [List.length_append, List.length_cons, List.length_nil, List.length_take, List.length_drop] at c23 c22 c21 c20 c19; simp; omega) | (simp_all; done)) ?_
 refine br_nn h rfl (fun c24 h => ?_)
 cases h; exact hk
noncomputable def C_145 : Ctr tau Unit := ctrS 79 c_79 C_79
noncomputable def D_145 : Drw tau := drawA E_145 C_145
theorem okC_145 : CtrOk Try.prog TT pnT C_145 := ctrS_ok okC_79 okc_79
theorem mC_145 : CtrMono C_145 := ctrS_mono mC_79 mc_79
theorem mD_145 : DrMono D_145 := drawA_mono mC_145
noncomputable def B_145 : Code := Try.f145.body.getD .skip
theorem mc_145 (args : List (AV tau)) (m : Mem tau) (k k' : AV tau → Mem tau → Option Unit) (hk : ∀ av m, k av m = some () → k' av m = some ()) (h : c_145 args m k = some ()) : c_145 args m k' = some () := by
 unfold c_145 at h ⊢
 split at h
 · repeat' first | exact callX_mono (fun _ h => hk _ _ h) h | refine bO_mono (fun _ h => ?_) h
 · cases h
theorem w_145 (s0_0 : List Int) (s0_1 : Int) (l1 : List Int) (k : AV tau → Mem tau → Option Unit) : fnA E_145 C_145 D_145 Try.f145 B_145 [.ptr 0 0, .own 0 0] ⟨[some (172, [.sl 5 s0_0, .int .i64 s0_1])], [some ⟨3, l1, 0⟩]⟩ k = (callX (fun n => spec_l15Rd_pick.f n s0_0 s0_1 ((l1.length : Nat) : Int)) fun t0 => brA (decide ((0 : Int) ≤ t0.1)) (brA (decide (t0.1 < ((l1.length : Nat) : Int))) (k (.int .i64 (rd l1 t0.1)) ⟨[some (172, [.sl 5 s0_0, .int .i64 t0.2])], [some ⟨3, l1, 0⟩]⟩) (none)) (none) : Option Unit) := by kernel_rfl
theorem okc_145 (args : List (AV tau)) (m : Mem tau) (κ : AV tau → Mem tau → Option Unit) (hh : c_145 args m κ = some ()) : ∃ av m1, κ av m1 = some () ∧ ToldA Try.prog TT (pnT 145) 145 args m av m1 := by
 obtain ⟨bx_, rw_⟩ := m
 unfold c_145 at hh
 simp only at hh
 split at hh
 case h_2 => cases hh
 rename_i p0 b0 t0_ c0_0 c0_1 r0
 obtain ⟨u4, hx0, hh0⟩ := bO_some hh
 obtain ⟨u5, hx1, hh1⟩ := bO_some hh0
 obtain ⟨s0_0, hx2, hh2⟩ := bO_some hh1
 obtain ⟨s0_1, hx3, hh3⟩ := bO_some hh2
 obtain ⟨u6, hx4, hh4⟩ := bO_some hh3
 obtain ⟨l1, hx5, hh5⟩ := bO_some hh4
 have ex0 := asPtr_some hx0
 have ex1 := asT_some hx1
 have ex2 := asSl_some hx2
 have ex3 := asI_some hx3
 have ex4 := asOwn_some hx4
 have ex5 := asRow_some hx5
 subst ex0 ex1 ex2 ex3 ex4 ex5
 obtain ⟨N, t, h, hκ⟩ := callX_some hh5
 refine ⟨_, _, hκ, told_of_run pq okC_145 (fun _ _ _ => drawA_ok pq okC_145 hmix) (E := E_145) (fn := Try.f145) (body := B_145) (by kernel_rfl) (by kernel_rfl) (by kernel_rfl) (by rfl) (by exact Nat.le_of_ble_eq_true rfl) (fun k hk => ?_)⟩
 refine (w_145 s0_0 s0_1 l1 k).trans ?_
 replace h : spec_l15Rd_num.f N s0_0 s0_1 l1 = some t := h
 unfold spec_l15Rd_num.f at h
 refine call_h N h (fun t0 e7 h => ?_)
 refine br_g h rfl (fun c8 h => ?_)
 refine br_g h rfl (fun c9 h => ?_)
 cases h; exact hk
noncomputable def C_149 : Ctr tau Unit := ctrS 145 c_145 C_145
noncomputable def D_149 : Drw tau := drawA E_149 C_149
theorem okC_149 : CtrOk Try.prog TT pnT C_149 := ctrS_ok okC_145 okc_145
theorem mC_149 : CtrMono C_149 := ctrS_mono mC_145 mc_145
theorem mD_149 : DrMono D_149 := drawA_mono mC_149
noncomputable def B_149 : Code := Try.f149.body.getD .skip
theorem mc_149 (args : List (AV tau)) (m : Mem tau) (k k' : AV tau → Mem tau → Option Unit) (hk : ∀ av m, k av m = some () → k' av m = some ()) (h : c_149 args m k = some ()) : c_149 args m k' = some () := by
 unfold c_149 at h ⊢
 split at h
 · repeat' first | exact callX_mono (fun _ h => hk _ _ h) h | refine bO_mono (fun _ h => ?_) h
 · cases h
theorem w_149  (k : AV tau → Mem tau → Option Unit) : fnA E_149 C_149 D_149 Try.f149 B_149 [] ⟨[], []⟩ k = (k (.own 0 0) ⟨[], [some ⟨37, ([(⟨(0 : Int), (0 : Int)⟩ : S37), (⟨(0 : Int), (0 : Int)⟩ : S37), (⟨(0 : Int), (0 : Int)⟩ : S37), (⟨(0 : Int), (0 : Int)⟩ : S37)] : List S37), 0⟩]⟩ : Option Unit) := by kernel_rfl
theorem okc_149 (args : List (AV tau)) (m : Mem tau) (κ : AV tau → Mem tau → Option Unit) (hh : c_149 args m κ = some ()) : ∃ av m1, κ av m1 = some () ∧ ToldA Try.prog TT (pnT 149) 149 args m av m1 := by
 obtain ⟨bx_, rw_⟩ := m
 unfold c_149 at hh
 simp only at hh
 split at hh
 case h_2 => cases hh
 obtain ⟨N, t, h, hκ⟩ := callX_some hh
 refine ⟨_, _, hκ, told_of_run pq okC_149 (fun _ _ _ => drawA_ok pq okC_149 hmix) (E := E_149) (fn := Try.f149) (body := B_149) (by kernel_rfl) (by kernel_rfl) (by kernel_rfl) (by rfl) (by exact Nat.le_of_ble_eq_true rfl) (fun k hk => ?_)⟩
 refine (w_149 k).trans ?_
 replace h : spec_BoxOpen.f = some t := h
 unfold spec_BoxOpen.f at h
 replace h := ite_t h (by first | assumption | omega | simp_all)
 cases h; exact hk
noncomputable def C_98 : Ctr tau Unit := ctrS 149 c_149 C_149
noncomputable def D_98 : Drw tau := drawA E_98 C_98
theorem okC_98 : CtrOk Try.prog TT pnT C_98 := ctrS_ok okC_149 okc_149
theorem mC_98 : CtrMono C_98 := ctrS_mono mC_149 mc_149
theorem mD_98 : DrMono D_98 := drawA_mono mC_98
noncomputable def B_98 : Code := Try.f98.body.getD .skip
theorem mc_98 (args : List (AV tau)) (m : Mem tau) (k k' : AV tau → Mem tau → Option Unit) (hk : ∀ av m, k av m = some () → k' av m = some ()) (h : c_98 args m k = some ()) : c_98 args m k' = some () := by
 unfold c_98 at h ⊢
 split at h
 · repeat' first | exact callX_mono (fun _ h => hk _ _ h) h | refine bO_mono (fun _ h => ?_) h
 · cases h
noncomputable def K_98_0 (k : AV tau → Mem tau → Option Unit) : Kon tau := (kBlock 0 (kS E_98 C_98 D_98 (codeP B_98 [1, 1, 1]) (kEnd E_98 Try.f98 k)))
def st_98_0 (x0 : Int) (x1 : (List Int)) (x2 : Int) (x3 : (List S37)) : St tau := ⟨tmL 48 0 [(0, .ptr 0 0), (3, .own 0 0), (4, .int .i64 x0)], ⟨[some (172, [.sl 5 x1, .int .i64 x2])], [some ⟨37, x3, 0⟩]⟩⟩
noncomputable def LP_98_0 (k : AV tau → Mem tau → Option Unit) (x0 : Int) (x1 : (List Int)) (x2 : Int) (x3 : (List S37)) : Option Unit := loopA E_98 (codeA E_98 C_98 D_98 (codeP B_98 [1, 1, 0, 1, 0, 0])) (codeP B_98 [1, 1, 0, 1, 0, 0]) (K_98_0 k) (st_98_0 x0 x1 x2 x3)
theorem w_98_0 (k : AV tau → Mem tau → Option Unit) (x0 : Int) (x1 : (List Int)) (x2 : Int) (x3 : (List S37)) : codeA E_98 C_98 D_98 (codeP B_98 [1, 1, 0, 1, 0, 0]) (kL E_98 C_98 D_98 (codeP B_98 [1, 1, 0, 1, 0, 0]) (K_98_0 k)) (st_98_0 x0 x1 x2 x3) = (brA (decide (x0 < ((x3.length : Nat) : Int))) (callX (fun n => spec_l15Rd_pick.f n x1 x2 (5 : Int)) fun t1 => callX (fun n => spec_l15Rd_num.f n x1 t1.2 ([(0 : Int), (1 : Int), (2 : Int), (5 : Int), (-(3 : Int)), (7 : Int), (100 : Int), (1000000 : Int), (-(1000000 : Int))] : List Int)) fun t2 => brA (decide ((0 : Int) ≤ x0)) (brA (decide (x0 < ((x3.length : Nat) : Int))) (LP_98_0 k (wrap64 (x0 + (1 : Int))) x1 t2.2 (List.set x3 (Int.toNat x0) (⟨t1.1, t2.1⟩ : S37))) (none)) (none)) (callX (fun n => spec_l15Rd_pick.f n x1 x2 (30 : Int)) fun t3 => brA (decide (t3.1 = (0 : Int))) (brA (decide ((3 : Int) ≤ ((x3.length : Nat) : Int))) (k (.own 0 0) ⟨[some (172, [.sl 5 x1, .int .i64 t3.2])], [some ⟨37, (List.take 3 x3), 0⟩]⟩) (none)) (brA (decide (t3.1 = (1 : Int))) (callX (fun n => spec_l15Rd_pick.f n x1 t3.2 (4 : Int)) fun t4 => callX (fun n => spec_l15Rd_num.f n x1 t4.2 ([(-(1 : Int)), (1000001 : Int)] : List Int)) fun t5 => brA (decide ((0 : Int) ≤ t4.1)) (brA (decide (t4.1 < ((x3.length : Nat) : Int))) (k (.own 0 0) ⟨[some (172, [.sl 5 x1, .int .i64 t5.2])], [some ⟨37, (List.set x3 (Int.toNat t4.1) (⟨t5.1, (rd_T37 x3 t4.1).f1⟩ : S37)), 0⟩]⟩) (none)) (none)) (brA (decide (t3.1 = (2 : Int))) (callX (fun n => spec_l15Rd_pick.f n x1 t3.2 (4 : Int)) fun t6 => callX (fun n => spec_l15Rd_num.f n x1 t6.2 ([(1000001 : Int), (-(1000001 : Int))] : List Int)) fun t7 => brA (decide ((0 : Int) ≤ t6.1)) (brA (decide (t6.1 < ((x3.length : Nat) : Int))) (k (.own 0 0) ⟨[some (172, [.sl 5 x1, .int .i64 t7.2])], [some ⟨37, (List.set x3 (Int.toNat t6.1) (⟨(rd_T37 x3 t6.1).f0, t7.1⟩ : S37)), 0⟩]⟩) (none)) (none)) (k (.own 0 0) ⟨[some (172, [.sl 5 x1, .int .i64 t3.2])], [some ⟨37, x3, 0⟩]⟩)))) : Option Unit) := by
 simp only [← wrapA_i64]
 kernel_rfl
theorem w_98 (s0_0 : List Int) (s0_1 : Int) (k : AV tau → Mem tau → Option Unit) : fnA E_98 C_98 D_98 Try.f98 B_98 [.ptr 0 0] ⟨[some (172, [.sl 5 s0_0, .int .i64 s0_1])], []⟩ k = (callX (fun n => spec_BoxOpen.f ) fun t0 => LP_98_0 k (0 : Int) s0_0 s0_1 t0 : Option Unit) := by kernel_rfl
def S_98_0 (N : Nat) : Prop := ∀ (k : AV tau → Mem tau → Option Unit) (x0 : Int) (x1 : (List Int)) (x2 : Int) (x3 : (List S37)) (r : (List (S37)) × Int), spec_l1Boxes.l0 N (x3) (x0) (x1) (x2) = some r → k (.own 0 0) ⟨[some (172, [.sl 5 ((x1)), .int .i64 (r.2)])], [some ⟨37, r.1, 0⟩]⟩ = some () → LP_98_0 k x0 x1 x2 x3 = some ()
theorem L_98 (N : Nat) : S_98_0 N := by
 induction N using Nat.strongRecOn with | _ N0 ih =>
 skip
 intro k x0 x1 x2 x3 r h hk
 rcases N0 with _ | N
 · cases h
 first | rw [spec_l1Boxes.l0] at h | simp only [spec_l1Boxes.l0] at h | (unfold spec_l1Boxes.l0 at h; dsimp only at h)
 refine loop_fold mC_98 mD_98 ?_
 refine (w_98_0 k x0 x1 x2 x3).trans ?_
 refine br_ite h rfl (fun c37 h => ?_) (fun c37 h => ?_)
 ·refine call_h N h (fun t1 e38 h => ?_)
  refine call_h N h (fun t2 e39 h => ?_)
  refine br_g h rfl (fun c40 h => ?_)
  refine br_t (by first | (simp [c37]; done) | (simp; omega) | (simp only [List.length_append, List.length_cons, List.length_nil, List.length_take, List.length_drop] at c37 ⊢; simp; omega) | (simp only [List.length_append, List.length_cons, List.length_nil, List.length_take, List.length_drop] at c37; simp; omega) | (simp_all; done)) ?_
  exact (ih N (by omega)) _ _ _ _ _ _ h hk
 refine call_h N h (fun t3 e41 h => ?_)
 refine br_ite h rfl (fun c42 h => ?_) (fun c42 h => ?_)
 ·refine br_g h rfl (fun c43 h => ?_)
  cases h; exact hk
 refine br_ite h rfl (fun c44 h => ?_) (fun c44 h => ?_)
 ·refine call_h N h (fun t4 e45 h => ?_)
  refine call_h N h (fun t5 e46 h => ?_)
  refine br_g h rfl (fun c47 h => ?_)
  refine br_g h rfl (fun c48 h => ?_)
  cases h; exact hk
 refine br_eti h rfl (fun c49 h => ?_) (fun c49 h => ?_)
 ·cases h; exact hk
 refine call_h N h (fun t6 e50 h => ?_)
 refine call_h N h (fun t7 e51 h => ?_)
 refine br_g h rfl (fun c52 h => ?_)
 refine br_g h rfl (fun c53 h => ?_)
 cases h; exact hk
theorem okc_98 (args : List (AV tau)) (m : Mem tau) (κ : AV tau → Mem tau → Option Unit) (hh : c_98 args m κ = some ()) : ∃ av m1, κ av m1 = some () ∧ ToldA Try.prog TT (pnT 98) 98 args m av m1 := by
 obtain ⟨bx_, rw_⟩ := m
 unfold c_98 at hh
 simp only at hh
 split at hh
 case h_2 => cases hh
 rename_i p0 t0_ c0_0 c0_1
 obtain ⟨u54, hx0, hh0⟩ := bO_some hh
 obtain ⟨u55, hx1, hh1⟩ := bO_some hh0
 obtain ⟨s0_0, hx2, hh2⟩ := bO_some hh1
 obtain ⟨s0_1, hx3, hh3⟩ := bO_some hh2
 have ex0 := asPtr_some hx0
 have ex1 := asT_some hx1
 have ex2 := asSl_some hx2
 have ex3 := asI_some hx3
 subst ex0 ex1 ex2 ex3
 obtain ⟨N, t, h, hκ⟩ := callX_some hh3
 refine ⟨_, _, hκ, told_of_run pq okC_98 (fun _ _ _ => drawA_ok pq okC_98 hmix) (E := E_98) (fn := Try.f98) (body := B_98) (by kernel_rfl) (by kernel_rfl) (by kernel_rfl) (by rfl) (by exact Nat.le_of_ble_eq_true rfl) (fun k hk => ?_)⟩
 refine (w_98 s0_0 s0_1 k).trans ?_
 replace h : spec_l1Boxes.f N s0_0 s0_1 = some t := h
 unfold spec_l1Boxes.f at h
 refine call_h 0 h (fun t0 e56 h => ?_)
 exact (L_98 N) _ _ _ _ _ _ h hk
noncomputable def C_150 : Ctr tau Unit := ctrS 98 c_98 C_98
noncomputable def D_150 : Drw tau := drawA E_150 C_150
theorem okC_150 : CtrOk Try.prog TT pnT C_150 := ctrS_ok okC_98 okc_98
theorem mC_150 : CtrMono C_150 := ctrS_mono mC_98 mc_98
theorem mD_150 : DrMono D_150 := drawA_mono mC_150
noncomputable def B_150 : Code := Try.f150.body.getD .skip
theorem mc_150 (args : List (AV tau)) (m : Mem tau) (k k' : AV tau → Mem tau → Option Unit) (hk : ∀ av m, k av m = some () → k' av m = some ()) (h : c_150 args m k = some ()) : c_150 args m k' = some () := by
 unfold c_150 at h ⊢
 split at h
 · repeat' first | exact callX_mono (fun _ h => hk _ _ h) h | refine bO_mono (fun _ h => ?_) h
 · cases h
theorem w_150 (s0_0 : List Int) (s0_1 : Int) (k : AV tau → Mem tau → Option Unit) : fnA E_150 C_150 D_150 Try.f150 B_150 [.ptr 0 0] ⟨[some (172, [.sl 5 s0_0, .int .i64 s0_1])], []⟩ k = (callX (fun n => spec_l15Rd_num.f n s0_0 s0_1 ([(1 : Int), (1 : Int), (2 : Int), (2 : Int), (3 : Int), (4 : Int), (4 : Int), (5 : Int), (6 : Int), (7 : Int)] : List Int)) fun t0 => callX (fun n => spec_l15Rd_pick.f n s0_0 t0.2 (3 : Int)) fun t1 => callX (fun n => spec_l15Rd_pick.f n s0_0 t1.2 (3 : Int)) fun t2 => brA (decide (t0.1 = (3 : Int))) (callX (fun n => spec_l15Rd_num.f n s0_0 t2.2 ([(0 : Int), (1 : Int), (5 : Int), (-(2 : Int)), (100 : Int), (1000000 : Int)] : List Int)) fun t3 => k (.agg [.int .i64 t0.1, .int .i64 t1.1, .int .i64 (0 : Int), .int .i64 t3.1]) ⟨[some (172, [.sl 5 s0_0, .int .i64 t3.2])], []⟩) (brA (decide (t0.1 = (6 : Int))) (callX (fun n => spec_l15Rd_pick.f n s0_0 t2.2 (3 : Int)) fun t4 => k (.agg [.int .i64 t0.1, .int .i64 t1.1, .int .i64 t2.1, .int .i64 (wrap64 ((1 : Int) + t4.1))]) ⟨[some (172, [.sl 5 s0_0, .int .i64 t4.2])], []⟩) (brA (decide (t0.1 = (7 : Int))) (callX (fun n => spec_l15Rd_pick.f n s0_0 t2.2 (3 : Int)) fun t5 => brA (decide (t5.1 > (0 : Int))) (callX (fun n => spec_l15Rd_pick.f n s0_0 t5.2 (4 : Int)) fun t6 => callX (fun n => spec_l15Rd_pick.f n s0_0 t6.2 (4 : Int)) fun t7 => k (.agg [.int .i64 (4 : Int), .int .i64 t6.1, .int .i64 t7.1, .int .i64 (0 : Int)]) ⟨[some (172, [.sl 5 s0_0, .int .i64 t7.2])], []⟩) (k (.agg [.int .i64 t0.1, .int .i64 (0 : Int), .int .i64 (0 : Int), .int .i64 (0 : Int)]) ⟨[some (172, [.sl 5 s0_0, .int .i64 t5.2])], []⟩)) (k (.agg [.int .i64 t0.1, .int .i64 t1.1, .int .i64 t2.1, .int .i64 (0 : Int)]) ⟨[some (172, [.sl 5 s0_0, .int .i64 t2.2])], []⟩))) : Option Unit) := by
 simp only [← wrapA_i64]
 kernel_rfl
theorem okc_150 (args : List (AV tau)) (m : Mem tau) (κ : AV tau → Mem tau → Option Unit) (hh : c_150 args m κ = some ()) : ∃ av m1, κ av m1 = some () ∧ ToldA Try.prog TT (pnT 150) 150 args m av m1 := by
 obtain ⟨bx_, rw_⟩ := m
 unfold c_150 at hh
 simp only at hh
 split at hh
 case h_2 => cases hh
 rename_i p0 t0_ c0_0 c0_1
 obtain ⟨u13, hx0, hh0⟩ := bO_some hh
 obtain ⟨u14, hx1, hh1⟩ := bO_some hh0
 obtain ⟨s0_0, hx2, hh2⟩ := bO_some hh1
 obtain ⟨s0_1, hx3, hh3⟩ := bO_some hh2
 have ex0 := asPtr_some hx0
 have ex1 := asT_some hx1
 have ex2 := asSl_some hx2
 have ex3 := asI_some hx3
 subst ex0 ex1 ex2 ex3
 obtain ⟨N, t, h, hκ⟩ := callX_some hh3
 refine ⟨_, _, hκ, told_of_run pq okC_150 (fun _ _ _ => drawA_ok pq okC_150 hmix) (E := E_150) (fn := Try.f150) (body := B_150) (by kernel_rfl) (by kernel_rfl) (by kernel_rfl) (by rfl) (by exact Nat.le_of_ble_eq_true rfl) (fun k hk => ?_)⟩
 refine (w_150 s0_0 s0_1 k).trans ?_
 replace h : spec_l2Any.f N s0_0 s0_1 = some t := h
 unfold spec_l2Any.f at h
 refine call_h N h (fun t0 e15 h => ?_)
 refine call_h N h (fun t1 e16 h => ?_)
 refine call_h N h (fun t2 e17 h => ?_)
 refine br_ite h rfl (fun c18 h => ?_) (fun c18 h => ?_)
 ·refine call_h N h (fun t3 e19 h => ?_)
  cases h; exact hk
 refine br_ite h rfl (fun c20 h => ?_) (fun c20 h => ?_)
 ·refine call_h N h (fun t4 e21 h => ?_)
  cases h; exact hk
 refine br_eti h rfl (fun c22 h => ?_) (fun c22 h => ?_)
 ·cases h; exact hk
 refine call_h N h (fun t5 e23 h => ?_)
 refine br_eti h rfl (fun c24 h => ?_) (fun c24 h => ?_)
 ·cases h; exact hk
 refine call_h N h (fun t6 e25 h => ?_)
 refine call_h N h (fun t7 e26 h => ?_)
 cases h; exact hk
noncomputable def C_99 : Ctr tau Unit := ctrS 150 c_150 C_150
noncomputable def D_99 : Drw tau := drawA E_99 C_99
theorem okC_99 : CtrOk Try.prog TT pnT C_99 := ctrS_ok okC_150 okc_150
theorem mC_99 : CtrMono C_99 := ctrS_mono mC_150 mc_150
theorem mD_99 : DrMono D_99 := drawA_mono mC_99
noncomputable def B_99 : Code := Try.f99.body.getD .skip
theorem mc_99 (args : List (AV tau)) (m : Mem tau) (k k' : AV tau → Mem tau → Option Unit) (hk : ∀ av m, k av m = some () → k' av m = some ()) (h : c_99 args m k = some ()) : c_99 args m k' = some () := by
 unfold c_99 at h ⊢
 split at h
 · repeat' first | exact callX_mono (fun _ h => hk _ _ h) h | refine bO_mono (fun _ h => ?_) h
 · cases h
noncomputable def K_99_0 (k : AV tau → Mem tau → Option Unit) : Kon tau := (kBlock 0 (kS E_99 C_99 D_99 (codeP B_99 [1, 1, 1, 1]) (kEnd E_99 Try.f99 k)))
def st_99_0 (x0 : Int) (x1 : (List Int)) (x2 : Int) (x3 : (List S95)) : St tau := ⟨tmL 37 0 [(0, .ptr 0 0), (5, .own 0 0), (6, .int .i64 x0)], ⟨[some (172, [.sl 5 x1, .int .i64 x2])], [some ⟨95, x3, 0⟩]⟩⟩
noncomputable def LP_99_0 (k : AV tau → Mem tau → Option Unit) (x0 : Int) (x1 : (List Int)) (x2 : Int) (x3 : (List S95)) : Option Unit := loopA E_99 (codeA E_99 C_99 D_99 (codeP B_99 [1, 1, 1, 0, 1, 0, 0])) (codeP B_99 [1, 1, 1, 0, 1, 0, 0]) (K_99_0 k) (st_99_0 x0 x1 x2 x3)
theorem w_99_0 (k : AV tau → Mem tau → Option Unit) (x0 : Int) (x1 : (List Int)) (x2 : Int) (x3 : (List S95)) : codeA E_99 C_99 D_99 (codeP B_99 [1, 1, 1, 0, 1, 0, 0]) (kL E_99 C_99 D_99 (codeP B_99 [1, 1, 1, 0, 1, 0, 0]) (K_99_0 k)) (st_99_0 x0 x1 x2 x3) = (brA (decide (x0 > (0 : Int))) (callX (fun n => spec_l2Any.f n x1 x2) fun t5 => brA (decide ((x3.length + 1) ≤ 4398046511104)) (LP_99_0 k (wrap64 (x0 - (1 : Int))) x1 t5.2.2.2.2 (x3 ++ ([(⟨t5.1, t5.2.1, t5.2.2.1, t5.2.2.2.1⟩ : S95)] : List S95))) (none)) (k (.own 0 0) ⟨[some (172, [.sl 5 x1, .int .i64 x2])], [some ⟨95, x3, 0⟩]⟩) : Option Unit) := by
 simp only [← wrapA_i64]
 kernel_rfl
theorem w_99 (s0_0 : List Int) (s0_1 : Int) (k : AV tau → Mem tau → Option Unit) : fnA E_99 C_99 D_99 Try.f99 B_99 [.ptr 0 0] ⟨[some (172, [.sl 5 s0_0, .int .i64 s0_1])], []⟩ k = (callX (fun n => spec_l15Rd_pick.f n s0_0 s0_1 (3 : Int)) fun t0 => brA (decide (t0.1 = (0 : Int))) (callX (fun n => spec_l15Rd_pick.f n s0_0 t0.2 (3 : Int)) fun t1 => callX (fun n => spec_l15Rd_pick.f n s0_0 t1.2 (3 : Int)) fun t2 => callX (fun n => spec_l15Rd_pick.f n s0_0 t2.2 (3 : Int)) fun t3 => k (.own 0 0) ⟨[some (172, [.sl 5 s0_0, .int .i64 t3.2])], [some ⟨95, ([(⟨(1 : Int), (0 : Int), t1.1, (0 : Int)⟩ : S95), (⟨(3 : Int), (1 : Int), (0 : Int), (wrap64 ((1 : Int) + t3.1))⟩ : S95), (⟨(4 : Int), (0 : Int), (1 : Int), (0 : Int)⟩ : S95), (⟨(2 : Int), t2.1, (0 : Int), (0 : Int)⟩ : S95)] : List S95), 0⟩]⟩) (callX (fun n => spec_l15Rd_pick.f n s0_0 t0.2 (8 : Int)) fun t4 => LP_99_0 k t4.1 s0_0 t4.2 ([] : List S95)) : Option Unit) := by
 simp only [← wrapA_i64]
 kernel_rfl
def S_99_0 (N : Nat) : Prop := ∀ (k : AV tau → Mem tau → Option Unit) (x0 : Int) (x1 : (List Int)) (x2 : Int) (x3 : (List S95)) (r : (List (S95)) × Int), spec_l2Prog.l0 N (x3) (x0) (x1) (x2) = some r → k (.own 0 0) ⟨[some (172, [.sl 5 ((x1)), .int .i64 (r.2)])], [some ⟨95, r.1, 0⟩]⟩ = some () → LP_99_0 k x0 x1 x2 x3 = some ()
theorem L_99 (N : Nat) : S_99_0 N := by
 induction N using Nat.strongRecOn with | _ N0 ih =>
 skip
 intro k x0 x1 x2 x3 r h hk
 rcases N0 with _ | N
 · cases h
 first | rw [spec_l2Prog.l0] at h | simp only [spec_l2Prog.l0] at h | (unfold spec_l2Prog.l0 at h; dsimp only at h)
 refine loop_fold mC_99 mD_99 ?_
 refine (w_99_0 k x0 x1 x2 x3).trans ?_
 refine br_eti h rfl (fun c19 h => ?_) (fun c19 h => ?_)
 ·cases h; exact hk
 refine call_h N h (fun t5 e20 h => ?_)
 refine br_g h (by first | rfl | exact dect | exact (congrArg not dect) | (simp; done) | (simp [beqI]; done) | (simp; omega)) (fun c21 h => ?_)
 exact (ih N (by omega)) _ _ _ _ _ _ h hk
theorem okc_99 (args : List (AV tau)) (m : Mem tau) (κ : AV tau → Mem tau → Option Unit) (hh : c_99 args m κ = some ()) : ∃ av m1, κ av m1 = some () ∧ ToldA Try.prog TT (pnT 99) 99 args m av m1 := by
 obtain ⟨bx_, rw_⟩ := m
 unfold c_99 at hh
 simp only at hh
 split at hh
 case h_2 => cases hh
 rename_i p0 t0_ c0_0 c0_1
 obtain ⟨u22, hx0, hh0⟩ := bO_some hh
 obtain ⟨u23, hx1, hh1⟩ := bO_some hh0
 obtain ⟨s0_0, hx2, hh2⟩ := bO_some hh1
 obtain ⟨s0_1, hx3, hh3⟩ := bO_some hh2
 have ex0 := asPtr_some hx0
 have ex1 := asT_some hx1
 have ex2 := asSl_some hx2
 have ex3 := asI_some hx3
 subst ex0 ex1 ex2 ex3
 obtain ⟨N, t, h, hκ⟩ := callX_some hh3
 refine ⟨_, _, hκ, told_of_run pq okC_99 (fun _ _ _ => drawA_ok pq okC_99 hmix) (E := E_99) (fn := Try.f99) (body := B_99) (by kernel_rfl) (by kernel_rfl) (by kernel_rfl) (by rfl) (by exact Nat.le_of_ble_eq_true rfl) (fun k hk => ?_)⟩
 refine (w_99 s0_0 s0_1 k).trans ?_
 replace h : spec_l2Prog.f N s0_0 s0_1 = some t := h
 unfold spec_l2Prog.f at h
 refine call_h N h (fun t0 e24 h => ?_)
 refine br_eti h rfl (fun c25 h => ?_) (fun c25 h => ?_)
 ·refine call_h N h (fun t4 e26 h => ?_)
  exact (L_99 N) _ _ _ _ _ _ h hk
 refine call_h N h (fun t1 e27 h => ?_)
 refine call_h N h (fun t2 e28 h => ?_)
 refine call_h N h (fun t3 e29 h => ?_)
 cases h; exact hk
noncomputable def C_100 : Ctr tau Unit := ctrS 99 c_99 C_99
noncomputable def D_100 : Drw tau := drawA E_100 C_100
theorem okC_100 : CtrOk Try.prog TT pnT C_100 := ctrS_ok okC_99 okc_99
theorem mC_100 : CtrMono C_100 := ctrS_mono mC_99 mc_99
theorem mD_100 : DrMono D_100 := drawA_mono mC_100
noncomputable def B_100 : Code := Try.f100.body.getD .skip
theorem mc_100 (args : List (AV tau)) (m : Mem tau) (k k' : AV tau → Mem tau → Option Unit) (hk : ∀ av m, k av m = some () → k' av m = some ()) (h : c_100 args m k = some ()) : c_100 args m k' = some () := by
 unfold c_100 at h ⊢
 split at h
 · repeat' first | exact callX_mono (fun _ h => hk _ _ h) h | refine bO_mono (fun _ h => ?_) h
 · cases h
noncomputable def K_100_0 (k : AV tau → Mem tau → Option Unit) : Kon tau := (kBlock 1 (kBlock 0 (kS E_100 C_100 D_100 (codeP B_100 [1, 1, 1, 1, 1]) (kEnd E_100 Try.f100 k))))
def st_100_0 (x0 : Int) (x1 : (List Int)) (x2 : Int) (x3 : (List S95)) : St tau := ⟨tmL 57 0 [(3, .own 0 0), (4, .int .i64 x0)], ⟨[some (172, [.sl 5 x1, .int .i64 x2])], [some ⟨95, x3, 0⟩]⟩⟩
noncomputable def LP_100_0 (k : AV tau → Mem tau → Option Unit) (x0 : Int) (x1 : (List Int)) (x2 : Int) (x3 : (List S95)) : Option Unit := loopA E_100 (codeA E_100 C_100 D_100 (codeP B_100 [1, 1, 1, 1, 0, 1, 0, 1, 1, 1, 1, 1, 1, 1, 0, 0, 0])) (codeP B_100 [1, 1, 1, 1, 0, 1, 0, 1, 1, 1, 1, 1, 1, 1, 0, 0, 0]) (K_100_0 k) (st_100_0 x0 x1 x2 x3)
theorem w_100_0 (k : AV tau → Mem tau → Option Unit) (x0 : Int) (x1 : (List Int)) (x2 : Int) (x3 : (List S95)) : codeA E_100 C_100 D_100 (codeP B_100 [1, 1, 1, 1, 0, 1, 0, 1, 1, 1, 1, 1, 1, 1, 0, 0, 0]) (kL E_100 C_100 D_100 (codeP B_100 [1, 1, 1, 1, 0, 1, 0, 1, 1, 1, 1, 1, 1, 1, 0, 0, 0]) (K_100_0 k)) (st_100_0 x0 x1 x2 x3) = (brA (decide (((x3.length : Nat) : Int) < (11 : Int))) (brA (decide ((0 : Int) ≤ x0)) (brA (decide (x0 < ((x3.length : Nat) : Int))) (brA (decide ((x3.length + 1) ≤ 4398046511104)) (LP_100_0 k x0 x1 x2 (x3 ++ ([(⟨(rd_T95 x3 x0).f0, (rd_T95 x3 x0).f1, (rd_T95 x3 x0).f2, (rd_T95 x3 x0).f3⟩ : S95)] : List S95))) (none)) (none)) (none)) (k (.own 0 0) ⟨[some (172, [.sl 5 x1, .int .i64 x2])], [some ⟨95, x3, 0⟩]⟩) : Option Unit) := by kernel_rfl
theorem w_100 (s0_0 : List Int) (s0_1 : Int) (k : AV tau → Mem tau → Option Unit) : fnA E_100 C_100 D_100 Try.f100 B_100 [.ptr 0 0] ⟨[some (172, [.sl 5 s0_0, .int .i64 s0_1])], []⟩ k = (callX (fun n => spec_l2Prog.f n s0_0 s0_1) fun t0 => brA (decide (((t0.1.length : Nat) : Int) = (0 : Int))) (k (.own 0 0) ⟨[some (172, [.sl 5 s0_0, .int .i64 t0.2])], [some ⟨95, t0.1, 0⟩]⟩) (callX (fun n => spec_l15Rd_pick.f n s0_0 t0.2 ((t0.1.length : Nat) : Int)) fun t1 => callX (fun n => spec_l15Rd_pick.f n s0_0 t1.2 (40 : Int)) fun t2 => brA (decide (t2.1 = (0 : Int))) (callX (fun n => spec_l15Rd_num.f n s0_0 t2.2 ([(0 : Int), (8 : Int)] : List Int)) fun t3 => brA (decide ((0 : Int) ≤ t1.1)) (brA (decide (t1.1 < ((t0.1.length : Nat) : Int))) (k (.own 0 0) ⟨[some (172, [.sl 5 s0_0, .int .i64 t3.2])], [some ⟨95, (List.set t0.1 (Int.toNat t1.1) (⟨t3.1, (rd_T95 t0.1 t1.1).f1, (rd_T95 t0.1 t1.1).f2, (rd_T95 t0.1 t1.1).f3⟩ : S95)), 0⟩]⟩) (none)) (none)) (brA (decide (t2.1 = (1 : Int))) (callX (fun n => spec_l15Rd_num.f n s0_0 t2.2 ([(-(1 : Int)), (4 : Int)] : List Int)) fun t4 => brA (decide ((0 : Int) ≤ t1.1)) (brA (decide (t1.1 < ((t0.1.length : Nat) : Int))) (k (.own 0 0) ⟨[some (172, [.sl 5 s0_0, .int .i64 t4.2])], [some ⟨95, (List.set t0.1 (Int.toNat t1.1) (⟨(rd_T95 t0.1 t1.1).f0, t4.1, (rd_T95 t0.1 t1.1).f2, (rd_T95 t0.1 t1.1).f3⟩ : S95)), 0⟩]⟩) (none)) (none)) (brA (decide (t2.1 = (2 : Int))) (callX (fun n => spec_l15Rd_num.f n s0_0 t2.2 ([(-(1 : Int)), (11 : Int), (2000000 : Int)] : List Int)) fun t5 => brA (decide ((0 : Int) ≤ t1.1)) (brA (decide (t1.1 < ((t0.1.length : Nat) : Int))) (k (.own 0 0) ⟨[some (172, [.sl 5 s0_0, .int .i64 t5.2])], [some ⟨95, (List.set t0.1 (Int.toNat t1.1) (⟨(rd_T95 t0.1 t1.1).f0, (rd_T95 t0.1 t1.1).f1, (rd_T95 t0.1 t1.1).f2, t5.1⟩ : S95)), 0⟩]⟩) (none)) (none)) (brA (decide (t2.1 = (3 : Int))) (LP_100_0 k t1.1 s0_0 t2.2 t0.1) (k (.own 0 0) ⟨[some (172, [.sl 5 s0_0, .int .i64 t2.2])], [some ⟨95, t0.1, 0⟩]⟩))))) : Option Unit) := by kernel_rfl
def S_100_0 (N : Nat) : Prop := ∀ (k : AV tau → Mem tau → Option Unit) (x0 : Int) (x1 : (List Int)) (x2 : Int) (x3 : (List S95)) (r : (List (S95)) × Int), spec_l2Bent.l0 N (x3) (x0) (x1) (x2) = some r → k (.own 0 0) ⟨[some (172, [.sl 5 ((x1)), .int .i64 (r.2)])], [some ⟨95, r.1, 0⟩]⟩ = some () → LP_100_0 k x0 x1 x2 x3 = some ()
theorem L_100 (N : Nat) : S_100_0 N := by
 induction N using Nat.strongRecOn with | _ N0 ih =>
 skip
 intro k x0 x1 x2 x3 r h hk
 rcases N0 with _ | N
 · cases h
 first | rw [spec_l2Bent.l0] at h | simp only [spec_l2Bent.l0] at h | (unfold spec_l2Bent.l0 at h; dsimp only at h)
 refine loop_fold mC_100 mD_100 ?_
 refine (w_100_0 k x0 x1 x2 x3).trans ?_
 refine br_eti h rfl (fun c43 h => ?_) (fun c43 h => ?_)
 ·cases h; exact hk
 refine br_g h rfl (fun c44 h => ?_)
 refine br_g h rfl (fun c45 h => ?_)
 refine br_g h (by first | rfl | exact dect | exact (congrArg not dect) | (simp; done) | (simp [beqI]; done) | (simp; omega)) (fun c46 h => ?_)
 exact (ih N (by omega)) _ _ _ _ _ _ h hk
theorem okc_100 (args : List (AV tau)) (m : Mem tau) (κ : AV tau → Mem tau → Option Unit) (hh : c_100 args m κ = some ()) : ∃ av m1, κ av m1 = some () ∧ ToldA Try.prog TT (pnT 100) 100 args m av m1 := by
 obtain ⟨bx_, rw_⟩ := m
 unfold c_100 at hh
 simp only at hh
 split at hh
 case h_2 => cases hh
 rename_i p0 t0_ c0_0 c0_1
 obtain ⟨u47, hx0, hh0⟩ := bO_some hh
 obtain ⟨u48, hx1, hh1⟩ := bO_some hh0
 obtain ⟨s0_0, hx2, hh2⟩ := bO_some hh1
 obtain ⟨s0_1, hx3, hh3⟩ := bO_some hh2
 have ex0 := asPtr_some hx0
 have ex1 := asT_some hx1
 have ex2 := asSl_some hx2
 have ex3 := asI_some hx3
 subst ex0 ex1 ex2 ex3
 obtain ⟨N, t, h, hκ⟩ := callX_some hh3
 refine ⟨_, _, hκ, told_of_run pq okC_100 (fun _ _ _ => drawA_ok pq okC_100 hmix) (E := E_100) (fn := Try.f100) (body := B_100) (by kernel_rfl) (by kernel_rfl) (by kernel_rfl) (by rfl) (by exact Nat.le_of_ble_eq_true rfl) (fun k hk => ?_)⟩
 refine (w_100 s0_0 s0_1 k).trans ?_
 replace h : spec_l2Bent.f N s0_0 s0_1 = some t := h
 unfold spec_l2Bent.f at h
 refine call_h N h (fun t0 e49 h => ?_)
 refine br_ite h rfl (fun c50 h => ?_) (fun c50 h => ?_)
 ·cases h; exact hk
 refine call_h N h (fun t1 e51 h => ?_)
 refine call_h N h (fun t2 e52 h => ?_)
 refine br_ite h rfl (fun c53 h => ?_) (fun c53 h => ?_)
 ·refine call_h N h (fun t3 e54 h => ?_)
  refine br_g h rfl (fun c55 h => ?_)
  refine br_g h rfl (fun c56 h => ?_)
  cases h; exact hk
 refine br_ite h rfl (fun c57 h => ?_) (fun c57 h => ?_)
 ·refine call_h N h (fun t4 e58 h => ?_)
  refine br_g h rfl (fun c59 h => ?_)
  refine br_g h rfl (fun c60 h => ?_)
  cases h; exact hk
 refine br_eti h rfl (fun c61 h => ?_) (fun c61 h => ?_)
 ·refine br_ite h rfl (fun c62 h => ?_) (fun c62 h => ?_)
  ·exact (L_100 N) _ _ _ _ _ _ h hk
  cases h; exact hk
 refine call_h N h (fun t5 e63 h => ?_)
 refine br_g h rfl (fun c64 h => ?_)
 refine br_g h rfl (fun c65 h => ?_)
 cases h; exact hk
noncomputable def C_38 : Ctr tau Unit := ctrS 100 c_100 C_100
noncomputable def D_38 : Drw tau := drawA E_38 C_38
theorem okC_38 : CtrOk Try.prog TT pnT C_38 := ctrS_ok okC_100 okc_100
theorem mC_38 : CtrMono C_38 := ctrS_mono mC_100 mc_100
theorem mD_38 : DrMono D_38 := drawA_mono mC_38
noncomputable def B_38 : Code := Try.f38.body.getD .skip
theorem mc_38 (args : List (AV tau)) (m : Mem tau) (k k' : AV tau → Mem tau → Option Unit) (hk : ∀ av m, k av m = some () → k' av m = some ()) (h : c_38 args m k = some ()) : c_38 args m k' = some () := by
 unfold c_38 at h ⊢
 split at h
 · repeat' first | exact callX_mono (fun _ h => hk _ _ h) h | refine bO_mono (fun _ h => ?_) h
 · cases h
noncomputable def K_38_0 (k : AV tau → Mem tau → Option Unit) : Kon tau := (kBlock 0 (kS E_38 C_38 D_38 (codeP B_38 [1, 1, 1, 1, 1]) (kEnd E_38 Try.f38 k)))
def st_38_0 (x0 : Int) (x1 : (List Int)) (x2 : Int) (x3 : (List S37)) (x4 : (List (List S95))) : St tau := ⟨tmL 34 0 [(4, .ptr 0 0), (5, .own 0 0), (6, .own 1 0), (7, .int .i64 x0)], ⟨[some (172, [.sl 5 x1, .int .i64 x2])], [some ⟨37, x3, 0⟩, some ⟨60, x4, 0⟩]⟩⟩
noncomputable def LP_38_0 (k : AV tau → Mem tau → Option Unit) (x0 : Int) (x1 : (List Int)) (x2 : Int) (x3 : (List S37)) (x4 : (List (List S95))) : Option Unit := loopA E_38 (codeA E_38 C_38 D_38 (codeP B_38 [1, 1, 1, 1, 0, 1, 0, 0])) (codeP B_38 [1, 1, 1, 1, 0, 1, 0, 0]) (K_38_0 k) (st_38_0 x0 x1 x2 x3 x4)
theorem w_38_0 (k : AV tau → Mem tau → Option Unit) (x0 : Int) (x1 : (List Int)) (x2 : Int) (x3 : (List S37)) (x4 : (List (List S95))) : codeA E_38 C_38 D_38 (codeP B_38 [1, 1, 1, 1, 0, 1, 0, 0]) (kL E_38 C_38 D_38 (codeP B_38 [1, 1, 1, 1, 0, 1, 0, 0]) (K_38_0 k)) (st_38_0 x0 x1 x2 x3 x4) = (brA (decide (x0 > (0 : Int))) (callX (fun n => spec_l2Prog.f n x1 x2) fun t3 => brA (decide ((x4.length + 1) ≤ 5864062014805)) (LP_38_0 k (wrap64 (x0 - (1 : Int))) x1 t3.2 x3 (x4 ++ ([t3.1] : List (List S95)))) (none)) (callX (fun n => spec_l15Rd_pick.f n x1 x2 (12 : Int)) fun t4 => brA (decide (t4.1 = (0 : Int))) (callX (fun n => spec_l2Bent.f n x1 t4.2) fun t5 => brA (decide ((x4.length + 1) ≤ 5864062014805)) (k (.tup [.own 0 0, .own 1 0]) ⟨[], [some ⟨37, x3, 0⟩, some ⟨60, (x4 ++ ([t5.1] : List (List S95))), 0⟩]⟩) (none)) (k (.tup [.own 0 0, .own 1 0]) ⟨[], [some ⟨37, x3, 0⟩, some ⟨60, x4, 0⟩]⟩)) : Option Unit) := by
 simp only [← wrapA_i64]
 kernel_rfl
theorem w_38 (l0 : List Int) (k : AV tau → Mem tau → Option Unit) : fnA E_38 C_38 D_38 Try.f38 B_38 [.sl 5 l0] ⟨[], []⟩ k = (callX (fun n => spec_l15Open.f l0) fun t0 => callX (fun n => spec_l1Boxes.f n t0.1 t0.2) fun t1 => callX (fun n => spec_l15Rd_pick.f n t0.1 t1.2 (6 : Int)) fun t2 => LP_38_0 k t2.1 t0.1 t2.2 t1.1 ([] : List (List S95)) : Option Unit) := by kernel_rfl
def S_38_0 (N : Nat) : Prop := ∀ (k : AV tau → Mem tau → Option Unit) (x0 : Int) (x1 : (List Int)) (x2 : Int) (x3 : (List S37)) (x4 : (List (List S95))) (r : (List (S37)) × (List (List (S95)))), spec_DrawSerialAll.l0 N (x3) (x4) (x0) (x1) (x2) = some r → k (.tup [.own 0 0, .own 1 0]) ⟨[], [some ⟨37, r.1, 0⟩, some ⟨60, r.2, 0⟩]⟩ = some () → LP_38_0 k x0 x1 x2 x3 x4 = some ()
theorem L_38 (N : Nat) : S_38_0 N := by
 induction N using Nat.strongRecOn with | _ N0 ih =>
 skip
 intro k x0 x1 x2 x3 x4 r h hk
 rcases N0 with _ | N
 · cases h
 first | rw [spec_DrawSerialAll.l0] at h | simp only [spec_DrawSerialAll.l0] at h | (unfold spec_DrawSerialAll.l0 at h; dsimp only at h)
 refine loop_fold mC_38 mD_38 ?_
 refine (w_38_0 k x0 x1 x2 x3 x4).trans ?_
 refine br_ite h rfl (fun c21 h => ?_) (fun c21 h => ?_)
 ·refine call_h N h (fun t3 e22 h => ?_)
  refine br_g h (by first | rfl | exact dect | exact (congrArg not dect) | (simp; done) | (simp [beqI]; done) | (simp; omega)) (fun c23 h => ?_)
  exact (ih N (by omega)) _ _ _ _ _ _ _ h hk
 refine call_h N h (fun t4 e24 h => ?_)
 refine br_eti h rfl (fun c25 h => ?_) (fun c25 h => ?_)
 ·cases h; exact hk
 refine call_h N h (fun t5 e26 h => ?_)
 refine br_g h (by first | rfl | exact dect | exact (congrArg not dect) | (simp; done) | (simp [beqI]; done) | (simp; omega)) (fun c27 h => ?_)
 cases h; exact hk
theorem okc_38 (args : List (AV tau)) (m : Mem tau) (κ : AV tau → Mem tau → Option Unit) (hh : c_38 args m κ = some ()) : ∃ av m1, κ av m1 = some () ∧ ToldA Try.prog TT (pnT 38) 38 args m av m1 := by
 obtain ⟨bx_, rw_⟩ := m
 unfold c_38 at hh
 simp only at hh
 split at hh
 case h_2 => cases hh
 rename_i b0
 obtain ⟨l0, hx0, hh0⟩ := bO_some hh
 have ex0 := asSl_some hx0
 subst ex0
 obtain ⟨N, t, h, hκ⟩ := callX_some hh0
 refine ⟨_, _, hκ, told_of_run pq okC_38 (fun _ _ _ => drawA_ok pq okC_38 hmix) (E := E_38) (fn := Try.f38) (body := B_38) (by kernel_rfl) (by kernel_rfl) (by kernel_rfl) (by rfl) (by exact Nat.le_of_ble_eq_true rfl) (fun k hk => ?_)⟩
 refine (w_38 l0 k).trans ?_
 replace h : spec_DrawSerialAll.f N l0 = some t := h
 unfold spec_DrawSerialAll.f at h
 refine call_h 0 h (fun t0 e28 h => ?_)
 refine call_h N h (fun t1 e29 h => ?_)
 refine call_h N h (fun t2 e30 h => ?_)
 exact (L_38 N) _ _ _ _ _ _ _ h hk
noncomputable def C_101 : Ctr tau Unit := ctrS 38 c_38 C_38
noncomputable def D_101 : Drw tau := drawA E_101 C_101
theorem okC_101 : CtrOk Try.prog TT pnT C_101 := ctrS_ok okC_38 okc_38
theorem mC_101 : CtrMono C_101 := ctrS_mono mC_38 mc_38
theorem mD_101 : DrMono D_101 := drawA_mono mC_101
noncomputable def B_101 : Code := Try.f101.body.getD .skip
theorem mc_101 (args : List (AV tau)) (m : Mem tau) (k k' : AV tau → Mem tau → Option Unit) (hk : ∀ av m, k av m = some () → k' av m = some ()) (h : c_101 args m k = some ()) : c_101 args m k' = some () := by
 unfold c_101 at h ⊢
 split at h
 · repeat' first | exact callX_mono (fun _ h => hk _ _ h) h | refine bO_mono (fun _ h => ?_) h
 · cases h
noncomputable def K_101_0 (k : AV tau → Mem tau → Option Unit) : Kon tau := (kBlock 0 (kS E_101 C_101 D_101 (codeP B_101 [1, 1, 1]) (kEnd E_101 Try.f101 k)))
def st_101_0 (x0 : (List S37)) (x1 : (List S37)) (x2 : Int) (x3 : Int) : St tau := ⟨tmL 26 0 [(0, .sl 37 x0), (1, .sl 37 x1), (12, .int .i64 x2), (13, .int .i64 x3)], ⟨[], []⟩⟩
noncomputable def LP_101_0 (k : AV tau → Mem tau → Option Unit) (x0 : (List S37)) (x1 : (List S37)) (x2 : Int) (x3 : Int) : Option Unit := loopA E_101 (codeA E_101 C_101 D_101 (codeP B_101 [1, 1, 0, 1, 0, 0])) (codeP B_101 [1, 1, 0, 1, 0, 0]) (K_101_0 k) (st_101_0 x0 x1 x2 x3)
theorem w_101_0 (k : AV tau → Mem tau → Option Unit) (x0 : (List S37)) (x1 : (List S37)) (x2 : Int) (x3 : Int) : codeA E_101 C_101 D_101 (codeP B_101 [1, 1, 0, 1, 0, 0]) (kL E_101 C_101 D_101 (codeP B_101 [1, 1, 0, 1, 0, 0]) (K_101_0 k)) (st_101_0 x0 x1 x2 x3) = (brA (decide (x3 < x2)) (brA (decide ((0 : Int) ≤ x3)) (brA (decide (x3 < ((x0.length : Nat) : Int))) (brA (decide ((0 : Int) ≤ x3)) (brA (decide (x3 < ((x1.length : Nat) : Int))) (brA (!(((rd_T37 x0 x3).f0 == (rd_T37 x1 x3).f0) && ((rd_T37 x0 x3).f1 == (rd_T37 x1 x3).f1))) (k (.bool false) ⟨[], []⟩) (LP_101_0 k x0 x1 x2 (wrap64 (x3 + (1 : Int))))) (none)) (none)) (none)) (none)) (k (.bool true) ⟨[], []⟩) : Option Unit) := by
 simp only [← wrapA_i64]
 kernel_rfl
theorem w_101 (l0 : List S37) (l1 : List S37) (k : AV tau → Mem tau → Option Unit) : fnA E_101 C_101 D_101 Try.f101 B_101 [.sl 37 l0, .sl 37 l1] ⟨[], []⟩ k = (brA (!(decide (((l0.length : Nat) : Int) = ((l1.length : Nat) : Int)))) (k (.bool false) ⟨[], []⟩) (LP_101_0 k l0 l1 ((l0.length : Nat) : Int) (0 : Int)) : Option Unit) := by kernel_rfl
def S_101_0 (N : Nat) : Prop := ∀ (k : AV tau → Mem tau → Option Unit) (x0 : (List S37)) (x1 : (List S37)) (x2 : Int) (x3 : Int) (r : Bool), impl_same_impl_Box.l0 N (x0) (x1) (x2) (x3) = some r → k (.bool (r)) ⟨[], []⟩ = some () → LP_101_0 k x0 x1 x2 x3 = some ()
theorem L_101 (N : Nat) : S_101_0 N := by
 induction N using Nat.strongRecOn with | _ N0 ih =>
 skip
 intro k x0 x1 x2 x3 r h hk
 rcases N0 with _ | N
 · cases h
 first | rw [impl_same_impl_Box.l0] at h | simp only [impl_same_impl_Box.l0] at h | (unfold impl_same_impl_Box.l0 at h; dsimp only at h)
 refine loop_fold mC_101 mD_101 ?_
 refine (w_101_0 k x0 x1 x2 x3).trans ?_
 refine br_eti h rfl (fun c13 h => ?_) (fun c13 h => ?_)
 ·cases h; exact hk
 refine br_g h rfl (fun c14 h => ?_)
 refine br_g h rfl (fun c15 h => ?_)
 refine br_t (by first | (simp [c14]; done) | (simp; omega) | (simp only [List.length_append, List.length_cons, List.length_nil, List.length_take, List.length_drop] at c15 ⊢; simp; omega) | (simp only [List.length_append, List.length_cons, List.length_nil, List.length_take, List.length_drop] at c15; simp; omega) | (simp_all; done)) ?_
 refine br_g h rfl (fun c16 h => ?_)
 refine br_ite h (by first | rfl | exact dect | exact (congrArg not dect) | (simp; done) | (simp [beqI]; done) | (simp; omega)) (fun c17 h => ?_) (fun c17 h => ?_)
 ·cases h; exact hk
 exact (ih N (by omega)) _ _ _ _ _ _ h hk
theorem okc_101 (args : List (AV tau)) (m : Mem tau) (κ : AV tau → Mem tau → Option Unit) (hh : c_101 args m κ = some ()) : ∃ av m1, κ av m1 = some () ∧ ToldA Try.prog TT (pnT 101) 101 args m av m1 := by
 obtain ⟨bx_, rw_⟩ := m
 unfold c_101 at hh
 simp only at hh
 split at hh
 case h_2 => cases hh
 rename_i b0 b1
 obtain ⟨l0, hx0, hh0⟩ := bO_some hh
 obtain ⟨l1, hx1, hh1⟩ := bO_some hh0
 have ex0 := asSl_some hx0
 have ex1 := asSl_some hx1
 subst ex0 ex1
 obtain ⟨N, t, h, hκ⟩ := callX_some hh1
 refine ⟨_, _, hκ, told_of_run pq okC_101 (fun _ _ _ => drawA_ok pq okC_101 hmix) (E := E_101) (fn := Try.f101) (body := B_101) (by kernel_rfl) (by kernel_rfl) (by kernel_rfl) (by rfl) (by exact Nat.le_of_ble_eq_true rfl) (fun k hk => ?_)⟩
 refine (w_101 l0 l1 k).trans ?_
 replace h : impl_same_impl_Box.f N l0 l1 = some t := h
 unfold impl_same_impl_Box.f at h
 refine br_etn h rfl (fun c18 h => ?_) (fun c18 h => ?_)
 ·cases h; exact hk
 exact (L_101 N) _ _ _ _ _ _ h hk
noncomputable def C_39 : Ctr tau Unit := ctrS 101 c_101 C_101
noncomputable def D_39 : Drw tau := drawA E_39 C_39
theorem okC_39 : CtrOk Try.prog TT pnT C_39 := ctrS_ok okC_101 okc_101
theorem mC_39 : CtrMono C_39 := ctrS_mono mC_101 mc_101
theorem mD_39 : DrMono D_39 := drawA_mono mC_39
noncomputable def B_39 : Code := Try.f39.body.getD .skip
theorem mc_39 (args : List (AV tau)) (m : Mem tau) (k k' : AV tau → Mem tau → Option Unit) (hk : ∀ av m, k av m = some () → k' av m = some ()) (h : c_39 args m k = some ()) : c_39 args m k' = some () := by
 unfold c_39 at h ⊢
 split at h
 · repeat' first | exact callX_mono (fun _ h => hk _ _ h) h | refine bO_mono (fun _ h => ?_) h
 · cases h
theorem w_39 (l0 : List S37) (l1 : List S37) (k : AV tau → Mem tau → Option Unit) : fnA E_39 C_39 D_39 Try.f39 B_39 [.sl 37 l0, .sl 37 l1] ⟨[], []⟩ k = (callX (fun n => impl_same_impl_Box.f n l0 l1) fun t0 => k (.bool t0) ⟨[], []⟩ : Option Unit) := by kernel_rfl
theorem okc_39 (args : List (AV tau)) (m : Mem tau) (κ : AV tau → Mem tau → Option Unit) (hh : c_39 args m κ = some ()) : ∃ av m1, κ av m1 = some () ∧ ToldA Try.prog TT (pnT 39) 39 args m av m1 := by
 obtain ⟨bx_, rw_⟩ := m
 unfold c_39 at hh
 simp only at hh
 split at hh
 case h_2 => cases hh
 rename_i b0 b1
 obtain ⟨l0, hx0, hh0⟩ := bO_some hh
 obtain ⟨l1, hx1, hh1⟩ := bO_some hh0
 have ex0 := asSl_some hx0
 have ex1 := asSl_some hx1
 subst ex0 ex1
 obtain ⟨N, t, h, hκ⟩ := callX_some hh1
 refine ⟨_, _, hκ, told_of_run pq okC_39 (fun _ _ _ => drawA_ok pq okC_39 hmix) (E := E_39) (fn := Try.f39) (body := B_39) (by kernel_rfl) (by kernel_rfl) (by kernel_rfl) (by rfl) (by exact Nat.le_of_ble_eq_true rfl) (fun k hk => ?_)⟩
 refine (w_39 l0 l1 k).trans ?_
 replace h : impl_BoxSame.f N l0 l1 = some t := h
 unfold impl_BoxSame.f at h
 refine call_h N h (fun t0 e2 h => ?_)
 cases h; exact hk
noncomputable def C_40 : Ctr tau Unit := ctrS 39 c_39 C_39
noncomputable def D_40 : Drw tau := drawA E_40 C_40
theorem okC_40 : CtrOk Try.prog TT pnT C_40 := ctrS_ok okC_39 okc_39
theorem mC_40 : CtrMono C_40 := ctrS_mono mC_39 mc_39
theorem mD_40 : DrMono D_40 := drawA_mono mC_40
noncomputable def B_40 : Code := Try.f40.body.getD .skip
theorem mc_40 (args : List (AV tau)) (m : Mem tau) (k k' : AV tau → Mem tau → Option Unit) (hk : ∀ av m, k av m = some () → k' av m = some ()) (h : c_40 args m k = some ()) : c_40 args m k' = some () := by
 unfold c_40 at h ⊢
 split at h
 · repeat' first | exact callX_mono (fun _ h => hk _ _ h) h | refine bO_mono (fun _ h => ?_) h
 · cases h
theorem w_40 (l0 : List Int) (k : AV tau → Mem tau → Option Unit) : fnA E_40 C_40 D_40 Try.f40 B_40 [.sl 5 l0] ⟨[], []⟩ k = (callX (fun n => spec_l15Open.f l0) fun t0 => callX (fun n => spec_l2Bent.f n t0.1 t0.2) fun t1 => callX (fun n => spec_l2Bent.f n t0.1 t1.2) fun t2 => k (.tup [.own 0 0, .own 1 0]) ⟨[], [some ⟨95, t1.1, 0⟩, some ⟨95, t2.1, 0⟩]⟩ : Option Unit) := by kernel_rfl
theorem okc_40 (args : List (AV tau)) (m : Mem tau) (κ : AV tau → Mem tau → Option Unit) (hh : c_40 args m κ = some ()) : ∃ av m1, κ av m1 = some () ∧ ToldA Try.prog TT (pnT 40) 40 args m av m1 := by
 obtain ⟨bx_, rw_⟩ := m
 unfold c_40 at hh
 simp only at hh
 split at hh
 case h_2 => cases hh
 rename_i b0
 obtain ⟨l0, hx0, hh0⟩ := bO_some hh
 have ex0 := asSl_some hx0
 subst ex0
 obtain ⟨N, t, h, hκ⟩ := callX_some hh0
 refine ⟨_, _, hκ, told_of_run pq okC_40 (fun _ _ _ => drawA_ok pq okC_40 hmix) (E := E_40) (fn := Try.f40) (body := B_40) (by kernel_rfl) (by kernel_rfl) (by kernel_rfl) (by rfl) (by exact Nat.le_of_ble_eq_true rfl) (fun k hk => ?_)⟩
 refine (w_40 l0 k).trans ?_
 replace h : spec_DrawSerialFree.f N l0 = some t := h
 unfold spec_DrawSerialFree.f at h
 refine call_h 0 h (fun t0 e4 h => ?_)
 refine call_h N h (fun t1 e5 h => ?_)
 refine call_h N h (fun t2 e6 h => ?_)
 cases h; exact hk
noncomputable def C_152 : Ctr tau Unit := ctrS 40 c_40 C_40
noncomputable def D_152 : Drw tau := drawA E_152 C_152
theorem okC_152 : CtrOk Try.prog TT pnT C_152 := ctrS_ok okC_40 okc_40
theorem mC_152 : CtrMono C_152 := ctrS_mono mC_40 mc_40
theorem mD_152 : DrMono D_152 := drawA_mono mC_152
noncomputable def B_152 : Code := Try.f152.body.getD .skip
theorem mc_152 (args : List (AV tau)) (m : Mem tau) (k k' : AV tau → Mem tau → Option Unit) (hk : ∀ av m, k av m = some () → k' av m = some ()) (h : c_152 args m k = some ()) : c_152 args m k' = some () := by
 unfold c_152 at h ⊢
 split at h
 · repeat' first | exact callX_mono (fun _ h => hk _ _ h) h | refine bO_mono (fun _ h => ?_) h
 · cases h
noncomputable def K_152_0 (k : AV tau → Mem tau → Option Unit) : Kon tau := (kBlock 0 (kS E_152 C_152 D_152 (codeP B_152 [1, 1, 1]) (kEnd E_152 Try.f152 k)))
def st_152_0 (x0 : Bool) (x1 : Bool) (x2 : Bool) (x3 : Bool) (x4 : Int) (x5 : (List Int)) : St tau := ⟨tmL 19 0 [(3, .own 0 0), (6, .agg [.bool x0, .bool x1, .bool x2, .bool x3]), (7, .int .i64 x4)], ⟨[], [some ⟨3, x5, 0⟩]⟩⟩
noncomputable def LP_152_0 (k : AV tau → Mem tau → Option Unit) (x0 : Bool) (x1 : Bool) (x2 : Bool) (x3 : Bool) (x4 : Int) (x5 : (List Int)) : Option Unit := loopA E_152 (codeA E_152 C_152 D_152 (codeP B_152 [1, 1, 0, 1, 0, 0])) (codeP B_152 [1, 1, 0, 1, 0, 0]) (K_152_0 k) (st_152_0 x0 x1 x2 x3 x4 x5)
theorem w_152_0 (k : AV tau → Mem tau → Option Unit) (x0 : Bool) (x1 : Bool) (x2 : Bool) (x3 : Bool) (x4 : Int) (x5 : (List Int)) : codeA E_152 C_152 D_152 (codeP B_152 [1, 1, 0, 1, 0, 0]) (kL E_152 C_152 D_152 (codeP B_152 [1, 1, 0, 1, 0, 0]) (K_152_0 k)) (st_152_0 x0 x1 x2 x3 x4 x5) = (brA (decide (x4 < (4 : Int))) (brA (decide ((0 : Int) ≤ x4)) (brA (decide (x4 < (4 : Int))) (brA (rdOf false ([x0, x1, x2, x3] : List Bool) x4) (brA (decide ((x5.length + 1) ≤ 17592186044416)) (LP_152_0 k x0 x1 x2 x3 (wrap64 (x4 + (1 : Int))) (x5 ++ ([x4] : List Int))) (none)) (LP_152_0 k x0 x1 x2 x3 (wrap64 (x4 + (1 : Int))) x5)) (none)) (none)) (callX (fun n => impl_copied_int.f x5) fun t0 => k (.own 0 0) ⟨[], [some ⟨3, t0, 0⟩]⟩) : Option Unit) := by
 simp only [← wrapA_i64]
 kernel_rfl
theorem w_152 (a0_0 : Bool) (a0_1 : Bool) (a0_2 : Bool) (a0_3 : Bool) (k : AV tau → Mem tau → Option Unit) : fnA E_152 C_152 D_152 Try.f152 B_152 [.agg [.bool a0_0, .bool a0_1, .bool a0_2, .bool a0_3]] ⟨[], []⟩ k = (LP_152_0 k a0_0 a0_1 a0_2 a0_3 (0 : Int) ([] : List Int) : Option Unit) := by kernel_rfl
def S_152_0 (N : Nat) : Prop := ∀ (k : AV tau → Mem tau → Option Unit) (x0 : Bool) (x1 : Bool) (x2 : Bool) (x3 : Bool) (x4 : Int) (x5 : (List Int)) (r : List Int), impl_boxesOf.l0 N (x5) (x4) (x0) (x1) (x2) (x3) = some r → k (.own 0 0) ⟨[], [some ⟨3, r, 0⟩]⟩ = some () → LP_152_0 k x0 x1 x2 x3 x4 x5 = some ()
theorem L_152 (N : Nat) : S_152_0 N := by
 induction N using Nat.strongRecOn with | _ N0 ih =>
 skip
 intro k x0 x1 x2 x3 x4 x5 r h hk
 rcases N0 with _ | N
 · cases h
 first | rw [impl_boxesOf.l0] at h | simp only [impl_boxesOf.l0] at h | (unfold impl_boxesOf.l0 at h; dsimp only at h)
 refine loop_fold mC_152 mD_152 ?_
 refine (w_152_0 k x0 x1 x2 x3 x4 x5).trans ?_
 refine br_eti h rfl (fun c11 h => ?_) (fun c11 h => ?_)
 ·refine call_h 0 h (fun t0 e12 h => ?_)
  cases h; exact hk
 refine br_g h rfl (fun c13 h => ?_)
 refine br_t (by first | (simp [c11]; done) | (simp; omega) | (simp_all; done)) ?_
 refine br_eti h dect (fun c14 h => ?_) (fun c14 h => ?_)
 ·exact (ih N (by omega)) _ _ _ _ _ _ _ _ h hk
 refine br_g h (by first | rfl | exact dect | exact (congrArg not dect) | (simp; done) | (simp [beqI]; done) | (simp; omega)) (fun c15 h => ?_)
 exact (ih N (by omega)) _ _ _ _ _ _ _ _ h hk
theorem okc_152 (args : List (AV tau)) (m : Mem tau) (κ : AV tau → Mem tau → Option Unit) (hh : c_152 args m κ = some ()) : ∃ av m1, κ av m1 = some () ∧ ToldA Try.prog TT (pnT 152) 152 args m av m1 := by
 obtain ⟨bx_, rw_⟩ := m
 unfold c_152 at hh
 simp only at hh
 split at hh
 case h_2 => cases hh
 rename_i b0 b1 b2 b3
 obtain ⟨a0_0, hx0, hh0⟩ := bO_some hh
 obtain ⟨a0_1, hx1, hh1⟩ := bO_some hh0
 obtain ⟨a0_2, hx2, hh2⟩ := bO_some hh1
 obtain ⟨a0_3, hx3, hh3⟩ := bO_some hh2
 have ex0 := asB_some hx0
 have ex1 := asB_some hx1
 have ex2 := asB_some hx2
 have ex3 := asB_some hx3
 subst ex0 ex1 ex2 ex3
 obtain ⟨N, t, h, hκ⟩ := callX_some hh3
 refine ⟨_, _, hκ, told_of_run pq okC_152 (fun _ _ _ => drawA_ok pq okC_152 hmix) (E := E_152) (fn := Try.f152) (body := B_152) (by kernel_rfl) (by kernel_rfl) (by kernel_rfl) (by rfl) (by exact Nat.le_of_ble_eq_true rfl) (fun k hk => ?_)⟩
 refine (w_152 a0_0 a0_1 a0_2 a0_3 k).trans ?_
 replace h : impl_boxesOf.f N a0_0 a0_1 a0_2 a0_3 = some t := h
 unfold impl_boxesOf.f at h
 exact (L_152 N) _ _ _ _ _ _ _ _ h hk
noncomputable def C_103 : Ctr tau Unit := ctrS 152 c_152 C_152
noncomputable def D_103 : Drw tau := drawA E_103 C_103
theorem okC_103 : CtrOk Try.prog TT pnT C_103 := ctrS_ok okC_152 okc_152
theorem mC_103 : CtrMono C_103 := ctrS_mono mC_152 mc_152
theorem mD_103 : DrMono D_103 := drawA_mono mC_103
noncomputable def B_103 : Code := Try.f103.body.getD .skip
theorem mc_103 (args : List (AV tau)) (m : Mem tau) (k k' : AV tau → Mem tau → Option Unit) (hk : ∀ av m, k av m = some () → k' av m = some ()) (h : c_103 args m k = some ()) : c_103 args m k' = some () := by
 unfold c_103 at h ⊢
 split at h
 · repeat' first | exact callX_mono (fun _ h => hk _ _ h) h | refine bO_mono (fun _ h => ?_) h
 · cases h
noncomputable def K_103_0 (k : AV tau → Mem tau → Option Unit) : Kon tau := (kBlock 0 (kS E_103 C_103 D_103 (codeP B_103 [1, 1, 1]) (kEnd E_103 Try.f103 k)))
def st_103_0 (x0 : (List S95)) (x1 : Int) (x2 : Int) (x3 : Bool) (x4 : Bool) (x5 : Bool) (x6 : Bool) : St tau := ⟨tmL 26 0 [(3, .ptr 0 0), (6, .sl 95 x0), (7, .int .i64 x1), (8, .int .i64 x2)], ⟨[some (173, [.bool x3, .bool x4, .bool x5, .bool x6])], []⟩⟩
noncomputable def LP_103_0 (k : AV tau → Mem tau → Option Unit) (x0 : (List S95)) (x1 : Int) (x2 : Int) (x3 : Bool) (x4 : Bool) (x5 : Bool) (x6 : Bool) : Option Unit := loopA E_103 (codeA E_103 C_103 D_103 (codeP B_103 [1, 1, 0, 1, 0, 0])) (codeP B_103 [1, 1, 0, 1, 0, 0]) (K_103_0 k) (st_103_0 x0 x1 x2 x3 x4 x5 x6)
theorem w_103_0 (k : AV tau → Mem tau → Option Unit) (x0 : (List S95)) (x1 : Int) (x2 : Int) (x3 : Bool) (x4 : Bool) (x5 : Bool) (x6 : Bool) : codeA E_103 C_103 D_103 (codeP B_103 [1, 1, 0, 1, 0, 0]) (kL E_103 C_103 D_103 (codeP B_103 [1, 1, 0, 1, 0, 0]) (K_103_0 k)) (st_103_0 x0 x1 x2 x3 x4 x5 x6) = (brA (decide (x2 < x1)) (brA (decide ((0 : Int) ≤ x2)) (brA (decide (x2 < ((x0.length : Nat) : Int))) (brA (decide ((rd_T95 x0 x2).f0 = (2 : Int))) (callX (fun n => impl_in.f ((rd_T95 x0 x2).f1) (0 : Int) (3 : Int)) fun t0 => brA t0 (brA (decide ((0 : Int) ≤ (rd_T95 x0 x2).f1)) (brA (decide ((rd_T95 x0 x2).f1 < (4 : Int))) (LP_103_0 k x0 x1 (wrap64 (x2 + (1 : Int))) (if (rd_T95 x0 x2).f1 = (0 : Int) then true else x3) (if (rd_T95 x0 x2).f1 = (1 : Int) then true else x4) (if (rd_T95 x0 x2).f1 = (2 : Int) then true else x5) (if (rd_T95 x0 x2).f1 = (3 : Int) then true else x6)) (none)) (none)) (LP_103_0 k x0 x1 (wrap64 (x2 + (1 : Int))) x3 x4 x5 x6)) (LP_103_0 k x0 x1 (wrap64 (x2 + (1 : Int))) x3 x4 x5 x6)) (none)) (none)) (callX (fun n => impl_boxesOf.f n x3 x4 x5 x6) fun t1 => k (.own 0 0) ⟨[], [some ⟨3, t1, 0⟩]⟩) : Option Unit) := by
 simp only [← wrapA_i64]
 kernel_rfl
theorem w_103 (l0 : List S95) (k : AV tau → Mem tau → Option Unit) : fnA E_103 C_103 D_103 Try.f103 B_103 [.sl 95 l0] ⟨[], []⟩ k = (LP_103_0 k l0 ((l0.length : Nat) : Int) (0 : Int) false false false false : Option Unit) := by kernel_rfl
def S_103_0 (N : Nat) : Prop := ∀ (k : AV tau → Mem tau → Option Unit) (x0 : (List S95)) (x1 : Int) (x2 : Int) (x3 : Bool) (x4 : Bool) (x5 : Bool) (x6 : Bool) (r : List Int), impl_ProgPuts.l0 N (x0) (x1) (x2) (x3) (x4) (x5) (x6) = some r → k (.own 0 0) ⟨[], [some ⟨3, r, 0⟩]⟩ = some () → LP_103_0 k x0 x1 x2 x3 x4 x5 x6 = some ()
theorem L_103 (N : Nat) : S_103_0 N := by
 induction N using Nat.strongRecOn with | _ N0 ih =>
 skip
 intro k x0 x1 x2 x3 x4 x5 x6 r h hk
 rcases N0 with _ | N
 · cases h
 first | rw [impl_ProgPuts.l0] at h | simp only [impl_ProgPuts.l0] at h | (unfold impl_ProgPuts.l0 at h; dsimp only at h)
 refine loop_fold mC_103 mD_103 ?_
 refine (w_103_0 k x0 x1 x2 x3 x4 x5 x6).trans ?_
 refine br_eti h rfl (fun c19 h => ?_) (fun c19 h => ?_)
 ·refine call_h N h (fun t1 e20 h => ?_)
  cases h; exact hk
 refine br_g h rfl (fun c21 h => ?_)
 refine br_g h rfl (fun c22 h => ?_)
 refine br_eti h rfl (fun c23 h => ?_) (fun c23 h => ?_)
 ·exact (ih N (by omega)) _ _ _ _ _ _ _ _ _ h hk
 refine call_h 0 h (fun t0 e24 h => ?_)
 refine br_eti h dect (fun c25 h => ?_) (fun c25 h => ?_)
 ·exact (ih N (by omega)) _ _ _ _ _ _ _ _ _ h hk
 refine br_g h rfl (fun c26 h => ?_)
 refine br_g h rfl (fun c27 h => ?_)
 exact (ih N (by omega)) _ _ _ _ _ _ _ _ _ h hk
theorem okc_103 (args : List (AV tau)) (m : Mem tau) (κ : AV tau → Mem tau → Option Unit) (hh : c_103 args m κ = some ()) : ∃ av m1, κ av m1 = some () ∧ ToldA Try.prog TT (pnT 103) 103 args m av m1 := by
 obtain ⟨bx_, rw_⟩ := m
 unfold c_103 at hh
 simp only at hh
 split at hh
 case h_2 => cases hh
 rename_i b0
 obtain ⟨l0, hx0, hh0⟩ := bO_some hh
 have ex0 := asSl_some hx0
 subst ex0
 obtain ⟨N, t, h, hκ⟩ := callX_some hh0
 refine ⟨_, _, hκ, told_of_run pq okC_103 (fun _ _ _ => drawA_ok pq okC_103 hmix) (E := E_103) (fn := Try.f103) (body := B_103) (by kernel_rfl) (by kernel_rfl) (by kernel_rfl) (by rfl) (by exact Nat.le_of_ble_eq_true rfl) (fun k hk => ?_)⟩
 refine (w_103 l0 k).trans ?_
 replace h : impl_ProgPuts.f N l0 = some t := h
 unfold impl_ProgPuts.f at h
 exact (L_103 N) _ _ _ _ _ _ _ _ _ h hk
noncomputable def C_104 : Ctr tau Unit := ctrS 103 c_103 C_103
noncomputable def D_104 : Drw tau := drawA E_104 C_104
theorem okC_104 : CtrOk Try.prog TT pnT C_104 := ctrS_ok okC_103 okc_103
theorem mC_104 : CtrMono C_104 := ctrS_mono mC_103 mc_103
theorem mD_104 : DrMono D_104 := drawA_mono mC_104
noncomputable def B_104 : Code := Try.f104.body.getD .skip
theorem mc_104 (args : List (AV tau)) (m : Mem tau) (k k' : AV tau → Mem tau → Option Unit) (hk : ∀ av m, k av m = some () → k' av m = some ()) (h : c_104 args m k = some ()) : c_104 args m k' = some () := by
 unfold c_104 at h ⊢
 split at h
 · repeat' first | exact callX_mono (fun _ h => hk _ _ h) h | refine bO_mono (fun _ h => ?_) h
 · cases h
noncomputable def K_104_0 (k : AV tau → Mem tau → Option Unit) : Kon tau := (kBlock 0 (kS E_104 C_104 D_104 (codeP B_104 [1, 1]) (kEnd E_104 Try.f104 k)))
noncomputable def K_104_1 (k : AV tau → Mem tau → Option Unit) : Kon tau := (kBlock 2 (kBlock 1 (kS E_104 C_104 D_104 (codeP B_104 [1, 0, 1, 0, 0, 1, 1, 1]) (kL E_104 C_104 D_104 (codeP B_104 [1, 0, 1, 0, 0]) (kBlock 0 (kS E_104 C_104 D_104 (codeP B_104 [1, 1]) (kEnd E_104 Try.f104 k)))))))
def st_104_0 (x0 : (List Int)) (x1 : (List Int)) (x2 : Int) (x3 : Int) : St tau := ⟨tmL 26 0 [(1, .sl 3 x0), (9, .sl 3 x1), (10, .int .i64 x2), (11, .int .i64 x3)], ⟨[], []⟩⟩
noncomputable def LP_104_0 (k : AV tau → Mem tau → Option Unit) (x0 : (List Int)) (x1 : (List Int)) (x2 : Int) (x3 : Int) : Option Unit := loopA E_104 (codeA E_104 C_104 D_104 (codeP B_104 [1, 0, 1, 0, 0])) (codeP B_104 [1, 0, 1, 0, 0]) (K_104_0 k) (st_104_0 x0 x1 x2 x3)
def st_104_1 (x0 : (List Int)) (x1 : Int) (x2 : (List Int)) (x3 : Int) (x4 : Int) (x5 : (List Int)) (x6 : Int) (x7 : Int) : St tau := ⟨tmL 26 0 [(1, .sl 3 x0), (6, .int .i64 x1), (9, .sl 3 x2), (10, .int .i64 x3), (11, .int .i64 x4), (15, .sl 3 x5), (16, .int .i64 x6), (17, .int .i64 x7)], ⟨[], []⟩⟩
noncomputable def LP_104_1 (k : AV tau → Mem tau → Option Unit) (x0 : (List Int)) (x1 : Int) (x2 : (List Int)) (x3 : Int) (x4 : Int) (x5 : (List Int)) (x6 : Int) (x7 : Int) : Option Unit := loopA E_104 (codeA E_104 C_104 D_104 (codeP B_104 [1, 0, 1, 0, 0, 1, 1, 0, 0, 1, 1, 0, 0])) (codeP B_104 [1, 0, 1, 0, 0, 1, 1, 0, 0, 1, 1, 0, 0]) (K_104_1 k) (st_104_1 x0 x1 x2 x3 x4 x5 x6 x7)
theorem w_104_0 (k : AV tau → Mem tau → Option Unit) (x0 : (List Int)) (x1 : (List Int)) (x2 : Int) (x3 : Int) : codeA E_104 C_104 D_104 (codeP B_104 [1, 0, 1, 0, 0]) (kL E_104 C_104 D_104 (codeP B_104 [1, 0, 1, 0, 0]) (K_104_0 k)) (st_104_0 x0 x1 x2 x3) = (brA (decide (x3 < x2)) (brA (decide ((0 : Int) ≤ x3)) (brA (decide (x3 < ((x1.length : Nat) : Int))) (LP_104_1 k x0 (rd x1 x3) x1 x2 x3 x0 ((x0.length : Nat) : Int) (0 : Int)) (none)) (none)) (k (.bool false) ⟨[], []⟩) : Option Unit) := by kernel_rfl
theorem w_104_1 (k : AV tau → Mem tau → Option Unit) (x0 : (List Int)) (x1 : Int) (x2 : (List Int)) (x3 : Int) (x4 : Int) (x5 : (List Int)) (x6 : Int) (x7 : Int) : codeA E_104 C_104 D_104 (codeP B_104 [1, 0, 1, 0, 0, 1, 1, 0, 0, 1, 1, 0, 0]) (kL E_104 C_104 D_104 (codeP B_104 [1, 0, 1, 0, 0, 1, 1, 0, 0, 1, 1, 0, 0]) (K_104_1 k)) (st_104_1 x0 x1 x2 x3 x4 x5 x6 x7) = (brA (decide (x7 < x6)) (brA (decide ((0 : Int) ≤ x7)) (brA (decide (x7 < ((x5.length : Nat) : Int))) (brA (decide (x1 = (rd x5 x7))) (k (.bool true) ⟨[], []⟩) (LP_104_1 k x0 x1 x2 x3 x4 x5 x6 (wrap64 (x7 + (1 : Int))))) (none)) (none)) (LP_104_0 k x0 x2 x3 (wrap64 (x4 + (1 : Int)))) : Option Unit) := by
 simp only [← wrapA_i64]
 kernel_rfl
theorem w_104 (l0 : List Int) (l1 : List Int) (k : AV tau → Mem tau → Option Unit) : fnA E_104 C_104 D_104 Try.f104 B_104 [.sl 3 l0, .sl 3 l1] ⟨[], []⟩ k = (LP_104_0 k l1 l0 ((l0.length : Nat) : Int) (0 : Int) : Option Unit) := by kernel_rfl
def S_104_0 (N : Nat) : Prop := ∀ (k : AV tau → Mem tau → Option Unit) (x0 : (List Int)) (x1 : (List Int)) (x2 : Int) (x3 : Int) (r : Bool), impl_meets.l0 N (x0) (x1) (x2) (x3) = some r → k (.bool (r)) ⟨[], []⟩ = some () → LP_104_0 k x0 x1 x2 x3 = some ()
def S_104_1 (N : Nat) : Prop := ∀ (k : AV tau → Mem tau → Option Unit) (x0 : (List Int)) (x1 : Int) (x2 : (List Int)) (x3 : Int) (x4 : Int) (x5 : (List Int)) (x6 : Int) (x7 : Int) (r : Bool), impl_meets.l1 N (x0) (x1) (x2) (x3) (x4) (x5) (x6) (x7) = some r → k (.bool (r)) ⟨[], []⟩ = some () → LP_104_1 k x0 x1 x2 x3 x4 x5 x6 x7 = some ()
theorem L_104 (N : Nat) : S_104_0 N ∧ S_104_1 N := by
 induction N using Nat.strongRecOn with | _ N0 ih =>
 refine ⟨?_, ?_⟩
 ·intro k x0 x1 x2 x3 r h hk
  rcases N0 with _ | N
  · cases h
  first | rw [impl_meets.l0] at h | simp only [impl_meets.l0] at h | (unfold impl_meets.l0 at h; dsimp only at h)
  refine loop_fold mC_104 mD_104 ?_
  refine (w_104_0 k x0 x1 x2 x3).trans ?_
  refine br_eti h rfl (fun c15 h => ?_) (fun c15 h => ?_)
  ·cases h; exact hk
  refine br_g h rfl (fun c16 h => ?_)
  refine br_g h rfl (fun c17 h => ?_)
  exact (ih N (by omega)).2 _ _ _ _ _ _ _ _ _ _ h hk
 ·intro k x0 x1 x2 x3 x4 x5 x6 x7 r h hk
  rcases N0 with _ | N
  · cases h
  first | rw [impl_meets.l1] at h | simp only [impl_meets.l1] at h | (unfold impl_meets.l1 at h; dsimp only at h)
  refine loop_fold mC_104 mD_104 ?_
  refine (w_104_1 k x0 x1 x2 x3 x4 x5 x6 x7).trans ?_
  refine br_eti h rfl (fun c18 h => ?_) (fun c18 h => ?_)
  ·exact (ih N (by omega)).1 _ _ _ _ _ _ h hk
  refine br_g h rfl (fun c19 h => ?_)
  refine br_g h rfl (fun c20 h => ?_)
  refine br_ite h rfl (fun c21 h => ?_) (fun c21 h => ?_)
  ·cases h; exact hk
  exact (ih N (by omega)).2 _ _ _ _ _ _ _ _ _ _ h hk
theorem okc_104 (args : List (AV tau)) (m : Mem tau) (κ : AV tau → Mem tau → Option Unit) (hh : c_104 args m κ = some ()) : ∃ av m1, κ av m1 = some () ∧ ToldA Try.prog TT (pnT 104) 104 args m av m1 := by
 obtain ⟨bx_, rw_⟩ := m
 unfold c_104 at hh
 simp only at hh
 split at hh
 case h_2 => cases hh
 rename_i b0 b1
 obtain ⟨l0, hx0, hh0⟩ := bO_some hh
 obtain ⟨l1, hx1, hh1⟩ := bO_some hh0
 have ex0 := asSl_some hx0
 have ex1 := asSl_some hx1
 subst ex0 ex1
 obtain ⟨N, t, h, hκ⟩ := callX_some hh1
 refine ⟨_, _, hκ, told_of_run pq okC_104 (fun _ _ _ => drawA_ok pq okC_104 hmix) (E := E_104) (fn := Try.f104) (body := B_104) (by kernel_rfl) (by kernel_rfl) (by kernel_rfl) (by rfl) (by exact Nat.le_of_ble_eq_true rfl) (fun k hk => ?_)⟩
 refine (w_104 l0 l1 k).trans ?_
 replace h : impl_meets.f N l0 l1 = some t := h
 unfold impl_meets.f at h
 exact (L_104 N).1 _ _ _ _ _ _ h hk
noncomputable def C_105 : Ctr tau Unit := ctrS 104 c_104 C_104
noncomputable def D_105 : Drw tau := drawA E_105 C_105
theorem okC_105 : CtrOk Try.prog TT pnT C_105 := ctrS_ok okC_104 okc_104
theorem mC_105 : CtrMono C_105 := ctrS_mono mC_104 mc_104
theorem mD_105 : DrMono D_105 := drawA_mono mC_105
noncomputable def B_105 : Code := Try.f105.body.getD .skip
theorem mc_105 (args : List (AV tau)) (m : Mem tau) (k k' : AV tau → Mem tau → Option Unit) (hk : ∀ av m, k av m = some () → k' av m = some ()) (h : c_105 args m k = some ()) : c_105 args m k' = some () := by
 unfold c_105 at h ⊢
 split at h
 · repeat' first | exact callX_mono (fun _ h => hk _ _ h) h | refine bO_mono (fun _ h => ?_) h
 · cases h
noncomputable def K_105_0 (k : AV tau → Mem tau → Option Unit) : Kon tau := (kBlock 0 (kS E_105 C_105 D_105 (codeP B_105 [1, 1, 1]) (kEnd E_105 Try.f105 k)))
def st_105_0 (x0 : (List S95)) (x1 : Int) (x2 : Int) (x3 : Bool) (x4 : Bool) (x5 : Bool) (x6 : Bool) : St tau := ⟨tmL 26 0 [(3, .ptr 0 0), (6, .sl 95 x0), (7, .int .i64 x1), (8, .int .i64 x2)], ⟨[some (173, [.bool x3, .bool x4, .bool x5, .bool x6])], []⟩⟩
noncomputable def LP_105_0 (k : AV tau → Mem tau → Option Unit) (x0 : (List S95)) (x1 : Int) (x2 : Int) (x3 : Bool) (x4 : Bool) (x5 : Bool) (x6 : Bool) : Option Unit := loopA E_105 (codeA E_105 C_105 D_105 (codeP B_105 [1, 1, 0, 1, 0, 0])) (codeP B_105 [1, 1, 0, 1, 0, 0]) (K_105_0 k) (st_105_0 x0 x1 x2 x3 x4 x5 x6)
theorem w_105_0 (k : AV tau → Mem tau → Option Unit) (x0 : (List S95)) (x1 : Int) (x2 : Int) (x3 : Bool) (x4 : Bool) (x5 : Bool) (x6 : Bool) : codeA E_105 C_105 D_105 (codeP B_105 [1, 1, 0, 1, 0, 0]) (kL E_105 C_105 D_105 (codeP B_105 [1, 1, 0, 1, 0, 0]) (K_105_0 k)) (st_105_0 x0 x1 x2 x3 x4 x5 x6) = (brA (decide (x2 < x1)) (brA (decide ((0 : Int) ≤ x2)) (brA (decide (x2 < ((x0.length : Nat) : Int))) (brA (decide ((rd_T95 x0 x2).f0 = (1 : Int))) (callX (fun n => impl_in.f ((rd_T95 x0 x2).f2) (0 : Int) (3 : Int)) fun t0 => brA t0 (brA (decide ((0 : Int) ≤ (rd_T95 x0 x2).f2)) (brA (decide ((rd_T95 x0 x2).f2 < (4 : Int))) (LP_105_0 k x0 x1 (wrap64 (x2 + (1 : Int))) (if (rd_T95 x0 x2).f2 = (0 : Int) then true else x3) (if (rd_T95 x0 x2).f2 = (1 : Int) then true else x4) (if (rd_T95 x0 x2).f2 = (2 : Int) then true else x5) (if (rd_T95 x0 x2).f2 = (3 : Int) then true else x6)) (none)) (none)) (LP_105_0 k x0 x1 (wrap64 (x2 + (1 : Int))) x3 x4 x5 x6)) (LP_105_0 k x0 x1 (wrap64 (x2 + (1 : Int))) x3 x4 x5 x6)) (none)) (none)) (callX (fun n => impl_boxesOf.f n x3 x4 x5 x6) fun t1 => k (.own 0 0) ⟨[], [some ⟨3, t1, 0⟩]⟩) : Option Unit) := by
 simp only [← wrapA_i64]
 kernel_rfl
theorem w_105 (l0 : List S95) (k : AV tau → Mem tau → Option Unit) : fnA E_105 C_105 D_105 Try.f105 B_105 [.sl 95 l0] ⟨[], []⟩ k = (LP_105_0 k l0 ((l0.length : Nat) : Int) (0 : Int) false false false false : Option Unit) := by kernel_rfl
def S_105_0 (N : Nat) : Prop := ∀ (k : AV tau → Mem tau → Option Unit) (x0 : (List S95)) (x1 : Int) (x2 : Int) (x3 : Bool) (x4 : Bool) (x5 : Bool) (x6 : Bool) (r : List Int), impl_ProgLoads.l0 N (x0) (x1) (x2) (x3) (x4) (x5) (x6) = some r → k (.own 0 0) ⟨[], [some ⟨3, r, 0⟩]⟩ = some () → LP_105_0 k x0 x1 x2 x3 x4 x5 x6 = some ()
theorem L_105 (N : Nat) : S_105_0 N := by
 induction N using Nat.strongRecOn with | _ N0 ih =>
 skip
 intro k x0 x1 x2 x3 x4 x5 x6 r h hk
 rcases N0 with _ | N
 · cases h
 first | rw [impl_ProgLoads.l0] at h | simp only [impl_ProgLoads.l0] at h | (unfold impl_ProgLoads.l0 at h; dsimp only at h)
 refine loop_fold mC_105 mD_105 ?_
 refine (w_105_0 k x0 x1 x2 x3 x4 x5 x6).trans ?_
 refine br_eti h rfl (fun c19 h => ?_) (fun c19 h => ?_)
 ·refine call_h N h (fun t1 e20 h => ?_)
  cases h; exact hk
 refine br_g h rfl (fun c21 h => ?_)
 refine br_g h rfl (fun c22 h => ?_)
 refine br_eti h rfl (fun c23 h => ?_) (fun c23 h => ?_)
 ·exact (ih N (by omega)) _ _ _ _ _ _ _ _ _ h hk
 refine call_h 0 h (fun t0 e24 h => ?_)
 refine br_eti h dect (fun c25 h => ?_) (fun c25 h => ?_)
 ·exact (ih N (by omega)) _ _ _ _ _ _ _ _ _ h hk
 refine br_g h rfl (fun c26 h => ?_)
 refine br_g h rfl (fun c27 h => ?_)
 exact (ih N (by omega)) _ _ _ _ _ _ _ _ _ h hk
theorem okc_105 (args : List (AV tau)) (m : Mem tau) (κ : AV tau → Mem tau → Option Unit) (hh : c_105 args m κ = some ()) : ∃ av m1, κ av m1 = some () ∧ ToldA Try.prog TT (pnT 105) 105 args m av m1 := by
 obtain ⟨bx_, rw_⟩ := m
 unfold c_105 at hh
 simp only at hh
 split at hh
 case h_2 => cases hh
 rename_i b0
 obtain ⟨l0, hx0, hh0⟩ := bO_some hh
 have ex0 := asSl_some hx0
 subst ex0
 obtain ⟨N, t, h, hκ⟩ := callX_some hh0
 refine ⟨_, _, hκ, told_of_run pq okC_105 (fun _ _ _ => drawA_ok pq okC_105 hmix) (E := E_105) (fn := Try.f105) (body := B_105) (by kernel_rfl) (by kernel_rfl) (by kernel_rfl) (by rfl) (by exact Nat.le_of_ble_eq_true rfl) (fun k hk => ?_)⟩
 refine (w_105 l0 k).trans ?_
 replace h : impl_ProgLoads.f N l0 = some t := h
 unfold impl_ProgLoads.f at h
 exact (L_105 N) _ _ _ _ _ _ _ _ _ h hk
noncomputable def C_41 : Ctr tau Unit := ctrS 105 c_105 C_105
noncomputable def D_41 : Drw tau := drawA E_41 C_41
theorem okC_41 : CtrOk Try.prog TT pnT C_41 := ctrS_ok okC_105 okc_105
theorem mC_41 : CtrMono C_41 := ctrS_mono mC_105 mc_105
theorem mD_41 : DrMono D_41 := drawA_mono mC_41
noncomputable def B_41 : Code := Try.f41.body.getD .skip
theorem mc_41 (args : List (AV tau)) (m : Mem tau) (k k' : AV tau → Mem tau → Option Unit) (hk : ∀ av m, k av m = some () → k' av m = some ()) (h : c_41 args m k = some ()) : c_41 args m k' = some () := by
 unfold c_41 at h ⊢
 split at h
 · repeat' first | exact callX_mono (fun _ h => hk _ _ h) h | refine bO_mono (fun _ h => ?_) h
 · cases h
theorem w_41 (l0 : List S95) (l1 : List S95) (k : AV tau → Mem tau → Option Unit) : fnA E_41 C_41 D_41 Try.f41 B_41 [.sl 95 l0, .sl 95 l1] ⟨[], []⟩ k = (callX (fun n => impl_ProgOk.f n l0) fun t0 => brA (!t0) (k (.bool false) ⟨[], []⟩) (callX (fun n => impl_ProgOk.f n l1) fun t1 => brA (!t1) (k (.bool false) ⟨[], []⟩) (callX (fun n => impl_ProgPuts.f n l0) fun t2 => callX (fun n => impl_ProgPuts.f n l1) fun t3 => callX (fun n => impl_meets.f n t2 t3) fun t4 => brA (!t4) (callX (fun n => impl_ProgLoads.f n l1) fun t5 => callX (fun n => impl_meets.f n t2 t5) fun t6 => brA (!t6) (callX (fun n => impl_ProgLoads.f n l0) fun t7 => callX (fun n => impl_meets.f n t3 t7) fun t8 => k (.bool (!t8)) ⟨[], []⟩) (k (.bool false) ⟨[], []⟩)) (k (.bool false) ⟨[], []⟩))) : Option Unit) := by kernel_rfl
theorem okc_41 (args : List (AV tau)) (m : Mem tau) (κ : AV tau → Mem tau → Option Unit) (hh : c_41 args m κ = some ()) : ∃ av m1, κ av m1 = some () ∧ ToldA Try.prog TT (pnT 41) 41 args m av m1 := by
 obtain ⟨bx_, rw_⟩ := m
 unfold c_41 at hh
 simp only at hh
 split at hh
 case h_2 => cases hh
 rename_i b0 b1
 obtain ⟨l0, hx0, hh0⟩ := bO_some hh
 obtain ⟨l1, hx1, hh1⟩ := bO_some hh0
 have ex0 := asSl_some hx0
 have ex1 := asSl_some hx1
 subst ex0 ex1
 obtain ⟨N, t, h, hκ⟩ := callX_some hh1
 refine ⟨_, _, hκ, told_of_run pq okC_41 (fun _ _ _ => drawA_ok pq okC_41 hmix) (E := E_41) (fn := Try.f41) (body := B_41) (by kernel_rfl) (by kernel_rfl) (by kernel_rfl) (by rfl) (by exact Nat.le_of_ble_eq_true rfl) (fun k hk => ?_)⟩
 refine (w_41 l0 l1 k).trans ?_
 replace h : impl_SerialFree.f N l0 l1 = some t := h
 unfold impl_SerialFree.f at h
 refine call_h N h (fun t0 e14 h => ?_)
 refine br_etn h (congrArg not dect) (fun c15 h => ?_) (fun c15 h => ?_)
 ·rcases N with _ | N
  · cases h
  first | rw [impl_SerialFree.j0] at h | simp only [impl_SerialFree.j0] at h | (unfold impl_SerialFree.j0 at h; dsimp only at h)
  replace h := ite_t h (by first | assumption | omega | simp_all)
  cases h; exact hk
 refine call_h N h (fun t1 e16 h => ?_)
 rcases N with _ | N
 · cases h
 first | rw [impl_SerialFree.j0] at h | simp only [impl_SerialFree.j0] at h | (unfold impl_SerialFree.j0 at h; dsimp only at h)
 refine br_ite h dect (fun c17 h => ?_) (fun c17 h => ?_)
 ·cases h; exact hk
 refine call_h N h (fun t2 e18 h => ?_)
 refine call_h N h (fun t3 e19 h => ?_)
 refine call_h N h (fun t4 e20 h => ?_)
 refine br_itn h (congrArg not dect) (fun c21 h => ?_) (fun c21 h => ?_)
 ·cases h; exact hk
 refine call_h N h (fun t5 e22 h => ?_)
 refine call_h N h (fun t6 e23 h => ?_)
 refine br_itn h (congrArg not dect) (fun c24 h => ?_) (fun c24 h => ?_)
 ·cases h; exact hk
 refine call_h N h (fun t7 e25 h => ?_)
 refine call_h N h (fun t8 e26 h => ?_)
 cases h; exact hk
noncomputable def C_107 : Ctr tau Unit := ctrS 41 c_41 C_41
noncomputable def D_107 : Drw tau := drawA E_107 C_107
theorem okC_107 : CtrOk Try.prog TT pnT C_107 := ctrS_ok okC_41 okc_41
theorem mC_107 : CtrMono C_107 := ctrS_mono mC_41 mc_41
theorem mD_107 : DrMono D_107 := drawA_mono mC_107
noncomputable def B_107 : Code := Try.f107.body.getD .skip
theorem mc_107 (args : List (AV tau)) (m : Mem tau) (k k' : AV tau → Mem tau → Option Unit) (hk : ∀ av m, k av m = some () → k' av m = some ()) (h : c_107 args m k = some ()) : c_107 args m k' = some () := by
 unfold c_107 at h ⊢
 split at h
 · repeat' first | exact callX_mono (fun _ h => hk _ _ h) h | refine bO_mono (fun _ h => ?_) h
 · cases h
noncomputable def K_107_0 (k : AV tau → Mem tau → Option Unit) : Kon tau := (kBlock 0 (kS E_107 C_107 D_107 (codeP B_107 [1, 1]) (kEnd E_107 Try.f107 k)))
noncomputable def K_107_1 (k : AV tau → Mem tau → Option Unit) : Kon tau := (kBlock 2 (kBlock 1 (kS E_107 C_107 D_107 (codeP B_107 [1, 0, 1, 0, 0, 1, 1]) (kL E_107 C_107 D_107 (codeP B_107 [1, 0, 1, 0, 0]) (kBlock 0 (kS E_107 C_107 D_107 (codeP B_107 [1, 1]) (kEnd E_107 Try.f107 k)))))))
def st_107_0 (x0 : (List Int)) (x1 : (List Int)) (x2 : Int) : St tau := ⟨tmL 28 0 [(0, .sl 3 x0), (1, .sl 3 x1), (5, .int .i64 x2)], ⟨[], []⟩⟩
noncomputable def LP_107_0 (k : AV tau → Mem tau → Option Unit) (x0 : (List Int)) (x1 : (List Int)) (x2 : Int) : Option Unit := loopA E_107 (codeA E_107 C_107 D_107 (codeP B_107 [1, 0, 1, 0, 0])) (codeP B_107 [1, 0, 1, 0, 0]) (K_107_0 k) (st_107_0 x0 x1 x2)
def st_107_1 (x0 : (List Int)) (x1 : (List Int)) (x2 : Int) (x3 : Int) : St tau := ⟨tmL 28 0 [(0, .sl 3 x0), (1, .sl 3 x1), (5, .int .i64 x2), (6, .int .i64 x3)], ⟨[], []⟩⟩
noncomputable def LP_107_1 (k : AV tau → Mem tau → Option Unit) (x0 : (List Int)) (x1 : (List Int)) (x2 : Int) (x3 : Int) : Option Unit := loopA E_107 (codeA E_107 C_107 D_107 (codeP B_107 [1, 0, 1, 0, 0, 1, 0, 0, 1, 0, 0])) (codeP B_107 [1, 0, 1, 0, 0, 1, 0, 0, 1, 0, 0]) (K_107_1 k) (st_107_1 x0 x1 x2 x3)
theorem w_107_0 (k : AV tau → Mem tau → Option Unit) (x0 : (List Int)) (x1 : (List Int)) (x2 : Int) : codeA E_107 C_107 D_107 (codeP B_107 [1, 0, 1, 0, 0]) (kL E_107 C_107 D_107 (codeP B_107 [1, 0, 1, 0, 0]) (K_107_0 k)) (st_107_0 x0 x1 x2) = (brA (decide (x2 < ((x0.length : Nat) : Int))) (LP_107_1 k x0 x1 x2 (0 : Int)) (k (.bool false) ⟨[], []⟩) : Option Unit) := by kernel_rfl
theorem w_107_1 (k : AV tau → Mem tau → Option Unit) (x0 : (List Int)) (x1 : (List Int)) (x2 : Int) (x3 : Int) : codeA E_107 C_107 D_107 (codeP B_107 [1, 0, 1, 0, 0, 1, 0, 0, 1, 0, 0]) (kL E_107 C_107 D_107 (codeP B_107 [1, 0, 1, 0, 0, 1, 0, 0, 1, 0, 0]) (K_107_1 k)) (st_107_1 x0 x1 x2 x3) = (brA (decide (x3 < ((x1.length : Nat) : Int))) (brA (decide ((0 : Int) ≤ x2)) (brA (decide (x2 < ((x0.length : Nat) : Int))) (brA (decide ((0 : Int) ≤ x3)) (brA (decide (x3 < ((x1.length : Nat) : Int))) (brA (decide ((rd x0 x2) = (rd x1 x3))) (k (.bool true) ⟨[], []⟩) (LP_107_1 k x0 x1 x2 (wrap64 (x3 + (1 : Int))))) (none)) (none)) (none)) (none)) (LP_107_0 k x0 x1 (wrap64 (x2 + (1 : Int)))) : Option Unit) := by
 simp only [← wrapA_i64]
 kernel_rfl
theorem w_107 (l0 : List Int) (l1 : List Int) (k : AV tau → Mem tau → Option Unit) : fnA E_107 C_107 D_107 Try.f107 B_107 [.sl 3 l0, .sl 3 l1] ⟨[], []⟩ k = (LP_107_0 k l0 l1 (0 : Int) : Option Unit) := by kernel_rfl
def S_107_0 (N : Nat) : Prop := ∀ (k : AV tau → Mem tau → Option Unit) (x0 : (List Int)) (x1 : (List Int)) (x2 : Int) (r : Bool), spec_l4Meet.l0 N (x0) (x1) (x2) = some r → k (.bool (r)) ⟨[], []⟩ = some () → LP_107_0 k x0 x1 x2 = some ()
def S_107_1 (N : Nat) : Prop := ∀ (k : AV tau → Mem tau → Option Unit) (x0 : (List Int)) (x1 : (List Int)) (x2 : Int) (x3 : Int) (r : Bool), spec_l4Meet.l1 N (x0) (x1) (x2) (x3) = some r → k (.bool (r)) ⟨[], []⟩ = some () → LP_107_1 k x0 x1 x2 x3 = some ()
theorem L_107 (N : Nat) : S_107_0 N ∧ S_107_1 N := by
 induction N using Nat.strongRecOn with | _ N0 ih =>
 refine ⟨?_, ?_⟩
 ·intro k x0 x1 x2 r h hk
  rcases N0 with _ | N
  · cases h
  first | rw [spec_l4Meet.l0] at h | simp only [spec_l4Meet.l0] at h | (unfold spec_l4Meet.l0 at h; dsimp only at h)
  refine loop_fold mC_107 mD_107 ?_
  refine (w_107_0 k x0 x1 x2).trans ?_
  refine br_eti h rfl (fun c13 h => ?_) (fun c13 h => ?_)
  ·cases h; exact hk
  exact (ih N (by omega)).2 _ _ _ _ _ _ h hk
 ·intro k x0 x1 x2 x3 r h hk
  rcases N0 with _ | N
  · cases h
  first | rw [spec_l4Meet.l1] at h | simp only [spec_l4Meet.l1] at h | (unfold spec_l4Meet.l1 at h; dsimp only at h)
  refine loop_fold mC_107 mD_107 ?_
  refine (w_107_1 k x0 x1 x2 x3).trans ?_
  refine br_eti h rfl (fun c14 h => ?_) (fun c14 h => ?_)
  ·exact (ih N (by omega)).1 _ _ _ _ _ h hk
  refine br_g h rfl (fun c15 h => ?_)
  refine br_g h rfl (fun c16 h => ?_)
  refine br_g h rfl (fun c17 h => ?_)
  refine br_t (by first | (simp [c14]; done) | (simp; omega) | (simp only [List.length_append, List.length_cons, List.length_nil, List.length_take, List.length_drop] at c16 c14 ⊢; simp; omega) | (simp only [List.length_append, List.length_cons, List.length_nil, List.length_take, List.length_drop] at c16 c14; simp; omega) | (simp_all; done)) ?_
  refine br_ite h rfl (fun c18 h => ?_) (fun c18 h => ?_)
  ·cases h; exact hk
  exact (ih N (by omega)).2 _ _ _ _ _ _ h hk
theorem okc_107 (args : List (AV tau)) (m : Mem tau) (κ : AV tau → Mem tau → Option Unit) (hh : c_107 args m κ = some ()) : ∃ av m1, κ av m1 = some () ∧ ToldA Try.prog TT (pnT 107) 107 args m av m1 := by
 obtain ⟨bx_, rw_⟩ := m
 unfold c_107 at hh
 simp only at hh
 split at hh
 case h_2 => cases hh
 rename_i b0 b1
 obtain ⟨l0, hx0, hh0⟩ := bO_some hh
 obtain ⟨l1, hx1, hh1⟩ := bO_some hh0
 have ex0 := asSl_some hx0
 have ex1 := asSl_some hx1
 subst ex0 ex1
 obtain ⟨N, t, h, hκ⟩ := callX_some hh1
 refine ⟨_, _, hκ, told_of_run pq okC_107 (fun _ _ _ => drawA_ok pq okC_107 hmix) (E := E_107) (fn := Try.f107) (body := B_107) (by kernel_rfl) (by kernel_rfl) (by kernel_rfl) (by rfl) (by exact Nat.le_of_ble_eq_true rfl) (fun k hk => ?_)⟩
 refine (w_107 l0 l1 k).trans ?_
 replace h : spec_l4Meet.f N l0 l1 = some t := h
 unfold spec_l4Meet.f at h
 exact (L_107 N).1 _ _ _ _ _ h hk
noncomputable def C_154 : Ctr tau Unit := ctrS 107 c_107 C_107
noncomputable def D_154 : Drw tau := drawA E_154 C_154
theorem okC_154 : CtrOk Try.prog TT pnT C_154 := ctrS_ok okC_107 okc_107
theorem mC_154 : CtrMono C_154 := ctrS_mono mC_107 mc_107
theorem mD_154 : DrMono D_154 := drawA_mono mC_154
noncomputable def B_154 : Code := Try.f154.body.getD .skip
theorem mc_154 (args : List (AV tau)) (m : Mem tau) (k k' : AV tau → Mem tau → Option Unit) (hk : ∀ av m, k av m = some () → k' av m = some ()) (h : c_154 args m k = some ()) : c_154 args m k' = some () := by
 unfold c_154 at h ⊢
 split at h
 · repeat' first | exact callX_mono (fun _ h => hk _ _ h) h | refine bO_mono (fun _ h => ?_) h
 · cases h
noncomputable def K_154_0 (k : AV tau → Mem tau → Option Unit) : Kon tau := (kBlock 0 (kS E_154 C_154 D_154 (codeP B_154 [1, 1, 1]) (kEnd E_154 Try.f154 k)))
noncomputable def K_154_1 (k : AV tau → Mem tau → Option Unit) : Kon tau := (kBlock 2 (kS E_154 C_154 D_154 (codeP B_154 [1, 1, 0, 1, 0, 0, 1, 0, 0, 1, 1]) (kBlock 1 (kS E_154 C_154 D_154 (codeP B_154 [1, 1, 0, 1, 0, 0, 1, 1]) (kL E_154 C_154 D_154 (codeP B_154 [1, 1, 0, 1, 0, 0]) (kBlock 0 (kS E_154 C_154 D_154 (codeP B_154 [1, 1, 1]) (kEnd E_154 Try.f154 k))))))))
def st_154_0 (x0 : (List S95)) (x1 : Int) (x2 : Int) (x3 : (List Int)) : St tau := ⟨tmL 62 0 [(0, .sl 95 x0), (1, .int .i64 x1), (5, .own 0 0), (6, .int .i64 x2)], ⟨[], [some ⟨3, x3, 0⟩]⟩⟩
noncomputable def LP_154_0 (k : AV tau → Mem tau → Option Unit) (x0 : (List S95)) (x1 : Int) (x2 : Int) (x3 : (List Int)) : Option Unit := loopA E_154 (codeA E_154 C_154 D_154 (codeP B_154 [1, 1, 0, 1, 0, 0])) (codeP B_154 [1, 1, 0, 1, 0, 0]) (K_154_0 k) (st_154_0 x0 x1 x2 x3)
def st_154_1 (x0 : (List S95)) (x1 : Int) (x2 : Int) (x3 : Bool) (x4 : Int) (x5 : (List Int)) : St tau := ⟨tmL 62 0 [(0, .sl 95 x0), (1, .int .i64 x1), (5, .own 0 0), (6, .int .i64 x2), (7, .bool x3), (8, .int .i64 x4)], ⟨[], [some ⟨3, x5, 0⟩]⟩⟩
noncomputable def LP_154_1 (k : AV tau → Mem tau → Option Unit) (x0 : (List S95)) (x1 : Int) (x2 : Int) (x3 : Bool) (x4 : Int) (x5 : (List Int)) : Option Unit := loopA E_154 (codeA E_154 C_154 D_154 (codeP B_154 [1, 1, 0, 1, 0, 0, 1, 0, 0, 1, 0, 1, 0, 0])) (codeP B_154 [1, 1, 0, 1, 0, 0, 1, 0, 0, 1, 0, 1, 0, 0]) (K_154_1 k) (st_154_1 x0 x1 x2 x3 x4 x5)
theorem w_154_0 (k : AV tau → Mem tau → Option Unit) (x0 : (List S95)) (x1 : Int) (x2 : Int) (x3 : (List Int)) : codeA E_154 C_154 D_154 (codeP B_154 [1, 1, 0, 1, 0, 0]) (kL E_154 C_154 D_154 (codeP B_154 [1, 1, 0, 1, 0, 0]) (K_154_0 k)) (st_154_0 x0 x1 x2 x3) = (brA (decide (x2 < (4 : Int))) (LP_154_1 k x0 x1 x2 false (0 : Int) x3) (k (.own 0 0) ⟨[], [some ⟨3, x3, 0⟩]⟩) : Option Unit) := by kernel_rfl
theorem w_154_1 (k : AV tau → Mem tau → Option Unit) (x0 : (List S95)) (x1 : Int) (x2 : Int) (x3 : Bool) (x4 : Int) (x5 : (List Int)) : codeA E_154 C_154 D_154 (codeP B_154 [1, 1, 0, 1, 0, 0, 1, 0, 0, 1, 0, 1, 0, 0]) (kL E_154 C_154 D_154 (codeP B_154 [1, 1, 0, 1, 0, 0, 1, 0, 0, 1, 0, 1, 0, 0]) (K_154_1 k)) (st_154_1 x0 x1 x2 x3 x4 x5) = (brA (decide (x4 < ((x0.length : Nat) : Int))) (brA x3 (LP_154_1 k x0 x1 x2 true (wrap64 (x4 + (1 : Int))) x5) (brA (decide ((0 : Int) ≤ x4)) (brA (decide (x4 < ((x0.length : Nat) : Int))) (brA (decide ((rd_T95 x0 x4).f0 = x1)) (brA (decide (x1 = (1 : Int))) (brA (decide ((0 : Int) ≤ x4)) (brA (decide (x4 < ((x0.length : Nat) : Int))) (brA (decide ((rd_T95 x0 x4).f2 = x2)) (LP_154_1 k x0 x1 x2 true (wrap64 (x4 + (1 : Int))) x5) (brA (decide (x1 = (2 : Int))) (brA (decide ((0 : Int) ≤ x4)) (brA (decide (x4 < ((x0.length : Nat) : Int))) (LP_154_1 k x0 x1 x2 (decide ((rd_T95 x0 x4).f1 = x2)) (wrap64 (x4 + (1 : Int))) x5) (none)) (none)) (LP_154_1 k x0 x1 x2 false (wrap64 (x4 + (1 : Int))) x5))) (none)) (none)) (brA (decide (x1 = (2 : Int))) (brA (decide ((0 : Int) ≤ x4)) (brA (decide (x4 < ((x0.length : Nat) : Int))) (LP_154_1 k x0 x1 x2 (decide ((rd_T95 x0 x4).f1 = x2)) (wrap64 (x4 + (1 : Int))) x5) (none)) (none)) (LP_154_1 k x0 x1 x2 false (wrap64 (x4 + (1 : Int))) x5))) (LP_154_1 k x0 x1 x2 false (wrap64 (x4 + (1 : Int))) x5)) (none)) (none))) (brA x3 (brA (decide ((x5.length + 1) ≤ 17592186044416)) (LP_154_0 k x0 x1 (wrap64 (x2 + (1 : Int))) (x5 ++ ([x2] : List Int))) (none)) (LP_154_0 k x0 x1 (wrap64 (x2 + (1 : Int))) x5)) : Option Unit) := by
 simp only [← wrapA_i64]
 kernel_rfl
theorem w_154 (l0 : List S95) (a1 : Int) (k : AV tau → Mem tau → Option Unit) : fnA E_154 C_154 D_154 Try.f154 B_154 [.sl 95 l0, .int .i64 a1] ⟨[], []⟩ k = (LP_154_0 k l0 a1 (0 : Int) ([] : List Int) : Option Unit) := by kernel_rfl
def S_154_0 (N : Nat) : Prop := ∀ (k : AV tau → Mem tau → Option Unit) (x0 : (List S95)) (x1 : Int) (x2 : Int) (x3 : (List Int)) (r : List Int), spec_l2Boxes.l0 N (x0) (x1) (x3) (x2) = some r → k (.own 0 0) ⟨[], [some ⟨3, r, 0⟩]⟩ = some () → LP_154_0 k x0 x1 x2 x3 = some ()
def S_154_1 (N : Nat) : Prop := ∀ (k : AV tau → Mem tau → Option Unit) (x0 : (List S95)) (x1 : Int) (x2 : Int) (x3 : Bool) (x4 : Int) (x5 : (List Int)) (r : List Int), spec_l2Boxes.l1 N (x0) (x1) (x5) (x2) (x3) (x4) = some r → k (.own 0 0) ⟨[], [some ⟨3, r, 0⟩]⟩ = some () → LP_154_1 k x0 x1 x2 x3 x4 x5 = some ()
theorem L_154 (N : Nat) : S_154_0 N ∧ S_154_1 N := by
 induction N using Nat.strongRecOn with | _ N0 ih =>
 refine ⟨?_, ?_⟩
 ·intro k x0 x1 x2 x3 r h hk
  rcases N0 with _ | N
  · cases h
  first | rw [spec_l2Boxes.l0] at h | simp only [spec_l2Boxes.l0] at h | (unfold spec_l2Boxes.l0 at h; dsimp only at h)
  refine loop_fold mC_154 mD_154 ?_
  refine (w_154_0 k x0 x1 x2 x3).trans ?_
  refine br_eti h rfl (fun c23 h => ?_) (fun c23 h => ?_)
  ·cases h; exact hk
  exact (ih N (by omega)).2 _ _ _ _ _ _ _ _ h hk
 ·intro k x0 x1 x2 x3 x4 x5 r h hk
  rcases N0 with _ | N
  · cases h
  first | rw [spec_l2Boxes.l1] at h | simp only [spec_l2Boxes.l1] at h | (unfold spec_l2Boxes.l1 at h; dsimp only at h)
  refine loop_fold mC_154 mD_154 ?_
  refine (w_154_1 k x0 x1 x2 x3 x4 x5).trans ?_
  refine br_eti h rfl (fun c24 h => ?_) (fun c24 h => ?_)
  ·refine br_eti h dect (fun c25 h => ?_) (fun c25 h => ?_)
   ·exact (ih N (by omega)).1 _ _ _ _ _ _ h hk
   refine br_g h (by first | rfl | exact dect | exact (congrArg not dect) | (simp; done) | (simp [beqI]; done) | (simp; omega)) (fun c26 h => ?_)
   exact (ih N (by omega)).1 _ _ _ _ _ _ h hk
  refine br_ite h dect (fun c27 h => ?_) (fun c27 h => ?_)
  ·exact (ih N (by omega)).2 _ _ _ _ _ _ _ _ h hk
  refine br_g h rfl (fun c28 h => ?_)
  refine br_t (by first | (simp [c24]; done) | (simp; omega) | (simp only [List.length_append, List.length_cons, List.length_nil, List.length_take, List.length_drop] at c24 ⊢; simp; omega) | (simp only [List.length_append, List.length_cons, List.length_nil, List.length_take, List.length_drop] at c24; simp; omega) | (simp_all; done)) ?_
  refine br_eti h rfl (fun c29 h => ?_) (fun c29 h => ?_)
  ·exact (ih N (by omega)).2 _ _ _ _ _ _ _ _ h hk
  refine br_eti h rfl (fun c30 h => ?_) (fun c30 h => ?_)
  ·refine br_eti h rfl (fun c31 h => ?_) (fun c31 h => ?_)
   ·exact (ih N (by omega)).2 _ _ _ _ _ _ _ _ h hk
   refine br_t (by first | (simp [c28]; done) | (simp; omega) | (simp only [List.length_append, List.length_cons, List.length_nil, List.length_take, List.length_drop] at c24 ⊢; simp; omega) | (simp only [List.length_append, List.length_cons, List.length_nil, List.length_take, List.length_drop] at c24; simp; omega) | (simp_all; done)) ?_
   refine br_t (by first | (simp [c24]; done) | (simp; omega) | (simp only [List.length_append, List.length_cons, List.length_nil, List.length_take, List.length_drop] at c24 ⊢; simp; omega) | (simp only [List.length_append, List.length_cons, List.length_nil, List.length_take, List.length_drop] at c24; simp; omega) | (simp_all; done)) ?_
   exact (ih N (by omega)).2 _ _ _ _ _ _ _ _ h hk
  refine br_t (by first | (simp [c28]; done) | (simp; omega) | (simp only [List.length_append, List.length_cons, List.length_nil, List.length_take, List.length_drop] at c24 ⊢; simp; omega) | (simp only [List.length_append, List.length_cons, List.length_nil, List.length_take, List.length_drop] at c24; simp; omega) | (simp_all; done)) ?_
  refine br_t (by first | (simp [c24]; done) | (simp; omega) | (simp only [List.length_append, List.length_cons, List.length_nil, List.length_take, List.length_drop] at c24 ⊢; simp; omega) | (simp only [List.length_append, List.length_cons, List.length_nil, List.length_take, List.length_drop] at c24; simp; omega) | (simp_all; done)) ?_
  refine br_ite h rfl (fun c32 h => ?_) (fun c32 h => ?_)
  ·exact (ih N (by omega)).2 _ _ _ _ _ _ _ _ h hk
  refine br_eti h rfl (fun c33 h => ?_) (fun c33 h => ?_)
  ·exact (ih N (by omega)).2 _ _ _ _ _ _ _ _ h hk
  refine br_t (by first | (simp [c28]; done) | (simp; omega) | (simp only [List.length_append, List.length_cons, List.length_nil, List.length_take, List.length_drop] at c24 ⊢; simp; omega) | (simp only [List.length_append, List.length_cons, List.length_nil, List.length_take, List.length_drop] at c24; simp; omega) | (simp_all; done)) ?_
  refine br_t (by first | (simp [c24]; done) | (simp; omega) | (simp only [List.length_append, List.length_cons, List.length_nil, List.length_take, List.length_drop] at c24 ⊢; simp; omega) | (simp only [List.length_append, List.length_cons, List.length_nil, List.length_take, List.length_drop] at c24; simp; omega) | (simp_all; done)) ?_
  exact (ih N (by omega)).2 _ _ _ _ _ _ _ _ h hk
theorem okc_154 (args : List (AV tau)) (m : Mem tau) (κ : AV tau → Mem tau → Option Unit) (hh : c_154 args m κ = some ()) : ∃ av m1, κ av m1 = some () ∧ ToldA Try.prog TT (pnT 154) 154 args m av m1 := by
 obtain ⟨bx_, rw_⟩ := m
 unfold c_154 at hh
 simp only at hh
 split at hh
 case h_2 => cases hh
 rename_i b0 b1
 obtain ⟨l0, hx0, hh0⟩ := bO_some hh
 obtain ⟨a1, hx1, hh1⟩ := bO_some hh0
 have ex0 := asSl_some hx0
 have ex1 := asI_some hx1
 subst ex0 ex1
 obtain ⟨N, t, h, hκ⟩ := callX_some hh1
 refine ⟨_, _, hκ, told_of_run pq okC_154 (fun _ _ _ => drawA_ok pq okC_154 hmix) (E := E_154) (fn := Try.f154) (body := B_154) (by kernel_rfl) (by kernel_rfl) (by kernel_rfl) (by rfl) (by exact Nat.le_of_ble_eq_true rfl) (fun k hk => ?_)⟩
 refine (w_154 l0 a1 k).trans ?_
 replace h : spec_l2Boxes.f N l0 a1 = some t := h
 unfold spec_l2Boxes.f at h
 exact (L_154 N).1 _ _ _ _ _ _ h hk
noncomputable def C_108 : Ctr tau Unit := ctrS 154 c_154 C_154
noncomputable def D_108 : Drw tau := drawA E_108 C_108
theorem okC_108 : CtrOk Try.prog TT pnT C_108 := ctrS_ok okC_154 okc_154
theorem mC_108 : CtrMono C_108 := ctrS_mono mC_154 mc_154
theorem mD_108 : DrMono D_108 := drawA_mono mC_108
noncomputable def B_108 : Code := Try.f108.body.getD .skip
theorem mc_108 (args : List (AV tau)) (m : Mem tau) (k k' : AV tau → Mem tau → Option Unit) (hk : ∀ av m, k av m = some () → k' av m = some ()) (h : c_108 args m k = some ()) : c_108 args m k' = some () := by
 unfold c_108 at h ⊢
 split at h
 · repeat' first | exact callX_mono (fun _ h => hk _ _ h) h | refine bO_mono (fun _ h => ?_) h
 · cases h
theorem w_108 (l0 : List S95) (k : AV tau → Mem tau → Option Unit) : fnA E_108 C_108 D_108 Try.f108 B_108 [.sl 95 l0] ⟨[], []⟩ k = (callX (fun n => spec_l2Boxes.f n l0 (2 : Int)) fun t0 => k (.own 0 0) ⟨[], [some ⟨3, t0, 0⟩]⟩ : Option Unit) := by kernel_rfl
theorem okc_108 (args : List (AV tau)) (m : Mem tau) (κ : AV tau → Mem tau → Option Unit) (hh : c_108 args m κ = some ()) : ∃ av m1, κ av m1 = some () ∧ ToldA Try.prog TT (pnT 108) 108 args m av m1 := by
 obtain ⟨bx_, rw_⟩ := m
 unfold c_108 at hh
 simp only at hh
 split at hh
 case h_2 => cases hh
 rename_i b0
 obtain ⟨l0, hx0, hh0⟩ := bO_some hh
 have ex0 := asSl_some hx0
 subst ex0
 obtain ⟨N, t, h, hκ⟩ := callX_some hh0
 refine ⟨_, _, hκ, told_of_run pq okC_108 (fun _ _ _ => drawA_ok pq okC_108 hmix) (E := E_108) (fn := Try.f108) (body := B_108) (by kernel_rfl) (by kernel_rfl) (by kernel_rfl) (by rfl) (by exact Nat.le_of_ble_eq_true rfl) (fun k hk => ?_)⟩
 refine (w_108 l0 k).trans ?_
 replace h : spec_ProgPuts.f N l0 = some t := h
 unfold spec_ProgPuts.f at h
 refine call_h N h (fun t0 e2 h => ?_)
 cases h; exact hk
noncomputable def C_109 : Ctr tau Unit := ctrS 108 c_108 C_108
noncomputable def D_109 : Drw tau := drawA E_109 C_109
theorem okC_109 : CtrOk Try.prog TT pnT C_109 := ctrS_ok okC_108 okc_108
theorem mC_109 : CtrMono C_109 := ctrS_mono mC_108 mc_108
theorem mD_109 : DrMono D_109 := drawA_mono mC_109
noncomputable def B_109 : Code := Try.f109.body.getD .skip
theorem mc_109 (args : List (AV tau)) (m : Mem tau) (k k' : AV tau → Mem tau → Option Unit) (hk : ∀ av m, k av m = some () → k' av m = some ()) (h : c_109 args m k = some ()) : c_109 args m k' = some () := by
 unfold c_109 at h ⊢
 split at h
 · repeat' first | exact callX_mono (fun _ h => hk _ _ h) h | refine bO_mono (fun _ h => ?_) h
 · cases h
theorem w_109 (l0 : List S95) (k : AV tau → Mem tau → Option Unit) : fnA E_109 C_109 D_109 Try.f109 B_109 [.sl 95 l0] ⟨[], []⟩ k = (callX (fun n => spec_l2Boxes.f n l0 (1 : Int)) fun t0 => k (.own 0 0) ⟨[], [some ⟨3, t0, 0⟩]⟩ : Option Unit) := by kernel_rfl
theorem okc_109 (args : List (AV tau)) (m : Mem tau) (κ : AV tau → Mem tau → Option Unit) (hh : c_109 args m κ = some ()) : ∃ av m1, κ av m1 = some () ∧ ToldA Try.prog TT (pnT 109) 109 args m av m1 := by
 obtain ⟨bx_, rw_⟩ := m
 unfold c_109 at hh
 simp only at hh
 split at hh
 case h_2 => cases hh
 rename_i b0
 obtain ⟨l0, hx0, hh0⟩ := bO_some hh
 have ex0 := asSl_some hx0
 subst ex0
 obtain ⟨N, t, h, hκ⟩ := callX_some hh0
 refine ⟨_, _, hκ, told_of_run pq okC_109 (fun _ _ _ => drawA_ok pq okC_109 hmix) (E := E_109) (fn := Try.f109) (body := B_109) (by kernel_rfl) (by kernel_rfl) (by kernel_rfl) (by rfl) (by exact Nat.le_of_ble_eq_true rfl) (fun k hk => ?_)⟩
 refine (w_109 l0 k).trans ?_
 replace h : spec_ProgLoads.f N l0 = some t := h
 unfold spec_ProgLoads.f at h
 refine call_h N h (fun t0 e2 h => ?_)
 cases h; exact hk
noncomputable def C_42 : Ctr tau Unit := ctrS 109 c_109 C_109
noncomputable def D_42 : Drw tau := drawA E_42 C_42
theorem okC_42 : CtrOk Try.prog TT pnT C_42 := ctrS_ok okC_109 okc_109
theorem mC_42 : CtrMono C_42 := ctrS_mono mC_109 mc_109
theorem mD_42 : DrMono D_42 := drawA_mono mC_42
noncomputable def B_42 : Code := Try.f42.body.getD .skip
theorem mc_42 (args : List (AV tau)) (m : Mem tau) (k k' : AV tau → Mem tau → Option Unit) (hk : ∀ av m, k av m = some () → k' av m = some ()) (h : c_42 args m k = some ()) : c_42 args m k' = some () := by
 unfold c_42 at h ⊢
 split at h
 · repeat' first | exact callX_mono (fun _ h => hk _ _ h) h | refine bO_mono (fun _ h => ?_) h
 · cases h
theorem w_42 (l0 : List S95) (l1 : List S95) (k : AV tau → Mem tau → Option Unit) : fnA E_42 C_42 D_42 Try.f42 B_42 [.sl 95 l0, .sl 95 l1] ⟨[], []⟩ k = (callX (fun n => spec_ProgOk.f n l0) fun t0 => brA t0 (callX (fun n => spec_ProgOk.f n l1) fun t1 => brA t1 (callX (fun n => spec_ProgPuts.f n l0) fun t2 => callX (fun n => spec_ProgPuts.f n l1) fun t3 => callX (fun n => spec_l4Meet.f n t2 t3) fun t4 => brA (!t4) (callX (fun n => spec_ProgPuts.f n l0) fun t5 => callX (fun n => spec_ProgLoads.f n l1) fun t6 => callX (fun n => spec_l4Meet.f n t5 t6) fun t7 => brA (!t7) (callX (fun n => spec_ProgLoads.f n l0) fun t8 => callX (fun n => spec_ProgPuts.f n l1) fun t9 => callX (fun n => spec_l4Meet.f n t8 t9) fun t10 => k (.bool (!t10)) ⟨[], []⟩) (k (.bool false) ⟨[], []⟩)) (k (.bool false) ⟨[], []⟩)) (k (.bool false) ⟨[], []⟩)) (k (.bool false) ⟨[], []⟩) : Option Unit) := by kernel_rfl
theorem okc_42 (args : List (AV tau)) (m : Mem tau) (κ : AV tau → Mem tau → Option Unit) (hh : c_42 args m κ = some ()) : ∃ av m1, κ av m1 = some () ∧ ToldA Try.prog TT (pnT 42) 42 args m av m1 := by
 obtain ⟨bx_, rw_⟩ := m
 unfold c_42 at hh
 simp only at hh
 split at hh
 case h_2 => cases hh
 rename_i b0 b1
 obtain ⟨l0, hx0, hh0⟩ := bO_some hh
 obtain ⟨l1, hx1, hh1⟩ := bO_some hh0
 have ex0 := asSl_some hx0
 have ex1 := asSl_some hx1
 subst ex0 ex1
 obtain ⟨N, t, h, hκ⟩ := callX_some hh1
 refine ⟨_, _, hκ, told_of_run pq okC_42 (fun _ _ _ => drawA_ok pq okC_42 hmix) (E := E_42) (fn := Try.f42) (body := B_42) (by kernel_rfl) (by kernel_rfl) (by kernel_rfl) (by rfl) (by exact Nat.le_of_ble_eq_true rfl) (fun k hk => ?_)⟩
 refine (w_42 l0 l1 k).trans ?_
 replace h : spec_SerialFree.f N l0 l1 = some t := h
 unfold spec_SerialFree.f at h
 refine call_h N h (fun t0 e16 h => ?_)
 refine br_eti h dect (fun c17 h => ?_) (fun c17 h => ?_)
 ·cases h; exact hk
 refine call_h N h (fun t1 e18 h => ?_)
 refine br_eti h dect (fun c19 h => ?_) (fun c19 h => ?_)
 ·cases h; exact hk
 refine call_h N h (fun t2 e20 h => ?_)
 refine call_h N h (fun t3 e21 h => ?_)
 refine call_h N h (fun t4 e22 h => ?_)
 refine br_itn h (congrArg not dect) (fun c23 h => ?_) (fun c23 h => ?_)
 ·cases h; exact hk
 refine call_h N h (fun t5 e24 h => ?_)
 refine call_h N h (fun t6 e25 h => ?_)
 refine call_h N h (fun t7 e26 h => ?_)
 refine br_itn h (congrArg not dect) (fun c27 h => ?_) (fun c27 h => ?_)
 ·cases h; exact hk
 refine call_h N h (fun t8 e28 h => ?_)
 refine call_h N h (fun t9 e29 h => ?_)
 refine call_h N h (fun t10 e30 h => ?_)
 cases h; exact hk
noncomputable def C_5 : Ctr tau Unit := ctrS 42 c_42 C_42
noncomputable def D_5 : Drw tau := drawA E_5 C_5
theorem okC_5 : CtrOk Try.prog TT pnT C_5 := ctrS_ok okC_42 okc_42
theorem mC_5 : CtrMono C_5 := ctrS_mono mC_42 mc_42
theorem mD_5 : DrMono D_5 := drawA_mono mC_5
noncomputable def B_5 : Code := Try.f5.body.getD .skip
theorem mc_5 (args : List (AV tau)) (m : Mem tau) (k k' : AV tau → Mem tau → Option Unit) (hk : ∀ av m, k av m = some () → k' av m = some ()) (h : c_5 args m k = some ()) : c_5 args m k' = some () := by
 unfold c_5 at h ⊢
 split at h
 · repeat' first | exact callX_mono (fun _ h => hk _ _ h) h | refine bO_mono (fun _ h => ?_) h
 · cases h
noncomputable def K_5_0 (k : AV tau → Mem tau → Option Unit) : Kon tau := (kBlock 0 (kS E_5 C_5 D_5 (codeP B_5 [1, 1, 1, 1, 1, 1, 1]) (kEnd E_5 Try.f5 k)))
def st_5_0 (x0 : (List Int)) (x1 : Int) (x2 : (List S37)) (x3 : (List (List S95))) (x4 : (List S37)) (x5 : (List Int)) (x6 : (List Int)) : St tau := ⟨tmL 188 0 [(1, .sl 5 x0), (5, .own 0 0), (6, .own 1 0), (7, .own 2 0), (8, .own 3 0), (10, .own 4 0), (11, .int .i64 x1)], ⟨[], [some ⟨37, x2, 0⟩, some ⟨60, x3, 0⟩, some ⟨37, x4, 0⟩, some ⟨3, x5, 0⟩, some ⟨3, x6, 0⟩]⟩⟩
noncomputable def LP_5_0 (k : AV tau → Mem tau → Option Unit) (x0 : (List Int)) (x1 : Int) (x2 : (List S37)) (x3 : (List (List S95))) (x4 : (List S37)) (x5 : (List Int)) (x6 : (List Int)) : Option Unit := loopA E_5 (codeA E_5 C_5 D_5 (codeP B_5 [1, 1, 1, 1, 1, 1, 0, 1, 0, 0])) (codeP B_5 [1, 1, 1, 1, 1, 1, 0, 1, 0, 0]) (K_5_0 k) (st_5_0 x0 x1 x2 x3 x4 x5 x6)
theorem w_5_0 (k : AV tau → Mem tau → Option Unit) (x0 : (List Int)) (x1 : Int) (x2 : (List S37)) (x3 : (List (List S95))) (x4 : (List S37)) (x5 : (List Int)) (x6 : (List Int)) : codeA E_5 C_5 D_5 (codeP B_5 [1, 1, 1, 1, 1, 1, 0, 1, 0, 0]) (kL E_5 C_5 D_5 (codeP B_5 [1, 1, 1, 1, 1, 1, 0, 1, 0, 0]) (K_5_0 k)) (st_5_0 x0 x1 x2 x3 x4 x5 x6) = (brA (decide (x1 < ((x5.length : Nat) : Int))) (brA (decide ((0 : Int) ≤ x1)) (brA (decide (x1 < ((x5.length : Nat) : Int))) (brA (decide ((0 : Int) ≤ x1)) (brA (decide (x1 < ((x6.length : Nat) : Int))) (brA (!(decide ((rd x5 x1) = (rd x6 x1)))) (k (.bool false) ⟨[], []⟩) (LP_5_0 k x0 (wrap64 (x1 + (1 : Int))) x2 x3 x4 x5 x6)) (none)) (none)) (none)) (none)) (brA (decide (((x4.length : Nat) : Int) = (0 : Int))) (k (.bool (decide (((x5.length : Nat) : Int) = (0 : Int)))) ⟨[], []⟩) (brA (!(decide ((wrap64 (((x3.length : Nat) : Int) + (1 : Int))) = (0 : Int)))) (brA (decide ((0 : Int) ≤ (Int.tmod ((x0.length : Nat) : Int) (wrap64 (((x3.length : Nat) : Int) + (1 : Int)))))) (brA (decide ((Int.tmod ((x0.length : Nat) : Int) (wrap64 (((x3.length : Nat) : Int) + (1 : Int)))) ≤ ((x3.length : Nat) : Int))) (callX (fun n => impl_SerialAll.f n x2 (List.take (Int.toNat (Int.tmod ((x0.length : Nat) : Int) (wrap64 (((x3.length : Nat) : Int) + (1 : Int))))) x3)) fun t4 => brA (decide ((0 : Int) ≤ (Int.tmod ((x0.length : Nat) : Int) (wrap64 (((x3.length : Nat) : Int) + (1 : Int)))))) (brA (decide ((Int.tmod ((x0.length : Nat) : Int) (wrap64 (((x3.length : Nat) : Int) + (1 : Int)))) ≤ ((x3.length : Nat) : Int))) (callX (fun n => impl_SerialAll.f n t4.1 (List.drop (Int.toNat (Int.tmod ((x0.length : Nat) : Int) (wrap64 (((x3.length : Nat) : Int) + (1 : Int))))) x3)) fun t5 => callX (fun n => impl_BoxSame.f n t5.1 x4) fun t6 => brA (!t6) (k (.bool false) ⟨[], []⟩) (brA (!(decide ((wrap64 (((t4.2.length : Nat) : Int) + ((t5.2.length : Nat) : Int))) = ((x5.length : Nat) : Int)))) (k (.bool false) ⟨[], []⟩) (callX (fun n => spec_DrawSerialFree.f n x0) fun t7 => callX (fun n => impl_SerialFree.f n t7.1 t7.2) fun t8 => callX (fun n => spec_SerialFree.f n t7.1 t7.2) fun t9 => brA (!(t8 == t9)) (k (.bool false) ⟨[], []⟩) (callX (fun n => impl_SerialFree.f n t7.1 t7.2) fun t10 => callX (fun n => impl_SerialFree.f n t7.2 t7.1) fun t11 => brA (!(t10 == t11)) (k (.bool false) ⟨[], []⟩) (callX (fun n => impl_SerialFree.f n t7.1 t7.2) fun t12 => brA (!t12) (k (.bool true) ⟨[], []⟩) (callX (fun n => impl_SerialAll.f n x4 ([t7.1, t7.2] : List (List S95))) fun t13 => callX (fun n => impl_SerialAll.f n x4 ([t7.2, t7.1] : List (List S95))) fun t14 => callX (fun n => impl_BoxSame.f n t13.1 t14.1) fun t15 => brA t15 (brA (decide (((t13.2.length : Nat) : Int) = (2 : Int))) (brA (decide (((t14.2.length : Nat) : Int) = (2 : Int))) (brA (decide ((0 : Int) < ((t13.2.length : Nat) : Int))) (brA (decide ((1 : Int) < ((t14.2.length : Nat) : Int))) (brA (decide ((rd t13.2 (0 : Int)) = (rd t14.2 (1 : Int)))) (brA (decide ((1 : Int) < ((t13.2.length : Nat) : Int))) (brA (decide ((0 : Int) < ((t14.2.length : Nat) : Int))) (k (.bool (decide ((rd t13.2 (1 : Int)) = (rd t14.2 (0 : Int))))) ⟨[], []⟩) (none)) (none)) (k (.bool false) ⟨[], []⟩)) (none)) (none)) (k (.bool false) ⟨[], []⟩)) (k (.bool false) ⟨[], []⟩)) (k (.bool false) ⟨[], []⟩))))))) (none)) (none)) (none)) (none)) (none))) : Option Unit) := by
 simp only [← wrapA_i64]
 kernel_rfl
theorem w_5 (l0 : List Int) (l1 : List Int) (k : AV tau → Mem tau → Option Unit) : fnA E_5 C_5 D_5 Try.f5 B_5 [.sl 5 l0, .sl 5 l1] ⟨[], []⟩ k = (brA (decide (((l0.length : Nat) : Int) > (1048576 : Int))) (k (.bool true) ⟨[], []⟩) (brA (decide (((l1.length : Nat) : Int) > (1048576 : Int))) (k (.bool true) ⟨[], []⟩) (callX (fun n => spec_DrawSerialAll.f n l0) fun t0 => callX (fun n => impl_SerialAll.f n t0.1 t0.2) fun t1 => callX (fun n => spec_SerialAll.f n t0.1 t0.2) fun t2 => callX (fun n => impl_BoxSame.f n t1.1 t2.1) fun t3 => brA (!t3) (k (.bool false) ⟨[], []⟩) (brA (!(decide (((t1.2.length : Nat) : Int) = ((t2.2.length : Nat) : Int)))) (k (.bool false) ⟨[], []⟩) (LP_5_0 k l1 (0 : Int) t0.1 t0.2 t1.1 t1.2 t2.2)))) : Option Unit) := by kernel_rfl
def S_5_0 (N : Nat) : Prop := ∀ (k : AV tau → Mem tau → Option Unit) (x0 : (List Int)) (x1 : Int) (x2 : (List S37)) (x3 : (List (List S95))) (x4 : (List S37)) (x5 : (List Int)) (x6 : (List Int)) (r : Bool), laws_FnSerial.l0 N (x0) (x1) (x2) (x3) (x4) (x5) (x6) = some r → k (.bool (r)) ⟨[], []⟩ = some () → LP_5_0 k x0 x1 x2 x3 x4 x5 x6 = some ()
end Go.Proofs.Ytkkmhlfpombgfaa.PFnSerial