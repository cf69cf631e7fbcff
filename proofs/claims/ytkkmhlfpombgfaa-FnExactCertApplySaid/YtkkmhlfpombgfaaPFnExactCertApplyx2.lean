/- The machine's texts of FnExactCertApply (links). Conditions: none. -/
import Derived.Test.YtkkmhlfpombgfaaPFnExactCertApplyx1
set_option linter.unusedVariables false
set_option linter.unusedSimpArgs false
set_option maxRecDepth 100000
set_option maxHeartbeats 4000000
namespace Go.Proofs.Ytkkmhlfpombgfaa.PFnExactCertApply
open Go.RowKit Go.Proofs.YtkkmhlfpombgfaaW.PrintWords Go.Proofs.YtkkmhlfpombgfaaW.PrintLast Go.Proofs.YtkkmhlfpombgfaaW.PrintMore
open Go Go.Proofs Am
theorem w_174 (a0_0 : Int) (a0_1 : Int) (a1_0 : Int) (a1_1 : Int) (k : AV tau → Mem tau → Option Unit) : fnA E_174 C_174 D_174 Try.f174 B_174 [.agg [.int .i64 a0_0, .int .i64 a0_1], .agg [.int .i64 a1_0, .int .i64 a1_1]] ⟨[], []⟩ k = (brA (!(decide (a0_0 = a1_0))) (k (.bool false) ⟨[], []⟩) (brA (!(decide (a0_1 = a1_1))) (k (.bool false) ⟨[], []⟩) (k (.bool true) ⟨[], []⟩)) : Option Unit) := by kernel_rfl
theorem okc_174 (args : List (AV tau)) (m : Mem tau) (κ : AV tau → Mem tau → Option Unit) (hh : c_174 args m κ = some ()) : ∃ av m1, κ av m1 = some () ∧ ToldA Try.prog TT (pnT 174) 174 args m av m1 := by
 obtain ⟨bx_, rw_⟩ := m
 unfold c_174 at hh
 simp only at hh
 split at hh
 case h_2 => cases hh
 rename_i b0 b1 b2 b3
 obtain ⟨a0_0, hx0, hh0⟩ := bO_some hh
 obtain ⟨a0_1, hx1, hh1⟩ := bO_some hh0
 obtain ⟨a1_0, hx2, hh2⟩ := bO_some hh1
 obtain ⟨a1_1, hx3, hh3⟩ := bO_some hh2
 have ex0 := asI_some hx0
 have ex1 := asI_some hx1
 have ex2 := asI_some hx2
 have ex3 := asI_some hx3
 subst ex0 ex1 ex2 ex3
 obtain ⟨N, t, h, hκ⟩ := callX_some hh3
 refine ⟨_, _, hκ, told_of_run pq okC_174 (fun _ _ _ => drawA_ok pq okC_174 hmix) (E := E_174) (fn := Try.f174) (body := B_174) (by kernel_rfl) (by kernel_rfl) (by kernel_rfl) (by rfl) (by exact Nat.le_of_ble_eq_true rfl) (fun k hk => ?_)⟩
 refine (w_174 a0_0 a0_1 a1_0 a1_1 k).trans ?_
 replace h : laws_eqPut.f a0_0 a0_1 a1_0 a1_1 = some t := h
 unfold laws_eqPut.f at h
 refine br_etn h rfl (fun c3 h => ?_) (fun c3 h => ?_)
 ·cases h; exact hk
 refine br_itn h rfl (fun c4 h => ?_) (fun c4 h => ?_)
 ·cases h; exact hk
 cases h; exact hk
noncomputable def C_165 : Ctr tau Unit := ctrS 174 c_174 C_174
noncomputable def D_165 : Drw tau := drawA E_165 C_165
theorem okC_165 : CtrOk Try.prog TT pnT C_165 := ctrS_ok okC_174 okc_174
theorem mC_165 : CtrMono C_165 := ctrS_mono mC_174 mc_174
theorem mD_165 : DrMono D_165 := drawA_mono mC_165
noncomputable def B_165 : Code := Try.f165.body.getD .skip
theorem mc_165 (args : List (AV tau)) (m : Mem tau) (k k' : AV tau → Mem tau → Option Unit) (hk : ∀ av m, k av m = some () → k' av m = some ()) (h : c_165 args m k = some ()) : c_165 args m k' = some () := by
 unfold c_165 at h ⊢
 split at h
 · repeat' first | exact callX_mono (fun _ h => hk _ _ h) h | refine bO_mono (fun _ h => ?_) h
 · cases h
noncomputable def K_165_0 (k : AV tau → Mem tau → Option Unit) : Kon tau := (kBlock 0 (kS E_165 C_165 D_165 (codeP B_165 [1, 1, 1]) (kEnd E_165 Try.f165 k)))
def st_165_0 (x0 : (List S82)) (x1 : (List S82)) (x2 : Int) : St tau := ⟨tmL 27 0 [(0, .sl 82 x0), (1, .sl 82 x1), (5, .int .i64 x2)], ⟨[], []⟩⟩
noncomputable def LP_165_0 (k : AV tau → Mem tau → Option Unit) (x0 : (List S82)) (x1 : (List S82)) (x2 : Int) : Option Unit := loopA E_165 (codeA E_165 C_165 D_165 (codeP B_165 [1, 1, 0, 1, 0, 0])) (codeP B_165 [1, 1, 0, 1, 0, 0]) (K_165_0 k) (st_165_0 x0 x1 x2)
theorem w_165_0 (k : AV tau → Mem tau → Option Unit) (x0 : (List S82)) (x1 : (List S82)) (x2 : Int) : codeA E_165 C_165 D_165 (codeP B_165 [1, 1, 0, 1, 0, 0]) (kL E_165 C_165 D_165 (codeP B_165 [1, 1, 0, 1, 0, 0]) (K_165_0 k)) (st_165_0 x0 x1 x2) = (brA (decide (x2 < ((x0.length : Nat) : Int))) (brA (decide ((0 : Int) ≤ x2)) (brA (decide (x2 < ((x0.length : Nat) : Int))) (brA (decide ((0 : Int) ≤ x2)) (brA (decide (x2 < ((x1.length : Nat) : Int))) (callX (fun n => laws_eqPut.f ((rd_T82 x0 x2).f0) ((rd_T82 x0 x2).f1) ((rd_T82 x1 x2).f0) ((rd_T82 x1 x2).f1)) fun t0 => brA (!t0) (k (.bool false) ⟨[], []⟩) (LP_165_0 k x0 x1 (wrap64 (x2 + (1 : Int))))) (none)) (none)) (none)) (none)) (k (.bool true) ⟨[], []⟩) : Option Unit) := by
 simp only [← wrapA_i64]
 kernel_rfl
theorem w_165 (l0 : List S82) (l1 : List S82) (k : AV tau → Mem tau → Option Unit) : fnA E_165 C_165 D_165 Try.f165 B_165 [.sl 82 l0, .sl 82 l1] ⟨[], []⟩ k = (brA (!(decide (((l0.length : Nat) : Int) = ((l1.length : Nat) : Int)))) (k (.bool false) ⟨[], []⟩) (LP_165_0 k l0 l1 (0 : Int)) : Option Unit) := by kernel_rfl
def S_165_0 (N : Nat) : Prop := ∀ (k : AV tau → Mem tau → Option Unit) (x0 : (List S82)) (x1 : (List S82)) (x2 : Int) (r : Bool), laws_eqPutS.l0 N (x0) (x1) (x2) = some r → k (.bool (r)) ⟨[], []⟩ = some () → LP_165_0 k x0 x1 x2 = some ()
theorem L_165 (N : Nat) : S_165_0 N := by
 induction N using Nat.strongRecOn with | _ N0 ih =>
 skip
 intro k x0 x1 x2 r h hk
 rcases N0 with _ | N
 · cases h
 first | rw [laws_eqPutS.l0] at h | simp only [laws_eqPutS.l0] at h | (unfold laws_eqPutS.l0 at h; dsimp only at h)
 refine loop_fold mC_165 mD_165 ?_
 refine (w_165_0 k x0 x1 x2).trans ?_
 refine br_eti h rfl (fun c13 h => ?_) (fun c13 h => ?_)
 ·cases h; exact hk
 refine br_g h rfl (fun c14 h => ?_)
 refine br_t (by first | (simp [c13]; done) | (simp; omega) | (simp only [List.length_append, List.length_cons, List.length_nil, List.length_take, List.length_drop] at c13 ⊢; simp; omega) | (simp only [List.length_append, List.length_cons, List.length_nil, List.length_take, List.length_drop] at c13; simp; omega) | (simp_all; done)) ?_
 refine br_t (by first | (simp [c14]; done) | (simp; omega) | (simp only [List.length_append, List.length_cons, List.length_nil, List.length_take, List.length_drop] at c13 ⊢; simp; omega) | (simp only [List.length_append, List.length_cons, List.length_nil, List.length_take, List.length_drop] at c13; simp; omega) | (simp_all; done)) ?_
 refine br_g h rfl (fun c15 h => ?_)
 refine call_h 0 h (fun t0 e16 h => ?_)
 refine br_etn h (congrArg not dect) (fun c17 h => ?_) (fun c17 h => ?_)
 ·cases h; exact hk
 exact (ih N (by omega)) _ _ _ _ _ h hk
theorem okc_165 (args : List (AV tau)) (m : Mem tau) (κ : AV tau → Mem tau → Option Unit) (hh : c_165 args m κ = some ()) : ∃ av m1, κ av m1 = some () ∧ ToldA Try.prog TT (pnT 165) 165 args m av m1 := by
 obtain ⟨bx_, rw_⟩ := m
 unfold c_165 at hh
 simp only at hh
 split at hh
 case h_2 => cases hh
 rename_i b0 b1
 obtain ⟨l0, hx0, hh0⟩ := bO_some hh
 obtain ⟨l1, hx1, hh1⟩ := bO_some hh0
 have ex0 := asSl_some hx0
 have ex1 := asSl_some hx1
 subst ex0 ex1
 obtain ⟨N, t, h, hκ⟩ := callX_some hh1
 refine ⟨_, _, hκ, told_of_run pq okC_165 (fun _ _ _ => drawA_ok pq okC_165 hmix) (E := E_165) (fn := Try.f165) (body := B_165) (by kernel_rfl) (by kernel_rfl) (by kernel_rfl) (by rfl) (by exact Nat.le_of_ble_eq_true rfl) (fun k hk => ?_)⟩
 refine (w_165 l0 l1 k).trans ?_
 replace h : laws_eqPutS.f N l0 l1 = some t := h
 unfold laws_eqPutS.f at h
 refine br_etn h rfl (fun c18 h => ?_) (fun c18 h => ?_)
 ·cases h; exact hk
 exact (L_165 N) _ _ _ _ _ h hk
noncomputable def C_138 : Ctr tau Unit := ctrS 165 c_165 C_165
noncomputable def D_138 : Drw tau := drawA E_138 C_138
theorem okC_138 : CtrOk Try.prog TT pnT C_138 := ctrS_ok okC_165 okc_165
theorem mC_138 : CtrMono C_138 := ctrS_mono mC_165 mc_165
theorem mD_138 : DrMono D_138 := drawA_mono mC_138
noncomputable def B_138 : Code := Try.f138.body.getD .skip
theorem mc_138 (args : List (AV tau)) (m : Mem tau) (k k' : AV tau → Mem tau → Option Unit) (hk : ∀ av m, k av m = some () → k' av m = some ()) (h : c_138 args m k = some ()) : c_138 args m k' = some () := by
 unfold c_138 at h ⊢
 split at h
 · repeat' first | exact callX_mono (fun _ h => hk _ _ h) h | refine bO_mono (fun _ h => ?_) h
 · cases h
theorem w_138 (l0_0 : List S39) (l0_1 : List S82) (a0_2 : Int) (a0_3 : Int) (l1_0 : List S39) (l1_1 : List S82) (a1_2 : Int) (a1_3 : Int) (k : AV tau → Mem tau → Option Unit) : fnA E_138 C_138 D_138 Try.f138 B_138 [.agg [.sl 39 l0_0, .sl 82 l0_1, .int .i64 a0_2, .int .i64 a0_3], .agg [.sl 39 l1_0, .sl 82 l1_1, .int .i64 a1_2, .int .i64 a1_3]] ⟨[], []⟩ k = (callX (fun n => laws_eqReadS.f n l0_0 l1_0) fun t0 => brA (!t0) (k (.bool false) ⟨[], []⟩) (callX (fun n => laws_eqPutS.f n l0_1 l1_1) fun t1 => brA (!t1) (k (.bool false) ⟨[], []⟩) (brA (!(decide (a0_2 = a1_2))) (k (.bool false) ⟨[], []⟩) (brA (!(decide (a0_3 = a1_3))) (k (.bool false) ⟨[], []⟩) (k (.bool true) ⟨[], []⟩)))) : Option Unit) := by kernel_rfl
theorem okc_138 (args : List (AV tau)) (m : Mem tau) (κ : AV tau → Mem tau → Option Unit) (hh : c_138 args m κ = some ()) : ∃ av m1, κ av m1 = some () ∧ ToldA Try.prog TT (pnT 138) 138 args m av m1 := by
 obtain ⟨bx_, rw_⟩ := m
 unfold c_138 at hh
 simp only at hh
 split at hh
 case h_2 => cases hh
 rename_i b0 b1 b2 b3 b4 b5 b6 b7
 obtain ⟨l0_0, hx0, hh0⟩ := bO_some hh
 obtain ⟨l0_1, hx1, hh1⟩ := bO_some hh0
 obtain ⟨a0_2, hx2, hh2⟩ := bO_some hh1
 obtain ⟨a0_3, hx3, hh3⟩ := bO_some hh2
 obtain ⟨l1_0, hx4, hh4⟩ := bO_some hh3
 obtain ⟨l1_1, hx5, hh5⟩ := bO_some hh4
 obtain ⟨a1_2, hx6, hh6⟩ := bO_some hh5
 obtain ⟨a1_3, hx7, hh7⟩ := bO_some hh6
 have ex0 := asSl_some hx0
 have ex1 := asSl_some hx1
 have ex2 := asI_some hx2
 have ex3 := asI_some hx3
 have ex4 := asSl_some hx4
 have ex5 := asSl_some hx5
 have ex6 := asI_some hx6
 have ex7 := asI_some hx7
 subst ex0 ex1 ex2 ex3 ex4 ex5 ex6 ex7
 obtain ⟨N, t, h, hκ⟩ := callX_some hh7
 refine ⟨_, _, hκ, told_of_run pq okC_138 (fun _ _ _ => drawA_ok pq okC_138 hmix) (E := E_138) (fn := Try.f138) (body := B_138) (by kernel_rfl) (by kernel_rfl) (by kernel_rfl) (by rfl) (by exact Nat.le_of_ble_eq_true rfl) (fun k hk => ?_)⟩
 refine (w_138 l0_0 l0_1 a0_2 a0_3 l1_0 l1_1 a1_2 a1_3 k).trans ?_
 replace h : laws_eqRun.f N l0_0 l0_1 a0_2 a0_3 l1_0 l1_1 a1_2 a1_3 = some t := h
 unfold laws_eqRun.f at h
 refine call_h N h (fun t0 e7 h => ?_)
 refine br_etn h (congrArg not dect) (fun c8 h => ?_) (fun c8 h => ?_)
 ·cases h; exact hk
 refine call_h N h (fun t1 e9 h => ?_)
 refine br_etn h (congrArg not dect) (fun c10 h => ?_) (fun c10 h => ?_)
 ·cases h; exact hk
 refine br_etn h rfl (fun c11 h => ?_) (fun c11 h => ?_)
 ·cases h; exact hk
 refine br_itn h rfl (fun c12 h => ?_) (fun c12 h => ?_)
 ·cases h; exact hk
 cases h; exact hk
noncomputable def C_69 : Ctr tau Unit := ctrS 138 c_138 C_138
noncomputable def D_69 : Drw tau := drawA E_69 C_69
theorem okC_69 : CtrOk Try.prog TT pnT C_69 := ctrS_ok okC_138 okc_138
theorem mC_69 : CtrMono C_69 := ctrS_mono mC_138 mc_138
theorem mD_69 : DrMono D_69 := drawA_mono mC_69
noncomputable def B_69 : Code := Try.f69.body.getD .skip
theorem mc_69 (args : List (AV tau)) (m : Mem tau) (k k' : AV tau → Mem tau → Option Unit) (hk : ∀ av m, k av m = some () → k' av m = some ()) (h : c_69 args m k = some ()) : c_69 args m k' = some () := by
 unfold c_69 at h ⊢
 split at h
 · repeat' first | exact callX_mono (fun _ h => hk _ _ h) h | refine bO_mono (fun _ h => ?_) h
 · cases h
theorem w_69 (a0_0 : Bool) (a0_1 : Int) (a0_2 : Int) (l0_3 : List S39) (l0_4 : List S82) (a0_5 : Int) (a0_6 : Int) (a1_0 : Bool) (a1_1 : Int) (a1_2 : Int) (l1_3 : List S39) (l1_4 : List S82) (a1_5 : Int) (a1_6 : Int) (k : AV tau → Mem tau → Option Unit) : fnA E_69 C_69 D_69 Try.f69 B_69 [.agg [.bool a0_0, .int .i64 a0_1, .int .i64 a0_2, .sl 39 l0_3, .sl 82 l0_4, .int .i64 a0_5, .int .i64 a0_6], .agg [.bool a1_0, .int .i64 a1_1, .int .i64 a1_2, .sl 39 l1_3, .sl 82 l1_4, .int .i64 a1_5, .int .i64 a1_6]] ⟨[], []⟩ k = (brA (!(a0_0 == a1_0)) (k (.bool false) ⟨[], []⟩) (callX (fun n => laws_eqReq.f a0_1 a0_2 a1_1 a1_2) fun t0 => brA (!t0) (k (.bool false) ⟨[], []⟩) (callX (fun n => laws_eqRun.f n l0_3 l0_4 a0_5 a0_6 l1_3 l1_4 a1_5 a1_6) fun t1 => brA (!t1) (k (.bool false) ⟨[], []⟩) (k (.bool true) ⟨[], []⟩))) : Option Unit) := by kernel_rfl
theorem okc_69 (args : List (AV tau)) (m : Mem tau) (κ : AV tau → Mem tau → Option Unit) (hh : c_69 args m κ = some ()) : ∃ av m1, κ av m1 = some () ∧ ToldA Try.prog TT (pnT 69) 69 args m av m1 := by
 obtain ⟨bx_, rw_⟩ := m
 unfold c_69 at hh
 simp only at hh
 split at hh
 case h_2 => cases hh
 rename_i b0 b1 b2 b3 b4 b5 b6 b7 b8 b9 b10 b11 b12 b13
 obtain ⟨a0_0, hx0, hh0⟩ := bO_some hh
 obtain ⟨a0_1, hx1, hh1⟩ := bO_some hh0
 obtain ⟨a0_2, hx2, hh2⟩ := bO_some hh1
 obtain ⟨l0_3, hx3, hh3⟩ := bO_some hh2
 obtain ⟨l0_4, hx4, hh4⟩ := bO_some hh3
 obtain ⟨a0_5, hx5, hh5⟩ := bO_some hh4
 obtain ⟨a0_6, hx6, hh6⟩ := bO_some hh5
 obtain ⟨a1_0, hx7, hh7⟩ := bO_some hh6
 obtain ⟨a1_1, hx8, hh8⟩ := bO_some hh7
 obtain ⟨a1_2, hx9, hh9⟩ := bO_some hh8
 obtain ⟨l1_3, hx10, hh10⟩ := bO_some hh9
 obtain ⟨l1_4, hx11, hh11⟩ := bO_some hh10
 obtain ⟨a1_5, hx12, hh12⟩ := bO_some hh11
 obtain ⟨a1_6, hx13, hh13⟩ := bO_some hh12
 have ex0 := asB_some hx0
 have ex1 := asI_some hx1
 have ex2 := asI_some hx2
 have ex3 := asSl_some hx3
 have ex4 := asSl_some hx4
 have ex5 := asI_some hx5
 have ex6 := asI_some hx6
 have ex7 := asB_some hx7
 have ex8 := asI_some hx8
 have ex9 := asI_some hx9
 have ex10 := asSl_some hx10
 have ex11 := asSl_some hx11
 have ex12 := asI_some hx12
 have ex13 := asI_some hx13
 subst ex0 ex1 ex2 ex3 ex4 ex5 ex6 ex7 ex8 ex9 ex10 ex11 ex12 ex13
 obtain ⟨N, t, h, hκ⟩ := callX_some hh13
 refine ⟨_, _, hκ, told_of_run pq okC_69 (fun _ _ _ => drawA_ok pq okC_69 hmix) (E := E_69) (fn := Try.f69) (body := B_69) (by kernel_rfl) (by kernel_rfl) (by kernel_rfl) (by rfl) (by exact Nat.le_of_ble_eq_true rfl) (fun k hk => ?_)⟩
 refine (w_69 a0_0 a0_1 a0_2 l0_3 l0_4 a0_5 a0_6 a1_0 a1_1 a1_2 l1_3 l1_4 a1_5 a1_6 k).trans ?_
 replace h : laws_eqEntry.f N a0_0 a0_1 a0_2 l0_3 l0_4 a0_5 a0_6 a1_0 a1_1 a1_2 l1_3 l1_4 a1_5 a1_6 = some t := h
 unfold laws_eqEntry.f at h
 refine br_ite h (by first | rfl | exact dect | exact (congrArg not dect) | (simp; done) | (simp [beqI]; done) | (simp; omega)) (fun c6 h => ?_) (fun c6 h => ?_)
 ·cases h; exact hk
 refine call_h 0 h (fun t0 e7 h => ?_)
 refine br_etn h (congrArg not dect) (fun c8 h => ?_) (fun c8 h => ?_)
 ·cases h; exact hk
 refine call_h N h (fun t1 e9 h => ?_)
 refine br_itn h (congrArg not dect) (fun c10 h => ?_) (fun c10 h => ?_)
 ·cases h; exact hk
 cases h; exact hk
noncomputable def C_33 : Ctr tau Unit := ctrS 69 c_69 C_69
noncomputable def D_33 : Drw tau := drawA E_33 C_33
theorem okC_33 : CtrOk Try.prog TT pnT C_33 := ctrS_ok okC_69 okc_69
theorem mC_33 : CtrMono C_33 := ctrS_mono mC_69 mc_69
theorem mD_33 : DrMono D_33 := drawA_mono mC_33
noncomputable def B_33 : Code := Try.f33.body.getD .skip
theorem mc_33 (args : List (AV tau)) (m : Mem tau) (k k' : AV tau → Mem tau → Option Unit) (hk : ∀ av m, k av m = some () → k' av m = some ()) (h : c_33 args m k = some ()) : c_33 args m k' = some () := by
 unfold c_33 at h ⊢
 split at h
 · repeat' first | exact callX_mono (fun _ h => hk _ _ h) h | refine bO_mono (fun _ h => ?_) h
 · cases h
noncomputable def K_33_0 (k : AV tau → Mem tau → Option Unit) : Kon tau := (kBlock 0 (kS E_33 C_33 D_33 (codeP B_33 [1, 1]) (kEnd E_33 Try.f33 k)))
def st_33_0 (x0 : Int) (x1 : Int) (x2 : (List S37)) : St tau := ⟨tmL 27 0 [(0, .own 0 0), (1, .int .i64 x0), (5, .int .i64 x1)], ⟨[], [some ⟨37, x2, 0⟩]⟩⟩
noncomputable def LP_33_0 (k : AV tau → Mem tau → Option Unit) (x0 : Int) (x1 : Int) (x2 : (List S37)) : Option Unit := loopA E_33 (codeA E_33 C_33 D_33 (codeP B_33 [1, 0, 1, 0, 0])) (codeP B_33 [1, 0, 1, 0, 0]) (K_33_0 k) (st_33_0 x0 x1 x2)
theorem w_33_0 (k : AV tau → Mem tau → Option Unit) (x0 : Int) (x1 : Int) (x2 : (List S37)) : codeA E_33 C_33 D_33 (codeP B_33 [1, 0, 1, 0, 0]) (kL E_33 C_33 D_33 (codeP B_33 [1, 0, 1, 0, 0]) (K_33_0 k)) (st_33_0 x0 x1 x2) = (brA (decide (x1 < ((x2.length : Nat) : Int))) (brA (decide ((0 : Int) ≤ x1)) (brA (decide (x1 < ((x2.length : Nat) : Int))) (brA (decide ((0 : Int) ≤ x1)) (brA (decide (x1 < (((List.set x2 (Int.toNat x1) (⟨x0, (rd_T37 x2 x1).f1⟩ : S37)).length : Nat) : Int))) (LP_33_0 k (wrap64 ((wrap64 (x0 + (1 : Int))) + (1 : Int))) (wrap64 (x1 + (1 : Int))) (List.set (List.set x2 (Int.toNat x1) (⟨x0, (rd_T37 x2 x1).f1⟩ : S37)) (Int.toNat x1) (⟨(rd_T37 (List.set x2 (Int.toNat x1) (⟨x0, (rd_T37 x2 x1).f1⟩ : S37)) x1).f0, (wrap64 (x0 + (1 : Int)))⟩ : S37))) (none)) (none)) (none)) (none)) (k (.int .i64 x0) ⟨[], [some ⟨37, x2, 0⟩]⟩) : Option Unit) := by
 simp only [← wrapA_i64]
 kernel_rfl
theorem w_33 (l0 : List S37) (a1 : Int) (k : AV tau → Mem tau → Option Unit) : fnA E_33 C_33 D_33 Try.f33 B_33 [.own 0 0, .int .i64 a1] ⟨[], [some ⟨37, l0, 0⟩]⟩ k = (LP_33_0 k a1 (0 : Int) l0 : Option Unit) := by kernel_rfl
def S_33_0 (N : Nat) : Prop := ∀ (k : AV tau → Mem tau → Option Unit) (x0 : Int) (x1 : Int) (x2 : (List S37)) (r : Int × (List (S37))), laws_markBoxS.l0 N (x2) (x0) (x1) = some r → k (.int .i64 (r.1)) ⟨[], [some ⟨37, r.2, 0⟩]⟩ = some () → LP_33_0 k x0 x1 x2 = some ()
theorem L_33 (N : Nat) : S_33_0 N := by
 induction N using Nat.strongRecOn with | _ N0 ih =>
 skip
 intro k x0 x1 x2 r h hk
 rcases N0 with _ | N
 · cases h
 first | rw [laws_markBoxS.l0] at h | simp only [laws_markBoxS.l0] at h | (unfold laws_markBoxS.l0 at h; dsimp only at h)
 refine loop_fold mC_33 mD_33 ?_
 refine (w_33_0 k x0 x1 x2).trans ?_
 refine br_eti h rfl (fun c5 h => ?_) (fun c5 h => ?_)
 ·cases h; exact hk
 refine br_g h rfl (fun c6 h => ?_)
 replace h := let_h h
 refine br_t (by first | (simp [c5]; done) | (simp; omega) | (simp only [List.length_append, List.length_cons, List.length_nil, List.length_take, List.length_drop] at c5 ⊢; simp; omega) | (simp only [List.length_append, List.length_cons, List.length_nil, List.length_take, List.length_drop] at c5; simp; omega) | (simp_all; done)) ?_
 refine br_t (by first | (simp [c6]; done) | (simp; omega) | (simp only [List.length_append, List.length_cons, List.length_nil, List.length_take, List.length_drop] at c5 ⊢; simp; omega) | (simp only [List.length_append, List.length_cons, List.length_nil, List.length_take, List.length_drop] at c5; simp; omega) | (simp_all; done)) ?_
 refine br_t (by first | (simp; omega) | (simp only [List.length_append, List.length_cons, List.length_nil, List.length_take, List.length_drop] at c5 ⊢; simp; omega) | (simp only [List.length_append, List.length_cons, List.length_nil, List.length_take, List.length_drop] at c5; simp; omega)) ?_
 exact (ih N (by omega)) _ _ _ _ _ h hk
theorem okc_33 (args : List (AV tau)) (m : Mem tau) (κ : AV tau → Mem tau → Option Unit) (hh : c_33 args m κ = some ()) : ∃ av m1, κ av m1 = some () ∧ ToldA Try.prog TT (pnT 33) 33 args m av m1 := by
 obtain ⟨bx_, rw_⟩ := m
 unfold c_33 at hh
 simp only at hh
 split at hh
 case h_2 => cases hh
 rename_i b0 b1 r0
 obtain ⟨u7, hx0, hh0⟩ := bO_some hh
 obtain ⟨l0, hx1, hh1⟩ := bO_some hh0
 obtain ⟨a1, hx2, hh2⟩ := bO_some hh1
 have ex0 := asOwn_some hx0
 have ex1 := asRow_some hx1
 have ex2 := asI_some hx2
 subst ex0 ex1 ex2
 obtain ⟨N, t, h, hκ⟩ := callX_some hh2
 refine ⟨_, _, hκ, told_of_run pq okC_33 (fun _ _ _ => drawA_ok pq okC_33 hmix) (E := E_33) (fn := Try.f33) (body := B_33) (by kernel_rfl) (by kernel_rfl) (by kernel_rfl) (by rfl) (by exact Nat.le_of_ble_eq_true rfl) (fun k hk => ?_)⟩
 refine (w_33 l0 a1 k).trans ?_
 replace h : laws_markBoxS.f N l0 a1 = some t := h
 unfold laws_markBoxS.f at h
 exact (L_33 N) _ _ _ _ _ h hk
noncomputable def C_139 : Ctr tau Unit := ctrS 33 c_33 C_33
noncomputable def D_139 : Drw tau := drawA E_139 C_139
theorem okC_139 : CtrOk Try.prog TT pnT C_139 := ctrS_ok okC_33 okc_33
theorem mC_139 : CtrMono C_139 := ctrS_mono mC_33 mc_33
theorem mD_139 : DrMono D_139 := drawA_mono mC_139
noncomputable def B_139 : Code := Try.f139.body.getD .skip
theorem mc_139 (args : List (AV tau)) (m : Mem tau) (k k' : AV tau → Mem tau → Option Unit) (hk : ∀ av m, k av m = some () → k' av m = some ()) (h : c_139 args m k = some ()) : c_139 args m k' = some () := by
 unfold c_139 at h ⊢
 split at h
 · repeat' first | exact callX_mono (fun _ h => hk _ _ h) h | refine bO_mono (fun _ h => ?_) h
 · cases h
noncomputable def K_139_0 (k : AV tau → Mem tau → Option Unit) : Kon tau := (kBlock 0 (kS E_139 C_139 D_139 (codeP B_139 [1, 1]) (kEnd E_139 Try.f139 k)))
def st_139_0 (x0 : Int) (x1 : Int) (x2 : (List S84)) : St tau := ⟨tmL 43 0 [(0, .own 0 0), (1, .int .i64 x0), (5, .int .i64 x1)], ⟨[], [some ⟨84, x2, 0⟩]⟩⟩
noncomputable def LP_139_0 (k : AV tau → Mem tau → Option Unit) (x0 : Int) (x1 : Int) (x2 : (List S84)) : Option Unit := loopA E_139 (codeA E_139 C_139 D_139 (codeP B_139 [1, 0, 1, 0, 0])) (codeP B_139 [1, 0, 1, 0, 0]) (K_139_0 k) (st_139_0 x0 x1 x2)
theorem w_139_0 (k : AV tau → Mem tau → Option Unit) (x0 : Int) (x1 : Int) (x2 : (List S84)) : codeA E_139 C_139 D_139 (codeP B_139 [1, 0, 1, 0, 0]) (kL E_139 C_139 D_139 (codeP B_139 [1, 0, 1, 0, 0]) (K_139_0 k)) (st_139_0 x0 x1 x2) = (brA (decide (x1 < ((x2.length : Nat) : Int))) (brA (decide ((0 : Int) ≤ x1)) (brA (decide (x1 < ((x2.length : Nat) : Int))) (brA (decide ((0 : Int) ≤ x1)) (brA (decide (x1 < (((List.set x2 (Int.toNat x1) (⟨(⟨x0, ((rd_T84 x2 x1).f0).f1⟩ : S75), (rd_T84 x2 x1).f1, (rd_T84 x2 x1).f2⟩ : S84)).length : Nat) : Int))) (brA (decide ((0 : Int) ≤ x1)) (brA (decide (x1 < (((List.set (List.set x2 (Int.toNat x1) (⟨(⟨x0, ((rd_T84 x2 x1).f0).f1⟩ : S75), (rd_T84 x2 x1).f1, (rd_T84 x2 x1).f2⟩ : S84)) (Int.toNat x1) (⟨(⟨((rd_T84 (List.set x2 (Int.toNat x1) (⟨(⟨x0, ((rd_T84 x2 x1).f0).f1⟩ : S75), (rd_T84 x2 x1).f1, (rd_T84 x2 x1).f2⟩ : S84)) x1).f0).f0, (wrap64 (x0 + (1 : Int)))⟩ : S75), (rd_T84 (List.set x2 (Int.toNat x1) (⟨(⟨x0, ((rd_T84 x2 x1).f0).f1⟩ : S75), (rd_T84 x2 x1).f1, (rd_T84 x2 x1).f2⟩ : S84)) x1).f1, (rd_T84 (List.set x2 (Int.toNat x1) (⟨(⟨x0, ((rd_T84 x2 x1).f0).f1⟩ : S75), (rd_T84 x2 x1).f1, (rd_T84 x2 x1).f2⟩ : S84)) x1).f2⟩ : S84)).length : Nat) : Int))) (brA (decide ((0 : Int) ≤ x1)) (brA (decide (x1 < (((List.set (List.set (List.set x2 (Int.toNat x1) (⟨(⟨x0, ((rd_T84 x2 x1).f0).f1⟩ : S75), (rd_T84 x2 x1).f1, (rd_T84 x2 x1).f2⟩ : S84)) (Int.toNat x1) (⟨(⟨((rd_T84 (List.set x2 (Int.toNat x1) (⟨(⟨x0, ((rd_T84 x2 x1).f0).f1⟩ : S75), (rd_T84 x2 x1).f1, (rd_T84 x2 x1).f2⟩ : S84)) x1).f0).f0, (wrap64 (x0 + (1 : Int)))⟩ : S75), (rd_T84 (List.set x2 (Int.toNat x1) (⟨(⟨x0, ((rd_T84 x2 x1).f0).f1⟩ : S75), (rd_T84 x2 x1).f1, (rd_T84 x2 x1).f2⟩ : S84)) x1).f1, (rd_T84 (List.set x2 (Int.toNat x1) (⟨(⟨x0, ((rd_T84 x2 x1).f0).f1⟩ : S75), (rd_T84 x2 x1).f1, (rd_T84 x2 x1).f2⟩ : S84)) x1).f2⟩ : S84)) (Int.toNat x1) (⟨(⟨((rd_T84 (List.set (List.set x2 (Int.toNat x1) (⟨(⟨x0, ((rd_T84 x2 x1).f0).f1⟩ : S75), (rd_T84 x2 x1).f1, (rd_T84 x2 x1).f2⟩ : S84)) (Int.toNat x1) (⟨(⟨((rd_T84 (List.set x2 (Int.toNat x1) (⟨(⟨x0, ((rd_T84 x2 x1).f0).f1⟩ : S75), (rd_T84 x2 x1).f1, (rd_T84 x2 x1).f2⟩ : S84)) x1).f0).f0, (wrap64 (x0 + (1 : Int)))⟩ : S75), (rd_T84 (List.set x2 (Int.toNat x1) (⟨(⟨x0, ((rd_T84 x2 x1).f0).f1⟩ : S75), (rd_T84 x2 x1).f1, (rd_T84 x2 x1).f2⟩ : S84)) x1).f1, (rd_T84 (List.set x2 (Int.toNat x1) (⟨(⟨x0, ((rd_T84 x2 x1).f0).f1⟩ : S75), (rd_T84 x2 x1).f1, (rd_T84 x2 x1).f2⟩ : S84)) x1).f2⟩ : S84)) x1).f0).f0, ((rd_T84 (List.set (List.set x2 (Int.toNat x1) (⟨(⟨x0, ((rd_T84 x2 x1).f0).f1⟩ : S75), (rd_T84 x2 x1).f1, (rd_T84 x2 x1).f2⟩ : S84)) (Int.toNat x1) (⟨(⟨((rd_T84 (List.set x2 (Int.toNat x1) (⟨(⟨x0, ((rd_T84 x2 x1).f0).f1⟩ : S75), (rd_T84 x2 x1).f1, (rd_T84 x2 x1).f2⟩ : S84)) x1).f0).f0, (wrap64 (x0 + (1 : Int)))⟩ : S75), (rd_T84 (List.set x2 (Int.toNat x1) (⟨(⟨x0, ((rd_T84 x2 x1).f0).f1⟩ : S75), (rd_T84 x2 x1).f1, (rd_T84 x2 x1).f2⟩ : S84)) x1).f1, (rd_T84 (List.set x2 (Int.toNat x1) (⟨(⟨x0, ((rd_T84 x2 x1).f0).f1⟩ : S75), (rd_T84 x2 x1).f1, (rd_T84 x2 x1).f2⟩ : S84)) x1).f2⟩ : S84)) x1).f0).f1⟩ : S75), (wrap64 ((wrap64 (x0 + (1 : Int))) + (1 : Int))), (rd_T84 (List.set (List.set x2 (Int.toNat x1) (⟨(⟨x0, ((rd_T84 x2 x1).f0).f1⟩ : S75), (rd_T84 x2 x1).f1, (rd_T84 x2 x1).f2⟩ : S84)) (Int.toNat x1) (⟨(⟨((rd_T84 (List.set x2 (Int.toNat x1) (⟨(⟨x0, ((rd_T84 x2 x1).f0).f1⟩ : S75), (rd_T84 x2 x1).f1, (rd_T84 x2 x1).f2⟩ : S84)) x1).f0).f0, (wrap64 (x0 + (1 : Int)))⟩ : S75), (rd_T84 (List.set x2 (Int.toNat x1) (⟨(⟨x0, ((rd_T84 x2 x1).f0).f1⟩ : S75), (rd_T84 x2 x1).f1, (rd_T84 x2 x1).f2⟩ : S84)) x1).f1, (rd_T84 (List.set x2 (Int.toNat x1) (⟨(⟨x0, ((rd_T84 x2 x1).f0).f1⟩ : S75), (rd_T84 x2 x1).f1, (rd_T84 x2 x1).f2⟩ : S84)) x1).f2⟩ : S84)) x1).f2⟩ : S84)).length : Nat) : Int))) (LP_139_0 k (wrap64 ((wrap64 ((wrap64 ((wrap64 (x0 + (1 : Int))) + (1 : Int))) + (1 : Int))) + (1 : Int))) (wrap64 (x1 + (1 : Int))) (List.set (List.set (List.set (List.set x2 (Int.toNat x1) (⟨(⟨x0, ((rd_T84 x2 x1).f0).f1⟩ : S75), (rd_T84 x2 x1).f1, (rd_T84 x2 x1).f2⟩ : S84)) (Int.toNat x1) (⟨(⟨((rd_T84 (List.set x2 (Int.toNat x1) (⟨(⟨x0, ((rd_T84 x2 x1).f0).f1⟩ : S75), (rd_T84 x2 x1).f1, (rd_T84 x2 x1).f2⟩ : S84)) x1).f0).f0, (wrap64 (x0 + (1 : Int)))⟩ : S75), (rd_T84 (List.set x2 (Int.toNat x1) (⟨(⟨x0, ((rd_T84 x2 x1).f0).f1⟩ : S75), (rd_T84 x2 x1).f1, (rd_T84 x2 x1).f2⟩ : S84)) x1).f1, (rd_T84 (List.set x2 (Int.toNat x1) (⟨(⟨x0, ((rd_T84 x2 x1).f0).f1⟩ : S75), (rd_T84 x2 x1).f1, (rd_T84 x2 x1).f2⟩ : S84)) x1).f2⟩ : S84)) (Int.toNat x1) (⟨(⟨((rd_T84 (List.set (List.set x2 (Int.toNat x1) (⟨(⟨x0, ((rd_T84 x2 x1).f0).f1⟩ : S75), (rd_T84 x2 x1).f1, (rd_T84 x2 x1).f2⟩ : S84)) (Int.toNat x1) (⟨(⟨((rd_T84 (List.set x2 (Int.toNat x1) (⟨(⟨x0, ((rd_T84 x2 x1).f0).f1⟩ : S75), (rd_T84 x2 x1).f1, (rd_T84 x2 x1).f2⟩ : S84)) x1).f0).f0, (wrap64 (x0 + (1 : Int)))⟩ : S75), (rd_T84 (List.set x2 (Int.toNat x1) (⟨(⟨x0, ((rd_T84 x2 x1).f0).f1⟩ : S75), (rd_T84 x2 x1).f1, (rd_T84 x2 x1).f2⟩ : S84)) x1).f1, (rd_T84 (List.set x2 (Int.toNat x1) (⟨(⟨x0, ((rd_T84 x2 x1).f0).f1⟩ : S75), (rd_T84 x2 x1).f1, (rd_T84 x2 x1).f2⟩ : S84)) x1).f2⟩ : S84)) x1).f0).f0, ((rd_T84 (List.set (List.set x2 (Int.toNat x1) (⟨(⟨x0, ((rd_T84 x2 x1).f0).f1⟩ : S75), (rd_T84 x2 x1).f1, (rd_T84 x2 x1).f2⟩ : S84)) (Int.toNat x1) (⟨(⟨((rd_T84 (List.set x2 (Int.toNat x1) (⟨(⟨x0, ((rd_T84 x2 x1).f0).f1⟩ : S75), (rd_T84 x2 x1).f1, (rd_T84 x2 x1).f2⟩ : S84)) x1).f0).f0, (wrap64 (x0 + (1 : Int)))⟩ : S75), (rd_T84 (List.set x2 (Int.toNat x1) (⟨(⟨x0, ((rd_T84 x2 x1).f0).f1⟩ : S75), (rd_T84 x2 x1).f1, (rd_T84 x2 x1).f2⟩ : S84)) x1).f1, (rd_T84 (List.set x2 (Int.toNat x1) (⟨(⟨x0, ((rd_T84 x2 x1).f0).f1⟩ : S75), (rd_T84 x2 x1).f1, (rd_T84 x2 x1).f2⟩ : S84)) x1).f2⟩ : S84)) x1).f0).f1⟩ : S75), (wrap64 ((wrap64 (x0 + (1 : Int))) + (1 : Int))), (rd_T84 (List.set (List.set x2 (Int.toNat x1) (⟨(⟨x0, ((rd_T84 x2 x1).f0).f1⟩ : S75), (rd_T84 x2 x1).f1, (rd_T84 x2 x1).f2⟩ : S84)) (Int.toNat x1) (⟨(⟨((rd_T84 (List.set x2 (Int.toNat x1) (⟨(⟨x0, ((rd_T84 x2 x1).f0).f1⟩ : S75), (rd_T84 x2 x1).f1, (rd_T84 x2 x1).f2⟩ : S84)) x1).f0).f0, (wrap64 (x0 + (1 : Int)))⟩ : S75), (rd_T84 (List.set x2 (Int.toNat x1) (⟨(⟨x0, ((rd_T84 x2 x1).f0).f1⟩ : S75), (rd_T84 x2 x1).f1, (rd_T84 x2 x1).f2⟩ : S84)) x1).f1, (rd_T84 (List.set x2 (Int.toNat x1) (⟨(⟨x0, ((rd_T84 x2 x1).f0).f1⟩ : S75), (rd_T84 x2 x1).f1, (rd_T84 x2 x1).f2⟩ : S84)) x1).f2⟩ : S84)) x1).f2⟩ : S84)) (Int.toNat x1) (⟨(⟨((rd_T84 (List.set (List.set (List.set x2 (Int.toNat x1) (⟨(⟨x0, ((rd_T84 x2 x1).f0).f1⟩ : S75), (rd_T84 x2 x1).f1, (rd_T84 x2 x1).f2⟩ : S84)) (Int.toNat x1) (⟨(⟨((rd_T84 (List.set x2 (Int.toNat x1) (⟨(⟨x0, ((rd_T84 x2 x1).f0).f1⟩ : S75), (rd_T84 x2 x1).f1, (rd_T84 x2 x1).f2⟩ : S84)) x1).f0).f0, (wrap64 (x0 + (1 : Int)))⟩ : S75), (rd_T84 (List.set x2 (Int.toNat x1) (⟨(⟨x0, ((rd_T84 x2 x1).f0).f1⟩ : S75), (rd_T84 x2 x1).f1, (rd_T84 x2 x1).f2⟩ : S84)) x1).f1, (rd_T84 (List.set x2 (Int.toNat x1) (⟨(⟨x0, ((rd_T84 x2 x1).f0).f1⟩ : S75), (rd_T84 x2 x1).f1, (rd_T84 x2 x1).f2⟩ : S84)) x1).f2⟩ : S84)) (Int.toNat x1) (⟨(⟨((rd_T84 (List.set (List.set x2 (Int.toNat x1) (⟨(⟨x0, ((rd_T84 x2 x1).f0).f1⟩ : S75), (rd_T84 x2 x1).f1, (rd_T84 x2 x1).f2⟩ : S84)) (Int.toNat x1) (⟨(⟨((rd_T84 (List.set x2 (Int.toNat x1) (⟨(⟨x0, ((rd_T84 x2 x1).f0).f1⟩ : S75), (rd_T84 x2 x1).f1, (rd_T84 x2 x1).f2⟩ : S84)) x1).f0).f0, (wrap64 (x0 + (1 : Int)))⟩ : S75), (rd_T84 (List.set x2 (Int.toNat x1) (⟨(⟨x0, ((rd_T84 x2 x1).f0).f1⟩ : S75), (rd_T84 x2 x1).f1, (rd_T84 x2 x1).f2⟩ : S84)) x1).f1, (rd_T84 (List.set x2 (Int.toNat x1) (⟨(⟨x0, ((rd_T84 x2 x1).f0).f1⟩ : S75), (rd_T84 x2 x1).f1, (rd_T84 x2 x1).f2⟩ : S84)) x1).f2⟩ : S84)) x1).f0).f0, ((rd_T84 (List.set (List.set x2 (Int.toNat x1) (⟨(⟨x0, ((rd_T84 x2 x1).f0).f1⟩ : S75), (rd_T84 x2 x1).f1, (rd_T84 x2 x1).f2⟩ : S84)) (Int.toNat x1) (⟨(⟨((rd_T84 (List.set x2 (Int.toNat x1) (⟨(⟨x0, ((rd_T84 x2 x1).f0).f1⟩ : S75), (rd_T84 x2 x1).f1, (rd_T84 x2 x1).f2⟩ : S84)) x1).f0).f0, (wrap64 (x0 + (1 : Int)))⟩ : S75), (rd_T84 (List.set x2 (Int.toNat x1) (⟨(⟨x0, ((rd_T84 x2 x1).f0).f1⟩ : S75), (rd_T84 x2 x1).f1, (rd_T84 x2 x1).f2⟩ : S84)) x1).f1, (rd_T84 (List.set x2 (Int.toNat x1) (⟨(⟨x0, ((rd_T84 x2 x1).f0).f1⟩ : S75), (rd_T84 x2 x1).f1, (rd_T84 x2 x1).f2⟩ : S84)) x1).f2⟩ : S84)) x1).f0).f1⟩ : S75), (wrap64 ((wrap64 (x0 + (1 : Int))) + (1 : Int))), (rd_T84 (List.set (List.set x2 (Int.toNat x1) (⟨(⟨x0, ((rd_T84 x2 x1).f0).f1⟩ : S75), (rd_T84 x2 x1).f1, (rd_T84 x2 x1).f2⟩ : S84)) (Int.toNat x1) (⟨(⟨((rd_T84 (List.set x2 (Int.toNat x1) (⟨(⟨x0, ((rd_T84 x2 x1).f0).f1⟩ : S75), (rd_T84 x2 x1).f1, (rd_T84 x2 x1).f2⟩ : S84)) x1).f0).f0, (wrap64 (x0 + (1 : Int)))⟩ : S75), (rd_T84 (List.set x2 (Int.toNat x1) (⟨(⟨x0, ((rd_T84 x2 x1).f0).f1⟩ : S75), (rd_T84 x2 x1).f1, (rd_T84 x2 x1).f2⟩ : S84)) x1).f1, (rd_T84 (List.set x2 (Int.toNat x1) (⟨(⟨x0, ((rd_T84 x2 x1).f0).f1⟩ : S75), (rd_T84 x2 x1).f1, (rd_T84 x2 x1).f2⟩ : S84)) x1).f2⟩ : S84)) x1).f2⟩ : S84)) x1).f0).f0, ((rd_T84 (List.set (List.set (List.set x2 (Int.toNat x1) (⟨(⟨x0, ((rd_T84 x2 x1).f0).f1⟩ : S75), (rd_T84 x2 x1).f1, (rd_T84 x2 x1).f2⟩ : S84)) (Int.toNat x1) (⟨(⟨((rd_T84 (List.set x2 (Int.toNat x1) (⟨(⟨x0, ((rd_T84 x2 x1).f0).f1⟩ : S75), (rd_T84 x2 x1).f1, (rd_T84 x2 x1).f2⟩ : S84)) x1).f0).f0, (wrap64 (x0 + (1 : Int)))⟩ : S75), (rd_T84 (List.set x2 (Int.toNat x1) (⟨(⟨x0, ((rd_T84 x2 x1).f0).f1⟩ : S75), (rd_T84 x2 x1).f1, (rd_T84 x2 x1).f2⟩ : S84)) x1).f1, (rd_T84 (List.set x2 (Int.toNat x1) (⟨(⟨x0, ((rd_T84 x2 x1).f0).f1⟩ : S75), (rd_T84 x2 x1).f1, (rd_T84 x2 x1).f2⟩ : S84)) x1).f2⟩ : S84)) (Int.toNat x1) (⟨(⟨((rd_T84 (List.set (List.set x2 (Int.toNat x1) (⟨(⟨x0, ((rd_T84 x2 x1).f0).f1⟩ : S75), (rd_T84 x2 x1).f1, (rd_T84 x2 x1).f2⟩ : S84)) (Int.toNat x1) (⟨(⟨((rd_T84 (List.set x2 (Int.toNat x1) (⟨(⟨x0, ((rd_T84 x2 x1).f0).f1⟩ : S75), (rd_T84 x2 x1).f1, (rd_T84 x2 x1).f2⟩ : S84)) x1).f0).f0, (wrap64 (x0 + (1 : Int)))⟩ : S75), (rd_T84 (List.set x2 (Int.toNat x1) (⟨(⟨x0, ((rd_T84 x2 x1).f0).f1⟩ : S75), (rd_T84 x2 x1).f1, (rd_T84 x2 x1).f2⟩ : S84)) x1).f1, (rd_T84 (List.set x2 (Int.toNat x1) (⟨(⟨x0, ((rd_T84 x2 x1).f0).f1⟩ : S75), (rd_T84 x2 x1).f1, (rd_T84 x2 x1).f2⟩ : S84)) x1).f2⟩ : S84)) x1).f0).f0, ((rd_T84 (List.set (List.set x2 (Int.toNat x1) (⟨(⟨x0, ((rd_T84 x2 x1).f0).f1⟩ : S75), (rd_T84 x2 x1).f1, (rd_T84 x2 x1).f2⟩ : S84)) (Int.toNat x1) (⟨(⟨((rd_T84 (List.set x2 (Int.toNat x1) (⟨(⟨x0, ((rd_T84 x2 x1).f0).f1⟩ : S75), (rd_T84 x2 x1).f1, (rd_T84 x2 x1).f2⟩ : S84)) x1).f0).f0, (wrap64 (x0 + (1 : Int)))⟩ : S75), (rd_T84 (List.set x2 (Int.toNat x1) (⟨(⟨x0, ((rd_T84 x2 x1).f0).f1⟩ : S75), (rd_T84 x2 x1).f1, (rd_T84 x2 x1).f2⟩ : S84)) x1).f1, (rd_T84 (List.set x2 (Int.toNat x1) (⟨(⟨x0, ((rd_T84 x2 x1).f0).f1⟩ : S75), (rd_T84 x2 x1).f1, (rd_T84 x2 x1).f2⟩ : S84)) x1).f2⟩ : S84)) x1).f0).f1⟩ : S75), (wrap64 ((wrap64 (x0 + (1 : Int))) + (1 : Int))), (rd_T84 (List.set (List.set x2 (Int.toNat x1) (⟨(⟨x0, ((rd_T84 x2 x1).f0).f1⟩ : S75), (rd_T84 x2 x1).f1, (rd_T84 x2 x1).f2⟩ : S84)) (Int.toNat x1) (⟨(⟨((rd_T84 (List.set x2 (Int.toNat x1) (⟨(⟨x0, ((rd_T84 x2 x1).f0).f1⟩ : S75), (rd_T84 x2 x1).f1, (rd_T84 x2 x1).f2⟩ : S84)) x1).f0).f0, (wrap64 (x0 + (1 : Int)))⟩ : S75), (rd_T84 (List.set x2 (Int.toNat x1) (⟨(⟨x0, ((rd_T84 x2 x1).f0).f1⟩ : S75), (rd_T84 x2 x1).f1, (rd_T84 x2 x1).f2⟩ : S84)) x1).f1, (rd_T84 (List.set x2 (Int.toNat x1) (⟨(⟨x0, ((rd_T84 x2 x1).f0).f1⟩ : S75), (rd_T84 x2 x1).f1, (rd_T84 x2 x1).f2⟩ : S84)) x1).f2⟩ : S84)) x1).f2⟩ : S84)) x1).f0).f1⟩ : S75), (rd_T84 (List.set (List.set (List.set x2 (Int.toNat x1) (⟨(⟨x0, ((rd_T84 x2 x1).f0).f1⟩ : S75), (rd_T84 x2 x1).f1, (rd_T84 x2 x1).f2⟩ : S84)) (Int.toNat x1) (⟨(⟨((rd_T84 (List.set x2 (Int.toNat x1) (⟨(⟨x0, ((rd_T84 x2 x1).f0).f1⟩ : S75), (rd_T84 x2 x1).f1, (rd_T84 x2 x1).f2⟩ : S84)) x1).f0).f0, (wrap64 (x0 + (1 : Int)))⟩ : S75), (rd_T84 (List.set x2 (Int.toNat x1) (⟨(⟨x0, ((rd_T84 x2 x1).f0).f1⟩ : S75), (rd_T84 x2 x1).f1, (rd_T84 x2 x1).f2⟩ : S84)) x1).f1, (rd_T84 (List.set x2 (Int.toNat x1) (⟨(⟨x0, ((rd_T84 x2 x1).f0).f1⟩ : S75), (rd_T84 x2 x1).f1, (rd_T84 x2 x1).f2⟩ : S84)) x1).f2⟩ : S84)) (Int.toNat x1) (⟨(⟨((rd_T84 (List.set (List.set x2 (Int.toNat x1) (⟨(⟨x0, ((rd_T84 x2 x1).f0).f1⟩ : S75), (rd_T84 x2 x1).f1, (rd_T84 x2 x1).f2⟩ : S84)) (Int.toNat x1) (⟨(⟨((rd_T84 (List.set x2 (Int.toNat x1) (⟨(⟨x0, ((rd_T84 x2 x1).f0).f1⟩ : S75), (rd_T84 x2 x1).f1, (rd_T84 x2 x1).f2⟩ : S84)) x1).f0).f0, (wrap64 (x0 + (1 : Int)))⟩ : S75), (rd_T84 (List.set x2 (Int.toNat x1) (⟨(⟨x0, ((rd_T84 x2 x1).f0).f1⟩ : S75), (rd_T84 x2 x1).f1, (rd_T84 x2 x1).f2⟩ : S84)) x1).f1, (rd_T84 (List.set x2 (Int.toNat x1) (⟨(⟨x0, ((rd_T84 x2 x1).f0).f1⟩ : S75), (rd_T84 x2 x1).f1, (rd_T84 x2 x1).f2⟩ : S84)) x1).f2⟩ : S84)) x1).f0).f0, ((rd_T84 (List.set (List.set x2 (Int.toNat x1) (⟨(⟨x0, ((rd_T84 x2 x1).f0).f1⟩ : S75), (rd_T84 x2 x1).f1, (rd_T84 x2 x1).f2⟩ : S84)) (Int.toNat x1) (⟨(⟨((rd_T84 (List.set x2 (Int.toNat x1) (⟨(⟨x0, ((rd_T84 x2 x1).f0).f1⟩ : S75), (rd_T84 x2 x1).f1, (rd_T84 x2 x1).f2⟩ : S84)) x1).f0).f0, (wrap64 (x0 + (1 : Int)))⟩ : S75), (rd_T84 (List.set x2 (Int.toNat x1) (⟨(⟨x0, ((rd_T84 x2 x1).f0).f1⟩ : S75), (rd_T84 x2 x1).f1, (rd_T84 x2 x1).f2⟩ : S84)) x1).f1, (rd_T84 (List.set x2 (Int.toNat x1) (⟨(⟨x0, ((rd_T84 x2 x1).f0).f1⟩ : S75), (rd_T84 x2 x1).f1, (rd_T84 x2 x1).f2⟩ : S84)) x1).f2⟩ : S84)) x1).f0).f1⟩ : S75), (wrap64 ((wrap64 (x0 + (1 : Int))) + (1 : Int))), (rd_T84 (List.set (List.set x2 (Int.toNat x1) (⟨(⟨x0, ((rd_T84 x2 x1).f0).f1⟩ : S75), (rd_T84 x2 x1).f1, (rd_T84 x2 x1).f2⟩ : S84)) (Int.toNat x1) (⟨(⟨((rd_T84 (List.set x2 (Int.toNat x1) (⟨(⟨x0, ((rd_T84 x2 x1).f0).f1⟩ : S75), (rd_T84 x2 x1).f1, (rd_T84 x2 x1).f2⟩ : S84)) x1).f0).f0, (wrap64 (x0 + (1 : Int)))⟩ : S75), (rd_T84 (List.set x2 (Int.toNat x1) (⟨(⟨x0, ((rd_T84 x2 x1).f0).f1⟩ : S75), (rd_T84 x2 x1).f1, (rd_T84 x2 x1).f2⟩ : S84)) x1).f1, (rd_T84 (List.set x2 (Int.toNat x1) (⟨(⟨x0, ((rd_T84 x2 x1).f0).f1⟩ : S75), (rd_T84 x2 x1).f1, (rd_T84 x2 x1).f2⟩ : S84)) x1).f2⟩ : S84)) x1).f2⟩ : S84)) x1).f1, (wrap64 ((wrap64 ((wrap64 (x0 + (1 : Int))) + (1 : Int))) + (1 : Int)))⟩ : S84))) (none)) (none)) (none)) (none)) (none)) (none)) (none)) (none)) (k (.int .i64 x0) ⟨[], [some ⟨84, x2, 0⟩]⟩) : Option Unit) := by
 simp only [← wrapA_i64]
 kernel_rfl
theorem w_139 (l0 : List S84) (a1 : Int) (k : AV tau → Mem tau → Option Unit) : fnA E_139 C_139 D_139 Try.f139 B_139 [.own 0 0, .int .i64 a1] ⟨[], [some ⟨84, l0, 0⟩]⟩ k = (LP_139_0 k a1 (0 : Int) l0 : Option Unit) := by kernel_rfl
def S_139_0 (N : Nat) : Prop := ∀ (k : AV tau → Mem tau → Option Unit) (x0 : Int) (x1 : Int) (x2 : (List S84)) (r : Int × (List (S84))), laws_markDoneS.l0 N (x2) (x0) (x1) = some r → k (.int .i64 (r.1)) ⟨[], [some ⟨84, r.2, 0⟩]⟩ = some () → LP_139_0 k x0 x1 x2 = some ()
theorem L_139 (N : Nat) : S_139_0 N := by
 induction N using Nat.strongRecOn with | _ N0 ih =>
 skip
 intro k x0 x1 x2 r h hk
 rcases N0 with _ | N
 · cases h
 first | rw [laws_markDoneS.l0] at h | simp only [laws_markDoneS.l0] at h | (unfold laws_markDoneS.l0 at h; dsimp only at h)
 refine loop_fold mC_139 mD_139 ?_
 refine (w_139_0 k x0 x1 x2).trans ?_
 refine br_eti h rfl (fun c5 h => ?_) (fun c5 h => ?_)
 ·cases h; exact hk
 refine br_g h rfl (fun c6 h => ?_)
 replace h := let_h h
 replace h := let_h h
 replace h := let_h h
 refine br_t (by first | (simp [c5]; done) | (simp; omega) | (simp only [List.length_append, List.length_cons, List.length_nil, List.length_take, List.length_drop] at c5 ⊢; simp; omega) | (simp only [List.length_append, List.length_cons, List.length_nil, List.length_take, List.length_drop] at c5; simp; omega) | (simp_all; done)) ?_
 refine br_t (by first | (simp [c6]; done) | (simp; omega) | (simp only [List.length_append, List.length_cons, List.length_nil, List.length_take, List.length_drop] at c5 ⊢; simp; omega) | (simp only [List.length_append, List.length_cons, List.length_nil, List.length_take, List.length_drop] at c5; simp; omega) | (simp_all; done)) ?_
 refine br_t (by first | (simp; omega) | (simp only [List.length_append, List.length_cons, List.length_nil, List.length_take, List.length_drop] at c5 ⊢; simp; omega) | (simp only [List.length_append, List.length_cons, List.length_nil, List.length_take, List.length_drop] at c5; simp; omega)) ?_
 refine br_t (by first | (simp [c6]; done) | (simp; omega) | (simp only [List.length_append, List.length_cons, List.length_nil, List.length_take, List.length_drop] at c5 ⊢; simp; omega) | (simp only [List.length_append, List.length_cons, List.length_nil, List.length_take, List.length_drop] at c5; simp; omega) | (simp_all; done)) ?_
 refine br_t (by first | (simp; omega) | (simp only [List.length_append, List.length_cons, List.length_nil, List.length_take, List.length_drop] at c5 ⊢; simp; omega) | (simp only [List.length_append, List.length_cons, List.length_nil, List.length_take, List.length_drop] at c5; simp; omega)) ?_
 refine br_t (by first | (simp [c6]; done) | (simp; omega) | (simp only [List.length_append, List.length_cons, List.length_nil, List.length_take, List.length_drop] at c5 ⊢; simp; omega) | (simp only [List.length_append, List.length_cons, List.length_nil, List.length_take, List.length_drop] at c5; simp; omega) | (simp_all; done)) ?_
 refine br_t (by first | (simp; omega) | (simp only [List.length_append, List.length_cons, List.length_nil, List.length_take, List.length_drop] at c5 ⊢; simp; omega) | (simp only [List.length_append, List.length_cons, List.length_nil, List.length_take, List.length_drop] at c5; simp; omega)) ?_
 exact (ih N (by omega)) _ _ _ _ _ h hk
theorem okc_139 (args : List (AV tau)) (m : Mem tau) (κ : AV tau → Mem tau → Option Unit) (hh : c_139 args m κ = some ()) : ∃ av m1, κ av m1 = some () ∧ ToldA Try.prog TT (pnT 139) 139 args m av m1 := by
 obtain ⟨bx_, rw_⟩ := m
 unfold c_139 at hh
 simp only at hh
 split at hh
 case h_2 => cases hh
 rename_i b0 b1 r0
 obtain ⟨u7, hx0, hh0⟩ := bO_some hh
 obtain ⟨l0, hx1, hh1⟩ := bO_some hh0
 obtain ⟨a1, hx2, hh2⟩ := bO_some hh1
 have ex0 := asOwn_some hx0
 have ex1 := asRow_some hx1
 have ex2 := asI_some hx2
 subst ex0 ex1 ex2
 obtain ⟨N, t, h, hκ⟩ := callX_some hh2
 refine ⟨_, _, hκ, told_of_run pq okC_139 (fun _ _ _ => drawA_ok pq okC_139 hmix) (E := E_139) (fn := Try.f139) (body := B_139) (by kernel_rfl) (by kernel_rfl) (by kernel_rfl) (by rfl) (by exact Nat.le_of_ble_eq_true rfl) (fun k hk => ?_)⟩
 refine (w_139 l0 a1 k).trans ?_
 replace h : laws_markDoneS.f N l0 a1 = some t := h
 unfold laws_markDoneS.f at h
 exact (L_139 N) _ _ _ _ _ h hk
noncomputable def C_70 : Ctr tau Unit := ctrS 139 c_139 C_139
noncomputable def D_70 : Drw tau := drawA E_70 C_70
theorem okC_70 : CtrOk Try.prog TT pnT C_70 := ctrS_ok okC_139 okc_139
theorem mC_70 : CtrMono C_70 := ctrS_mono mC_139 mc_139
theorem mD_70 : DrMono D_70 := drawA_mono mC_70
noncomputable def B_70 : Code := Try.f70.body.getD .skip
theorem mc_70 (args : List (AV tau)) (m : Mem tau) (k k' : AV tau → Mem tau → Option Unit) (hk : ∀ av m, k av m = some () → k' av m = some ()) (h : c_70 args m k = some ()) : c_70 args m k' = some () := by
 unfold c_70 at h ⊢
 split at h
 · repeat' first | exact callX_mono (fun _ h => hk _ _ h) h | refine bO_mono (fun _ h => ?_) h
 · cases h
theorem w_70 (a0_0 : Int) (l0_1 : List S37) (l0_2 : List S84) (a1 : Int) (k : AV tau → Mem tau → Option Unit) : fnA E_70 C_70 D_70 Try.f70 B_70 [.agg [.int .i64 a0_0, .own 0 0, .own 1 0], .int .i64 a1] ⟨[], [some ⟨37, l0_1, 0⟩, some ⟨84, l0_2, 0⟩]⟩ k = (callX (fun n => laws_markBoxS.f n l0_1 a1) fun t0 => callX (fun n => laws_markDoneS.f n l0_2 t0.1) fun t1 => k (.int .i64 t1.1) ⟨[], [some ⟨37, t0.2, 0⟩, some ⟨84, t1.2, 0⟩]⟩ : Option Unit) := by kernel_rfl
theorem okc_70 (args : List (AV tau)) (m : Mem tau) (κ : AV tau → Mem tau → Option Unit) (hh : c_70 args m κ = some ()) : ∃ av m1, κ av m1 = some () ∧ ToldA Try.prog TT (pnT 70) 70 args m av m1 := by
 obtain ⟨bx_, rw_⟩ := m
 unfold c_70 at hh
 simp only at hh
 split at hh
 case h_2 => cases hh
 rename_i b0 b1 b2 b3 r0 r1
 obtain ⟨a0_0, hx0, hh0⟩ := bO_some hh
 obtain ⟨u3, hx1, hh1⟩ := bO_some hh0
 obtain ⟨l0_1, hx2, hh2⟩ := bO_some hh1
 obtain ⟨u4, hx3, hh3⟩ := bO_some hh2
 obtain ⟨l0_2, hx4, hh4⟩ := bO_some hh3
 obtain ⟨a1, hx5, hh5⟩ := bO_some hh4
 have ex0 := asI_some hx0
 have ex1 := asOwn_some hx1
 have ex2 := asRow_some hx2
 have ex3 := asOwn_some hx3
 have ex4 := asRow_some hx4
 have ex5 := asI_some hx5
 subst ex0 ex1 ex2 ex3 ex4 ex5
 obtain ⟨N, t, h, hκ⟩ := callX_some hh5
 refine ⟨_, _, hκ, told_of_run pq okC_70 (fun _ _ _ => drawA_ok pq okC_70 hmix) (E := E_70) (fn := Try.f70) (body := B_70) (by kernel_rfl) (by kernel_rfl) (by kernel_rfl) (by rfl) (by exact Nat.le_of_ble_eq_true rfl) (fun k hk => ?_)⟩
 refine (w_70 a0_0 l0_1 l0_2 a1 k).trans ?_
 replace h : laws_markState.f N a0_0 l0_1 l0_2 a1 = some t := h
 unfold laws_markState.f at h
 refine call_h N h (fun t0 e5 h => ?_)
 refine call_h N h (fun t1 e6 h => ?_)
 cases h; exact hk
noncomputable def C_142 : Ctr tau Unit := ctrS 70 c_70 C_70
noncomputable def D_142 : Drw tau := drawA E_142 C_142
theorem okC_142 : CtrOk Try.prog TT pnT C_142 := ctrS_ok okC_70 okc_70
theorem mC_142 : CtrMono C_142 := ctrS_mono mC_70 mc_70
theorem mD_142 : DrMono D_142 := drawA_mono mC_142
noncomputable def B_142 : Code := Try.f142.body.getD .skip
theorem mc_142 (args : List (AV tau)) (m : Mem tau) (k k' : AV tau → Mem tau → Option Unit) (hk : ∀ av m, k av m = some () → k' av m = some ()) (h : c_142 args m k = some ()) : c_142 args m k' = some () := by
 unfold c_142 at h ⊢
 split at h
 · repeat' first | exact callX_mono (fun _ h => hk _ _ h) h | refine bO_mono (fun _ h => ?_) h
 · cases h
noncomputable def K_142_0 (k : AV tau → Mem tau → Option Unit) : Kon tau := (kBlock 0 (kS E_142 C_142 D_142 (codeP B_142 [1, 1]) (kEnd E_142 Try.f142 k)))
def st_142_0 (x0 : Int) (x1 : Int) (x2 : (List S39)) : St tau := ⟨tmL 27 0 [(0, .own 0 0), (1, .int .i64 x0), (5, .int .i64 x1)], ⟨[], [some ⟨39, x2, 0⟩]⟩⟩
noncomputable def LP_142_0 (k : AV tau → Mem tau → Option Unit) (x0 : Int) (x1 : Int) (x2 : (List S39)) : Option Unit := loopA E_142 (codeA E_142 C_142 D_142 (codeP B_142 [1, 0, 1, 0, 0])) (codeP B_142 [1, 0, 1, 0, 0]) (K_142_0 k) (st_142_0 x0 x1 x2)
theorem w_142_0 (k : AV tau → Mem tau → Option Unit) (x0 : Int) (x1 : Int) (x2 : (List S39)) : codeA E_142 C_142 D_142 (codeP B_142 [1, 0, 1, 0, 0]) (kL E_142 C_142 D_142 (codeP B_142 [1, 0, 1, 0, 0]) (K_142_0 k)) (st_142_0 x0 x1 x2) = (brA (decide (x1 < ((x2.length : Nat) : Int))) (brA (decide ((0 : Int) ≤ x1)) (brA (decide (x1 < ((x2.length : Nat) : Int))) (brA (decide ((0 : Int) ≤ x1)) (brA (decide (x1 < (((List.set x2 (Int.toNat x1) (⟨x0, (rd_T39 x2 x1).f1⟩ : S39)).length : Nat) : Int))) (LP_142_0 k (wrap64 ((wrap64 (x0 + (1 : Int))) + (1 : Int))) (wrap64 (x1 + (1 : Int))) (List.set (List.set x2 (Int.toNat x1) (⟨x0, (rd_T39 x2 x1).f1⟩ : S39)) (Int.toNat x1) (⟨(rd_T39 (List.set x2 (Int.toNat x1) (⟨x0, (rd_T39 x2 x1).f1⟩ : S39)) x1).f0, (wrap64 (x0 + (1 : Int)))⟩ : S39))) (none)) (none)) (none)) (none)) (k (.int .i64 x0) ⟨[], [some ⟨39, x2, 0⟩]⟩) : Option Unit) := by
 simp only [← wrapA_i64]
 kernel_rfl
theorem w_142 (l0 : List S39) (a1 : Int) (k : AV tau → Mem tau → Option Unit) : fnA E_142 C_142 D_142 Try.f142 B_142 [.own 0 0, .int .i64 a1] ⟨[], [some ⟨39, l0, 0⟩]⟩ k = (LP_142_0 k a1 (0 : Int) l0 : Option Unit) := by kernel_rfl
def S_142_0 (N : Nat) : Prop := ∀ (k : AV tau → Mem tau → Option Unit) (x0 : Int) (x1 : Int) (x2 : (List S39)) (r : Int × (List (S39))), laws_markReadS.l0 N (x2) (x0) (x1) = some r → k (.int .i64 (r.1)) ⟨[], [some ⟨39, r.2, 0⟩]⟩ = some () → LP_142_0 k x0 x1 x2 = some ()
theorem L_142 (N : Nat) : S_142_0 N := by
 induction N using Nat.strongRecOn with | _ N0 ih =>
 skip
 intro k x0 x1 x2 r h hk
 rcases N0 with _ | N
 · cases h
 first | rw [laws_markReadS.l0] at h | simp only [laws_markReadS.l0] at h | (unfold laws_markReadS.l0 at h; dsimp only at h)
 refine loop_fold mC_142 mD_142 ?_
 refine (w_142_0 k x0 x1 x2).trans ?_
 refine br_eti h rfl (fun c5 h => ?_) (fun c5 h => ?_)
 ·cases h; exact hk
 refine br_g h rfl (fun c6 h => ?_)
 replace h := let_h h
 refine br_t (by first | (simp [c5]; done) | (simp; omega) | (simp only [List.length_append, List.length_cons, List.length_nil, List.length_take, List.length_drop] at c5 ⊢; simp; omega) | (simp only [List.length_append, List.length_cons, List.length_nil, List.length_take, List.length_drop] at c5; simp; omega) | (simp_all; done)) ?_
 refine br_t (by first | (simp [c6]; done) | (simp; omega) | (simp only [List.length_append, List.length_cons, List.length_nil, List.length_take, List.length_drop] at c5 ⊢; simp; omega) | (simp only [List.length_append, List.length_cons, List.length_nil, List.length_take, List.length_drop] at c5; simp; omega) | (simp_all; done)) ?_
 refine br_t (by first | (simp; omega) | (simp only [List.length_append, List.length_cons, List.length_nil, List.length_take, List.length_drop] at c5 ⊢; simp; omega) | (simp only [List.length_append, List.length_cons, List.length_nil, List.length_take, List.length_drop] at c5; simp; omega)) ?_
 exact (ih N (by omega)) _ _ _ _ _ h hk
theorem okc_142 (args : List (AV tau)) (m : Mem tau) (κ : AV tau → Mem tau → Option Unit) (hh : c_142 args m κ = some ()) : ∃ av m1, κ av m1 = some () ∧ ToldA Try.prog TT (pnT 142) 142 args m av m1 := by
 obtain ⟨bx_, rw_⟩ := m
 unfold c_142 at hh
 simp only at hh
 split at hh
 case h_2 => cases hh
 rename_i b0 b1 r0
 obtain ⟨u7, hx0, hh0⟩ := bO_some hh
 obtain ⟨l0, hx1, hh1⟩ := bO_some hh0
 obtain ⟨a1, hx2, hh2⟩ := bO_some hh1
 have ex0 := asOwn_some hx0
 have ex1 := asRow_some hx1
 have ex2 := asI_some hx2
 subst ex0 ex1 ex2
 obtain ⟨N, t, h, hκ⟩ := callX_some hh2
 refine ⟨_, _, hκ, told_of_run pq okC_142 (fun _ _ _ => drawA_ok pq okC_142 hmix) (E := E_142) (fn := Try.f142) (body := B_142) (by kernel_rfl) (by kernel_rfl) (by kernel_rfl) (by rfl) (by exact Nat.le_of_ble_eq_true rfl) (fun k hk => ?_)⟩
 refine (w_142 l0 a1 k).trans ?_
 replace h : laws_markReadS.f N l0 a1 = some t := h
 unfold laws_markReadS.f at h
 exact (L_142 N) _ _ _ _ _ h hk
noncomputable def C_143 : Ctr tau Unit := ctrS 142 c_142 C_142
noncomputable def D_143 : Drw tau := drawA E_143 C_143
theorem okC_143 : CtrOk Try.prog TT pnT C_143 := ctrS_ok okC_142 okc_142
theorem mC_143 : CtrMono C_143 := ctrS_mono mC_142 mc_142
theorem mD_143 : DrMono D_143 := drawA_mono mC_143
noncomputable def B_143 : Code := Try.f143.body.getD .skip
theorem mc_143 (args : List (AV tau)) (m : Mem tau) (k k' : AV tau → Mem tau → Option Unit) (hk : ∀ av m, k av m = some () → k' av m = some ()) (h : c_143 args m k = some ()) : c_143 args m k' = some () := by
 unfold c_143 at h ⊢
 split at h
 · repeat' first | exact callX_mono (fun _ h => hk _ _ h) h | refine bO_mono (fun _ h => ?_) h
 · cases h
noncomputable def K_143_0 (k : AV tau → Mem tau → Option Unit) : Kon tau := (kBlock 0 (kS E_143 C_143 D_143 (codeP B_143 [1, 1]) (kEnd E_143 Try.f143 k)))
def st_143_0 (x0 : Int) (x1 : Int) (x2 : (List S82)) : St tau := ⟨tmL 27 0 [(0, .own 0 0), (1, .int .i64 x0), (5, .int .i64 x1)], ⟨[], [some ⟨82, x2, 0⟩]⟩⟩
noncomputable def LP_143_0 (k : AV tau → Mem tau → Option Unit) (x0 : Int) (x1 : Int) (x2 : (List S82)) : Option Unit := loopA E_143 (codeA E_143 C_143 D_143 (codeP B_143 [1, 0, 1, 0, 0])) (codeP B_143 [1, 0, 1, 0, 0]) (K_143_0 k) (st_143_0 x0 x1 x2)
theorem w_143_0 (k : AV tau → Mem tau → Option Unit) (x0 : Int) (x1 : Int) (x2 : (List S82)) : codeA E_143 C_143 D_143 (codeP B_143 [1, 0, 1, 0, 0]) (kL E_143 C_143 D_143 (codeP B_143 [1, 0, 1, 0, 0]) (K_143_0 k)) (st_143_0 x0 x1 x2) = (brA (decide (x1 < ((x2.length : Nat) : Int))) (brA (decide ((0 : Int) ≤ x1)) (brA (decide (x1 < ((x2.length : Nat) : Int))) (brA (decide ((0 : Int) ≤ x1)) (brA (decide (x1 < (((List.set x2 (Int.toNat x1) (⟨x0, (rd_T82 x2 x1).f1⟩ : S82)).length : Nat) : Int))) (LP_143_0 k (wrap64 ((wrap64 (x0 + (1 : Int))) + (1 : Int))) (wrap64 (x1 + (1 : Int))) (List.set (List.set x2 (Int.toNat x1) (⟨x0, (rd_T82 x2 x1).f1⟩ : S82)) (Int.toNat x1) (⟨(rd_T82 (List.set x2 (Int.toNat x1) (⟨x0, (rd_T82 x2 x1).f1⟩ : S82)) x1).f0, (wrap64 (x0 + (1 : Int)))⟩ : S82))) (none)) (none)) (none)) (none)) (k (.int .i64 x0) ⟨[], [some ⟨82, x2, 0⟩]⟩) : Option Unit) := by
 simp only [← wrapA_i64]
 kernel_rfl
theorem w_143 (l0 : List S82) (a1 : Int) (k : AV tau → Mem tau → Option Unit) : fnA E_143 C_143 D_143 Try.f143 B_143 [.own 0 0, .int .i64 a1] ⟨[], [some ⟨82, l0, 0⟩]⟩ k = (LP_143_0 k a1 (0 : Int) l0 : Option Unit) := by kernel_rfl
def S_143_0 (N : Nat) : Prop := ∀ (k : AV tau → Mem tau → Option Unit) (x0 : Int) (x1 : Int) (x2 : (List S82)) (r : Int × (List (S82))), laws_markPutS.l0 N (x2) (x0) (x1) = some r → k (.int .i64 (r.1)) ⟨[], [some ⟨82, r.2, 0⟩]⟩ = some () → LP_143_0 k x0 x1 x2 = some ()
theorem L_143 (N : Nat) : S_143_0 N := by
 induction N using Nat.strongRecOn with | _ N0 ih =>
 skip
 intro k x0 x1 x2 r h hk
 rcases N0 with _ | N
 · cases h
 first | rw [laws_markPutS.l0] at h | simp only [laws_markPutS.l0] at h | (unfold laws_markPutS.l0 at h; dsimp only at h)
 refine loop_fold mC_143 mD_143 ?_
 refine (w_143_0 k x0 x1 x2).trans ?_
 refine br_eti h rfl (fun c5 h => ?_) (fun c5 h => ?_)
 ·cases h; exact hk
 refine br_g h rfl (fun c6 h => ?_)
 replace h := let_h h
 refine br_t (by first | (simp [c5]; done) | (simp; omega) | (simp only [List.length_append, List.length_cons, List.length_nil, List.length_take, List.length_drop] at c5 ⊢; simp; omega) | (simp only [List.length_append, List.length_cons, List.length_nil, List.length_take, List.length_drop] at c5; simp; omega) | (simp_all; done)) ?_
 refine br_t (by first | (simp [c6]; done) | (simp; omega) | (simp only [List.length_append, List.length_cons, List.length_nil, List.length_take, List.length_drop] at c5 ⊢; simp; omega) | (simp only [List.length_append, List.length_cons, List.length_nil, List.length_take, List.length_drop] at c5; simp; omega) | (simp_all; done)) ?_
 refine br_t (by first | (simp; omega) | (simp only [List.length_append, List.length_cons, List.length_nil, List.length_take, List.length_drop] at c5 ⊢; simp; omega) | (simp only [List.length_append, List.length_cons, List.length_nil, List.length_take, List.length_drop] at c5; simp; omega)) ?_
 exact (ih N (by omega)) _ _ _ _ _ h hk
theorem okc_143 (args : List (AV tau)) (m : Mem tau) (κ : AV tau → Mem tau → Option Unit) (hh : c_143 args m κ = some ()) : ∃ av m1, κ av m1 = some () ∧ ToldA Try.prog TT (pnT 143) 143 args m av m1 := by
 obtain ⟨bx_, rw_⟩ := m
 unfold c_143 at hh
 simp only at hh
 split at hh
 case h_2 => cases hh
 rename_i b0 b1 r0
 obtain ⟨u7, hx0, hh0⟩ := bO_some hh
 obtain ⟨l0, hx1, hh1⟩ := bO_some hh0
 obtain ⟨a1, hx2, hh2⟩ := bO_some hh1
 have ex0 := asOwn_some hx0
 have ex1 := asRow_some hx1
 have ex2 := asI_some hx2
 subst ex0 ex1 ex2
 obtain ⟨N, t, h, hκ⟩ := callX_some hh2
 refine ⟨_, _, hκ, told_of_run pq okC_143 (fun _ _ _ => drawA_ok pq okC_143 hmix) (E := E_143) (fn := Try.f143) (body := B_143) (by kernel_rfl) (by kernel_rfl) (by kernel_rfl) (by rfl) (by exact Nat.le_of_ble_eq_true rfl) (fun k hk => ?_)⟩
 refine (w_143 l0 a1 k).trans ?_
 replace h : laws_markPutS.f N l0 a1 = some t := h
 unfold laws_markPutS.f at h
 exact (L_143 N) _ _ _ _ _ h hk
noncomputable def C_140 : Ctr tau Unit := ctrS 143 c_143 C_143
noncomputable def D_140 : Drw tau := drawA E_140 C_140
theorem okC_140 : CtrOk Try.prog TT pnT C_140 := ctrS_ok okC_143 okc_143
theorem mC_140 : CtrMono C_140 := ctrS_mono mC_143 mc_143
theorem mD_140 : DrMono D_140 := drawA_mono mC_140
noncomputable def B_140 : Code := Try.f140.body.getD .skip
theorem mc_140 (args : List (AV tau)) (m : Mem tau) (k k' : AV tau → Mem tau → Option Unit) (hk : ∀ av m, k av m = some () → k' av m = some ()) (h : c_140 args m k = some ()) : c_140 args m k' = some () := by
 unfold c_140 at h ⊢
 split at h
 · repeat' first | exact callX_mono (fun _ h => hk _ _ h) h | refine bO_mono (fun _ h => ?_) h
 · cases h
theorem w_140 (l0_0 : List S39) (l0_1 : List S82) (a0_2 : Int) (a0_3 : Int) (a1 : Int) (k : AV tau → Mem tau → Option Unit) : fnA E_140 C_140 D_140 Try.f140 B_140 [.agg [.own 0 0, .own 1 0, .int .i64 a0_2, .int .i64 a0_3], .int .i64 a1] ⟨[], [some ⟨39, l0_0, 0⟩, some ⟨82, l0_1, 0⟩]⟩ k = (callX (fun n => laws_markReadS.f n l0_0 a1) fun t0 => callX (fun n => laws_markPutS.f n l0_1 t0.1) fun t1 => k (.int .i64 t1.1) ⟨[], [some ⟨39, t0.2, 0⟩, some ⟨82, t1.2, 0⟩]⟩ : Option Unit) := by kernel_rfl
theorem okc_140 (args : List (AV tau)) (m : Mem tau) (κ : AV tau → Mem tau → Option Unit) (hh : c_140 args m κ = some ()) : ∃ av m1, κ av m1 = some () ∧ ToldA Try.prog TT (pnT 140) 140 args m av m1 := by
 obtain ⟨bx_, rw_⟩ := m
 unfold c_140 at hh
 simp only at hh
 split at hh
 case h_2 => cases hh
 rename_i b0 b1 b2 b3 b4 r0 r1
 obtain ⟨u3, hx0, hh0⟩ := bO_some hh
 obtain ⟨l0_0, hx1, hh1⟩ := bO_some hh0
 obtain ⟨u4, hx2, hh2⟩ := bO_some hh1
 obtain ⟨l0_1, hx3, hh3⟩ := bO_some hh2
 obtain ⟨a0_2, hx4, hh4⟩ := bO_some hh3
 obtain ⟨a0_3, hx5, hh5⟩ := bO_some hh4
 obtain ⟨a1, hx6, hh6⟩ := bO_some hh5
 have ex0 := asOwn_some hx0
 have ex1 := asRow_some hx1
 have ex2 := asOwn_some hx2
 have ex3 := asRow_some hx3
 have ex4 := asI_some hx4
 have ex5 := asI_some hx5
 have ex6 := asI_some hx6
 subst ex0 ex1 ex2 ex3 ex4 ex5 ex6
 obtain ⟨N, t, h, hκ⟩ := callX_some hh6
 refine ⟨_, _, hκ, told_of_run pq okC_140 (fun _ _ _ => drawA_ok pq okC_140 hmix) (E := E_140) (fn := Try.f140) (body := B_140) (by kernel_rfl) (by kernel_rfl) (by kernel_rfl) (by rfl) (by exact Nat.le_of_ble_eq_true rfl) (fun k hk => ?_)⟩
 refine (w_140 l0_0 l0_1 a0_2 a0_3 a1 k).trans ?_
 replace h : laws_markRun.f N l0_0 l0_1 a0_2 a0_3 a1 = some t := h
 unfold laws_markRun.f at h
 refine call_h N h (fun t0 e5 h => ?_)
 refine call_h N h (fun t1 e6 h => ?_)
 cases h; exact hk
noncomputable def C_71 : Ctr tau Unit := ctrS 140 c_140 C_140
noncomputable def D_71 : Drw tau := drawA E_71 C_71
theorem okC_71 : CtrOk Try.prog TT pnT C_71 := ctrS_ok okC_140 okc_140
theorem mC_71 : CtrMono C_71 := ctrS_mono mC_140 mc_140
theorem mD_71 : DrMono D_71 := drawA_mono mC_71
noncomputable def B_71 : Code := Try.f71.body.getD .skip
theorem mc_71 (args : List (AV tau)) (m : Mem tau) (k k' : AV tau → Mem tau → Option Unit) (hk : ∀ av m, k av m = some () → k' av m = some ()) (h : c_71 args m k = some ()) : c_71 args m k' = some () := by
 unfold c_71 at h ⊢
 split at h
 · repeat' first | exact callX_mono (fun _ h => hk _ _ h) h | refine bO_mono (fun _ h => ?_) h
 · cases h
theorem w_71 (a0_0 : Bool) (a0_1 : Int) (a0_2 : Int) (l0_3 : List S39) (l0_4 : List S82) (a0_5 : Int) (a0_6 : Int) (a1 : Int) (k : AV tau → Mem tau → Option Unit) : fnA E_71 C_71 D_71 Try.f71 B_71 [.agg [.bool a0_0, .int .i64 a0_1, .int .i64 a0_2, .own 0 0, .own 1 0, .int .i64 a0_5, .int .i64 a0_6], .int .i64 a1] ⟨[], [some ⟨39, l0_3, 0⟩, some ⟨82, l0_4, 0⟩]⟩ k = (callX (fun n => laws_markRun.f n l0_3 l0_4 a0_5 a0_6 a1) fun t0 => k (.int .i64 t0.1) ⟨[], [some ⟨39, t0.2.1, 0⟩, some ⟨82, t0.2.2, 0⟩]⟩ : Option Unit) := by kernel_rfl
theorem okc_71 (args : List (AV tau)) (m : Mem tau) (κ : AV tau → Mem tau → Option Unit) (hh : c_71 args m κ = some ()) : ∃ av m1, κ av m1 = some () ∧ ToldA Try.prog TT (pnT 71) 71 args m av m1 := by
 obtain ⟨bx_, rw_⟩ := m
 unfold c_71 at hh
 simp only at hh
 split at hh
 case h_2 => cases hh
 rename_i b0 b1 b2 b3 b4 b5 b6 b7 r0 r1
 obtain ⟨a0_0, hx0, hh0⟩ := bO_some hh
 obtain ⟨a0_1, hx1, hh1⟩ := bO_some hh0
 obtain ⟨a0_2, hx2, hh2⟩ := bO_some hh1
 obtain ⟨u2, hx3, hh3⟩ := bO_some hh2
 obtain ⟨l0_3, hx4, hh4⟩ := bO_some hh3
 obtain ⟨u3, hx5, hh5⟩ := bO_some hh4
 obtain ⟨l0_4, hx6, hh6⟩ := bO_some hh5
 obtain ⟨a0_5, hx7, hh7⟩ := bO_some hh6
 obtain ⟨a0_6, hx8, hh8⟩ := bO_some hh7
 obtain ⟨a1, hx9, hh9⟩ := bO_some hh8
 have ex0 := asB_some hx0
 have ex1 := asI_some hx1
 have ex2 := asI_some hx2
 have ex3 := asOwn_some hx3
 have ex4 := asRow_some hx4
 have ex5 := asOwn_some hx5
 have ex6 := asRow_some hx6
 have ex7 := asI_some hx7
 have ex8 := asI_some hx8
 have ex9 := asI_some hx9
 subst ex0 ex1 ex2 ex3 ex4 ex5 ex6 ex7 ex8 ex9
 obtain ⟨N, t, h, hκ⟩ := callX_some hh9
 refine ⟨_, _, hκ, told_of_run pq okC_71 (fun _ _ _ => drawA_ok pq okC_71 hmix) (E := E_71) (fn := Try.f71) (body := B_71) (by kernel_rfl) (by kernel_rfl) (by kernel_rfl) (by rfl) (by exact Nat.le_of_ble_eq_true rfl) (fun k hk => ?_)⟩
 refine (w_71 a0_0 a0_1 a0_2 l0_3 l0_4 a0_5 a0_6 a1 k).trans ?_
 replace h : laws_markEntry.f N a0_0 a0_1 a0_2 l0_3 l0_4 a0_5 a0_6 a1 = some t := h
 unfold laws_markEntry.f at h
 refine call_h N h (fun t0 e4 h => ?_)
 cases h; exact hk
noncomputable def C_36 : Ctr tau Unit := ctrS 71 c_71 C_71
noncomputable def D_36 : Drw tau := drawA E_36 C_36
theorem okC_36 : CtrOk Try.prog TT pnT C_36 := ctrS_ok okC_71 okc_71
theorem mC_36 : CtrMono C_36 := ctrS_mono mC_71 mc_71
theorem mD_36 : DrMono D_36 := drawA_mono mC_36
noncomputable def B_36 : Code := Try.f36.body.getD .skip
theorem mc_36 (args : List (AV tau)) (m : Mem tau) (k k' : AV tau → Mem tau → Option Unit) (hk : ∀ av m, k av m = some () → k' av m = some ()) (h : c_36 args m k = some ()) : c_36 args m k' = some () := by
 unfold c_36 at h ⊢
 split at h
 · repeat' first | exact callX_mono (fun _ h => hk _ _ h) h | refine bO_mono (fun _ h => ?_) h
 · cases h
noncomputable def K_36_0 (k : AV tau → Mem tau → Option Unit) : Kon tau := (kBlock 0 (kS E_36 C_36 D_36 (codeP B_36 [1, 1]) (kEnd E_36 Try.f36 k)))
def st_36_0 (x0 : (List S37)) (x1 : Int) (x2 : Int) : St tau := ⟨tmL 31 0 [(0, .sl 37 x0), (1, .int .i64 x1), (5, .int .i64 x2)], ⟨[], []⟩⟩
noncomputable def LP_36_0 (k : AV tau → Mem tau → Option Unit) (x0 : (List S37)) (x1 : Int) (x2 : Int) : Option Unit := loopA E_36 (codeA E_36 C_36 D_36 (codeP B_36 [1, 0, 1, 0, 0])) (codeP B_36 [1, 0, 1, 0, 0]) (K_36_0 k) (st_36_0 x0 x1 x2)
theorem w_36_0 (k : AV tau → Mem tau → Option Unit) (x0 : (List S37)) (x1 : Int) (x2 : Int) : codeA E_36 C_36 D_36 (codeP B_36 [1, 0, 1, 0, 0]) (kL E_36 C_36 D_36 (codeP B_36 [1, 0, 1, 0, 0]) (K_36_0 k)) (st_36_0 x0 x1 x2) = (brA (decide (x2 < ((x0.length : Nat) : Int))) (brA (decide ((0 : Int) ≤ x2)) (brA (decide (x2 < ((x0.length : Nat) : Int))) (brA (!(decide ((rd_T37 x0 x2).f0 = x1))) (k (.int .i64 (-(1 : Int))) ⟨[], []⟩) (brA (decide ((0 : Int) ≤ x2)) (brA (decide (x2 < ((x0.length : Nat) : Int))) (brA (!(decide ((rd_T37 x0 x2).f1 = (wrap64 (x1 + (1 : Int)))))) (k (.int .i64 (-(1 : Int))) ⟨[], []⟩) (LP_36_0 k x0 (wrap64 ((wrap64 (x1 + (1 : Int))) + (1 : Int))) (wrap64 (x2 + (1 : Int))))) (none)) (none))) (none)) (none)) (k (.int .i64 x1) ⟨[], []⟩) : Option Unit) := by
 simp only [← wrapA_i64]
 kernel_rfl
theorem w_36 (l0 : List S37) (a1 : Int) (k : AV tau → Mem tau → Option Unit) : fnA E_36 C_36 D_36 Try.f36 B_36 [.sl 37 l0, .int .i64 a1] ⟨[], []⟩ k = (LP_36_0 k l0 a1 (0 : Int) : Option Unit) := by kernel_rfl
def S_36_0 (N : Nat) : Prop := ∀ (k : AV tau → Mem tau → Option Unit) (x0 : (List S37)) (x1 : Int) (x2 : Int) (r : Int), laws_heldBoxS.l0 N (x0) (x1) (x2) = some r → k (.int .i64 (r)) ⟨[], []⟩ = some () → LP_36_0 k x0 x1 x2 = some ()
theorem L_36 (N : Nat) : S_36_0 N := by
 induction N using Nat.strongRecOn with | _ N0 ih =>
 skip
 intro k x0 x1 x2 r h hk
 rcases N0 with _ | N
 · cases h
 first | rw [laws_heldBoxS.l0] at h | simp only [laws_heldBoxS.l0] at h | (unfold laws_heldBoxS.l0 at h; dsimp only at h)
 refine loop_fold mC_36 mD_36 ?_
 refine (w_36_0 k x0 x1 x2).trans ?_
 refine br_eti h rfl (fun c9 h => ?_) (fun c9 h => ?_)
 ·cases h; exact hk
 refine br_g h rfl (fun c10 h => ?_)
 refine br_t (by first | (simp [c9]; done) | (simp; omega) | (simp only [List.length_append, List.length_cons, List.length_nil, List.length_take, List.length_drop] at c9 ⊢; simp; omega) | (simp only [List.length_append, List.length_cons, List.length_nil, List.length_take, List.length_drop] at c9; simp; omega) | (simp_all; done)) ?_
 refine br_etn h rfl (fun c11 h => ?_) (fun c11 h => ?_)
 ·cases h; exact hk
 refine br_t (by first | (simp [c10]; done) | (simp; omega) | (simp only [List.length_append, List.length_cons, List.length_nil, List.length_take, List.length_drop] at c9 ⊢; simp; omega) | (simp only [List.length_append, List.length_cons, List.length_nil, List.length_take, List.length_drop] at c9; simp; omega) | (simp_all; done)) ?_
 refine br_t (by first | (simp [c9]; done) | (simp; omega) | (simp only [List.length_append, List.length_cons, List.length_nil, List.length_take, List.length_drop] at c9 ⊢; simp; omega) | (simp only [List.length_append, List.length_cons, List.length_nil, List.length_take, List.length_drop] at c9; simp; omega) | (simp_all; done)) ?_
 refine br_etn h rfl (fun c12 h => ?_) (fun c12 h => ?_)
 ·cases h; exact hk
 exact (ih N (by omega)) _ _ _ _ _ h hk
theorem okc_36 (args : List (AV tau)) (m : Mem tau) (κ : AV tau → Mem tau → Option Unit) (hh : c_36 args m κ = some ()) : ∃ av m1, κ av m1 = some () ∧ ToldA Try.prog TT (pnT 36) 36 args m av m1 := by
 obtain ⟨bx_, rw_⟩ := m
 unfold c_36 at hh
 simp only at hh
 split at hh
 case h_2 => cases hh
 rename_i b0 b1
 obtain ⟨l0, hx0, hh0⟩ := bO_some hh
 obtain ⟨a1, hx1, hh1⟩ := bO_some hh0
 have ex0 := asSl_some hx0
 have ex1 := asI_some hx1
 subst ex0 ex1
 obtain ⟨N, t, h, hκ⟩ := callX_some hh1
 refine ⟨_, _, hκ, told_of_run pq okC_36 (fun _ _ _ => drawA_ok pq okC_36 hmix) (E := E_36) (fn := Try.f36) (body := B_36) (by kernel_rfl) (by kernel_rfl) (by kernel_rfl) (by rfl) (by exact Nat.le_of_ble_eq_true rfl) (fun k hk => ?_)⟩
 refine (w_36 l0 a1 k).trans ?_
 replace h : laws_heldBoxS.f N l0 a1 = some t := h
 unfold laws_heldBoxS.f at h
 exact (L_36 N) _ _ _ _ _ h hk
noncomputable def C_141 : Ctr tau Unit := ctrS 36 c_36 C_36
noncomputable def D_141 : Drw tau := drawA E_141 C_141
theorem okC_141 : CtrOk Try.prog TT pnT C_141 := ctrS_ok okC_36 okc_36
theorem mC_141 : CtrMono C_141 := ctrS_mono mC_36 mc_36
theorem mD_141 : DrMono D_141 := drawA_mono mC_141
noncomputable def B_141 : Code := Try.f141.body.getD .skip
theorem mc_141 (args : List (AV tau)) (m : Mem tau) (k k' : AV tau → Mem tau → Option Unit) (hk : ∀ av m, k av m = some () → k' av m = some ()) (h : c_141 args m k = some ()) : c_141 args m k' = some () := by
 unfold c_141 at h ⊢
 split at h
 · repeat' first | exact callX_mono (fun _ h => hk _ _ h) h | refine bO_mono (fun _ h => ?_) h
 · cases h
noncomputable def K_141_0 (k : AV tau → Mem tau → Option Unit) : Kon tau := (kBlock 0 (kS E_141 C_141 D_141 (codeP B_141 [1, 1]) (kEnd E_141 Try.f141 k)))
def st_141_0 (x0 : (List S84)) (x1 : Int) (x2 : Int) : St tau := ⟨tmL 51 0 [(0, .sl 84 x0), (1, .int .i64 x1), (5, .int .i64 x2)], ⟨[], []⟩⟩
noncomputable def LP_141_0 (k : AV tau → Mem tau → Option Unit) (x0 : (List S84)) (x1 : Int) (x2 : Int) : Option Unit := loopA E_141 (codeA E_141 C_141 D_141 (codeP B_141 [1, 0, 1, 0, 0])) (codeP B_141 [1, 0, 1, 0, 0]) (K_141_0 k) (st_141_0 x0 x1 x2)
theorem w_141_0 (k : AV tau → Mem tau → Option Unit) (x0 : (List S84)) (x1 : Int) (x2 : Int) : codeA E_141 C_141 D_141 (codeP B_141 [1, 0, 1, 0, 0]) (kL E_141 C_141 D_141 (codeP B_141 [1, 0, 1, 0, 0]) (K_141_0 k)) (st_141_0 x0 x1 x2) = (brA (decide (x2 < ((x0.length : Nat) : Int))) (brA (decide ((0 : Int) ≤ x2)) (brA (decide (x2 < ((x0.length : Nat) : Int))) (brA (!(decide (((rd_T84 x0 x2).f0).f0 = x1))) (k (.int .i64 (-(1 : Int))) ⟨[], []⟩) (brA (decide ((0 : Int) ≤ x2)) (brA (decide (x2 < ((x0.length : Nat) : Int))) (brA (!(decide (((rd_T84 x0 x2).f0).f1 = (wrap64 (x1 + (1 : Int)))))) (k (.int .i64 (-(1 : Int))) ⟨[], []⟩) (brA (decide ((0 : Int) ≤ x2)) (brA (decide (x2 < ((x0.length : Nat) : Int))) (brA (!(decide ((rd_T84 x0 x2).f1 = (wrap64 ((wrap64 (x1 + (1 : Int))) + (1 : Int)))))) (k (.int .i64 (-(1 : Int))) ⟨[], []⟩) (brA (decide ((0 : Int) ≤ x2)) (brA (decide (x2 < ((x0.length : Nat) : Int))) (brA (!(decide ((rd_T84 x0 x2).f2 = (wrap64 ((wrap64 ((wrap64 (x1 + (1 : Int))) + (1 : Int))) + (1 : Int)))))) (k (.int .i64 (-(1 : Int))) ⟨[], []⟩) (LP_141_0 k x0 (wrap64 ((wrap64 ((wrap64 ((wrap64 (x1 + (1 : Int))) + (1 : Int))) + (1 : Int))) + (1 : Int))) (wrap64 (x2 + (1 : Int))))) (none)) (none))) (none)) (none))) (none)) (none))) (none)) (none)) (k (.int .i64 x1) ⟨[], []⟩) : Option Unit) := by
 simp only [← wrapA_i64]
 kernel_rfl
theorem w_141 (l0 : List S84) (a1 : Int) (k : AV tau → Mem tau → Option Unit) : fnA E_141 C_141 D_141 Try.f141 B_141 [.sl 84 l0, .int .i64 a1] ⟨[], []⟩ k = (LP_141_0 k l0 a1 (0 : Int) : Option Unit) := by kernel_rfl
def S_141_0 (N : Nat) : Prop := ∀ (k : AV tau → Mem tau → Option Unit) (x0 : (List S84)) (x1 : Int) (x2 : Int) (r : Int), laws_heldDoneS.l0 N (x0) (x1) (x2) = some r → k (.int .i64 (r)) ⟨[], []⟩ = some () → LP_141_0 k x0 x1 x2 = some ()
theorem L_141 (N : Nat) : S_141_0 N := by
 induction N using Nat.strongRecOn with | _ N0 ih =>
 skip
 intro k x0 x1 x2 r h hk
 rcases N0 with _ | N
 · cases h
 first | rw [laws_heldDoneS.l0] at h | simp only [laws_heldDoneS.l0] at h | (unfold laws_heldDoneS.l0 at h; dsimp only at h)
 refine loop_fold mC_141 mD_141 ?_
 refine (w_141_0 k x0 x1 x2).trans ?_
 refine br_eti h rfl (fun c13 h => ?_) (fun c13 h => ?_)
 ·cases h; exact hk
 refine br_g h rfl (fun c14 h => ?_)
 refine br_t (by first | (simp [c13]; done) | (simp; omega) | (simp only [List.length_append, List.length_cons, List.length_nil, List.length_take, List.length_drop] at c13 ⊢; simp; omega) | (simp only [List.length_append, List.length_cons, List.length_nil, List.length_take, List.length_drop] at c13; simp; omega) | (simp_all; done)) ?_
 refine br_etn h rfl (fun c15 h => ?_) (fun c15 h => ?_)
 ·cases h; exact hk
 refine br_t (by first | (simp [c14]; done) | (simp; omega) | (simp only [List.length_append, List.length_cons, List.length_nil, List.length_take, List.length_drop] at c13 ⊢; simp; omega) | (simp only [List.length_append, List.length_cons, List.length_nil, List.length_take, List.length_drop] at c13; simp; omega) | (simp_all; done)) ?_
 refine br_t (by first | (simp [c13]; done) | (simp; omega) | (simp only [List.length_append, List.length_cons, List.length_nil, List.length_take, List.length_drop] at c13 ⊢; simp; omega) | (simp only [List.length_append, List.length_cons, List.length_nil, List.length_take, List.length_drop] at c13; simp; omega) | (simp_all; done)) ?_
 refine br_etn h rfl (fun c16 h => ?_) (fun c16 h => ?_)
 ·cases h; exact hk
 refine br_t (by first | (simp [c14]; done) | (simp; omega) | (simp only [List.length_append, List.length_cons, List.length_nil, List.length_take, List.length_drop] at c13 ⊢; simp; omega) | (simp only [List.length_append, List.length_cons, List.length_nil, List.length_take, List.length_drop] at c13; simp; omega) | (simp_all; done)) ?_
 refine br_t (by first | (simp [c13]; done) | (simp; omega) | (simp only [List.length_append, List.length_cons, List.length_nil, List.length_take, List.length_drop] at c13 ⊢; simp; omega) | (simp only [List.length_append, List.length_cons, List.length_nil, List.length_take, List.length_drop] at c13; simp; omega) | (simp_all; done)) ?_
 refine br_etn h rfl (fun c17 h => ?_) (fun c17 h => ?_)
 ·cases h; exact hk
 refine br_t (by first | (simp [c14]; done) | (simp; omega) | (simp only [List.length_append, List.length_cons, List.length_nil, List.length_take, List.length_drop] at c13 ⊢; simp; omega) | (simp only [List.length_append, List.length_cons, List.length_nil, List.length_take, List.length_drop] at c13; simp; omega) | (simp_all; done)) ?_
 refine br_t (by first | (simp [c13]; done) | (simp; omega) | (simp only [List.length_append, List.length_cons, List.length_nil, List.length_take, List.length_drop] at c13 ⊢; simp; omega) | (simp only [List.length_append, List.length_cons, List.length_nil, List.length_take, List.length_drop] at c13; simp; omega) | (simp_all; done)) ?_
 refine br_etn h rfl (fun c18 h => ?_) (fun c18 h => ?_)
 ·cases h; exact hk
 exact (ih N (by omega)) _ _ _ _ _ h hk
theorem okc_141 (args : List (AV tau)) (m : Mem tau) (κ : AV tau → Mem tau → Option Unit) (hh : c_141 args m κ = some ()) : ∃ av m1, κ av m1 = some () ∧ ToldA Try.prog TT (pnT 141) 141 args m av m1 := by
 obtain ⟨bx_, rw_⟩ := m
 unfold c_141 at hh
 simp only at hh
 split at hh
 case h_2 => cases hh
 rename_i b0 b1
 obtain ⟨l0, hx0, hh0⟩ := bO_some hh
 obtain ⟨a1, hx1, hh1⟩ := bO_some hh0
 have ex0 := asSl_some hx0
 have ex1 := asI_some hx1
 subst ex0 ex1
 obtain ⟨N, t, h, hκ⟩ := callX_some hh1
 refine ⟨_, _, hκ, told_of_run pq okC_141 (fun _ _ _ => drawA_ok pq okC_141 hmix) (E := E_141) (fn := Try.f141) (body := B_141) (by kernel_rfl) (by kernel_rfl) (by kernel_rfl) (by rfl) (by exact Nat.le_of_ble_eq_true rfl) (fun k hk => ?_)⟩
 refine (w_141 l0 a1 k).trans ?_
 replace h : laws_heldDoneS.f N l0 a1 = some t := h
 unfold laws_heldDoneS.f at h
 exact (L_141 N) _ _ _ _ _ h hk
noncomputable def C_72 : Ctr tau Unit := ctrS 141 c_141 C_141
noncomputable def D_72 : Drw tau := drawA E_72 C_72
theorem okC_72 : CtrOk Try.prog TT pnT C_72 := ctrS_ok okC_141 okc_141
theorem mC_72 : CtrMono C_72 := ctrS_mono mC_141 mc_141
theorem mD_72 : DrMono D_72 := drawA_mono mC_72
noncomputable def B_72 : Code := Try.f72.body.getD .skip
theorem mc_72 (args : List (AV tau)) (m : Mem tau) (k k' : AV tau → Mem tau → Option Unit) (hk : ∀ av m, k av m = some () → k' av m = some ()) (h : c_72 args m k = some ()) : c_72 args m k' = some () := by
 unfold c_72 at h ⊢
 split at h
 · repeat' first | exact callX_mono (fun _ h => hk _ _ h) h | refine bO_mono (fun _ h => ?_) h
 · cases h
theorem w_72 (a0_0 : Int) (l0_1 : List S37) (l0_2 : List S84) (a1 : Int) (k : AV tau → Mem tau → Option Unit) : fnA E_72 C_72 D_72 Try.f72 B_72 [.agg [.int .i64 a0_0, .sl 37 l0_1, .sl 84 l0_2], .int .i64 a1] ⟨[], []⟩ k = (callX (fun n => laws_heldBoxS.f n l0_1 a1) fun t0 => brA (decide (t0 < (0 : Int))) (k (.int .i64 (-(1 : Int))) ⟨[], []⟩) (callX (fun n => laws_heldDoneS.f n l0_2 t0) fun t1 => brA (decide (t1 < (0 : Int))) (k (.int .i64 (-(1 : Int))) ⟨[], []⟩) (k (.int .i64 t1) ⟨[], []⟩)) : Option Unit) := by kernel_rfl
theorem okc_72 (args : List (AV tau)) (m : Mem tau) (κ : AV tau → Mem tau → Option Unit) (hh : c_72 args m κ = some ()) : ∃ av m1, κ av m1 = some () ∧ ToldA Try.prog TT (pnT 72) 72 args m av m1 := by
 obtain ⟨bx_, rw_⟩ := m
 unfold c_72 at hh
 simp only at hh
 split at hh
 case h_2 => cases hh
 rename_i b0 b1 b2 b3
 obtain ⟨a0_0, hx0, hh0⟩ := bO_some hh
 obtain ⟨l0_1, hx1, hh1⟩ := bO_some hh0
 obtain ⟨l0_2, hx2, hh2⟩ := bO_some hh1
 obtain ⟨a1, hx3, hh3⟩ := bO_some hh2
 have ex0 := asI_some hx0
 have ex1 := asSl_some hx1
 have ex2 := asSl_some hx2
 have ex3 := asI_some hx3
 subst ex0 ex1 ex2 ex3
 obtain ⟨N, t, h, hκ⟩ := callX_some hh3
 refine ⟨_, _, hκ, told_of_run pq okC_72 (fun _ _ _ => drawA_ok pq okC_72 hmix) (E := E_72) (fn := Try.f72) (body := B_72) (by kernel_rfl) (by kernel_rfl) (by kernel_rfl) (by rfl) (by exact Nat.le_of_ble_eq_true rfl) (fun k hk => ?_)⟩
 refine (w_72 a0_0 l0_1 l0_2 a1 k).trans ?_
 replace h : laws_heldState.f N a0_0 l0_1 l0_2 a1 = some t := h
 unfold laws_heldState.f at h
 refine call_h N h (fun t0 e5 h => ?_)
 refine br_ite h rfl (fun c6 h => ?_) (fun c6 h => ?_)
 ·cases h; exact hk
 refine call_h N h (fun t1 e7 h => ?_)
 refine br_ite h rfl (fun c8 h => ?_) (fun c8 h => ?_)
 ·cases h; exact hk
 cases h; exact hk
noncomputable def C_14 : Ctr tau Unit := ctrS 72 c_72 C_72
noncomputable def D_14 : Drw tau := drawA E_14 C_14
theorem okC_14 : CtrOk Try.prog TT pnT C_14 := ctrS_ok okC_72 okc_72
theorem mC_14 : CtrMono C_14 := ctrS_mono mC_72 mc_72
theorem mD_14 : DrMono D_14 := drawA_mono mC_14
noncomputable def B_14 : Code := Try.f14.body.getD .skip
theorem mc_14 (args : List (AV tau)) (m : Mem tau) (k k' : AV tau → Mem tau → Option Unit) (hk : ∀ av m, k av m = some () → k' av m = some ()) (h : c_14 args m k = some ()) : c_14 args m k' = some () := by
 unfold c_14 at h ⊢
 split at h
 · repeat' first | exact callX_mono (fun _ h => hk _ _ h) h | refine bO_mono (fun _ h => ?_) h
 · cases h
theorem w_14 (a0_0 : Int) (l0_1 : List S136) (l0_2 : List S189) (a1_0 : Bool) (a1_1 : Int) (a1_2 : Int) (l1_3 : List S196) (l1_4 : List S198) (a1_5 : Int) (a1_6 : Int) (k : AV tau → Mem tau → Option Unit) : fnA E_14 C_14 D_14 Try.f14 B_14 [.agg [.int .i64 a0_0, .sl 136 l0_1, .sl 189 l0_2], .agg [.bool a1_0, .int .i64 a1_1, .int .i64 a1_2, .sl 196 l1_3, .sl 198 l1_4, .int .i64 a1_5, .int .i64 a1_6]] ⟨[], []⟩ k = (callX (fun n => laws_szState.f a0_0 l0_1 l0_2 (1048576 : Int)) fun t0 => brA (decide (t0 < (0 : Int))) (k (.bool true) ⟨[], []⟩) (callX (fun n => laws_szEntry.f a1_0 a1_1 a1_2 l1_3 l1_4 a1_5 a1_6 t0) fun t1 => brA (decide (t1 < (0 : Int))) (k (.bool true) ⟨[], []⟩) (andA (callX (fun n => laws_toState.f n a0_0 l0_1 l0_2) fun t2 => andA (callX (fun n => laws_toEntry.f n a1_0 a1_1 a1_2 l1_3 l1_4 a1_5 a1_6) fun t3 => andA (callX (fun n => spec_CertApply.f n t2.1 t2.2.1 t2.2.2 t3.1 t3.2.1 t3.2.2.1 t3.2.2.2.1 t3.2.2.2.2.1 t3.2.2.2.2.2.1 t3.2.2.2.2.2.2) fun t4 => callX (fun n => laws_toState.f n a0_0 l0_1 l0_2) fun t5 => callX (fun n => laws_toEntry.f n a1_0 a1_1 a1_2 l1_3 l1_4 a1_5 a1_6) fun t6 => callX (fun n => impl_CertApply.f n t5.1 t5.2.1 t5.2.2 t6.1 t6.2.1 t6.2.2.1 t6.2.2.2.1 t6.2.2.2.2.1 t6.2.2.2.2.2.1 t6.2.2.2.2.2.2) fun t7 => callX (fun n => laws_eqState.f n t7.1 t7.2.1 t7.2.2.1 t4.1 t4.2.1 t4.2.2.1) fun t8 => brA (!t8) (k (.bool false) ⟨[], []⟩) (brA (!(decide (t7.2.2.2 = t4.2.2.2))) (k (.bool false) ⟨[], []⟩) (callX (fun n => laws_toState.f n a0_0 l0_1 l0_2) fun t9 => callX (fun n => laws_eqState.f n t5.1 t5.2.1 t5.2.2 t9.1 t9.2.1 t9.2.2) fun t10 => brA (!t10) (k (.bool false) ⟨[], []⟩) (callX (fun n => laws_toEntry.f n a1_0 a1_1 a1_2 l1_3 l1_4 a1_5 a1_6) fun t11 => callX (fun n => laws_eqEntry.f n t6.1 t6.2.1 t6.2.2.1 t6.2.2.2.1 t6.2.2.2.2.1 t6.2.2.2.2.2.1 t6.2.2.2.2.2.2 t11.1 t11.2.1 t11.2.2.1 t11.2.2.2.1 t11.2.2.2.2.1 t11.2.2.2.2.2.1 t11.2.2.2.2.2.2) fun t12 => brA (!t12) (k (.bool false) ⟨[], []⟩) (callX (fun n => laws_markState.f n t5.1 t5.2.1 t5.2.2 (1 : Int)) fun t13 => callX (fun n => laws_markEntry.f n t6.1 t6.2.1 t6.2.2.1 t6.2.2.2.1 t6.2.2.2.2.1 t6.2.2.2.2.2.1 t6.2.2.2.2.2.2 t13.1) fun t14 => brA (decide (t14.1 < (0 : Int))) (k (.bool false) ⟨[], []⟩) (callX (fun n => laws_eqState.f n t7.1 t7.2.1 t7.2.2.1 t4.1 t4.2.1 t4.2.2.1) fun t15 => brA (!t15) (k (.bool false) ⟨[], []⟩) (brA (!(decide (t7.2.2.2 = t4.2.2.2))) (k (.bool false) ⟨[], []⟩) (callX (fun n => laws_markState.f n t7.1 t7.2.1 t7.2.2.1 (1 : Int)) fun t16 => callX (fun n => laws_heldState.f n t7.1 t16.2.1 t16.2.2 (1 : Int)) fun t17 => brA (decide (t17 < (0 : Int))) (k (.bool false) ⟨[], []⟩) (brA (!(decide (t17 = t16.1))) (k (.bool false) ⟨[], []⟩) (andA (callX (fun n => laws_toState.f n a0_0 l0_1 l0_2) fun t18 => andA (callX (fun n => laws_toEntry.f n a1_0 a1_1 a1_2 l1_3 l1_4 a1_5 a1_6) fun t19 => andA (callX (fun n => impl_CertApply.f n t18.1 t18.2.1 t18.2.2 t19.1 t19.2.1 t19.2.2.1 t19.2.2.2.1 t19.2.2.2.2.1 t19.2.2.2.2.2.1 t19.2.2.2.2.2.2) fun t20 => callX (fun n => laws_eqState.f n t20.1 t20.2.1 t20.2.2.1 t4.1 t4.2.1 t4.2.2.1) fun t21 => brA (!t21) (k (.bool false) ⟨[], []⟩) (brA (!(decide (t20.2.2.2 = t4.2.2.2))) (k (.bool false) ⟨[], []⟩) (callX (fun n => laws_heldState.f n t7.1 t16.2.1 t16.2.2 (1 : Int)) fun t22 => brA (decide (t22 < (0 : Int))) (k (.bool false) ⟨[], []⟩) (brA (!(decide (t22 = t16.1))) (k (.bool false) ⟨[], []⟩) (k (.bool true) ⟨[], []⟩))))) (callX (fun n => impl_CertApply.f n t18.1 t18.2.1 t18.2.2 t19.1 t19.2.1 t19.2.2.1 t19.2.2.2.1 t19.2.2.2.2.1 t19.2.2.2.2.2.1 t19.2.2.2.2.2.2) fun t23 => callX (fun n => laws_eqState.f n t23.1 t23.2.1 t23.2.2.1 t4.1 t4.2.1 t4.2.2.1) fun t24 => brA (!t24) (k (.bool false) ⟨[], []⟩) (brA (!(decide (t23.2.2.2 = t4.2.2.2))) (k (.bool false) ⟨[], []⟩) (callX (fun n => laws_heldState.f n t7.1 t16.2.1 t16.2.2 (1 : Int)) fun t25 => brA (decide (t25 < (0 : Int))) (k (.bool false) ⟨[], []⟩) (brA (!(decide (t25 = t16.1))) (k (.bool false) ⟨[], []⟩) (k (.bool true) ⟨[], []⟩)))))) (callX (fun n => laws_toEntry.f n a1_0 a1_1 a1_2 l1_3 l1_4 a1_5 a1_6) fun t26 => callX (fun n => impl_CertApply.f n t18.1 t18.2.1 t18.2.2 t26.1 t26.2.1 t26.2.2.1 t26.2.2.2.1 t26.2.2.2.2.1 t26.2.2.2.2.2.1 t26.2.2.2.2.2.2) fun t27 => callX (fun n => laws_eqState.f n t27.1 t27.2.1 t27.2.2.1 t4.1 t4.2.1 t4.2.2.1) fun t28 => brA (!t28) (k (.bool false) ⟨[], []⟩) (brA (!(decide (t27.2.2.2 = t4.2.2.2))) (k (.bool false) ⟨[], []⟩) (callX (fun n => laws_heldState.f n t7.1 t16.2.1 t16.2.2 (1 : Int)) fun t29 => brA (decide (t29 < (0 : Int))) (k (.bool false) ⟨[], []⟩) (brA (!(decide (t29 = t16.1))) (k (.bool false) ⟨[], []⟩) (k (.bool true) ⟨[], []⟩)))))) (callX (fun n => laws_toState.f n a0_0 l0_1 l0_2) fun t30 => callX (fun n => laws_toEntry.f n a1_0 a1_1 a1_2 l1_3 l1_4 a1_5 a1_6) fun t31 => callX (fun n => impl_CertApply.f n t30.1 t30.2.1 t30.2.2 t31.1 t31.2.1 t31.2.2.1 t31.2.2.2.1 t31.2.2.2.2.1 t31.2.2.2.2.2.1 t31.2.2.2.2.2.2) fun t32 => callX (fun n => laws_eqState.f n t32.1 t32.2.1 t32.2.2.1 t4.1 t4.2.1 t4.2.2.1) fun t33 => brA (!t33) (k (.bool false) ⟨[], []⟩) (brA (!(decide (t32.2.2.2 = t4.2.2.2))) (k (.bool false) ⟨[], []⟩) (callX (fun n => laws_heldState.f n t7.1 t16.2.1 t16.2.2 (1 : Int)) fun t34 => brA (decide (t34 < (0 : Int))) (k (.bool false) ⟨[], []⟩) (brA (!(decide (t34 = t16.1))) (k (.bool false) ⟨[], []⟩) (k (.bool true) ⟨[], []⟩))))))))))))))) (callX (fun n => spec_CertApply.f n t2.1 t2.2.1 t2.2.2 t3.1 t3.2.1 t3.2.2.1 t3.2.2.2.1 t3.2.2.2.2.1 t3.2.2.2.2.2.1 t3.2.2.2.2.2.2) fun t35 => callX (fun n => laws_toState.f n a0_0 l0_1 l0_2) fun t36 => callX (fun n => laws_toEntry.f n a1_0 a1_1 a1_2 l1_3 l1_4 a1_5 a1_6) fun t37 => callX (fun n => impl_CertApply.f n t36.1 t36.2.1 t36.2.2 t37.1 t37.2.1 t37.2.2.1 t37.2.2.2.1 t37.2.2.2.2.1 t37.2.2.2.2.2.1 t37.2.2.2.2.2.2) fun t38 => callX (fun n => laws_eqState.f n t38.1 t38.2.1 t38.2.2.1 t35.1 t35.2.1 t35.2.2.1) fun t39 => brA (!t39) (k (.bool false) ⟨[], []⟩) (brA (!(decide (t38.2.2.2 = t35.2.2.2))) (k (.bool false) ⟨[], []⟩) (callX (fun n => laws_toState.f n a0_0 l0_1 l0_2) fun t40 => callX (fun n => laws_eqState.f n t36.1 t36.2.1 t36.2.2 t40.1 t40.2.1 t40.2.2) fun t41 => brA (!t41) (k (.bool false) ⟨[], []⟩) (callX (fun n => laws_toEntry.f n a1_0 a1_1 a1_2 l1_3 l1_4 a1_5 a1_6) fun t42 => callX (fun n => laws_eqEntry.f n t37.1 t37.2.1 t37.2.2.1 t37.2.2.2.1 t37.2.2.2.2.1 t37.2.2.2.2.2.1 t37.2.2.2.2.2.2 t42.1 t42.2.1 t42.2.2.1 t42.2.2.2.1 t42.2.2.2.2.1 t42.2.2.2.2.2.1 t42.2.2.2.2.2.2) fun t43 => brA (!t43) (k (.bool false) ⟨[], []⟩) (callX (fun n => laws_markState.f n t36.1 t36.2.1 t36.2.2 (1 : Int)) fun t44 => callX (fun n => laws_markEntry.f n t37.1 t37.2.1 t37.2.2.1 t37.2.2.2.1 t37.2.2.2.2.1 t37.2.2.2.2.2.1 t37.2.2.2.2.2.2 t44.1) fun t45 => brA (decide (t45.1 < (0 : Int))) (k (.bool false) ⟨[], []⟩) (callX (fun n => laws_eqState.f n t38.1 t38.2.1 t38.2.2.1 t35.1 t35.2.1 t35.2.2.1) fun t46 => brA (!t46) (k (.bool false) ⟨[], []⟩) (brA (!(decide (t38.2.2.2 = t35.2.2.2))) (k (.bool false) ⟨[], []⟩) (callX (fun n => laws_markState.f n t38.1 t38.2.1 t38.2.2.1 (1 : Int)) fun t47 => callX (fun n => laws_heldState.f n t38.1 t47.2.1 t47.2.2 (1 : Int)) fun t48 => brA (decide (t48 < (0 : Int))) (k (.bool false) ⟨[], []⟩) (brA (!(decide (t48 = t47.1))) (k (.bool false) ⟨[], []⟩) (andA (callX (fun n => laws_toState.f n a0_0 l0_1 l0_2) fun t49 => andA (callX (fun n => laws_toEntry.f n a1_0 a1_1 a1_2 l1_3 l1_4 a1_5 a1_6) fun t50 => andA (callX (fun n => impl_CertApply.f n t49.1 t49.2.1 t49.2.2 t50.1 t50.2.1 t50.2.2.1 t50.2.2.2.1 t50.2.2.2.2.1 t50.2.2.2.2.2.1 t50.2.2.2.2.2.2) fun t51 => callX (fun n => laws_eqState.f n t51.1 t51.2.1 t51.2.2.1 t35.1 t35.2.1 t35.2.2.1) fun t52 => brA (!t52) (k (.bool false) ⟨[], []⟩) (brA (!(decide (t51.2.2.2 = t35.2.2.2))) (k (.bool false) ⟨[], []⟩) (callX (fun n => laws_heldState.f n t38.1 t47.2.1 t47.2.2 (1 : Int)) fun t53 => brA (decide (t53 < (0 : Int))) (k (.bool false) ⟨[], []⟩) (brA (!(decide (t53 = t47.1))) (k (.bool false) ⟨[], []⟩) (k (.bool true) ⟨[], []⟩))))) (callX (fun n => impl_CertApply.f n t49.1 t49.2.1 t49.2.2 t50.1 t50.2.1 t50.2.2.1 t50.2.2.2.1 t50.2.2.2.2.1 t50.2.2.2.2.2.1 t50.2.2.2.2.2.2) fun t54 => callX (fun n => laws_eqState.f n t54.1 t54.2.1 t54.2.2.1 t35.1 t35.2.1 t35.2.2.1) fun t55 => brA (!t55) (k (.bool false) ⟨[], []⟩) (brA (!(decide (t54.2.2.2 = t35.2.2.2))) (k (.bool false) ⟨[], []⟩) (callX (fun n => laws_heldState.f n t38.1 t47.2.1 t47.2.2 (1 : Int)) fun t56 => brA (decide (t56 < (0 : Int))) (k (.bool false) ⟨[], []⟩) (brA (!(decide (t56 = t47.1))) (k (.bool false) ⟨[], []⟩) (k (.bool true) ⟨[], []⟩)))))) (callX (fun n => laws_toEntry.f n a1_0 a1_1 a1_2 l1_3 l1_4 a1_5 a1_6) fun t57 => callX (fun n => impl_CertApply.f n t49.1 t49.2.1 t49.2.2 t57.1 t57.2.1 t57.2.2.1 t57.2.2.2.1 t57.2.2.2.2.1 t57.2.2.2.2.2.1 t57.2.2.2.2.2.2) fun t58 => callX (fun n => laws_eqState.f n t58.1 t58.2.1 t58.2.2.1 t35.1 t35.2.1 t35.2.2.1) fun t59 => brA (!t59) (k (.bool false) ⟨[], []⟩) (brA (!(decide (t58.2.2.2 = t35.2.2.2))) (k (.bool false) ⟨[], []⟩) (callX (fun n => laws_heldState.f n t38.1 t47.2.1 t47.2.2 (1 : Int)) fun t60 => brA (decide (t60 < (0 : Int))) (k (.bool false) ⟨[], []⟩) (brA (!(decide (t60 = t47.1))) (k (.bool false) ⟨[], []⟩) (k (.bool true) ⟨[], []⟩)))))) (callX (fun n => laws_toState.f n a0_0 l0_1 l0_2) fun t61 => callX (fun n => laws_toEntry.f n a1_0 a1_1 a1_2 l1_3 l1_4 a1_5 a1_6) fun t62 => callX (fun n => impl_CertApply.f n t61.1 t61.2.1 t61.2.2 t62.1 t62.2.1 t62.2.2.1 t62.2.2.2.1 t62.2.2.2.2.1 t62.2.2.2.2.2.1 t62.2.2.2.2.2.2) fun t63 => callX (fun n => laws_eqState.f n t63.1 t63.2.1 t63.2.2.1 t35.1 t35.2.1 t35.2.2.1) fun t64 => brA (!t64) (k (.bool false) ⟨[], []⟩) (brA (!(decide (t63.2.2.2 = t35.2.2.2))) (k (.bool false) ⟨[], []⟩) (callX (fun n => laws_heldState.f n t38.1 t47.2.1 t47.2.2 (1 : Int)) fun t65 => brA (decide (t65 < (0 : Int))) (k (.bool false) ⟨[], []⟩) (brA (!(decide (t65 = t47.1))) (k (.bool false) ⟨[], []⟩) (k (.bool true) ⟨[], []⟩)))))))))))))))) (callX (fun n => laws_toEntry.f n a1_0 a1_1 a1_2 l1_3 l1_4 a1_5 a1_6) fun t66 => callX (fun n => spec_CertApply.f n t2.1 t2.2.1 t2.2.2 t66.1 t66.2.1 t66.2.2.1 t66.2.2.2.1 t66.2.2.2.2.1 t66.2.2.2.2.2.1 t66.2.2.2.2.2.2) fun t67 => callX (fun n => laws_toState.f n a0_0 l0_1 l0_2) fun t68 => callX (fun n => laws_toEntry.f n a1_0 a1_1 a1_2 l1_3 l1_4 a1_5 a1_6) fun t69 => callX (fun n => impl_CertApply.f n t68.1 t68.2.1 t68.2.2 t69.1 t69.2.1 t69.2.2.1 t69.2.2.2.1 t69.2.2.2.2.1 t69.2.2.2.2.2.1 t69.2.2.2.2.2.2) fun t70 => callX (fun n => laws_eqState.f n t70.1 t70.2.1 t70.2.2.1 t67.1 t67.2.1 t67.2.2.1) fun t71 => brA (!t71) (k (.bool false) ⟨[], []⟩) (brA (!(decide (t70.2.2.2 = t67.2.2.2))) (k (.bool false) ⟨[], []⟩) (callX (fun n => laws_toState.f n a0_0 l0_1 l0_2) fun t72 => callX (fun n => laws_eqState.f n t68.1 t68.2.1 t68.2.2 t72.1 t72.2.1 t72.2.2) fun t73 => brA (!t73) (k (.bool false) ⟨[], []⟩) (callX (fun n => laws_toEntry.f n a1_0 a1_1 a1_2 l1_3 l1_4 a1_5 a1_6) fun t74 => callX (fun n => laws_eqEntry.f n t69.1 t69.2.1 t69.2.2.1 t69.2.2.2.1 t69.2.2.2.2.1 t69.2.2.2.2.2.1 t69.2.2.2.2.2.2 t74.1 t74.2.1 t74.2.2.1 t74.2.2.2.1 t74.2.2.2.2.1 t74.2.2.2.2.2.1 t74.2.2.2.2.2.2) fun t75 => brA (!t75) (k (.bool false) ⟨[], []⟩) (callX (fun n => laws_markState.f n t68.1 t68.2.1 t68.2.2 (1 : Int)) fun t76 => callX (fun n => laws_markEntry.f n t69.1 t69.2.1 t69.2.2.1 t69.2.2.2.1 t69.2.2.2.2.1 t69.2.2.2.2.2.1 t69.2.2.2.2.2.2 t76.1) fun t77 => brA (decide (t77.1 < (0 : Int))) (k (.bool false) ⟨[], []⟩) (callX (fun n => laws_eqState.f n t70.1 t70.2.1 t70.2.2.1 t67.1 t67.2.1 t67.2.2.1) fun t78 => brA (!t78) (k (.bool false) ⟨[], []⟩) (brA (!(decide (t70.2.2.2 = t67.2.2.2))) (k (.bool false) ⟨[], []⟩) (callX (fun n => laws_markState.f n t70.1 t70.2.1 t70.2.2.1 (1 : Int)) fun t79 => callX (fun n => laws_heldState.f n t70.1 t79.2.1 t79.2.2 (1 : Int)) fun t80 => brA (decide (t80 < (0 : Int))) (k (.bool false) ⟨[], []⟩) (brA (!(decide (t80 = t79.1))) (k (.bool false) ⟨[], []⟩) (andA (callX (fun n => laws_toState.f n a0_0 l0_1 l0_2) fun t81 => andA (callX (fun n => laws_toEntry.f n a1_0 a1_1 a1_2 l1_3 l1_4 a1_5 a1_6) fun t82 => andA (callX (fun n => impl_CertApply.f n t81.1 t81.2.1 t81.2.2 t82.1 t82.2.1 t82.2.2.1 t82.2.2.2.1 t82.2.2.2.2.1 t82.2.2.2.2.2.1 t82.2.2.2.2.2.2) fun t83 => callX (fun n => laws_eqState.f n t83.1 t83.2.1 t83.2.2.1 t67.1 t67.2.1 t67.2.2.1) fun t84 => brA (!t84) (k (.bool false) ⟨[], []⟩) (brA (!(decide (t83.2.2.2 = t67.2.2.2))) (k (.bool false) ⟨[], []⟩) (callX (fun n => laws_heldState.f n t70.1 t79.2.1 t79.2.2 (1 : Int)) fun t85 => brA (decide (t85 < (0 : Int))) (k (.bool false) ⟨[], []⟩) (brA (!(decide (t85 = t79.1))) (k (.bool false) ⟨[], []⟩) (k (.bool true) ⟨[], []⟩))))) (callX (fun n => impl_CertApply.f n t81.1 t81.2.1 t81.2.2 t82.1 t82.2.1 t82.2.2.1 t82.2.2.2.1 t82.2.2.2.2.1 t82.2.2.2.2.2.1 t82.2.2.2.2.2.2) fun t86 => callX (fun n => laws_eqState.f n t86.1 t86.2.1 t86.2.2.1 t67.1 t67.2.1 t67.2.2.1) fun t87 => brA (!t87) (k (.bool false) ⟨[], []⟩) (brA (!(decide (t86.2.2.2 = t67.2.2.2))) (k (.bool false) ⟨[], []⟩) (callX (fun n => laws_heldState.f n t70.1 t79.2.1 t79.2.2 (1 : Int)) fun t88 => brA (decide (t88 < (0 : Int))) (k (.bool false) ⟨[], []⟩) (brA (!(decide (t88 = t79.1))) (k (.bool false) ⟨[], []⟩) (k (.bool true) ⟨[], []⟩)))))) (callX (fun n => laws_toEntry.f n a1_0 a1_1 a1_2 l1_3 l1_4 a1_5 a1_6) fun t89 => callX (fun n => impl_CertApply.f n t81.1 t81.2.1 t81.2.2 t89.1 t89.2.1 t89.2.2.1 t89.2.2.2.1 t89.2.2.2.2.1 t89.2.2.2.2.2.1 t89.2.2.2.2.2.2) fun t90 => callX (fun n => laws_eqState.f n t90.1 t90.2.1 t90.2.2.1 t67.1 t67.2.1 t67.2.2.1) fun t91 => brA (!t91) (k (.bool false) ⟨[], []⟩) (brA (!(decide (t90.2.2.2 = t67.2.2.2))) (k (.bool false) ⟨[], []⟩) (callX (fun n => laws_heldState.f n t70.1 t79.2.1 t79.2.2 (1 : Int)) fun t92 => brA (decide (t92 < (0 : Int))) (k (.bool false) ⟨[], []⟩) (brA (!(decide (t92 = t79.1))) (k (.bool false) ⟨[], []⟩) (k (.bool true) ⟨[], []⟩)))))) (callX (fun n => laws_toState.f n a0_0 l0_1 l0_2) fun t93 => callX (fun n => laws_toEntry.f n a1_0 a1_1 a1_2 l1_3 l1_4 a1_5 a1_6) fun t94 => callX (fun n => impl_CertApply.f n t93.1 t93.2.1 t93.2.2 t94.1 t94.2.1 t94.2.2.1 t94.2.2.2.1 t94.2.2.2.2.1 t94.2.2.2.2.2.1 t94.2.2.2.2.2.2) fun t95 => callX (fun n => laws_eqState.f n t95.1 t95.2.1 t95.2.2.1 t67.1 t67.2.1 t67.2.2.1) fun t96 => brA (!t96) (k (.bool false) ⟨[], []⟩) (brA (!(decide (t95.2.2.2 = t67.2.2.2))) (k (.bool false) ⟨[], []⟩) (callX (fun n => laws_heldState.f n t70.1 t79.2.1 t79.2.2 (1 : Int)) fun t97 => brA (decide (t97 < (0 : Int))) (k (.bool false) ⟨[], []⟩) (brA (!(decide (t97 = t79.1))) (k (.bool false) ⟨[], []⟩) (k (.bool true) ⟨[], []⟩)))))))))))))))) (callX (fun n => laws_toState.f n a0_0 l0_1 l0_2) fun t98 => callX (fun n => laws_toEntry.f n a1_0 a1_1 a1_2 l1_3 l1_4 a1_5 a1_6) fun t99 => callX (fun n => spec_CertApply.f n t98.1 t98.2.1 t98.2.2 t99.1 t99.2.1 t99.2.2.1 t99.2.2.2.1 t99.2.2.2.2.1 t99.2.2.2.2.2.1 t99.2.2.2.2.2.2) fun t100 => callX (fun n => laws_toState.f n a0_0 l0_1 l0_2) fun t101 => callX (fun n => laws_toEntry.f n a1_0 a1_1 a1_2 l1_3 l1_4 a1_5 a1_6) fun t102 => callX (fun n => impl_CertApply.f n t101.1 t101.2.1 t101.2.2 t102.1 t102.2.1 t102.2.2.1 t102.2.2.2.1 t102.2.2.2.2.1 t102.2.2.2.2.2.1 t102.2.2.2.2.2.2) fun t103 => callX (fun n => laws_eqState.f n t103.1 t103.2.1 t103.2.2.1 t100.1 t100.2.1 t100.2.2.1) fun t104 => brA (!t104) (k (.bool false) ⟨[], []⟩) (brA (!(decide (t103.2.2.2 = t100.2.2.2))) (k (.bool false) ⟨[], []⟩) (callX (fun n => laws_toState.f n a0_0 l0_1 l0_2) fun t105 => callX (fun n => laws_eqState.f n t101.1 t101.2.1 t101.2.2 t105.1 t105.2.1 t105.2.2) fun t106 => brA (!t106) (k (.bool false) ⟨[], []⟩) (callX (fun n => laws_toEntry.f n a1_0 a1_1 a1_2 l1_3 l1_4 a1_5 a1_6) fun t107 => callX (fun n => laws_eqEntry.f n t102.1 t102.2.1 t102.2.2.1 t102.2.2.2.1 t102.2.2.2.2.1 t102.2.2.2.2.2.1 t102.2.2.2.2.2.2 t107.1 t107.2.1 t107.2.2.1 t107.2.2.2.1 t107.2.2.2.2.1 t107.2.2.2.2.2.1 t107.2.2.2.2.2.2) fun t108 => brA (!t108) (k (.bool false) ⟨[], []⟩) (callX (fun n => laws_markState.f n t101.1 t101.2.1 t101.2.2 (1 : Int)) fun t109 => callX (fun n => laws_markEntry.f n t102.1 t102.2.1 t102.2.2.1 t102.2.2.2.1 t102.2.2.2.2.1 t102.2.2.2.2.2.1 t102.2.2.2.2.2.2 t109.1) fun t110 => brA (decide (t110.1 < (0 : Int))) (k (.bool false) ⟨[], []⟩) (callX (fun n => laws_eqState.f n t103.1 t103.2.1 t103.2.2.1 t100.1 t100.2.1 t100.2.2.1) fun t111 => brA (!t111) (k (.bool false) ⟨[], []⟩) (brA (!(decide (t103.2.2.2 = t100.2.2.2))) (k (.bool false) ⟨[], []⟩) (callX (fun n => laws_markState.f n t103.1 t103.2.1 t103.2.2.1 (1 : Int)) fun t112 => callX (fun n => laws_heldState.f n t103.1 t112.2.1 t112.2.2 (1 : Int)) fun t113 => brA (decide (t113 < (0 : Int))) (k (.bool false) ⟨[], []⟩) (brA (!(decide (t113 = t112.1))) (k (.bool false) ⟨[], []⟩) (andA (callX (fun n => laws_toState.f n a0_0 l0_1 l0_2) fun t114 => andA (callX (fun n => laws_toEntry.f n a1_0 a1_1 a1_2 l1_3 l1_4 a1_5 a1_6) fun t115 => andA (callX (fun n => impl_CertApply.f n t114.1 t114.2.1 t114.2.2 t115.1 t115.2.1 t115.2.2.1 t115.2.2.2.1 t115.2.2.2.2.1 t115.2.2.2.2.2.1 t115.2.2.2.2.2.2) fun t116 => callX (fun n => laws_eqState.f n t116.1 t116.2.1 t116.2.2.1 t100.1 t100.2.1 t100.2.2.1) fun t117 => brA (!t117) (k (.bool false) ⟨[], []⟩) (brA (!(decide (t116.2.2.2 = t100.2.2.2))) (k (.bool false) ⟨[], []⟩) (callX (fun n => laws_heldState.f n t103.1 t112.2.1 t112.2.2 (1 : Int)) fun t118 => brA (decide (t118 < (0 : Int))) (k (.bool false) ⟨[], []⟩) (brA (!(decide (t118 = t112.1))) (k (.bool false) ⟨[], []⟩) (k (.bool true) ⟨[], []⟩))))) (callX (fun n => impl_CertApply.f n t114.1 t114.2.1 t114.2.2 t115.1 t115.2.1 t115.2.2.1 t115.2.2.2.1 t115.2.2.2.2.1 t115.2.2.2.2.2.1 t115.2.2.2.2.2.2) fun t119 => callX (fun n => laws_eqState.f n t119.1 t119.2.1 t119.2.2.1 t100.1 t100.2.1 t100.2.2.1) fun t120 => brA (!t120) (k (.bool false) ⟨[], []⟩) (brA (!(decide (t119.2.2.2 = t100.2.2.2))) (k (.bool false) ⟨[], []⟩) (callX (fun n => laws_heldState.f n t103.1 t112.2.1 t112.2.2 (1 : Int)) fun t121 => brA (decide (t121 < (0 : Int))) (k (.bool false) ⟨[], []⟩) (brA (!(decide (t121 = t112.1))) (k (.bool false) ⟨[], []⟩) (k (.bool true) ⟨[], []⟩)))))) (callX (fun n => laws_toEntry.f n a1_0 a1_1 a1_2 l1_3 l1_4 a1_5 a1_6) fun t122 => callX (fun n => impl_CertApply.f n t114.1 t114.2.1 t114.2.2 t122.1 t122.2.1 t122.2.2.1 t122.2.2.2.1 t122.2.2.2.2.1 t122.2.2.2.2.2.1 t122.2.2.2.2.2.2) fun t123 => callX (fun n => laws_eqState.f n t123.1 t123.2.1 t123.2.2.1 t100.1 t100.2.1 t100.2.2.1) fun t124 => brA (!t124) (k (.bool false) ⟨[], []⟩) (brA (!(decide (t123.2.2.2 = t100.2.2.2))) (k (.bool false) ⟨[], []⟩) (callX (fun n => laws_heldState.f n t103.1 t112.2.1 t112.2.2 (1 : Int)) fun t125 => brA (decide (t125 < (0 : Int))) (k (.bool false) ⟨[], []⟩) (brA (!(decide (t125 = t112.1))) (k (.bool false) ⟨[], []⟩) (k (.bool true) ⟨[], []⟩)))))) (callX (fun n => laws_toState.f n a0_0 l0_1 l0_2) fun t126 => callX (fun n => laws_toEntry.f n a1_0 a1_1 a1_2 l1_3 l1_4 a1_5 a1_6) fun t127 => callX (fun n => impl_CertApply.f n t126.1 t126.2.1 t126.2.2 t127.1 t127.2.1 t127.2.2.1 t127.2.2.2.1 t127.2.2.2.2.1 t127.2.2.2.2.2.1 t127.2.2.2.2.2.2) fun t128 => callX (fun n => laws_eqState.f n t128.1 t128.2.1 t128.2.2.1 t100.1 t100.2.1 t100.2.2.1) fun t129 => brA (!t129) (k (.bool false) ⟨[], []⟩) (brA (!(decide (t128.2.2.2 = t100.2.2.2))) (k (.bool false) ⟨[], []⟩) (callX (fun n => laws_heldState.f n t103.1 t112.2.1 t112.2.2 (1 : Int)) fun t130 => brA (decide (t130 < (0 : Int))) (k (.bool false) ⟨[], []⟩) (brA (!(decide (t130 = t112.1))) (k (.bool false) ⟨[], []⟩) (k (.bool true) ⟨[], []⟩))))))))))))))))) : Option Unit) := by kernel_rfl
theorem okc_14 (args : List (AV tau)) (m : Mem tau) (κ : AV tau → Mem tau → Option Unit) (hh : c_14 args m κ = some ()) : ∃ av m1, κ av m1 = some () ∧ ToldA Try.prog TT (pnT 14) 14 args m av m1 := by
 obtain ⟨bx_, rw_⟩ := m
 unfold c_14 at hh
 simp only at hh
 split at hh
 case h_2 => cases hh
 rename_i b0 b1 b2 b3 b4 b5 b6 b7 b8 b9
 obtain ⟨a0_0, hx0, hh0⟩ := bO_some hh
 obtain ⟨l0_1, hx1, hh1⟩ := bO_some hh0
 obtain ⟨l0_2, hx2, hh2⟩ := bO_some hh1
 obtain ⟨a1_0, hx3, hh3⟩ := bO_some hh2
 obtain ⟨a1_1, hx4, hh4⟩ := bO_some hh3
 obtain ⟨a1_2, hx5, hh5⟩ := bO_some hh4
 obtain ⟨l1_3, hx6, hh6⟩ := bO_some hh5
 obtain ⟨l1_4, hx7, hh7⟩ := bO_some hh6
 obtain ⟨a1_5, hx8, hh8⟩ := bO_some hh7
 obtain ⟨a1_6, hx9, hh9⟩ := bO_some hh8
 have ex0 := asI_some hx0
 have ex1 := asSl_some hx1
 have ex2 := asSl_some hx2
 have ex3 := asB_some hx3
 have ex4 := asI_some hx4
 have ex5 := asI_some hx5
 have ex6 := asSl_some hx6
 have ex7 := asSl_some hx7
 have ex8 := asI_some hx8
 have ex9 := asI_some hx9
 subst ex0 ex1 ex2 ex3 ex4 ex5 ex6 ex7 ex8 ex9
 obtain ⟨N, t, h, hκ⟩ := callX_some hh9
 refine ⟨_, _, hκ, told_of_run pq okC_14 (fun _ _ _ => drawA_ok pq okC_14 hmix) (E := E_14) (fn := Try.f14) (body := B_14) (by kernel_rfl) (by kernel_rfl) (by kernel_rfl) (by rfl) (by exact Nat.le_of_ble_eq_true rfl) (fun k hk => ?_)⟩
 refine (w_14 a0_0 l0_1 l0_2 a1_0 a1_1 a1_2 l1_3 l1_4 a1_5 a1_6 k).trans ?_
 replace h : laws_FnExactCertApply.f N a0_0 l0_1 l0_2 a1_0 a1_1 a1_2 l1_3 l1_4 a1_5 a1_6 = some t := h
 unfold laws_FnExactCertApply.f at h
 refine call_h 0 h (fun t0 e234 h => ?_)
 refine br_ite h rfl (fun c235 h => ?_) (fun c235 h => ?_)
 ·cases h; exact hk
 refine call_h 0 h (fun t1 e236 h => ?_)
 refine br_ite h rfl (fun c237 h => ?_) (fun c237 h => ?_)
 ·cases h; exact hk
 refine andA_of ?_ ?_
 ·refine call_h N h (fun t2 e238 h => ?_)
  refine andA_of ?_ ?_
  ·refine call_h N h (fun t3 e239 h => ?_)
   refine andA_of ?_ ?_
   ·refine call_h N h (fun t4 e240 h => ?_)
    refine call_h N h (fun t5 e241 h => ?_)
    refine call_h N h (fun t6 e242 h => ?_)
    refine call_h N h (fun t7 e243 h => ?_)
    refine call_h N h (fun t8 e244 h => ?_)
    refine br_etn h (congrArg not dect) (fun c245 h => ?_) (fun c245 h => ?_)
    ·cases h; exact hk
    refine br_etn h rfl (fun c246 h => ?_) (fun c246 h => ?_)
    ·cases h; exact hk
    refine call_h N h (fun t9 e247 h => ?_)
    refine call_h N h (fun t10 e248 h => ?_)
    refine br_etn h (congrArg not dect) (fun c249 h => ?_) (fun c249 h => ?_)
    ·cases h; exact hk
    refine call_h N h (fun t11 e250 h => ?_)
    refine call_h N h (fun t12 e251 h => ?_)
    refine br_etn h (congrArg not dect) (fun c252 h => ?_) (fun c252 h => ?_)
    ·cases h; exact hk
    refine call_h N h (fun t13 e253 h => ?_)
    refine call_h N h (fun t14 e254 h => ?_)
    refine br_ite h rfl (fun c255 h => ?_) (fun c255 h => ?_)
    ·cases h; exact hk
    refine call_h N h (fun t15 e256 h => ?_)
    refine br_etn h (congrArg not dect) (fun c257 h => ?_) (fun c257 h => ?_)
    ·cases h; exact hk
    refine br_etn h rfl (fun c258 h => ?_) (fun c258 h => ?_)
    ·cases h; exact hk
    refine call_h N h (fun t16 e259 h => ?_)
    refine call_h N h (fun t17 e260 h => ?_)
    refine br_ite h rfl (fun c261 h => ?_) (fun c261 h => ?_)
    ·cases h; exact hk
    refine br_etn h rfl (fun c262 h => ?_) (fun c262 h => ?_)
    ·cases h; exact hk
    refine andA_of ?_ ?_
    ·refine call_h N h (fun t18 e263 h => ?_)
     refine andA_of ?_ ?_
     ·refine call_h N h (fun t19 e264 h => ?_)
      refine andA_of ?_ ?_
      ·refine call_h N h (fun t20 e265 h => ?_)
       refine call_h N h (fun t21 e266 h => ?_)
       refine br_etn h (congrArg not dect) (fun c267 h => ?_) (fun c267 h => ?_)
       ·cases h; exact hk
       refine br_etn h rfl (fun c268 h => ?_) (fun c268 h => ?_)
       ·cases h; exact hk
       refine call_h N h (fun t22 e269 h => ?_)
       refine br_ite h rfl (fun c270 h => ?_) (fun c270 h => ?_)
       ·cases h; exact hk
       refine br_itn h rfl (fun c271 h => ?_) (fun c271 h => ?_)
       ·cases h; exact hk
       cases h; exact hk
      refine call_h N h (fun t23 e272 h => ?_)
      refine call_h N h (fun t24 e273 h => ?_)
      refine br_etn h (congrArg not dect) (fun c274 h => ?_) (fun c274 h => ?_)
      ·cases h; exact hk
      refine br_etn h rfl (fun c275 h => ?_) (fun c275 h => ?_)
      ·cases h; exact hk
      refine call_h N h (fun t25 e276 h => ?_)
      refine br_ite h rfl (fun c277 h => ?_) (fun c277 h => ?_)
      ·cases h; exact hk
      refine br_itn h rfl (fun c278 h => ?_) (fun c278 h => ?_)
      ·cases h; exact hk
      cases h; exact hk
     refine call_h N h (fun t26 e279 h => ?_)
     refine call_h N h (fun t27 e280 h => ?_)
     refine call_h N h (fun t28 e281 h => ?_)
     refine br_etn h (congrArg not dect) (fun c282 h => ?_) (fun c282 h => ?_)
     ·cases h; exact hk
     refine br_etn h rfl (fun c283 h => ?_) (fun c283 h => ?_)
     ·cases h; exact hk
     refine call_h N h (fun t29 e284 h => ?_)
     refine br_ite h rfl (fun c285 h => ?_) (fun c285 h => ?_)
     ·cases h; exact hk
     refine br_itn h rfl (fun c286 h => ?_) (fun c286 h => ?_)
     ·cases h; exact hk
     cases h; exact hk
    refine call_h N h (fun t30 e287 h => ?_)
    refine call_h N h (fun t31 e288 h => ?_)
    refine call_h N h (fun t32 e289 h => ?_)
    refine call_h N h (fun t33 e290 h => ?_)
    refine br_etn h (congrArg not dect) (fun c291 h => ?_) (fun c291 h => ?_)
    ·cases h; exact hk
    refine br_etn h rfl (fun c292 h => ?_) (fun c292 h => ?_)
    ·cases h; exact hk
    refine call_h N h (fun t34 e293 h => ?_)
    refine br_ite h rfl (fun c294 h => ?_) (fun c294 h => ?_)
    ·cases h; exact hk
    refine br_itn h rfl (fun c295 h => ?_) (fun c295 h => ?_)
    ·cases h; exact hk
    cases h; exact hk
   refine call_h N h (fun t35 e296 h => ?_)
   refine call_h N h (fun t36 e297 h => ?_)
   refine call_h N h (fun t37 e298 h => ?_)
   refine call_h N h (fun t38 e299 h => ?_)
   refine call_h N h (fun t39 e300 h => ?_)
   refine br_etn h (congrArg not dect) (fun c301 h => ?_) (fun c301 h => ?_)
   ·cases h; exact hk
   refine br_etn h rfl (fun c302 h => ?_) (fun c302 h => ?_)
   ·cases h; exact hk
   refine call_h N h (fun t40 e303 h => ?_)
   refine call_h N h (fun t41 e304 h => ?_)
   refine br_etn h (congrArg not dect) (fun c305 h => ?_) (fun c305 h => ?_)
   ·cases h; exact hk
   refine call_h N h (fun t42 e306 h => ?_)
   refine call_h N h (fun t43 e307 h => ?_)
   refine br_etn h (congrArg not dect) (fun c308 h => ?_) (fun c308 h => ?_)
   ·cases h; exact hk
   refine call_h N h (fun t44 e309 h => ?_)
   refine call_h N h (fun t45 e310 h => ?_)
   refine br_ite h rfl (fun c311 h => ?_) (fun c311 h => ?_)
   ·cases h; exact hk
   refine call_h N h (fun t46 e312 h => ?_)
   refine br_etn h (congrArg not dect) (fun c313 h => ?_) (fun c313 h => ?_)
   ·cases h; exact hk
   refine br_etn h rfl (fun c314 h => ?_) (fun c314 h => ?_)
   ·cases h; exact hk
   refine call_h N h (fun t47 e315 h => ?_)
   refine call_h N h (fun t48 e316 h => ?_)
   refine br_ite h rfl (fun c317 h => ?_) (fun c317 h => ?_)
   ·cases h; exact hk
   refine br_etn h rfl (fun c318 h => ?_) (fun c318 h => ?_)
   ·cases h; exact hk
   refine andA_of ?_ ?_
   ·refine call_h N h (fun t49 e319 h => ?_)
    refine andA_of ?_ ?_
    ·refine call_h N h (fun t50 e320 h => ?_)
     refine andA_of ?_ ?_
     ·refine call_h N h (fun t51 e321 h => ?_)
      refine call_h N h (fun t52 e322 h => ?_)
      refine br_etn h (congrArg not dect) (fun c323 h => ?_) (fun c323 h => ?_)
      ·cases h; exact hk
      refine br_etn h rfl (fun c324 h => ?_) (fun c324 h => ?_)
      ·cases h; exact hk
      refine call_h N h (fun t53 e325 h => ?_)
      refine br_ite h rfl (fun c326 h => ?_) (fun c326 h => ?_)
      ·cases h; exact hk
      refine br_itn h rfl (fun c327 h => ?_) (fun c327 h => ?_)
      ·cases h; exact hk
      cases h; exact hk
     refine call_h N h (fun t54 e328 h => ?_)
     refine call_h N h (fun t55 e329 h => ?_)
     refine br_etn h (congrArg not dect) (fun c330 h => ?_) (fun c330 h => ?_)
     ·cases h; exact hk
     refine br_etn h rfl (fun c331 h => ?_) (fun c331 h => ?_)
     ·cases h; exact hk
     refine call_h N h (fun t56 e332 h => ?_)
     refine br_ite h rfl (fun c333 h => ?_) (fun c333 h => ?_)
     ·cases h; exact hk
     refine br_itn h rfl (fun c334 h => ?_) (fun c334 h => ?_)
     ·cases h; exact hk
     cases h; exact hk
    refine call_h N h (fun t57 e335 h => ?_)
    refine call_h N h (fun t58 e336 h => ?_)
    refine call_h N h (fun t59 e337 h => ?_)
    refine br_etn h (congrArg not dect) (fun c338 h => ?_) (fun c338 h => ?_)
    ·cases h; exact hk
    refine br_etn h rfl (fun c339 h => ?_) (fun c339 h => ?_)
    ·cases h; exact hk
    refine call_h N h (fun t60 e340 h => ?_)
    refine br_ite h rfl (fun c341 h => ?_) (fun c341 h => ?_)
    ·cases h; exact hk
    refine br_itn h rfl (fun c342 h => ?_) (fun c342 h => ?_)
    ·cases h; exact hk
    cases h; exact hk
   refine call_h N h (fun t61 e343 h => ?_)
   refine call_h N h (fun t62 e344 h => ?_)
   refine call_h N h (fun t63 e345 h => ?_)
   refine call_h N h (fun t64 e346 h => ?_)
   refine br_etn h (congrArg not dect) (fun c347 h => ?_) (fun c347 h => ?_)
   ·cases h; exact hk
   refine br_etn h rfl (fun c348 h => ?_) (fun c348 h => ?_)
   ·cases h; exact hk
   refine call_h N h (fun t65 e349 h => ?_)
   refine br_ite h rfl (fun c350 h => ?_) (fun c350 h => ?_)
   ·cases h; exact hk
   refine br_itn h rfl (fun c351 h => ?_) (fun c351 h => ?_)
   ·cases h; exact hk
   cases h; exact hk
  refine call_h N h (fun t66 e352 h => ?_)
  refine call_h N h (fun t67 e353 h => ?_)
  refine call_h N h (fun t68 e354 h => ?_)
  refine call_h N h (fun t69 e355 h => ?_)
  refine call_h N h (fun t70 e356 h => ?_)
  refine call_h N h (fun t71 e357 h => ?_)
  refine br_etn h (congrArg not dect) (fun c358 h => ?_) (fun c358 h => ?_)
  ·cases h; exact hk
  refine br_etn h rfl (fun c359 h => ?_) (fun c359 h => ?_)
  ·cases h; exact hk
  refine call_h N h (fun t72 e360 h => ?_)
  refine call_h N h (fun t73 e361 h => ?_)
  refine br_etn h (congrArg not dect) (fun c362 h => ?_) (fun c362 h => ?_)
  ·cases h; exact hk
  refine call_h N h (fun t74 e363 h => ?_)
  refine call_h N h (fun t75 e364 h => ?_)
  refine br_etn h (congrArg not dect) (fun c365 h => ?_) (fun c365 h => ?_)
  ·cases h; exact hk
  refine call_h N h (fun t76 e366 h => ?_)
  refine call_h N h (fun t77 e367 h => ?_)
  refine br_ite h rfl (fun c368 h => ?_) (fun c368 h => ?_)
  ·cases h; exact hk
  refine call_h N h (fun t78 e369 h => ?_)
  refine br_etn h (congrArg not dect) (fun c370 h => ?_) (fun c370 h => ?_)
  ·cases h; exact hk
  refine br_etn h rfl (fun c371 h => ?_) (fun c371 h => ?_)
  ·cases h; exact hk
  refine call_h N h (fun t79 e372 h => ?_)
  refine call_h N h (fun t80 e373 h => ?_)
  refine br_ite h rfl (fun c374 h => ?_) (fun c374 h => ?_)
  ·cases h; exact hk
  refine br_etn h rfl (fun c375 h => ?_) (fun c375 h => ?_)
  ·cases h; exact hk
  refine andA_of ?_ ?_
  ·refine call_h N h (fun t81 e376 h => ?_)
   refine andA_of ?_ ?_
   ·refine call_h N h (fun t82 e377 h => ?_)
    refine andA_of ?_ ?_
    ·refine call_h N h (fun t83 e378 h => ?_)
     refine call_h N h (fun t84 e379 h => ?_)
     refine br_etn h (congrArg not dect) (fun c380 h => ?_) (fun c380 h => ?_)
     ·cases h; exact hk
     refine br_etn h rfl (fun c381 h => ?_) (fun c381 h => ?_)
     ·cases h; exact hk
     refine call_h N h (fun t85 e382 h => ?_)
     refine br_ite h rfl (fun c383 h => ?_) (fun c383 h => ?_)
     ·cases h; exact hk
     refine br_itn h rfl (fun c384 h => ?_) (fun c384 h => ?_)
     ·cases h; exact hk
     cases h; exact hk
    refine call_h N h (fun t86 e385 h => ?_)
    refine call_h N h (fun t87 e386 h => ?_)
    refine br_etn h (congrArg not dect) (fun c387 h => ?_) (fun c387 h => ?_)
    ·cases h; exact hk
    refine br_etn h rfl (fun c388 h => ?_) (fun c388 h => ?_)
    ·cases h; exact hk
    refine call_h N h (fun t88 e389 h => ?_)
    refine br_ite h rfl (fun c390 h => ?_) (fun c390 h => ?_)
    ·cases h; exact hk
    refine br_itn h rfl (fun c391 h => ?_) (fun c391 h => ?_)
    ·cases h; exact hk
    cases h; exact hk
   refine call_h N h (fun t89 e392 h => ?_)
   refine call_h N h (fun t90 e393 h => ?_)
   refine call_h N h (fun t91 e394 h => ?_)
   refine br_etn h (congrArg not dect) (fun c395 h => ?_) (fun c395 h => ?_)
   ·cases h; exact hk
   refine br_etn h rfl (fun c396 h => ?_) (fun c396 h => ?_)
   ·cases h; exact hk
   refine call_h N h (fun t92 e397 h => ?_)
   refine br_ite h rfl (fun c398 h => ?_) (fun c398 h => ?_)
   ·cases h; exact hk
   refine br_itn h rfl (fun c399 h => ?_) (fun c399 h => ?_)
   ·cases h; exact hk
   cases h; exact hk
  refine call_h N h (fun t93 e400 h => ?_)
  refine call_h N h (fun t94 e401 h => ?_)
  refine call_h N h (fun t95 e402 h => ?_)
  refine call_h N h (fun t96 e403 h => ?_)
  refine br_etn h (congrArg not dect) (fun c404 h => ?_) (fun c404 h => ?_)
  ·cases h; exact hk
  refine br_etn h rfl (fun c405 h => ?_) (fun c405 h => ?_)
  ·cases h; exact hk
  refine call_h N h (fun t97 e406 h => ?_)
  refine br_ite h rfl (fun c407 h => ?_) (fun c407 h => ?_)
  ·cases h; exact hk
  refine br_itn h rfl (fun c408 h => ?_) (fun c408 h => ?_)
  ·cases h; exact hk
  cases h; exact hk
 refine call_h N h (fun t98 e409 h => ?_)
 refine call_h N h (fun t99 e410 h => ?_)
 refine call_h N h (fun t100 e411 h => ?_)
 refine call_h N h (fun t101 e412 h => ?_)
 refine call_h N h (fun t102 e413 h => ?_)
 refine call_h N h (fun t103 e414 h => ?_)
 refine call_h N h (fun t104 e415 h => ?_)
 refine br_etn h (congrArg not dect) (fun c416 h => ?_) (fun c416 h => ?_)
 ·cases h; exact hk
 refine br_etn h rfl (fun c417 h => ?_) (fun c417 h => ?_)
 ·cases h; exact hk
 refine call_h N h (fun t105 e418 h => ?_)
 refine call_h N h (fun t106 e419 h => ?_)
 refine br_etn h (congrArg not dect) (fun c420 h => ?_) (fun c420 h => ?_)
 ·cases h; exact hk
 refine call_h N h (fun t107 e421 h => ?_)
 refine call_h N h (fun t108 e422 h => ?_)
 refine br_etn h (congrArg not dect) (fun c423 h => ?_) (fun c423 h => ?_)
 ·cases h; exact hk
 refine call_h N h (fun t109 e424 h => ?_)
 refine call_h N h (fun t110 e425 h => ?_)
 refine br_ite h rfl (fun c426 h => ?_) (fun c426 h => ?_)
 ·cases h; exact hk
 refine call_h N h (fun t111 e427 h => ?_)
 refine br_etn h (congrArg not dect) (fun c428 h => ?_) (fun c428 h => ?_)
 ·cases h; exact hk
 refine br_etn h rfl (fun c429 h => ?_) (fun c429 h => ?_)
 ·cases h; exact hk
 refine call_h N h (fun t112 e430 h => ?_)
 refine call_h N h (fun t113 e431 h => ?_)
 refine br_ite h rfl (fun c432 h => ?_) (fun c432 h => ?_)
 ·cases h; exact hk
 refine br_etn h rfl (fun c433 h => ?_) (fun c433 h => ?_)
 ·cases h; exact hk
 refine andA_of ?_ ?_
 ·refine call_h N h (fun t114 e434 h => ?_)
  refine andA_of ?_ ?_
  ·refine call_h N h (fun t115 e435 h => ?_)
   refine andA_of ?_ ?_
   ·refine call_h N h (fun t116 e436 h => ?_)
    refine call_h N h (fun t117 e437 h => ?_)
    refine br_etn h (congrArg not dect) (fun c438 h => ?_) (fun c438 h => ?_)
    ·cases h; exact hk
    refine br_etn h rfl (fun c439 h => ?_) (fun c439 h => ?_)
    ·cases h; exact hk
    refine call_h N h (fun t118 e440 h => ?_)
    refine br_ite h rfl (fun c441 h => ?_) (fun c441 h => ?_)
    ·cases h; exact hk
    refine br_itn h rfl (fun c442 h => ?_) (fun c442 h => ?_)
    ·cases h; exact hk
    cases h; exact hk
   refine call_h N h (fun t119 e443 h => ?_)
   refine call_h N h (fun t120 e444 h => ?_)
   refine br_etn h (congrArg not dect) (fun c445 h => ?_) (fun c445 h => ?_)
   ·cases h; exact hk
   refine br_etn h rfl (fun c446 h => ?_) (fun c446 h => ?_)
   ·cases h; exact hk
   refine call_h N h (fun t121 e447 h => ?_)
   refine br_ite h rfl (fun c448 h => ?_) (fun c448 h => ?_)
   ·cases h; exact hk
   refine br_itn h rfl (fun c449 h => ?_) (fun c449 h => ?_)
   ·cases h; exact hk
   cases h; exact hk
  refine call_h N h (fun t122 e450 h => ?_)
  refine call_h N h (fun t123 e451 h => ?_)
  refine call_h N h (fun t124 e452 h => ?_)
  refine br_etn h (congrArg not dect) (fun c453 h => ?_) (fun c453 h => ?_)
  ·cases h; exact hk
  refine br_etn h rfl (fun c454 h => ?_) (fun c454 h => ?_)
  ·cases h; exact hk
  refine call_h N h (fun t125 e455 h => ?_)
  refine br_ite h rfl (fun c456 h => ?_) (fun c456 h => ?_)
  ·cases h; exact hk
  refine br_itn h rfl (fun c457 h => ?_) (fun c457 h => ?_)
  ·cases h; exact hk
  cases h; exact hk
 refine call_h N h (fun t126 e458 h => ?_)
 refine call_h N h (fun t127 e459 h => ?_)
 refine call_h N h (fun t128 e460 h => ?_)
 refine call_h N h (fun t129 e461 h => ?_)
 refine br_etn h (congrArg not dect) (fun c462 h => ?_) (fun c462 h => ?_)
 ·cases h; exact hk
 refine br_etn h rfl (fun c463 h => ?_) (fun c463 h => ?_)
 ·cases h; exact hk
 refine call_h N h (fun t130 e464 h => ?_)
 refine br_ite h rfl (fun c465 h => ?_) (fun c465 h => ?_)
 ·cases h; exact hk
 refine br_itn h rfl (fun c466 h => ?_) (fun c466 h => ?_)
 ·cases h; exact hk
 cases h; exact hk
end Go.Proofs.Ytkkmhlfpombgfaa.PFnExactCertApply