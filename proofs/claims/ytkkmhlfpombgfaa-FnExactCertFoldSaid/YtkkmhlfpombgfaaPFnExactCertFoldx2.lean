/- The machine's texts of FnExactCertFold (links). Conditions: none. -/
import Derived.Test.YtkkmhlfpombgfaaPFnExactCertFoldx1
set_option linter.unusedVariables false
set_option linter.unusedSimpArgs false
set_option maxRecDepth 100000
set_option maxHeartbeats 4000000
namespace Go.Proofs.Ytkkmhlfpombgfaa.PFnExactCertFold
open Go.RowKit Go.Proofs.YtkkmhlfpombgfaaW.PrintWords Go.Proofs.YtkkmhlfpombgfaaW.PrintLast Go.Proofs.YtkkmhlfpombgfaaW.PrintMore
open Go Go.Proofs Am
noncomputable def C_80 : Ctr tau Unit := ctr0
noncomputable def D_80 : Drw tau := drawA E_80 C_80
theorem okC_80 : CtrOk Try.prog TT pnT C_80 := ctr0_ok
theorem mC_80 : CtrMono C_80 := ctr0_mono
theorem mD_80 : DrMono D_80 := drawA_mono mC_80
noncomputable def B_80 : Code := Try.f80.body.getD .skip
theorem mc_80 (args : List (AV tau)) (m : Mem tau) (k k' : AV tau → Mem tau → Option Unit) (hk : ∀ av m, k av m = some () → k' av m = some ()) (h : c_80 args m k = some ()) : c_80 args m k' = some () := by
 unfold c_80 at h ⊢
 split at h
 · repeat' first | exact callX_mono (fun _ h => hk _ _ h) h | refine bO_mono (fun _ h => ?_) h
 · cases h
noncomputable def K_80_0 (k : AV tau → Mem tau → Option Unit) : Kon tau := (kBlock 0 (kS E_80 C_80 D_80 (codeP B_80 [1, 1, 1]) (kEnd E_80 Try.f80 k)))
def st_80_0 (x0 : (List S39)) (x1 : (List S39)) (x2 : Int) (x3 : Int) : St tau := ⟨tmL 26 0 [(0, .sl 39 x0), (1, .sl 39 x1), (12, .int .i64 x2), (13, .int .i64 x3)], ⟨[], []⟩⟩
noncomputable def LP_80_0 (k : AV tau → Mem tau → Option Unit) (x0 : (List S39)) (x1 : (List S39)) (x2 : Int) (x3 : Int) : Option Unit := loopA E_80 (codeA E_80 C_80 D_80 (codeP B_80 [1, 1, 0, 1, 0, 0])) (codeP B_80 [1, 1, 0, 1, 0, 0]) (K_80_0 k) (st_80_0 x0 x1 x2 x3)
theorem w_80_0 (k : AV tau → Mem tau → Option Unit) (x0 : (List S39)) (x1 : (List S39)) (x2 : Int) (x3 : Int) : codeA E_80 C_80 D_80 (codeP B_80 [1, 1, 0, 1, 0, 0]) (kL E_80 C_80 D_80 (codeP B_80 [1, 1, 0, 1, 0, 0]) (K_80_0 k)) (st_80_0 x0 x1 x2 x3) = (brA (decide (x3 < x2)) (brA (decide ((0 : Int) ≤ x3)) (brA (decide (x3 < ((x0.length : Nat) : Int))) (brA (decide ((0 : Int) ≤ x3)) (brA (decide (x3 < ((x1.length : Nat) : Int))) (brA (!(((rd_T39 x0 x3).f0 == (rd_T39 x1 x3).f0) && ((rd_T39 x0 x3).f1 == (rd_T39 x1 x3).f1))) (k (.bool false) ⟨[], []⟩) (LP_80_0 k x0 x1 x2 (wrap64 (x3 + (1 : Int))))) (none)) (none)) (none)) (none)) (k (.bool true) ⟨[], []⟩) : Option Unit) := by
 simp only [← wrapA_i64]
 kernel_rfl
theorem w_80 (l0 : List S39) (l1 : List S39) (k : AV tau → Mem tau → Option Unit) : fnA E_80 C_80 D_80 Try.f80 B_80 [.sl 39 l0, .sl 39 l1] ⟨[], []⟩ k = (brA (!(decide (((l0.length : Nat) : Int) = ((l1.length : Nat) : Int)))) (k (.bool false) ⟨[], []⟩) (LP_80_0 k l0 l1 ((l0.length : Nat) : Int) (0 : Int)) : Option Unit) := by kernel_rfl
def S_80_0 (N : Nat) : Prop := ∀ (k : AV tau → Mem tau → Option Unit) (x0 : (List S39)) (x1 : (List S39)) (x2 : Int) (x3 : Int) (r : Bool), impl_same_impl_Read.l0 N (x0) (x1) (x2) (x3) = some r → k (.bool (r)) ⟨[], []⟩ = some () → LP_80_0 k x0 x1 x2 x3 = some ()
theorem L_80 (N : Nat) : S_80_0 N := by
 induction N using Nat.strongRecOn with | _ N0 ih =>
 skip
 intro k x0 x1 x2 x3 r h hk
 rcases N0 with _ | N
 · cases h
 first | rw [impl_same_impl_Read.l0] at h | simp only [impl_same_impl_Read.l0] at h | (unfold impl_same_impl_Read.l0 at h; dsimp only at h)
 refine loop_fold mC_80 mD_80 ?_
 refine (w_80_0 k x0 x1 x2 x3).trans ?_
 refine br_eti h rfl (fun c13 h => ?_) (fun c13 h => ?_)
 ·cases h; exact hk
 refine br_g h rfl (fun c14 h => ?_)
 refine br_g h rfl (fun c15 h => ?_)
 refine br_t (by first | (simp [c14]; done) | (simp; omega) | (simp only [List.length_append, List.length_cons, List.length_nil, List.length_take, List.length_drop] at c15 ⊢; simp; omega) | (simp only [List.length_append, List.length_cons, List.length_nil, List.length_take, List.length_drop] at c15; simp; omega) | (simp_all; done)) ?_
 refine br_g h rfl (fun c16 h => ?_)
 refine br_ite h (by first | rfl | exact dect | exact (congrArg not dect) | (simp; done) | (simp [beqI]; done) | (simp; omega)) (fun c17 h => ?_) (fun c17 h => ?_)
 ·cases h; exact hk
 exact (ih N (by omega)) _ _ _ _ _ _ h hk
theorem okc_80 (args : List (AV tau)) (m : Mem tau) (κ : AV tau → Mem tau → Option Unit) (hh : c_80 args m κ = some ()) : ∃ av m1, κ av m1 = some () ∧ ToldA Try.prog TT (pnT 80) 80 args m av m1 := by
 obtain ⟨bx_, rw_⟩ := m
 unfold c_80 at hh
 simp only at hh
 split at hh
 case h_2 => cases hh
 rename_i b0 b1
 obtain ⟨l0, hx0, hh0⟩ := bO_some hh
 obtain ⟨l1, hx1, hh1⟩ := bO_some hh0
 have ex0 := asSl_some hx0
 have ex1 := asSl_some hx1
 subst ex0 ex1
 obtain ⟨N, t, h, hκ⟩ := callX_some hh1
 refine ⟨_, _, hκ, told_of_run pq okC_80 (fun _ _ _ => drawA_ok pq okC_80 hmix) (E := E_80) (fn := Try.f80) (body := B_80) (by kernel_rfl) (by kernel_rfl) (by kernel_rfl) (by rfl) (by exact Nat.le_of_ble_eq_true rfl) (fun k hk => ?_)⟩
 refine (w_80 l0 l1 k).trans ?_
 replace h : impl_same_impl_Read.f N l0 l1 = some t := h
 unfold impl_same_impl_Read.f at h
 refine br_etn h rfl (fun c18 h => ?_) (fun c18 h => ?_)
 ·cases h; exact hk
 exact (L_80 N) _ _ _ _ _ _ h hk
noncomputable def C_81 : Ctr tau Unit := ctrS 80 c_80 C_80
noncomputable def D_81 : Drw tau := drawA E_81 C_81
theorem okC_81 : CtrOk Try.prog TT pnT C_81 := ctrS_ok okC_80 okc_80
theorem mC_81 : CtrMono C_81 := ctrS_mono mC_80 mc_80
theorem mD_81 : DrMono D_81 := drawA_mono mC_81
noncomputable def B_81 : Code := Try.f81.body.getD .skip
theorem mc_81 (args : List (AV tau)) (m : Mem tau) (k k' : AV tau → Mem tau → Option Unit) (hk : ∀ av m, k av m = some () → k' av m = some ()) (h : c_81 args m k = some ()) : c_81 args m k' = some () := by
 unfold c_81 at h ⊢
 split at h
 · repeat' first | exact callX_mono (fun _ h => hk _ _ h) h | refine bO_mono (fun _ h => ?_) h
 · cases h
noncomputable def K_81_0 (k : AV tau → Mem tau → Option Unit) : Kon tau := (kBlock 0 (kS E_81 C_81 D_81 (codeP B_81 [1, 1, 1]) (kEnd E_81 Try.f81 k)))
def st_81_0 (x0 : (List S82)) (x1 : (List S82)) (x2 : Int) (x3 : Int) : St tau := ⟨tmL 26 0 [(0, .sl 82 x0), (1, .sl 82 x1), (12, .int .i64 x2), (13, .int .i64 x3)], ⟨[], []⟩⟩
noncomputable def LP_81_0 (k : AV tau → Mem tau → Option Unit) (x0 : (List S82)) (x1 : (List S82)) (x2 : Int) (x3 : Int) : Option Unit := loopA E_81 (codeA E_81 C_81 D_81 (codeP B_81 [1, 1, 0, 1, 0, 0])) (codeP B_81 [1, 1, 0, 1, 0, 0]) (K_81_0 k) (st_81_0 x0 x1 x2 x3)
theorem w_81_0 (k : AV tau → Mem tau → Option Unit) (x0 : (List S82)) (x1 : (List S82)) (x2 : Int) (x3 : Int) : codeA E_81 C_81 D_81 (codeP B_81 [1, 1, 0, 1, 0, 0]) (kL E_81 C_81 D_81 (codeP B_81 [1, 1, 0, 1, 0, 0]) (K_81_0 k)) (st_81_0 x0 x1 x2 x3) = (brA (decide (x3 < x2)) (brA (decide ((0 : Int) ≤ x3)) (brA (decide (x3 < ((x0.length : Nat) : Int))) (brA (decide ((0 : Int) ≤ x3)) (brA (decide (x3 < ((x1.length : Nat) : Int))) (brA (!(((rd_T82 x0 x3).f0 == (rd_T82 x1 x3).f0) && ((rd_T82 x0 x3).f1 == (rd_T82 x1 x3).f1))) (k (.bool false) ⟨[], []⟩) (LP_81_0 k x0 x1 x2 (wrap64 (x3 + (1 : Int))))) (none)) (none)) (none)) (none)) (k (.bool true) ⟨[], []⟩) : Option Unit) := by
 simp only [← wrapA_i64]
 kernel_rfl
theorem w_81 (l0 : List S82) (l1 : List S82) (k : AV tau → Mem tau → Option Unit) : fnA E_81 C_81 D_81 Try.f81 B_81 [.sl 82 l0, .sl 82 l1] ⟨[], []⟩ k = (brA (!(decide (((l0.length : Nat) : Int) = ((l1.length : Nat) : Int)))) (k (.bool false) ⟨[], []⟩) (LP_81_0 k l0 l1 ((l0.length : Nat) : Int) (0 : Int)) : Option Unit) := by kernel_rfl
def S_81_0 (N : Nat) : Prop := ∀ (k : AV tau → Mem tau → Option Unit) (x0 : (List S82)) (x1 : (List S82)) (x2 : Int) (x3 : Int) (r : Bool), impl_same_impl_Put.l0 N (x0) (x1) (x2) (x3) = some r → k (.bool (r)) ⟨[], []⟩ = some () → LP_81_0 k x0 x1 x2 x3 = some ()
theorem L_81 (N : Nat) : S_81_0 N := by
 induction N using Nat.strongRecOn with | _ N0 ih =>
 skip
 intro k x0 x1 x2 x3 r h hk
 rcases N0 with _ | N
 · cases h
 first | rw [impl_same_impl_Put.l0] at h | simp only [impl_same_impl_Put.l0] at h | (unfold impl_same_impl_Put.l0 at h; dsimp only at h)
 refine loop_fold mC_81 mD_81 ?_
 refine (w_81_0 k x0 x1 x2 x3).trans ?_
 refine br_eti h rfl (fun c13 h => ?_) (fun c13 h => ?_)
 ·cases h; exact hk
 refine br_g h rfl (fun c14 h => ?_)
 refine br_g h rfl (fun c15 h => ?_)
 refine br_t (by first | (simp [c14]; done) | (simp; omega) | (simp only [List.length_append, List.length_cons, List.length_nil, List.length_take, List.length_drop] at c15 ⊢; simp; omega) | (simp only [List.length_append, List.length_cons, List.length_nil, List.length_take, List.length_drop] at c15; simp; omega) | (simp_all; done)) ?_
 refine br_g h rfl (fun c16 h => ?_)
 refine br_ite h (by first | rfl | exact dect | exact (congrArg not dect) | (simp; done) | (simp [beqI]; done) | (simp; omega)) (fun c17 h => ?_) (fun c17 h => ?_)
 ·cases h; exact hk
 exact (ih N (by omega)) _ _ _ _ _ _ h hk
theorem okc_81 (args : List (AV tau)) (m : Mem tau) (κ : AV tau → Mem tau → Option Unit) (hh : c_81 args m κ = some ()) : ∃ av m1, κ av m1 = some () ∧ ToldA Try.prog TT (pnT 81) 81 args m av m1 := by
 obtain ⟨bx_, rw_⟩ := m
 unfold c_81 at hh
 simp only at hh
 split at hh
 case h_2 => cases hh
 rename_i b0 b1
 obtain ⟨l0, hx0, hh0⟩ := bO_some hh
 obtain ⟨l1, hx1, hh1⟩ := bO_some hh0
 have ex0 := asSl_some hx0
 have ex1 := asSl_some hx1
 subst ex0 ex1
 obtain ⟨N, t, h, hκ⟩ := callX_some hh1
 refine ⟨_, _, hκ, told_of_run pq okC_81 (fun _ _ _ => drawA_ok pq okC_81 hmix) (E := E_81) (fn := Try.f81) (body := B_81) (by kernel_rfl) (by kernel_rfl) (by kernel_rfl) (by rfl) (by exact Nat.le_of_ble_eq_true rfl) (fun k hk => ?_)⟩
 refine (w_81 l0 l1 k).trans ?_
 replace h : impl_same_impl_Put.f N l0 l1 = some t := h
 unfold impl_same_impl_Put.f at h
 refine br_etn h rfl (fun c18 h => ?_) (fun c18 h => ?_)
 ·cases h; exact hk
 exact (L_81 N) _ _ _ _ _ _ h hk
noncomputable def C_18 : Ctr tau Unit := ctrS 81 c_81 C_81
noncomputable def D_18 : Drw tau := drawA E_18 C_18
theorem okC_18 : CtrOk Try.prog TT pnT C_18 := ctrS_ok okC_81 okc_81
theorem mC_18 : CtrMono C_18 := ctrS_mono mC_81 mc_81
theorem mD_18 : DrMono D_18 := drawA_mono mC_18
noncomputable def B_18 : Code := Try.f18.body.getD .skip
theorem mc_18 (args : List (AV tau)) (m : Mem tau) (k k' : AV tau → Mem tau → Option Unit) (hk : ∀ av m, k av m = some () → k' av m = some ()) (h : c_18 args m k = some ()) : c_18 args m k' = some () := by
 unfold c_18 at h ⊢
 split at h
 · repeat' first | exact callX_mono (fun _ h => hk _ _ h) h | refine bO_mono (fun _ h => ?_) h
 · cases h
theorem w_18 (l0_0 : List S39) (l0_1 : List S82) (a0_2 : Int) (a0_3 : Int) (l1_0 : List S39) (l1_1 : List S82) (a1_2 : Int) (a1_3 : Int) (k : AV tau → Mem tau → Option Unit) : fnA E_18 C_18 D_18 Try.f18 B_18 [.agg [.sl 39 l0_0, .sl 82 l0_1, .int .i64 a0_2, .int .i64 a0_3], .agg [.sl 39 l1_0, .sl 82 l1_1, .int .i64 a1_2, .int .i64 a1_3]] ⟨[], []⟩ k = (callX (fun n => impl_same_impl_Read.f n l0_0 l1_0) fun t0 => brA t0 (callX (fun n => impl_same_impl_Put.f n l0_1 l1_1) fun t1 => brA t1 (brA (decide (a0_2 = a1_2)) (k (.bool (decide (a0_3 = a1_3))) ⟨[], []⟩) (k (.bool false) ⟨[], []⟩)) (k (.bool false) ⟨[], []⟩)) (k (.bool false) ⟨[], []⟩) : Option Unit) := by kernel_rfl
theorem okc_18 (args : List (AV tau)) (m : Mem tau) (κ : AV tau → Mem tau → Option Unit) (hh : c_18 args m κ = some ()) : ∃ av m1, κ av m1 = some () ∧ ToldA Try.prog TT (pnT 18) 18 args m av m1 := by
 obtain ⟨bx_, rw_⟩ := m
 unfold c_18 at hh
 simp only at hh
 split at hh
 case h_2 => cases hh
 rename_i b0 b1 b2 b3 b4 b5 b6 b7
 obtain ⟨l0_0, hx0, hh0⟩ := bO_some hh
 obtain ⟨l0_1, hx1, hh1⟩ := bO_some hh0
 obtain ⟨a0_2, hx2, hh2⟩ := bO_some hh1
 obtain ⟨a0_3, hx3, hh3⟩ := bO_some hh2
 obtain ⟨l1_0, hx4, hh4⟩ := bO_some hh3
 obtain ⟨l1_1, hx5, hh5⟩ := bO_some hh4
 obtain ⟨a1_2, hx6, hh6⟩ := bO_some hh5
 obtain ⟨a1_3, hx7, hh7⟩ := bO_some hh6
 have ex0 := asSl_some hx0
 have ex1 := asSl_some hx1
 have ex2 := asI_some hx2
 have ex3 := asI_some hx3
 have ex4 := asSl_some hx4
 have ex5 := asSl_some hx5
 have ex6 := asI_some hx6
 have ex7 := asI_some hx7
 subst ex0 ex1 ex2 ex3 ex4 ex5 ex6 ex7
 obtain ⟨N, t, h, hκ⟩ := callX_some hh7
 refine ⟨_, _, hκ, told_of_run pq okC_18 (fun _ _ _ => drawA_ok pq okC_18 hmix) (E := E_18) (fn := Try.f18) (body := B_18) (by kernel_rfl) (by kernel_rfl) (by kernel_rfl) (by rfl) (by exact Nat.le_of_ble_eq_true rfl) (fun k hk => ?_)⟩
 refine (w_18 l0_0 l0_1 a0_2 a0_3 l1_0 l1_1 a1_2 a1_3 k).trans ?_
 replace h : impl_ExecSame.f N l0_0 l0_1 a0_2 a0_3 l1_0 l1_1 a1_2 a1_3 = some t := h
 unfold impl_ExecSame.f at h
 refine call_h N h (fun t0 e6 h => ?_)
 refine br_eti h dect (fun c7 h => ?_) (fun c7 h => ?_)
 ·cases h; exact hk
 refine call_h N h (fun t1 e8 h => ?_)
 refine br_eti h dect (fun c9 h => ?_) (fun c9 h => ?_)
 ·cases h; exact hk
 refine br_eti h rfl (fun c10 h => ?_) (fun c10 h => ?_)
 ·cases h; exact hk
 cases h; exact hk
noncomputable def C_57 : Ctr tau Unit := ctrS 18 c_18 C_18
noncomputable def D_57 : Drw tau := drawA E_57 C_57
theorem okC_57 : CtrOk Try.prog TT pnT C_57 := ctrS_ok okC_18 okc_18
theorem mC_57 : CtrMono C_57 := ctrS_mono mC_18 mc_18
theorem mD_57 : DrMono D_57 := drawA_mono mC_57
noncomputable def B_57 : Code := Try.f57.body.getD .skip
theorem mc_57 (args : List (AV tau)) (m : Mem tau) (k k' : AV tau → Mem tau → Option Unit) (hk : ∀ av m, k av m = some () → k' av m = some ()) (h : c_57 args m k = some ()) : c_57 args m k' = some () := by
 unfold c_57 at h ⊢
 split at h
 · repeat' first | exact callX_mono (fun _ h => hk _ _ h) h | refine bO_mono (fun _ h => ?_) h
 · cases h
theorem w_57 (a0_0 : Bool) (a0_1 : Int) (a0_2 : Int) (l0_3 : List S39) (l0_4 : List S82) (a0_5 : Int) (a0_6 : Int) (a1_0 : Bool) (a1_1 : Int) (a1_2 : Int) (l1_3 : List S39) (l1_4 : List S82) (a1_5 : Int) (a1_6 : Int) (k : AV tau → Mem tau → Option Unit) : fnA E_57 C_57 D_57 Try.f57 B_57 [.agg [.bool a0_0, .int .i64 a0_1, .int .i64 a0_2, .sl 39 l0_3, .sl 82 l0_4, .int .i64 a0_5, .int .i64 a0_6], .agg [.bool a1_0, .int .i64 a1_1, .int .i64 a1_2, .sl 39 l1_3, .sl 82 l1_4, .int .i64 a1_5, .int .i64 a1_6]] ⟨[], []⟩ k = (brA (a0_0 == a1_0) (brA ((a0_1 == a1_1) && (a0_2 == a1_2)) (callX (fun n => impl_ExecSame.f n l0_3 l0_4 a0_5 a0_6 l1_3 l1_4 a1_5 a1_6) fun t0 => k (.bool t0) ⟨[], []⟩) (k (.bool false) ⟨[], []⟩)) (k (.bool false) ⟨[], []⟩) : Option Unit) := by kernel_rfl
theorem okc_57 (args : List (AV tau)) (m : Mem tau) (κ : AV tau → Mem tau → Option Unit) (hh : c_57 args m κ = some ()) : ∃ av m1, κ av m1 = some () ∧ ToldA Try.prog TT (pnT 57) 57 args m av m1 := by
 obtain ⟨bx_, rw_⟩ := m
 unfold c_57 at hh
 simp only at hh
 split at hh
 case h_2 => cases hh
 rename_i b0 b1 b2 b3 b4 b5 b6 b7 b8 b9 b10 b11 b12 b13
 obtain ⟨a0_0, hx0, hh0⟩ := bO_some hh
 obtain ⟨a0_1, hx1, hh1⟩ := bO_some hh0
 obtain ⟨a0_2, hx2, hh2⟩ := bO_some hh1
 obtain ⟨l0_3, hx3, hh3⟩ := bO_some hh2
 obtain ⟨l0_4, hx4, hh4⟩ := bO_some hh3
 obtain ⟨a0_5, hx5, hh5⟩ := bO_some hh4
 obtain ⟨a0_6, hx6, hh6⟩ := bO_some hh5
 obtain ⟨a1_0, hx7, hh7⟩ := bO_some hh6
 obtain ⟨a1_1, hx8, hh8⟩ := bO_some hh7
 obtain ⟨a1_2, hx9, hh9⟩ := bO_some hh8
 obtain ⟨l1_3, hx10, hh10⟩ := bO_some hh9
 obtain ⟨l1_4, hx11, hh11⟩ := bO_some hh10
 obtain ⟨a1_5, hx12, hh12⟩ := bO_some hh11
 obtain ⟨a1_6, hx13, hh13⟩ := bO_some hh12
 have ex0 := asB_some hx0
 have ex1 := asI_some hx1
 have ex2 := asI_some hx2
 have ex3 := asSl_some hx3
 have ex4 := asSl_some hx4
 have ex5 := asI_some hx5
 have ex6 := asI_some hx6
 have ex7 := asB_some hx7
 have ex8 := asI_some hx8
 have ex9 := asI_some hx9
 have ex10 := asSl_some hx10
 have ex11 := asSl_some hx11
 have ex12 := asI_some hx12
 have ex13 := asI_some hx13
 subst ex0 ex1 ex2 ex3 ex4 ex5 ex6 ex7 ex8 ex9 ex10 ex11 ex12 ex13
 obtain ⟨N, t, h, hκ⟩ := callX_some hh13
 refine ⟨_, _, hκ, told_of_run pq okC_57 (fun _ _ _ => drawA_ok pq okC_57 hmix) (E := E_57) (fn := Try.f57) (body := B_57) (by kernel_rfl) (by kernel_rfl) (by kernel_rfl) (by rfl) (by exact Nat.le_of_ble_eq_true rfl) (fun k hk => ?_)⟩
 refine (w_57 a0_0 a0_1 a0_2 l0_3 l0_4 a0_5 a0_6 a1_0 a1_1 a1_2 l1_3 l1_4 a1_5 a1_6 k).trans ?_
 replace h : impl_CertLike.f N a0_0 a0_1 a0_2 l0_3 l0_4 a0_5 a0_6 a1_0 a1_1 a1_2 l1_3 l1_4 a1_5 a1_6 = some t := h
 unfold impl_CertLike.f at h
 refine br_eti h (by first | rfl | exact dect | exact (congrArg not dect) | (simp; done) | (simp [beqI]; done) | (simp; omega)) (fun c4 h => ?_) (fun c4 h => ?_)
 ·cases h; exact hk
 refine br_eti h (by first | rfl | exact dect | exact (congrArg not dect) | (simp; done) | (simp [beqI]; done) | (simp; omega)) (fun c5 h => ?_) (fun c5 h => ?_)
 ·cases h; exact hk
 refine call_h N h (fun t0 e6 h => ?_)
 cases h; exact hk
noncomputable def C_122 : Ctr tau Unit := ctrS 57 c_57 C_57
noncomputable def D_122 : Drw tau := drawA E_122 C_122
theorem okC_122 : CtrOk Try.prog TT pnT C_122 := ctrS_ok okC_57 okc_57
theorem mC_122 : CtrMono C_122 := ctrS_mono mC_57 mc_57
theorem mD_122 : DrMono D_122 := drawA_mono mC_122
noncomputable def B_122 : Code := Try.f122.body.getD .skip
theorem mc_122 (args : List (AV tau)) (m : Mem tau) (k k' : AV tau → Mem tau → Option Unit) (hk : ∀ av m, k av m = some () → k' av m = some ()) (h : c_122 args m k = some ()) : c_122 args m k' = some () := by
 unfold c_122 at h ⊢
 split at h
 · repeat' first | exact callX_mono (fun _ h => hk _ _ h) h | refine bO_mono (fun _ h => ?_) h
 · cases h
theorem w_122 (a0 : Int) (a1 : Int) (a2 : Int) (k : AV tau → Mem tau → Option Unit) : fnA E_122 C_122 D_122 Try.f122 B_122 [.int .i64 a0, .int .i64 a1, .int .i64 a2] ⟨[], []⟩ k = (brA (decide (a0 ≥ a1)) (k (.bool (decide (a0 ≤ a2))) ⟨[], []⟩) (k (.bool false) ⟨[], []⟩) : Option Unit) := by kernel_rfl
theorem okc_122 (args : List (AV tau)) (m : Mem tau) (κ : AV tau → Mem tau → Option Unit) (hh : c_122 args m κ = some ()) : ∃ av m1, κ av m1 = some () ∧ ToldA Try.prog TT (pnT 122) 122 args m av m1 := by
 obtain ⟨bx_, rw_⟩ := m
 unfold c_122 at hh
 simp only at hh
 split at hh
 case h_2 => cases hh
 rename_i b0 b1 b2
 obtain ⟨a0, hx0, hh0⟩ := bO_some hh
 obtain ⟨a1, hx1, hh1⟩ := bO_some hh0
 obtain ⟨a2, hx2, hh2⟩ := bO_some hh1
 have ex0 := asI_some hx0
 have ex1 := asI_some hx1
 have ex2 := asI_some hx2
 subst ex0 ex1 ex2
 obtain ⟨N, t, h, hκ⟩ := callX_some hh2
 refine ⟨_, _, hκ, told_of_run pq okC_122 (fun _ _ _ => drawA_ok pq okC_122 hmix) (E := E_122) (fn := Try.f122) (body := B_122) (by kernel_rfl) (by kernel_rfl) (by kernel_rfl) (by rfl) (by exact Nat.le_of_ble_eq_true rfl) (fun k hk => ?_)⟩
 refine (w_122 a0 a1 a2 k).trans ?_
 replace h : impl_in.f a0 a1 a2 = some t := h
 unfold impl_in.f at h
 refine br_eti h rfl (fun c2 h => ?_) (fun c2 h => ?_)
 ·cases h; exact hk
 cases h; exact hk
noncomputable def C_83 : Ctr tau Unit := ctrS 122 c_122 C_122
noncomputable def D_83 : Drw tau := drawA E_83 C_83
theorem okC_83 : CtrOk Try.prog TT pnT C_83 := ctrS_ok okC_122 okc_122
theorem mC_83 : CtrMono C_83 := ctrS_mono mC_122 mc_122
theorem mD_83 : DrMono D_83 := drawA_mono mC_83
noncomputable def B_83 : Code := Try.f83.body.getD .skip
theorem mc_83 (args : List (AV tau)) (m : Mem tau) (k k' : AV tau → Mem tau → Option Unit) (hk : ∀ av m, k av m = some () → k' av m = some ()) (h : c_83 args m k = some ()) : c_83 args m k' = some () := by
 unfold c_83 at h ⊢
 split at h
 · repeat' first | exact callX_mono (fun _ h => hk _ _ h) h | refine bO_mono (fun _ h => ?_) h
 · cases h
noncomputable def K_83_0 (k : AV tau → Mem tau → Option Unit) : Kon tau := (kBlock 0 (kS E_83 C_83 D_83 (codeP B_83 [1, 1, 1, 1]) (kEnd E_83 Try.f83 k)))
noncomputable def K_83_1 (k : AV tau → Mem tau → Option Unit) : Kon tau := (kBlock 2 (kS E_83 C_83 D_83 (codeP B_83 [1, 1, 1, 1, 1]) (kEnd E_83 Try.f83 k)))
def st_83_0 (x0 : (List S39)) (x1 : Int) (x2 : Int) (x3 : (List S39)) (x4 : (List S82)) (x5 : Int) (x6 : Int) (x7 : Bool) (x8 : Bool) (x9 : Bool) (x10 : Bool) (x11 : Bool) (x12 : Bool) (x13 : Bool) (x14 : Bool) : St tau := ⟨tmL 100 0 [(1, .ptr 0 0), (3, .ptr 1 0), (4, .ptr 2 0), (47, .sl 39 x0), (48, .int .i64 x1), (49, .int .i64 x2)], ⟨[some (26, [.sl 39 x3, .sl 82 x4, .int .i64 x5, .int .i64 x6]), some (173, [.bool x7, .bool x8, .bool x9, .bool x10]), some (173, [.bool x11, .bool x12, .bool x13, .bool x14])], []⟩⟩
noncomputable def LP_83_0 (k : AV tau → Mem tau → Option Unit) (x0 : (List S39)) (x1 : Int) (x2 : Int) (x3 : (List S39)) (x4 : (List S82)) (x5 : Int) (x6 : Int) (x7 : Bool) (x8 : Bool) (x9 : Bool) (x10 : Bool) (x11 : Bool) (x12 : Bool) (x13 : Bool) (x14 : Bool) : Option Unit := loopA E_83 (codeA E_83 C_83 D_83 (codeP B_83 [1, 1, 1, 0, 1, 0, 0])) (codeP B_83 [1, 1, 1, 0, 1, 0, 0]) (K_83_0 k) (st_83_0 x0 x1 x2 x3 x4 x5 x6 x7 x8 x9 x10 x11 x12 x13 x14)
def st_83_1 (x0 : (List S82)) (x1 : Int) (x2 : Int) (x3 : Bool) (x4 : Bool) (x5 : Bool) (x6 : Bool) : St tau := ⟨tmL 100 0 [(4, .ptr 0 0), (74, .sl 82 x0), (75, .int .i64 x1), (76, .int .i64 x2)], ⟨[some (173, [.bool x3, .bool x4, .bool x5, .bool x6])], []⟩⟩
noncomputable def LP_83_1 (k : AV tau → Mem tau → Option Unit) (x0 : (List S82)) (x1 : Int) (x2 : Int) (x3 : Bool) (x4 : Bool) (x5 : Bool) (x6 : Bool) : Option Unit := loopA E_83 (codeA E_83 C_83 D_83 (codeP B_83 [1, 1, 1, 1, 0, 1, 0, 0])) (codeP B_83 [1, 1, 1, 1, 0, 1, 0, 0]) (K_83_1 k) (st_83_1 x0 x1 x2 x3 x4 x5 x6)
theorem w_83_0 (k : AV tau → Mem tau → Option Unit) (x0 : (List S39)) (x1 : Int) (x2 : Int) (x3 : (List S39)) (x4 : (List S82)) (x5 : Int) (x6 : Int) (x7 : Bool) (x8 : Bool) (x9 : Bool) (x10 : Bool) (x11 : Bool) (x12 : Bool) (x13 : Bool) (x14 : Bool) : codeA E_83 C_83 D_83 (codeP B_83 [1, 1, 1, 0, 1, 0, 0]) (kL E_83 C_83 D_83 (codeP B_83 [1, 1, 1, 0, 1, 0, 0]) (K_83_0 k)) (st_83_0 x0 x1 x2 x3 x4 x5 x6 x7 x8 x9 x10 x11 x12 x13 x14) = (brA (decide (x2 < x1)) (brA (decide ((0 : Int) ≤ x2)) (brA (decide (x2 < ((x0.length : Nat) : Int))) (callX (fun n => impl_in.f ((rd_T39 x0 x2).f0) (0 : Int) (3 : Int)) fun t2 => brA (!t2) (k (.bool false) ⟨[], []⟩) (brA (decide ((0 : Int) ≤ (rd_T39 x0 x2).f0)) (brA (decide ((rd_T39 x0 x2).f0 < (4 : Int))) (brA (rdOf false ([x7, x8, x9, x10] : List Bool) ((rd_T39 x0 x2).f0)) (k (.bool false) ⟨[], []⟩) (callX (fun n => impl_in.f ((rd_T39 x0 x2).f1) (0 : Int) (1000000 : Int)) fun t3 => brA (!t3) (k (.bool false) ⟨[], []⟩) (brA (decide ((0 : Int) ≤ (rd_T39 x0 x2).f0)) (brA (decide ((rd_T39 x0 x2).f0 < (4 : Int))) (LP_83_0 k x0 x1 (wrap64 (x2 + (1 : Int))) x3 x4 x5 x6 (if (rd_T39 x0 x2).f0 = (0 : Int) then true else x7) (if (rd_T39 x0 x2).f0 = (1 : Int) then true else x8) (if (rd_T39 x0 x2).f0 = (2 : Int) then true else x9) (if (rd_T39 x0 x2).f0 = (3 : Int) then true else x10) x11 x12 x13 x14) (none)) (none)))) (none)) (none))) (none)) (none)) (LP_83_1 k x4 ((x4.length : Nat) : Int) (0 : Int) x11 x12 x13 x14) : Option Unit) := by
 simp only [← wrapA_i64]
 kernel_rfl
theorem w_83_1 (k : AV tau → Mem tau → Option Unit) (x0 : (List S82)) (x1 : Int) (x2 : Int) (x3 : Bool) (x4 : Bool) (x5 : Bool) (x6 : Bool) : codeA E_83 C_83 D_83 (codeP B_83 [1, 1, 1, 1, 0, 1, 0, 0]) (kL E_83 C_83 D_83 (codeP B_83 [1, 1, 1, 1, 0, 1, 0, 0]) (K_83_1 k)) (st_83_1 x0 x1 x2 x3 x4 x5 x6) = (brA (decide (x2 < x1)) (brA (decide ((0 : Int) ≤ x2)) (brA (decide (x2 < ((x0.length : Nat) : Int))) (callX (fun n => impl_in.f ((rd_T82 x0 x2).f0) (0 : Int) (3 : Int)) fun t4 => brA (!t4) (k (.bool false) ⟨[], []⟩) (brA (decide ((0 : Int) ≤ (rd_T82 x0 x2).f0)) (brA (decide ((rd_T82 x0 x2).f0 < (4 : Int))) (brA (rdOf false ([x3, x4, x5, x6] : List Bool) ((rd_T82 x0 x2).f0)) (k (.bool false) ⟨[], []⟩) (callX (fun n => impl_in.f ((rd_T82 x0 x2).f1) (-(1000000 : Int)) (1000000 : Int)) fun t5 => brA (!t5) (k (.bool false) ⟨[], []⟩) (brA (decide ((0 : Int) ≤ (rd_T82 x0 x2).f0)) (brA (decide ((rd_T82 x0 x2).f0 < (4 : Int))) (LP_83_1 k x0 x1 (wrap64 (x2 + (1 : Int))) (if (rd_T82 x0 x2).f0 = (0 : Int) then true else x3) (if (rd_T82 x0 x2).f0 = (1 : Int) then true else x4) (if (rd_T82 x0 x2).f0 = (2 : Int) then true else x5) (if (rd_T82 x0 x2).f0 = (3 : Int) then true else x6)) (none)) (none)))) (none)) (none))) (none)) (none)) (k (.bool true) ⟨[], []⟩) : Option Unit) := by
 simp only [← wrapA_i64]
 kernel_rfl
theorem w_83 (l0_0 : List S39) (l0_1 : List S82) (a0_2 : Int) (a0_3 : Int) (k : AV tau → Mem tau → Option Unit) : fnA E_83 C_83 D_83 Try.f83 B_83 [.agg [.sl 39 l0_0, .sl 82 l0_1, .int .i64 a0_2, .int .i64 a0_3]] ⟨[], []⟩ k = (callX (fun n => impl_in.f a0_3 (0 : Int) (3 : Int)) fun t0 => brA (!t0) (k (.bool false) ⟨[], []⟩) (callX (fun n => impl_in.f a0_2 (-(1000000 : Int)) (1000000 : Int)) fun t1 => brA (!t1) (k (.bool false) ⟨[], []⟩) (brA (!(decide (a0_3 = (0 : Int)))) (brA (!(decide (a0_2 = (0 : Int)))) (k (.bool false) ⟨[], []⟩) (brA (decide (((l0_1.length : Nat) : Int) > (0 : Int))) (k (.bool false) ⟨[], []⟩) (brA (decide (a0_3 = (3 : Int))) (brA (decide (((l0_0.length : Nat) : Int) > (0 : Int))) (k (.bool false) ⟨[], []⟩) (LP_83_0 k l0_0 ((l0_0.length : Nat) : Int) (0 : Int) l0_0 l0_1 a0_2 a0_3 false false false false false false false false)) (LP_83_0 k l0_0 ((l0_0.length : Nat) : Int) (0 : Int) l0_0 l0_1 a0_2 a0_3 false false false false false false false false)))) (brA (decide (a0_3 = (3 : Int))) (brA (decide (((l0_0.length : Nat) : Int) > (0 : Int))) (k (.bool false) ⟨[], []⟩) (LP_83_0 k l0_0 ((l0_0.length : Nat) : Int) (0 : Int) l0_0 l0_1 a0_2 a0_3 false false false false false false false false)) (LP_83_0 k l0_0 ((l0_0.length : Nat) : Int) (0 : Int) l0_0 l0_1 a0_2 a0_3 false false false false false false false false)))) : Option Unit) := by kernel_rfl
def S_83_0 (N : Nat) : Prop := ∀ (k : AV tau → Mem tau → Option Unit) (x0 : (List S39)) (x1 : Int) (x2 : Int) (x3 : (List S39)) (x4 : (List S82)) (x5 : Int) (x6 : Int) (x7 : Bool) (x8 : Bool) (x9 : Bool) (x10 : Bool) (x11 : Bool) (x12 : Bool) (x13 : Bool) (x14 : Bool) (r : Bool), impl_ExecOk.l0 N (x0) (x1) (x2) (x3) (x4) (x5) (x6) (x7) (x8) (x9) (x10) (x11) (x12) (x13) (x14) = some r → k (.bool (r)) ⟨[], []⟩ = some () → LP_83_0 k x0 x1 x2 x3 x4 x5 x6 x7 x8 x9 x10 x11 x12 x13 x14 = some ()
def S_83_1 (N : Nat) : Prop := ∀ (k : AV tau → Mem tau → Option Unit) (x0 : (List S82)) (x1 : Int) (x2 : Int) (x3 : Bool) (x4 : Bool) (x5 : Bool) (x6 : Bool) (r : Bool), impl_ExecOk.l1 N (x0) (x1) (x2) (x3) (x4) (x5) (x6) = some r → k (.bool (r)) ⟨[], []⟩ = some () → LP_83_1 k x0 x1 x2 x3 x4 x5 x6 = some ()
theorem L_83 (N : Nat) : S_83_0 N ∧ S_83_1 N := by
 induction N using Nat.strongRecOn with | _ N0 ih =>
 refine ⟨?_, ?_⟩
 ·intro k x0 x1 x2 x3 x4 x5 x6 x7 x8 x9 x10 x11 x12 x13 x14 r h hk
  rcases N0 with _ | N
  · cases h
  first | rw [impl_ExecOk.l0] at h | simp only [impl_ExecOk.l0] at h | (unfold impl_ExecOk.l0 at h; dsimp only at h)
  refine loop_fold mC_83 mD_83 ?_
  refine (w_83_0 k x0 x1 x2 x3 x4 x5 x6 x7 x8 x9 x10 x11 x12 x13 x14).trans ?_
  refine br_eti h rfl (fun c63 h => ?_) (fun c63 h => ?_)
  ·exact (ih N (by omega)).2 _ _ _ _ _ _ _ _ _ h hk
  refine br_g h rfl (fun c64 h => ?_)
  refine br_g h rfl (fun c65 h => ?_)
  refine call_h 0 h (fun t2 e66 h => ?_)
  refine br_etn h (congrArg not dect) (fun c67 h => ?_) (fun c67 h => ?_)
  ·cases h; exact hk
  refine br_g h rfl (fun c68 h => ?_)
  refine br_g h rfl (fun c69 h => ?_)
  refine br_ite h dect (fun c70 h => ?_) (fun c70 h => ?_)
  ·cases h; exact hk
  refine call_h 0 h (fun t3 e71 h => ?_)
  refine br_etn h (congrArg not dect) (fun c72 h => ?_) (fun c72 h => ?_)
  ·cases h; exact hk
  refine br_t (by first | (simp [c68]; done) | (simp; omega) | (simp only [List.length_append, List.length_cons, List.length_nil, List.length_take, List.length_drop] at c65 ⊢; simp; omega) | (simp only [List.length_append, List.length_cons, List.length_nil, List.length_take, List.length_drop] at c65; simp; omega) | (simp_all; done)) ?_
  refine br_t (by first | (simp [c69]; done) | (simp; omega) | (simp only [List.length_append, List.length_cons, List.length_nil, List.length_take, List.length_drop] at c65 ⊢; simp; omega) | (simp only [List.length_append, List.length_cons, List.length_nil, List.length_take, List.length_drop] at c65; simp; omega) | (simp_all; done)) ?_
  exact (ih N (by omega)).1 _ _ _ _ _ _ _ _ _ _ _ _ _ _ _ _ _ h hk
 ·intro k x0 x1 x2 x3 x4 x5 x6 r h hk
  rcases N0 with _ | N
  · cases h
  first | rw [impl_ExecOk.l1] at h | simp only [impl_ExecOk.l1] at h | (unfold impl_ExecOk.l1 at h; dsimp only at h)
  refine loop_fold mC_83 mD_83 ?_
  refine (w_83_1 k x0 x1 x2 x3 x4 x5 x6).trans ?_
  refine br_eti h rfl (fun c73 h => ?_) (fun c73 h => ?_)
  ·cases h; exact hk
  refine br_g h rfl (fun c74 h => ?_)
  refine br_g h rfl (fun c75 h => ?_)
  refine call_h 0 h (fun t4 e76 h => ?_)
  refine br_etn h (congrArg not dect) (fun c77 h => ?_) (fun c77 h => ?_)
  ·cases h; exact hk
  refine br_g h rfl (fun c78 h => ?_)
  refine br_g h rfl (fun c79 h => ?_)
  refine br_ite h dect (fun c80 h => ?_) (fun c80 h => ?_)
  ·cases h; exact hk
  refine call_h 0 h (fun t5 e81 h => ?_)
  refine br_etn h (congrArg not dect) (fun c82 h => ?_) (fun c82 h => ?_)
  ·cases h; exact hk
  refine br_t (by first | (simp [c78]; done) | (simp; omega) | (simp only [List.length_append, List.length_cons, List.length_nil, List.length_take, List.length_drop] at c75 ⊢; simp; omega) | (simp only [List.length_append, List.length_cons, List.length_nil, List.length_take, List.length_drop] at c75; simp; omega) | (simp_all; done)) ?_
  refine br_t (by first | (simp [c79]; done) | (simp; omega) | (simp only [List.length_append, List.length_cons, List.length_nil, List.length_take, List.length_drop] at c75 ⊢; simp; omega) | (simp only [List.length_append, List.length_cons, List.length_nil, List.length_take, List.length_drop] at c75; simp; omega) | (simp_all; done)) ?_
  exact (ih N (by omega)).2 _ _ _ _ _ _ _ _ _ h hk
theorem okc_83 (args : List (AV tau)) (m : Mem tau) (κ : AV tau → Mem tau → Option Unit) (hh : c_83 args m κ = some ()) : ∃ av m1, κ av m1 = some () ∧ ToldA Try.prog TT (pnT 83) 83 args m av m1 := by
 obtain ⟨bx_, rw_⟩ := m
 unfold c_83 at hh
 simp only at hh
 split at hh
 case h_2 => cases hh
 rename_i b0 b1 b2 b3
 obtain ⟨l0_0, hx0, hh0⟩ := bO_some hh
 obtain ⟨l0_1, hx1, hh1⟩ := bO_some hh0
 obtain ⟨a0_2, hx2, hh2⟩ := bO_some hh1
 obtain ⟨a0_3, hx3, hh3⟩ := bO_some hh2
 have ex0 := asSl_some hx0
 have ex1 := asSl_some hx1
 have ex2 := asI_some hx2
 have ex3 := asI_some hx3
 subst ex0 ex1 ex2 ex3
 obtain ⟨N, t, h, hκ⟩ := callX_some hh3
 refine ⟨_, _, hκ, told_of_run pq okC_83 (fun _ _ _ => drawA_ok pq okC_83 hmix) (E := E_83) (fn := Try.f83) (body := B_83) (by kernel_rfl) (by kernel_rfl) (by kernel_rfl) (by rfl) (by exact Nat.le_of_ble_eq_true rfl) (fun k hk => ?_)⟩
 refine (w_83 l0_0 l0_1 a0_2 a0_3 k).trans ?_
 replace h : impl_ExecOk.f N l0_0 l0_1 a0_2 a0_3 = some t := h
 unfold impl_ExecOk.f at h
 refine call_h 0 h (fun t0 e83 h => ?_)
 refine br_etn h (congrArg not dect) (fun c84 h => ?_) (fun c84 h => ?_)
 ·rcases N with _ | N
  · cases h
  first | rw [impl_ExecOk.j0] at h | simp only [impl_ExecOk.j0] at h | (unfold impl_ExecOk.j0 at h; dsimp only at h)
  replace h := ite_t h (by first | assumption | omega | simp_all)
  cases h; exact hk
 refine call_h 0 h (fun t1 e85 h => ?_)
 refine br_etn h (congrArg not dect) (fun c86 h => ?_) (fun c86 h => ?_)
 ·rcases N with _ | N
  · cases h
  first | rw [impl_ExecOk.j0] at h | simp only [impl_ExecOk.j0] at h | (unfold impl_ExecOk.j0 at h; dsimp only at h)
  replace h := ite_t h (by first | assumption | omega | simp_all)
  cases h; exact hk
 refine br_itn h rfl (fun c87 h => ?_) (fun c87 h => ?_)
 ·refine br_eti h rfl (fun c88 h => ?_) (fun c88 h => ?_)
  ·rcases N with _ | N
   · cases h
   first | rw [impl_ExecOk.j0] at h | simp only [impl_ExecOk.j0] at h | (unfold impl_ExecOk.j0 at h; dsimp only at h)
   replace h := ite_f h (by first | assumption | omega | simp_all)
   exact (L_83 N).1 _ _ _ _ _ _ _ _ _ _ _ _ _ _ _ _ _ h hk
  rcases N with _ | N
  · cases h
  first | rw [impl_ExecOk.j0] at h | simp only [impl_ExecOk.j0] at h | (unfold impl_ExecOk.j0 at h; dsimp only at h)
  refine br_ite h (by first | rfl | exact dect | exact (congrArg not dect) | (simp; done) | (simp [beqI]; done) | (simp; omega)) (fun c89 h => ?_) (fun c89 h => ?_)
  ·cases h; exact hk
  exact (L_83 N).1 _ _ _ _ _ _ _ _ _ _ _ _ _ _ _ _ _ h hk
 refine br_etn h rfl (fun c90 h => ?_) (fun c90 h => ?_)
 ·rcases N with _ | N
  · cases h
  first | rw [impl_ExecOk.j0] at h | simp only [impl_ExecOk.j0] at h | (unfold impl_ExecOk.j0 at h; dsimp only at h)
  replace h := ite_t h (by first | assumption | omega | simp_all)
  cases h; exact hk
 refine br_ite h rfl (fun c91 h => ?_) (fun c91 h => ?_)
 ·rcases N with _ | N
  · cases h
  first | rw [impl_ExecOk.j0] at h | simp only [impl_ExecOk.j0] at h | (unfold impl_ExecOk.j0 at h; dsimp only at h)
  replace h := ite_t h (by first | assumption | omega | simp_all)
  cases h; exact hk
 refine br_eti h rfl (fun c92 h => ?_) (fun c92 h => ?_)
 ·rcases N with _ | N
  · cases h
  first | rw [impl_ExecOk.j0] at h | simp only [impl_ExecOk.j0] at h | (unfold impl_ExecOk.j0 at h; dsimp only at h)
  replace h := ite_f h (by first | assumption | omega | simp_all)
  exact (L_83 N).1 _ _ _ _ _ _ _ _ _ _ _ _ _ _ _ _ _ h hk
 rcases N with _ | N
 · cases h
 first | rw [impl_ExecOk.j0] at h | simp only [impl_ExecOk.j0] at h | (unfold impl_ExecOk.j0 at h; dsimp only at h)
 refine br_ite h (by first | rfl | exact dect | exact (congrArg not dect) | (simp; done) | (simp [beqI]; done) | (simp; omega)) (fun c93 h => ?_) (fun c93 h => ?_)
 ·cases h; exact hk
 exact (L_83 N).1 _ _ _ _ _ _ _ _ _ _ _ _ _ _ _ _ _ h hk
noncomputable def C_121 : Ctr tau Unit := ctrS 83 c_83 C_83
noncomputable def D_121 : Drw tau := drawA E_121 C_121
theorem okC_121 : CtrOk Try.prog TT pnT C_121 := ctrS_ok okC_83 okc_83
theorem mC_121 : CtrMono C_121 := ctrS_mono mC_83 mc_83
theorem mD_121 : DrMono D_121 := drawA_mono mC_121
noncomputable def B_121 : Code := Try.f121.body.getD .skip
theorem mc_121 (args : List (AV tau)) (m : Mem tau) (k k' : AV tau → Mem tau → Option Unit) (hk : ∀ av m, k av m = some () → k' av m = some ()) (h : c_121 args m k = some ()) : c_121 args m k' = some () := by
 unfold c_121 at h ⊢
 split at h
 · repeat' first | exact callX_mono (fun _ h => hk _ _ h) h | refine bO_mono (fun _ h => ?_) h
 · cases h
theorem w_121 (a0_0 : Int) (a0_1 : Int) (k : AV tau → Mem tau → Option Unit) : fnA E_121 C_121 D_121 Try.f121 B_121 [.agg [.int .i64 a0_0, .int .i64 a0_1]] ⟨[], []⟩ k = (callX (fun n => impl_in.f a0_0 (0 : Int) (2 : Int)) fun t0 => brA t0 (callX (fun n => impl_in.f a0_1 (1 : Int) (1000 : Int)) fun t1 => k (.bool t1) ⟨[], []⟩) (k (.bool false) ⟨[], []⟩) : Option Unit) := by kernel_rfl
theorem okc_121 (args : List (AV tau)) (m : Mem tau) (κ : AV tau → Mem tau → Option Unit) (hh : c_121 args m κ = some ()) : ∃ av m1, κ av m1 = some () ∧ ToldA Try.prog TT (pnT 121) 121 args m av m1 := by
 obtain ⟨bx_, rw_⟩ := m
 unfold c_121 at hh
 simp only at hh
 split at hh
 case h_2 => cases hh
 rename_i b0 b1
 obtain ⟨a0_0, hx0, hh0⟩ := bO_some hh
 obtain ⟨a0_1, hx1, hh1⟩ := bO_some hh0
 have ex0 := asI_some hx0
 have ex1 := asI_some hx1
 subst ex0 ex1
 obtain ⟨N, t, h, hκ⟩ := callX_some hh1
 refine ⟨_, _, hκ, told_of_run pq okC_121 (fun _ _ _ => drawA_ok pq okC_121 hmix) (E := E_121) (fn := Try.f121) (body := B_121) (by kernel_rfl) (by kernel_rfl) (by kernel_rfl) (by rfl) (by exact Nat.le_of_ble_eq_true rfl) (fun k hk => ?_)⟩
 refine (w_121 a0_0 a0_1 k).trans ?_
 replace h : impl_reqOk.f a0_0 a0_1 = some t := h
 unfold impl_reqOk.f at h
 refine call_h 0 h (fun t0 e4 h => ?_)
 refine br_eti h dect (fun c5 h => ?_) (fun c5 h => ?_)
 ·cases h; exact hk
 refine call_h 0 h (fun t1 e6 h => ?_)
 cases h; exact hk
noncomputable def C_52 : Ctr tau Unit := ctrS 121 c_121 C_121
noncomputable def D_52 : Drw tau := drawA E_52 C_52
theorem okC_52 : CtrOk Try.prog TT pnT C_52 := ctrS_ok okC_121 okc_121
theorem mC_52 : CtrMono C_52 := ctrS_mono mC_121 mc_121
theorem mD_52 : DrMono D_52 := drawA_mono mC_52
noncomputable def B_52 : Code := Try.f52.body.getD .skip
theorem mc_52 (args : List (AV tau)) (m : Mem tau) (k k' : AV tau → Mem tau → Option Unit) (hk : ∀ av m, k av m = some () → k' av m = some ()) (h : c_52 args m k = some ()) : c_52 args m k' = some () := by
 unfold c_52 at h ⊢
 split at h
 · repeat' first | exact callX_mono (fun _ h => hk _ _ h) h | refine bO_mono (fun _ h => ?_) h
 · cases h
theorem w_52 (a0_0 : Bool) (a0_1 : Int) (a0_2 : Int) (l0_3 : List S39) (l0_4 : List S82) (a0_5 : Int) (a0_6 : Int) (k : AV tau → Mem tau → Option Unit) : fnA E_52 C_52 D_52 Try.f52 B_52 [.agg [.bool a0_0, .int .i64 a0_1, .int .i64 a0_2, .sl 39 l0_3, .sl 82 l0_4, .int .i64 a0_5, .int .i64 a0_6]] ⟨[], []⟩ k = (brA a0_0 (callX (fun n => impl_CertLike.f n a0_0 a0_1 a0_2 l0_3 l0_4 a0_5 a0_6 true (0 : Int) (0 : Int) ([] : List S39) ([] : List S82) (0 : Int) (0 : Int)) fun t0 => k (.bool t0) ⟨[], []⟩) (callX (fun n => impl_reqOk.f a0_1 a0_2) fun t1 => brA t1 (callX (fun n => impl_ExecOk.f n l0_3 l0_4 a0_5 a0_6) fun t2 => brA t2 (k (.bool (!(decide (a0_6 = (3 : Int))))) ⟨[], []⟩) (k (.bool false) ⟨[], []⟩)) (k (.bool false) ⟨[], []⟩)) : Option Unit) := by kernel_rfl
theorem okc_52 (args : List (AV tau)) (m : Mem tau) (κ : AV tau → Mem tau → Option Unit) (hh : c_52 args m κ = some ()) : ∃ av m1, κ av m1 = some () ∧ ToldA Try.prog TT (pnT 52) 52 args m av m1 := by
 obtain ⟨bx_, rw_⟩ := m
 unfold c_52 at hh
 simp only at hh
 split at hh
 case h_2 => cases hh
 rename_i b0 b1 b2 b3 b4 b5 b6
 obtain ⟨a0_0, hx0, hh0⟩ := bO_some hh
 obtain ⟨a0_1, hx1, hh1⟩ := bO_some hh0
 obtain ⟨a0_2, hx2, hh2⟩ := bO_some hh1
 obtain ⟨l0_3, hx3, hh3⟩ := bO_some hh2
 obtain ⟨l0_4, hx4, hh4⟩ := bO_some hh3
 obtain ⟨a0_5, hx5, hh5⟩ := bO_some hh4
 obtain ⟨a0_6, hx6, hh6⟩ := bO_some hh5
 have ex0 := asB_some hx0
 have ex1 := asI_some hx1
 have ex2 := asI_some hx2
 have ex3 := asSl_some hx3
 have ex4 := asSl_some hx4
 have ex5 := asI_some hx5
 have ex6 := asI_some hx6
 subst ex0 ex1 ex2 ex3 ex4 ex5 ex6
 obtain ⟨N, t, h, hκ⟩ := callX_some hh6
 refine ⟨_, _, hκ, told_of_run pq okC_52 (fun _ _ _ => drawA_ok pq okC_52 hmix) (E := E_52) (fn := Try.f52) (body := B_52) (by kernel_rfl) (by kernel_rfl) (by kernel_rfl) (by rfl) (by exact Nat.le_of_ble_eq_true rfl) (fun k hk => ?_)⟩
 refine (w_52 a0_0 a0_1 a0_2 l0_3 l0_4 a0_5 a0_6 k).trans ?_
 replace h : impl_CertEntry.f N a0_0 a0_1 a0_2 l0_3 l0_4 a0_5 a0_6 = some t := h
 unfold impl_CertEntry.f at h
 refine br_ite h dect (fun c7 h => ?_) (fun c7 h => ?_)
 ·refine call_h N h (fun t0 e8 h => ?_)
  cases h; exact hk
 refine call_h 0 h (fun t1 e9 h => ?_)
 refine br_eti h dect (fun c10 h => ?_) (fun c10 h => ?_)
 ·cases h; exact hk
 refine call_h N h (fun t2 e11 h => ?_)
 refine br_eti h dect (fun c12 h => ?_) (fun c12 h => ?_)
 ·cases h; exact hk
 cases h; exact hk
noncomputable def C_111 : Ctr tau Unit := ctrS 52 c_52 C_52
noncomputable def D_111 : Drw tau := drawA E_111 C_111
theorem okC_111 : CtrOk Try.prog TT pnT C_111 := ctrS_ok okC_52 okc_52
theorem mC_111 : CtrMono C_111 := ctrS_mono mC_52 mc_52
theorem mD_111 : DrMono D_111 := drawA_mono mC_111
noncomputable def B_111 : Code := Try.f111.body.getD .skip
theorem mc_111 (args : List (AV tau)) (m : Mem tau) (k k' : AV tau → Mem tau → Option Unit) (hk : ∀ av m, k av m = some () → k' av m = some ()) (h : c_111 args m k = some ()) : c_111 args m k' = some () := by
 unfold c_111 at h ⊢
 split at h
 · repeat' first | exact callX_mono (fun _ h => hk _ _ h) h | refine bO_mono (fun _ h => ?_) h
 · cases h
noncomputable def K_111_0 (k : AV tau → Mem tau → Option Unit) : Kon tau := (kBlock 0 (kS E_111 C_111 D_111 (codeP B_111 [1, 1]) (kEnd E_111 Try.f111 k)))
def st_111_0 (x0 : (List S77)) (x1 : (List S77)) (x2 : Int) (x3 : Int) : St tau := ⟨tmL 18 0 [(0, .sl 77 x0), (5, .sl 77 x1), (6, .int .i64 x2), (7, .int .i64 x3)], ⟨[], []⟩⟩
noncomputable def LP_111_0 (k : AV tau → Mem tau → Option Unit) (x0 : (List S77)) (x1 : (List S77)) (x2 : Int) (x3 : Int) : Option Unit := loopA E_111 (codeA E_111 C_111 D_111 (codeP B_111 [1, 0, 1, 0, 0])) (codeP B_111 [1, 0, 1, 0, 0]) (K_111_0 k) (st_111_0 x0 x1 x2 x3)
theorem w_111_0 (k : AV tau → Mem tau → Option Unit) (x0 : (List S77)) (x1 : (List S77)) (x2 : Int) (x3 : Int) : codeA E_111 C_111 D_111 (codeP B_111 [1, 0, 1, 0, 0]) (kL E_111 C_111 D_111 (codeP B_111 [1, 0, 1, 0, 0]) (K_111_0 k)) (st_111_0 x0 x1 x2 x3) = (brA (decide (x3 < x2)) (brA (decide ((0 : Int) ≤ x3)) (brA (decide (x3 < ((x1.length : Nat) : Int))) (callX (fun n => impl_CertEntry.f n ((rd_T77 x1 x3).f0) (((rd_T77 x1 x3).f1).f0) (((rd_T77 x1 x3).f1).f1) (((rd_T77 x1 x3).f2).f0) (((rd_T77 x1 x3).f2).f1) (((rd_T77 x1 x3).f2).f2) (((rd_T77 x1 x3).f2).f3)) fun t0 => brA (!t0) (k (.bool false) ⟨[], []⟩) (LP_111_0 k x0 x1 x2 (wrap64 (x3 + (1 : Int))))) (none)) (none)) (k (.bool (decide (((x0.length : Nat) : Int) ≤ (40 : Int)))) ⟨[], []⟩) : Option Unit) := by
 simp only [← wrapA_i64]
 kernel_rfl
theorem w_111 (l0 : List S77) (k : AV tau → Mem tau → Option Unit) : fnA E_111 C_111 D_111 Try.f111 B_111 [.sl 77 l0] ⟨[], []⟩ k = (LP_111_0 k l0 l0 ((l0.length : Nat) : Int) (0 : Int) : Option Unit) := by kernel_rfl
def S_111_0 (N : Nat) : Prop := ∀ (k : AV tau → Mem tau → Option Unit) (x0 : (List S77)) (x1 : (List S77)) (x2 : Int) (x3 : Int) (r : Bool), impl_listOk.l0 N (x0) (x1) (x2) (x3) = some r → k (.bool (r)) ⟨[], []⟩ = some () → LP_111_0 k x0 x1 x2 x3 = some ()
theorem L_111 (N : Nat) : S_111_0 N := by
 induction N using Nat.strongRecOn with | _ N0 ih =>
 skip
 intro k x0 x1 x2 x3 r h hk
 rcases N0 with _ | N
 · cases h
 first | rw [impl_listOk.l0] at h | simp only [impl_listOk.l0] at h | (unfold impl_listOk.l0 at h; dsimp only at h)
 refine loop_fold mC_111 mD_111 ?_
 refine (w_111_0 k x0 x1 x2 x3).trans ?_
 refine br_eti h rfl (fun c11 h => ?_) (fun c11 h => ?_)
 ·cases h; exact hk
 refine br_g h rfl (fun c12 h => ?_)
 refine br_g h rfl (fun c13 h => ?_)
 refine call_h N h (fun t0 e14 h => ?_)
 refine br_etn h (congrArg not dect) (fun c15 h => ?_) (fun c15 h => ?_)
 ·cases h; exact hk
 exact (ih N (by omega)) _ _ _ _ _ _ h hk
theorem okc_111 (args : List (AV tau)) (m : Mem tau) (κ : AV tau → Mem tau → Option Unit) (hh : c_111 args m κ = some ()) : ∃ av m1, κ av m1 = some () ∧ ToldA Try.prog TT (pnT 111) 111 args m av m1 := by
 obtain ⟨bx_, rw_⟩ := m
 unfold c_111 at hh
 simp only at hh
 split at hh
 case h_2 => cases hh
 rename_i b0
 obtain ⟨l0, hx0, hh0⟩ := bO_some hh
 have ex0 := asSl_some hx0
 subst ex0
 obtain ⟨N, t, h, hκ⟩ := callX_some hh0
 refine ⟨_, _, hκ, told_of_run pq okC_111 (fun _ _ _ => drawA_ok pq okC_111 hmix) (E := E_111) (fn := Try.f111) (body := B_111) (by kernel_rfl) (by kernel_rfl) (by kernel_rfl) (by rfl) (by exact Nat.le_of_ble_eq_true rfl) (fun k hk => ?_)⟩
 refine (w_111 l0 k).trans ?_
 replace h : impl_listOk.f N l0 = some t := h
 unfold impl_listOk.f at h
 exact (L_111 N) _ _ _ _ _ _ h hk
noncomputable def C_82 : Ctr tau Unit := ctrS 111 c_111 C_111
noncomputable def D_82 : Drw tau := drawA E_82 C_82
theorem okC_82 : CtrOk Try.prog TT pnT C_82 := ctrS_ok okC_111 okc_111
theorem mC_82 : CtrMono C_82 := ctrS_mono mC_111 mc_111
theorem mD_82 : DrMono D_82 := drawA_mono mC_82
noncomputable def B_82 : Code := Try.f82.body.getD .skip
theorem mc_82 (args : List (AV tau)) (m : Mem tau) (k k' : AV tau → Mem tau → Option Unit) (hk : ∀ av m, k av m = some () → k' av m = some ()) (h : c_82 args m k = some ()) : c_82 args m k' = some () := by
 unfold c_82 at h ⊢
 split at h
 · repeat' first | exact callX_mono (fun _ h => hk _ _ h) h | refine bO_mono (fun _ h => ?_) h
 · cases h
noncomputable def K_82_0 (k : AV tau → Mem tau → Option Unit) : Kon tau := (kBlock 0 (kS E_82 C_82 D_82 (codeP B_82 [1, 1]) (kEnd E_82 Try.f82 k)))
def st_82_0 (x0 : (List S37)) (x1 : (List S37)) (x2 : Int) (x3 : Int) : St tau := ⟨tmL 25 0 [(0, .sl 37 x0), (5, .sl 37 x1), (6, .int .i64 x2), (7, .int .i64 x3)], ⟨[], []⟩⟩
noncomputable def LP_82_0 (k : AV tau → Mem tau → Option Unit) (x0 : (List S37)) (x1 : (List S37)) (x2 : Int) (x3 : Int) : Option Unit := loopA E_82 (codeA E_82 C_82 D_82 (codeP B_82 [1, 0, 1, 0, 0])) (codeP B_82 [1, 0, 1, 0, 0]) (K_82_0 k) (st_82_0 x0 x1 x2 x3)
theorem w_82_0 (k : AV tau → Mem tau → Option Unit) (x0 : (List S37)) (x1 : (List S37)) (x2 : Int) (x3 : Int) : codeA E_82 C_82 D_82 (codeP B_82 [1, 0, 1, 0, 0]) (kL E_82 C_82 D_82 (codeP B_82 [1, 0, 1, 0, 0]) (K_82_0 k)) (st_82_0 x0 x1 x2 x3) = (brA (decide (x3 < x2)) (brA (decide ((0 : Int) ≤ x3)) (brA (decide (x3 < ((x1.length : Nat) : Int))) (callX (fun n => impl_in.f ((rd_T37 x1 x3).f0) (0 : Int) (1000000 : Int)) fun t0 => brA (!t0) (k (.bool false) ⟨[], []⟩) (callX (fun n => impl_in.f ((rd_T37 x1 x3).f1) (-(1000000 : Int)) (1000000 : Int)) fun t1 => brA (!t1) (k (.bool false) ⟨[], []⟩) (LP_82_0 k x0 x1 x2 (wrap64 (x3 + (1 : Int)))))) (none)) (none)) (k (.bool (decide (((x0.length : Nat) : Int) = (4 : Int)))) ⟨[], []⟩) : Option Unit) := by
 simp only [← wrapA_i64]
 kernel_rfl
theorem w_82 (l0 : List S37) (k : AV tau → Mem tau → Option Unit) : fnA E_82 C_82 D_82 Try.f82 B_82 [.sl 37 l0] ⟨[], []⟩ k = (LP_82_0 k l0 l0 ((l0.length : Nat) : Int) (0 : Int) : Option Unit) := by kernel_rfl
def S_82_0 (N : Nat) : Prop := ∀ (k : AV tau → Mem tau → Option Unit) (x0 : (List S37)) (x1 : (List S37)) (x2 : Int) (x3 : Int) (r : Bool), impl_BoxOk.l0 N (x0) (x1) (x2) (x3) = some r → k (.bool (r)) ⟨[], []⟩ = some () → LP_82_0 k x0 x1 x2 x3 = some ()
theorem L_82 (N : Nat) : S_82_0 N := by
 induction N using Nat.strongRecOn with | _ N0 ih =>
 skip
 intro k x0 x1 x2 x3 r h hk
 rcases N0 with _ | N
 · cases h
 first | rw [impl_BoxOk.l0] at h | simp only [impl_BoxOk.l0] at h | (unfold impl_BoxOk.l0 at h; dsimp only at h)
 refine loop_fold mC_82 mD_82 ?_
 refine (w_82_0 k x0 x1 x2 x3).trans ?_
 refine br_eti h rfl (fun c15 h => ?_) (fun c15 h => ?_)
 ·cases h; exact hk
 refine br_g h rfl (fun c16 h => ?_)
 refine br_g h rfl (fun c17 h => ?_)
 refine call_h 0 h (fun t0 e18 h => ?_)
 refine br_etn h (congrArg not dect) (fun c19 h => ?_) (fun c19 h => ?_)
 ·cases h; exact hk
 refine call_h 0 h (fun t1 e20 h => ?_)
 refine br_etn h (congrArg not dect) (fun c21 h => ?_) (fun c21 h => ?_)
 ·cases h; exact hk
 exact (ih N (by omega)) _ _ _ _ _ _ h hk
theorem okc_82 (args : List (AV tau)) (m : Mem tau) (κ : AV tau → Mem tau → Option Unit) (hh : c_82 args m κ = some ()) : ∃ av m1, κ av m1 = some () ∧ ToldA Try.prog TT (pnT 82) 82 args m av m1 := by
 obtain ⟨bx_, rw_⟩ := m
 unfold c_82 at hh
 simp only at hh
 split at hh
 case h_2 => cases hh
 rename_i b0
 obtain ⟨l0, hx0, hh0⟩ := bO_some hh
 have ex0 := asSl_some hx0
 subst ex0
 obtain ⟨N, t, h, hκ⟩ := callX_some hh0
 refine ⟨_, _, hκ, told_of_run pq okC_82 (fun _ _ _ => drawA_ok pq okC_82 hmix) (E := E_82) (fn := Try.f82) (body := B_82) (by kernel_rfl) (by kernel_rfl) (by kernel_rfl) (by rfl) (by exact Nat.le_of_ble_eq_true rfl) (fun k hk => ?_)⟩
 refine (w_82 l0 k).trans ?_
 replace h : impl_BoxOk.f N l0 = some t := h
 unfold impl_BoxOk.f at h
 exact (L_82 N) _ _ _ _ _ _ h hk
noncomputable def C_20 : Ctr tau Unit := ctrS 82 c_82 C_82
noncomputable def D_20 : Drw tau := drawA E_20 C_20
theorem okC_20 : CtrOk Try.prog TT pnT C_20 := ctrS_ok okC_82 okc_82
theorem mC_20 : CtrMono C_20 := ctrS_mono mC_82 mc_82
theorem mD_20 : DrMono D_20 := drawA_mono mC_20
noncomputable def B_20 : Code := Try.f20.body.getD .skip
theorem mc_20 (args : List (AV tau)) (m : Mem tau) (k k' : AV tau → Mem tau → Option Unit) (hk : ∀ av m, k av m = some () → k' av m = some ()) (h : c_20 args m k = some ()) : c_20 args m k' = some () := by
 unfold c_20 at h ⊢
 split at h
 · repeat' first | exact callX_mono (fun _ h => hk _ _ h) h | refine bO_mono (fun _ h => ?_) h
 · cases h
noncomputable def K_20_0 (k : AV tau → Mem tau → Option Unit) : Kon tau := (kBlock 0 (kS E_20 C_20 D_20 (codeP B_20 [1, 1, 1]) (kEnd E_20 Try.f20 k)))
def st_20_0 (x0 : (List S37)) (x1 : (List S39)) (x2 : Int) (x3 : Int) : St tau := ⟨tmL 32 0 [(0, .sl 37 x0), (16, .sl 39 x1), (17, .int .i64 x2), (18, .int .i64 x3)], ⟨[], []⟩⟩
noncomputable def LP_20_0 (k : AV tau → Mem tau → Option Unit) (x0 : (List S37)) (x1 : (List S39)) (x2 : Int) (x3 : Int) : Option Unit := loopA E_20 (codeA E_20 C_20 D_20 (codeP B_20 [1, 1, 0, 1, 0, 0])) (codeP B_20 [1, 1, 0, 1, 0, 0]) (K_20_0 k) (st_20_0 x0 x1 x2 x3)
theorem w_20_0 (k : AV tau → Mem tau → Option Unit) (x0 : (List S37)) (x1 : (List S39)) (x2 : Int) (x3 : Int) : codeA E_20 C_20 D_20 (codeP B_20 [1, 1, 0, 1, 0, 0]) (kL E_20 C_20 D_20 (codeP B_20 [1, 1, 0, 1, 0, 0]) (K_20_0 k)) (st_20_0 x0 x1 x2 x3) = (brA (decide (x3 < x2)) (brA (decide ((0 : Int) ≤ x3)) (brA (decide (x3 < ((x1.length : Nat) : Int))) (brA (decide ((0 : Int) ≤ (rd_T39 x1 x3).f0)) (brA (decide ((rd_T39 x1 x3).f0 < ((x0.length : Nat) : Int))) (brA (!(decide ((rd_T37 x0 ((rd_T39 x1 x3).f0)).f0 = (rd_T39 x1 x3).f1))) (k (.bool false) ⟨[], []⟩) (LP_20_0 k x0 x1 x2 (wrap64 (x3 + (1 : Int))))) (none)) (none)) (none)) (none)) (k (.bool true) ⟨[], []⟩) : Option Unit) := by
 simp only [← wrapA_i64]
 kernel_rfl
theorem w_20 (l0 : List S37) (l1_0 : List S39) (l1_1 : List S82) (a1_2 : Int) (a1_3 : Int) (k : AV tau → Mem tau → Option Unit) : fnA E_20 C_20 D_20 Try.f20 B_20 [.sl 37 l0, .agg [.sl 39 l1_0, .sl 82 l1_1, .int .i64 a1_2, .int .i64 a1_3]] ⟨[], []⟩ k = (callX (fun n => impl_BoxOk.f n l0) fun t0 => brA (!t0) (k (.bool false) ⟨[], []⟩) (callX (fun n => impl_ExecOk.f n l1_0 l1_1 a1_2 a1_3) fun t1 => brA (!t1) (k (.bool false) ⟨[], []⟩) (LP_20_0 k l0 l1_0 ((l1_0.length : Nat) : Int) (0 : Int))) : Option Unit) := by kernel_rfl
def S_20_0 (N : Nat) : Prop := ∀ (k : AV tau → Mem tau → Option Unit) (x0 : (List S37)) (x1 : (List S39)) (x2 : Int) (x3 : Int) (r : Bool), impl_ExecFresh.l0 N (x0) (x1) (x2) (x3) = some r → k (.bool (r)) ⟨[], []⟩ = some () → LP_20_0 k x0 x1 x2 x3 = some ()
theorem L_20 (N : Nat) : S_20_0 N := by
 induction N using Nat.strongRecOn with | _ N0 ih =>
 skip
 intro k x0 x1 x2 x3 r h hk
 rcases N0 with _ | N
 · cases h
 first | rw [impl_ExecFresh.l0] at h | simp only [impl_ExecFresh.l0] at h | (unfold impl_ExecFresh.l0 at h; dsimp only at h)
 refine loop_fold mC_20 mD_20 ?_
 refine (w_20_0 k x0 x1 x2 x3).trans ?_
 refine br_eti h rfl (fun c21 h => ?_) (fun c21 h => ?_)
 ·cases h; exact hk
 refine br_g h rfl (fun c22 h => ?_)
 refine br_g h rfl (fun c23 h => ?_)
 refine br_g h rfl (fun c24 h => ?_)
 refine br_g h rfl (fun c25 h => ?_)
 refine br_etn h rfl (fun c26 h => ?_) (fun c26 h => ?_)
 ·cases h; exact hk
 exact (ih N (by omega)) _ _ _ _ _ _ h hk
theorem okc_20 (args : List (AV tau)) (m : Mem tau) (κ : AV tau → Mem tau → Option Unit) (hh : c_20 args m κ = some ()) : ∃ av m1, κ av m1 = some () ∧ ToldA Try.prog TT (pnT 20) 20 args m av m1 := by
 obtain ⟨bx_, rw_⟩ := m
 unfold c_20 at hh
 simp only at hh
 split at hh
 case h_2 => cases hh
 rename_i b0 b1 b2 b3 b4
 obtain ⟨l0, hx0, hh0⟩ := bO_some hh
 obtain ⟨l1_0, hx1, hh1⟩ := bO_some hh0
 obtain ⟨l1_1, hx2, hh2⟩ := bO_some hh1
 obtain ⟨a1_2, hx3, hh3⟩ := bO_some hh2
 obtain ⟨a1_3, hx4, hh4⟩ := bO_some hh3
 have ex0 := asSl_some hx0
 have ex1 := asSl_some hx1
 have ex2 := asSl_some hx2
 have ex3 := asI_some hx3
 have ex4 := asI_some hx4
 subst ex0 ex1 ex2 ex3 ex4
 obtain ⟨N, t, h, hκ⟩ := callX_some hh4
 refine ⟨_, _, hκ, told_of_run pq okC_20 (fun _ _ _ => drawA_ok pq okC_20 hmix) (E := E_20) (fn := Try.f20) (body := B_20) (by kernel_rfl) (by kernel_rfl) (by kernel_rfl) (by rfl) (by exact Nat.le_of_ble_eq_true rfl) (fun k hk => ?_)⟩
 refine (w_20 l0 l1_0 l1_1 a1_2 a1_3 k).trans ?_
 replace h : impl_ExecFresh.f N l0 l1_0 l1_1 a1_2 a1_3 = some t := h
 unfold impl_ExecFresh.f at h
 refine call_h N h (fun t0 e27 h => ?_)
 refine br_etn h (congrArg not dect) (fun c28 h => ?_) (fun c28 h => ?_)
 ·rcases N with _ | N
  · cases h
  first | rw [impl_ExecFresh.j0] at h | simp only [impl_ExecFresh.j0] at h | (unfold impl_ExecFresh.j0 at h; dsimp only at h)
  replace h := ite_t h (by first | assumption | omega | simp_all)
  cases h; exact hk
 refine call_h N h (fun t1 e29 h => ?_)
 rcases N with _ | N
 · cases h
 first | rw [impl_ExecFresh.j0] at h | simp only [impl_ExecFresh.j0] at h | (unfold impl_ExecFresh.j0 at h; dsimp only at h)
 refine br_ite h dect (fun c30 h => ?_) (fun c30 h => ?_)
 ·cases h; exact hk
 exact (L_20 N) _ _ _ _ _ _ h hk
noncomputable def C_50 : Ctr tau Unit := ctrS 20 c_20 C_20
noncomputable def D_50 : Drw tau := drawA E_50 C_50
theorem okC_50 : CtrOk Try.prog TT pnT C_50 := ctrS_ok okC_20 okc_20
theorem mC_50 : CtrMono C_50 := ctrS_mono mC_20 mc_20
theorem mD_50 : DrMono D_50 := drawA_mono mC_50
noncomputable def B_50 : Code := Try.f50.body.getD .skip
theorem mc_50 (args : List (AV tau)) (m : Mem tau) (k k' : AV tau → Mem tau → Option Unit) (hk : ∀ av m, k av m = some () → k' av m = some ()) (h : c_50 args m k = some ()) : c_50 args m k' = some () := by
 unfold c_50 at h ⊢
 split at h
 · repeat' first | exact callX_mono (fun _ h => hk _ _ h) h | refine bO_mono (fun _ h => ?_) h
 · cases h
noncomputable def K_50_0 (k : AV tau → Mem tau → Option Unit) : Kon tau := (kBlock 0 (kS E_50 C_50 D_50 (codeP B_50 [1, 1]) (kEnd E_50 Try.f50 k)))
def st_50_0 (x0 : (List S84)) (x1 : Int) (x2 : Int) (x3 : Int) (x4 : (List S37)) (x5 : (List S84)) : St tau := ⟨tmL 66 0 [(1, .ptr 0 0), (6, .sl 84 x0), (7, .int .i64 x1), (8, .int .i64 x2)], ⟨[some (69, [.int .i64 x3, .sl 37 x4, .sl 84 x5])], []⟩⟩
noncomputable def LP_50_0 (k : AV tau → Mem tau → Option Unit) (x0 : (List S84)) (x1 : Int) (x2 : Int) (x3 : Int) (x4 : (List S37)) (x5 : (List S84)) : Option Unit := loopA E_50 (codeA E_50 C_50 D_50 (codeP B_50 [1, 0, 1, 0, 0])) (codeP B_50 [1, 0, 1, 0, 0]) (K_50_0 k) (st_50_0 x0 x1 x2 x3 x4 x5)
theorem w_50_0 (k : AV tau → Mem tau → Option Unit) (x0 : (List S84)) (x1 : Int) (x2 : Int) (x3 : Int) (x4 : (List S37)) (x5 : (List S84)) : codeA E_50 C_50 D_50 (codeP B_50 [1, 0, 1, 0, 0]) (kL E_50 C_50 D_50 (codeP B_50 [1, 0, 1, 0, 0]) (K_50_0 k)) (st_50_0 x0 x1 x2 x3 x4 x5) = (brA (decide (x2 < x1)) (brA (decide ((0 : Int) ≤ x2)) (brA (decide (x2 < ((x0.length : Nat) : Int))) (brA (decide (x2 > (0 : Int))) (brA (decide ((0 : Int) ≤ (wrap64 (x2 - (1 : Int))))) (brA (decide ((wrap64 (x2 - (1 : Int))) < ((x5.length : Nat) : Int))) (brA (decide (((rd_T84 x5 (wrap64 (x2 - (1 : Int)))).f0).f0 ≥ ((rd_T84 x0 x2).f0).f0)) (k (.bool false) ⟨[], []⟩) (callX (fun n => impl_reqOk.f (((rd_T84 x0 x2).f0).f0) (((rd_T84 x0 x2).f0).f1)) fun t0 => brA (!t0) (k (.bool false) ⟨[], []⟩) (callX (fun n => impl_in.f ((rd_T84 x0 x2).f1) (0 : Int) (2 : Int)) fun t1 => brA (!t1) (k (.bool false) ⟨[], []⟩) (callX (fun n => impl_in.f ((rd_T84 x0 x2).f2) (-(1000000 : Int)) (1000000 : Int)) fun t2 => brA (!t2) (k (.bool false) ⟨[], []⟩) (brA (!(decide ((rd_T84 x0 x2).f1 = (0 : Int)))) (brA (!(decide ((rd_T84 x0 x2).f2 = (0 : Int)))) (k (.bool false) ⟨[], []⟩) (LP_50_0 k x0 x1 (wrap64 (x2 + (1 : Int))) x3 x4 x5)) (LP_50_0 k x0 x1 (wrap64 (x2 + (1 : Int))) x3 x4 x5)))))) (none)) (none)) (callX (fun n => impl_reqOk.f (((rd_T84 x0 x2).f0).f0) (((rd_T84 x0 x2).f0).f1)) fun t3 => brA (!t3) (k (.bool false) ⟨[], []⟩) (callX (fun n => impl_in.f ((rd_T84 x0 x2).f1) (0 : Int) (2 : Int)) fun t4 => brA (!t4) (k (.bool false) ⟨[], []⟩) (callX (fun n => impl_in.f ((rd_T84 x0 x2).f2) (-(1000000 : Int)) (1000000 : Int)) fun t5 => brA (!t5) (k (.bool false) ⟨[], []⟩) (brA (!(decide ((rd_T84 x0 x2).f1 = (0 : Int)))) (brA (!(decide ((rd_T84 x0 x2).f2 = (0 : Int)))) (k (.bool false) ⟨[], []⟩) (LP_50_0 k x0 x1 (wrap64 (x2 + (1 : Int))) x3 x4 x5)) (LP_50_0 k x0 x1 (wrap64 (x2 + (1 : Int))) x3 x4 x5)))))) (none)) (none)) (callX (fun n => impl_in.f x3 (0 : Int) (40 : Int)) fun t6 => brA t6 (callX (fun n => impl_BoxOk.f n x4) fun t7 => k (.bool t7) ⟨[], []⟩) (k (.bool false) ⟨[], []⟩)) : Option Unit) := by
 simp only [← wrapA_i64]
 kernel_rfl
theorem w_50 (a0_0 : Int) (l0_1 : List S37) (l0_2 : List S84) (k : AV tau → Mem tau → Option Unit) : fnA E_50 C_50 D_50 Try.f50 B_50 [.agg [.int .i64 a0_0, .sl 37 l0_1, .sl 84 l0_2]] ⟨[], []⟩ k = (LP_50_0 k l0_2 ((l0_2.length : Nat) : Int) (0 : Int) a0_0 l0_1 l0_2 : Option Unit) := by kernel_rfl
def S_50_0 (N : Nat) : Prop := ∀ (k : AV tau → Mem tau → Option Unit) (x0 : (List S84)) (x1 : Int) (x2 : Int) (x3 : Int) (x4 : (List S37)) (x5 : (List S84)) (r : Bool), impl_CertOk.l0 N (x0) (x1) (x2) (x3) (x4) (x5) = some r → k (.bool (r)) ⟨[], []⟩ = some () → LP_50_0 k x0 x1 x2 x3 x4 x5 = some ()
theorem L_50 (N : Nat) : S_50_0 N := by
 induction N using Nat.strongRecOn with | _ N0 ih =>
 skip
 intro k x0 x1 x2 x3 x4 x5 r h hk
 rcases N0 with _ | N
 · cases h
 first | rw [impl_CertOk.l0] at h | simp only [impl_CertOk.l0] at h | (unfold impl_CertOk.l0 at h; dsimp only at h)
 refine loop_fold mC_50 mD_50 ?_
 refine (w_50_0 k x0 x1 x2 x3 x4 x5).trans ?_
 refine br_eti h rfl (fun c53 h => ?_) (fun c53 h => ?_)
 ·refine call_h 0 h (fun t6 e54 h => ?_)
  refine br_eti h dect (fun c55 h => ?_) (fun c55 h => ?_)
  ·cases h; exact hk
  refine call_h N h (fun t7 e56 h => ?_)
  cases h; exact hk
 refine br_g h rfl (fun c57 h => ?_)
 refine br_g h rfl (fun c58 h => ?_)
 refine br_eti h rfl (fun c59 h => ?_) (fun c59 h => ?_)
 ·refine call_h 0 h (fun t3 e60 h => ?_)
  refine br_etn h (congrArg not dect) (fun c61 h => ?_) (fun c61 h => ?_)
  ·rcases N with _ | N
   · cases h
   first | rw [impl_CertOk.j1] at h | simp only [impl_CertOk.j1] at h | (unfold impl_CertOk.j1 at h; dsimp only at h)
   replace h := ite_t h (by first | assumption | omega | simp_all)
   cases h; exact hk
  refine call_h 0 h (fun t4 e62 h => ?_)
  refine br_etn h (congrArg not dect) (fun c63 h => ?_) (fun c63 h => ?_)
  ·rcases N with _ | N
   · cases h
   first | rw [impl_CertOk.j1] at h | simp only [impl_CertOk.j1] at h | (unfold impl_CertOk.j1 at h; dsimp only at h)
   replace h := ite_t h (by first | assumption | omega | simp_all)
   cases h; exact hk
  refine call_h 0 h (fun t5 e64 h => ?_)
  refine br_etn h (congrArg not dect) (fun c65 h => ?_) (fun c65 h => ?_)
  ·rcases N with _ | N
   · cases h
   first | rw [impl_CertOk.j1] at h | simp only [impl_CertOk.j1] at h | (unfold impl_CertOk.j1 at h; dsimp only at h)
   replace h := ite_t h (by first | assumption | omega | simp_all)
   cases h; exact hk
  refine br_itn h rfl (fun c66 h => ?_) (fun c66 h => ?_)
  ·rcases N with _ | N
   · cases h
   first | rw [impl_CertOk.j1] at h | simp only [impl_CertOk.j1] at h | (unfold impl_CertOk.j1 at h; dsimp only at h)
   replace h := ite_f h (by first | assumption | omega | simp_all)
   exact (ih N (by omega)) _ _ _ _ _ _ _ _ h hk
  rcases N with _ | N
  · cases h
  first | rw [impl_CertOk.j1] at h | simp only [impl_CertOk.j1] at h | (unfold impl_CertOk.j1 at h; dsimp only at h)
  refine br_ite h (by first | rfl | exact dect | exact (congrArg not dect) | (simp; done) | (simp [beqI]; done) | (simp; omega)) (fun c67 h => ?_) (fun c67 h => ?_)
  ·cases h; exact hk
  exact (ih N (by omega)) _ _ _ _ _ _ _ _ h hk
 refine br_g h rfl (fun c68 h => ?_)
 refine br_g h rfl (fun c69 h => ?_)
 refine br_ite h rfl (fun c70 h => ?_) (fun c70 h => ?_)
 ·rcases N with _ | N
  · cases h
  first | rw [impl_CertOk.j1] at h | simp only [impl_CertOk.j1] at h | (unfold impl_CertOk.j1 at h; dsimp only at h)
  replace h := ite_t h (by first | assumption | omega | simp_all)
  cases h; exact hk
 refine call_h 0 h (fun t0 e71 h => ?_)
 refine br_etn h (congrArg not dect) (fun c72 h => ?_) (fun c72 h => ?_)
 ·rcases N with _ | N
  · cases h
  first | rw [impl_CertOk.j1] at h | simp only [impl_CertOk.j1] at h | (unfold impl_CertOk.j1 at h; dsimp only at h)
  replace h := ite_t h (by first | assumption | omega | simp_all)
  cases h; exact hk
 refine call_h 0 h (fun t1 e73 h => ?_)
 refine br_etn h (congrArg not dect) (fun c74 h => ?_) (fun c74 h => ?_)
 ·rcases N with _ | N
  · cases h
  first | rw [impl_CertOk.j1] at h | simp only [impl_CertOk.j1] at h | (unfold impl_CertOk.j1 at h; dsimp only at h)
  replace h := ite_t h (by first | assumption | omega | simp_all)
  cases h; exact hk
 refine call_h 0 h (fun t2 e75 h => ?_)
 refine br_etn h (congrArg not dect) (fun c76 h => ?_) (fun c76 h => ?_)
 ·rcases N with _ | N
  · cases h
  first | rw [impl_CertOk.j1] at h | simp only [impl_CertOk.j1] at h | (unfold impl_CertOk.j1 at h; dsimp only at h)
  replace h := ite_t h (by first | assumption | omega | simp_all)
  cases h; exact hk
 refine br_itn h rfl (fun c77 h => ?_) (fun c77 h => ?_)
 ·rcases N with _ | N
  · cases h
  first | rw [impl_CertOk.j1] at h | simp only [impl_CertOk.j1] at h | (unfold impl_CertOk.j1 at h; dsimp only at h)
  replace h := ite_f h (by first | assumption | omega | simp_all)
  exact (ih N (by omega)) _ _ _ _ _ _ _ _ h hk
 rcases N with _ | N
 · cases h
 first | rw [impl_CertOk.j1] at h | simp only [impl_CertOk.j1] at h | (unfold impl_CertOk.j1 at h; dsimp only at h)
 refine br_ite h (by first | rfl | exact dect | exact (congrArg not dect) | (simp; done) | (simp [beqI]; done) | (simp; omega)) (fun c78 h => ?_) (fun c78 h => ?_)
 ·cases h; exact hk
 exact (ih N (by omega)) _ _ _ _ _ _ _ _ h hk
theorem okc_50 (args : List (AV tau)) (m : Mem tau) (κ : AV tau → Mem tau → Option Unit) (hh : c_50 args m κ = some ()) : ∃ av m1, κ av m1 = some () ∧ ToldA Try.prog TT (pnT 50) 50 args m av m1 := by
 obtain ⟨bx_, rw_⟩ := m
 unfold c_50 at hh
 simp only at hh
 split at hh
 case h_2 => cases hh
 rename_i b0 b1 b2
 obtain ⟨a0_0, hx0, hh0⟩ := bO_some hh
 obtain ⟨l0_1, hx1, hh1⟩ := bO_some hh0
 obtain ⟨l0_2, hx2, hh2⟩ := bO_some hh1
 have ex0 := asI_some hx0
 have ex1 := asSl_some hx1
 have ex2 := asSl_some hx2
 subst ex0 ex1 ex2
 obtain ⟨N, t, h, hκ⟩ := callX_some hh2
 refine ⟨_, _, hκ, told_of_run pq okC_50 (fun _ _ _ => drawA_ok pq okC_50 hmix) (E := E_50) (fn := Try.f50) (body := B_50) (by kernel_rfl) (by kernel_rfl) (by kernel_rfl) (by rfl) (by exact Nat.le_of_ble_eq_true rfl) (fun k hk => ?_)⟩
 refine (w_50 a0_0 l0_1 l0_2 k).trans ?_
 replace h : impl_CertOk.f N a0_0 l0_1 l0_2 = some t := h
 unfold impl_CertOk.f at h
 exact (L_50 N) _ _ _ _ _ _ _ _ h hk
noncomputable def C_93 : Ctr tau Unit := ctrS 50 c_50 C_50
noncomputable def D_93 : Drw tau := drawA E_93 C_93
theorem okC_93 : CtrOk Try.prog TT pnT C_93 := ctrS_ok okC_50 okc_50
theorem mC_93 : CtrMono C_93 := ctrS_mono mC_50 mc_50
theorem mD_93 : DrMono D_93 := drawA_mono mC_93
noncomputable def B_93 : Code := Try.f93.body.getD .skip
theorem mc_93 (args : List (AV tau)) (m : Mem tau) (k k' : AV tau → Mem tau → Option Unit) (hk : ∀ av m, k av m = some () → k' av m = some ()) (h : c_93 args m k = some ()) : c_93 args m k' = some () := by
 unfold c_93 at h ⊢
 split at h
 · repeat' first | exact callX_mono (fun _ h => hk _ _ h) h | refine bO_mono (fun _ h => ?_) h
 · cases h
theorem w_93 (l0 : List S37) (k : AV tau → Mem tau → Option Unit) : fnA E_93 C_93 D_93 Try.f93 B_93 [.sl 37 l0] ⟨[], []⟩ k = (brA (decide (((l0.length : Nat) : Int) = (0 : Int))) (k (.own 0 0) ⟨[], [some ⟨37, ([] : List S37), 0⟩]⟩) (brA (decide ((Int.toNat ((l0.length : Nat) : Int)) ≤ 17592186044416)) (k (.own 0 0) ⟨[], [some ⟨37, ((List.take ((List.replicate (Int.toNat ((l0.length : Nat) : Int)) (⟨(0 : Int), (0 : Int)⟩ : S37)).length) l0) ++ (List.drop l0.length (List.replicate (Int.toNat ((l0.length : Nat) : Int)) (⟨(0 : Int), (0 : Int)⟩ : S37)))), 0⟩]⟩) (none)) : Option Unit) := by kernel_rfl
theorem okc_93 (args : List (AV tau)) (m : Mem tau) (κ : AV tau → Mem tau → Option Unit) (hh : c_93 args m κ = some ()) : ∃ av m1, κ av m1 = some () ∧ ToldA Try.prog TT (pnT 93) 93 args m av m1 := by
 obtain ⟨bx_, rw_⟩ := m
 unfold c_93 at hh
 simp only at hh
 split at hh
 case h_2 => cases hh
 rename_i b0
 obtain ⟨l0, hx0, hh0⟩ := bO_some hh
 have ex0 := asSl_some hx0
 subst ex0
 obtain ⟨N, t, h, hκ⟩ := callX_some hh0
 refine ⟨_, _, hκ, told_of_run pq okC_93 (fun _ _ _ => drawA_ok pq okC_93 hmix) (E := E_93) (fn := Try.f93) (body := B_93) (by kernel_rfl) (by kernel_rfl) (by kernel_rfl) (by rfl) (by exact Nat.le_of_ble_eq_true rfl) (fun k hk => ?_)⟩
 refine (w_93 l0 k).trans ?_
 replace h : impl_copied_impl_Box.f l0 = some t := h
 unfold impl_copied_impl_Box.f at h
 refine ite_x h (fun c1 h => ?_) (fun _ h => by cases h)
 cases h
 exact copied_of (α := S37) l0 _ _ (k := fun q : List S37 => k (.own 0 0) ⟨[], [some ⟨37, q, 0⟩]⟩) c1 hk
noncomputable def C_116 : Ctr tau Unit := ctrS 93 c_93 C_93
noncomputable def D_116 : Drw tau := drawA E_116 C_116
theorem okC_116 : CtrOk Try.prog TT pnT C_116 := ctrS_ok okC_93 okc_93
theorem mC_116 : CtrMono C_116 := ctrS_mono mC_93 mc_93
theorem mD_116 : DrMono D_116 := drawA_mono mC_116
noncomputable def B_116 : Code := Try.f116.body.getD .skip
theorem mc_116 (args : List (AV tau)) (m : Mem tau) (k k' : AV tau → Mem tau → Option Unit) (hk : ∀ av m, k av m = some () → k' av m = some ()) (h : c_116 args m k = some ()) : c_116 args m k' = some () := by
 unfold c_116 at h ⊢
 split at h
 · repeat' first | exact callX_mono (fun _ h => hk _ _ h) h | refine bO_mono (fun _ h => ?_) h
 · cases h
theorem w_116 (l0 : List S84) (k : AV tau → Mem tau → Option Unit) : fnA E_116 C_116 D_116 Try.f116 B_116 [.sl 84 l0] ⟨[], []⟩ k = (brA (decide (((l0.length : Nat) : Int) = (0 : Int))) (k (.own 0 0) ⟨[], [some ⟨84, ([] : List S84), 0⟩]⟩) (brA (decide ((Int.toNat ((l0.length : Nat) : Int)) ≤ 8796093022208)) (k (.own 0 0) ⟨[], [some ⟨84, ((List.take ((List.replicate (Int.toNat ((l0.length : Nat) : Int)) (⟨(⟨(0 : Int), (0 : Int)⟩ : S75), (0 : Int), (0 : Int)⟩ : S84)).length) l0) ++ (List.drop l0.length (List.replicate (Int.toNat ((l0.length : Nat) : Int)) (⟨(⟨(0 : Int), (0 : Int)⟩ : S75), (0 : Int), (0 : Int)⟩ : S84)))), 0⟩]⟩) (none)) : Option Unit) := by kernel_rfl
theorem okc_116 (args : List (AV tau)) (m : Mem tau) (κ : AV tau → Mem tau → Option Unit) (hh : c_116 args m κ = some ()) : ∃ av m1, κ av m1 = some () ∧ ToldA Try.prog TT (pnT 116) 116 args m av m1 := by
 obtain ⟨bx_, rw_⟩ := m
 unfold c_116 at hh
 simp only at hh
 split at hh
 case h_2 => cases hh
 rename_i b0
 obtain ⟨l0, hx0, hh0⟩ := bO_some hh
 have ex0 := asSl_some hx0
 subst ex0
 obtain ⟨N, t, h, hκ⟩ := callX_some hh0
 refine ⟨_, _, hκ, told_of_run pq okC_116 (fun _ _ _ => drawA_ok pq okC_116 hmix) (E := E_116) (fn := Try.f116) (body := B_116) (by kernel_rfl) (by kernel_rfl) (by kernel_rfl) (by rfl) (by exact Nat.le_of_ble_eq_true rfl) (fun k hk => ?_)⟩
 refine (w_116 l0 k).trans ?_
 replace h : impl_copied_impl_Done.f l0 = some t := h
 unfold impl_copied_impl_Done.f at h
 refine ite_x h (fun c1 h => ?_) (fun _ h => by cases h)
 cases h
 exact copied_of (α := S84) l0 _ _ (k := fun q : List S84 => k (.own 0 0) ⟨[], [some ⟨84, q, 0⟩]⟩) c1 hk
noncomputable def C_117 : Ctr tau Unit := ctrS 116 c_116 C_116
noncomputable def D_117 : Drw tau := drawA E_117 C_117
theorem okC_117 : CtrOk Try.prog TT pnT C_117 := ctrS_ok okC_116 okc_116
theorem mC_117 : CtrMono C_117 := ctrS_mono mC_116 mc_116
theorem mD_117 : DrMono D_117 := drawA_mono mC_117
noncomputable def B_117 : Code := Try.f117.body.getD .skip
theorem mc_117 (args : List (AV tau)) (m : Mem tau) (k k' : AV tau → Mem tau → Option Unit) (hk : ∀ av m, k av m = some () → k' av m = some ()) (h : c_117 args m k = some ()) : c_117 args m k' = some () := by
 unfold c_117 at h ⊢
 split at h
 · repeat' first | exact callX_mono (fun _ h => hk _ _ h) h | refine bO_mono (fun _ h => ?_) h
 · cases h
noncomputable def K_117_0 (k : AV tau → Mem tau → Option Unit) : Kon tau := (kBlock 0 (kS E_117 C_117 D_117 (codeP B_117 [1, 1, 1, 1]) (kEnd E_117 Try.f117 k)))
def st_117_0 (x0 : (List S82)) (x1 : Int) (x2 : Int) (x3 : (List S37)) : St tau := ⟨tmL 42 0 [(5, .own 0 0), (19, .sl 82 x0), (20, .int .i64 x1), (21, .int .i64 x2)], ⟨[], [some ⟨37, x3, 0⟩]⟩⟩
noncomputable def LP_117_0 (k : AV tau → Mem tau → Option Unit) (x0 : (List S82)) (x1 : Int) (x2 : Int) (x3 : (List S37)) : Option Unit := loopA E_117 (codeA E_117 C_117 D_117 (codeP B_117 [1, 1, 1, 0, 1, 0, 0])) (codeP B_117 [1, 1, 1, 0, 1, 0, 0]) (K_117_0 k) (st_117_0 x0 x1 x2 x3)
theorem w_117_0 (k : AV tau → Mem tau → Option Unit) (x0 : (List S82)) (x1 : Int) (x2 : Int) (x3 : (List S37)) : codeA E_117 C_117 D_117 (codeP B_117 [1, 1, 1, 0, 1, 0, 0]) (kL E_117 C_117 D_117 (codeP B_117 [1, 1, 1, 0, 1, 0, 0]) (K_117_0 k)) (st_117_0 x0 x1 x2 x3) = (brA (decide (x2 < x1)) (brA (decide ((0 : Int) ≤ x2)) (brA (decide (x2 < ((x0.length : Nat) : Int))) (brA (decide ((0 : Int) ≤ (rd_T82 x0 x2).f0)) (brA (decide ((rd_T82 x0 x2).f0 < ((x3.length : Nat) : Int))) (brA (decide ((0 : Int) ≤ (rd_T82 x0 x2).f0)) (brA (decide ((rd_T82 x0 x2).f0 < ((x3.length : Nat) : Int))) (LP_117_0 k x0 x1 (wrap64 (x2 + (1 : Int))) (List.set x3 (Int.toNat ((rd_T82 x0 x2).f0)) (⟨(if (wrap64 ((rd_T37 x3 ((rd_T82 x0 x2).f0)).f0 + (1 : Int))) < (1000000 : Int) then (wrap64 ((rd_T37 x3 ((rd_T82 x0 x2).f0)).f0 + (1 : Int))) else (1000000 : Int)), (rd_T82 x0 x2).f1⟩ : S37))) (none)) (none)) (none)) (none)) (none)) (none)) (k (.own 0 0) ⟨[], [some ⟨37, x3, 0⟩]⟩) : Option Unit) := by
 simp only [← wrapA_i64]
 kernel_rfl
theorem w_117 (l0 : List S37) (l1_0 : List S39) (l1_1 : List S82) (a1_2 : Int) (a1_3 : Int) (k : AV tau → Mem tau → Option Unit) : fnA E_117 C_117 D_117 Try.f117 B_117 [.sl 37 l0, .agg [.sl 39 l1_0, .sl 82 l1_1, .int .i64 a1_2, .int .i64 a1_3]] ⟨[], []⟩ k = (callX (fun n => impl_BoxOk.f n l0) fun t0 => brA (!t0) (k (.own 0 0) ⟨[], [some ⟨37, ([] : List S37), 0⟩]⟩) (callX (fun n => impl_ExecOk.f n l1_0 l1_1 a1_2 a1_3) fun t1 => brA (!t1) (k (.own 0 0) ⟨[], [some ⟨37, ([] : List S37), 0⟩]⟩) (callX (fun n => impl_copied_impl_Box.f l0) fun t2 => LP_117_0 k l1_1 ((l1_1.length : Nat) : Int) (0 : Int) t2)) : Option Unit) := by kernel_rfl
def S_117_0 (N : Nat) : Prop := ∀ (k : AV tau → Mem tau → Option Unit) (x0 : (List S82)) (x1 : Int) (x2 : Int) (x3 : (List S37)) (r : (List (S37))), impl_ExecDo.l0 N (x3) (x0) (x1) (x2) = some r → k (.own 0 0) ⟨[], [some ⟨37, r, 0⟩]⟩ = some () → LP_117_0 k x0 x1 x2 x3 = some ()
theorem L_117 (N : Nat) : S_117_0 N := by
 induction N using Nat.strongRecOn with | _ N0 ih =>
 skip
 intro k x0 x1 x2 x3 r h hk
 rcases N0 with _ | N
 · cases h
 first | rw [impl_ExecDo.l0] at h | simp only [impl_ExecDo.l0] at h | (unfold impl_ExecDo.l0 at h; dsimp only at h)
 refine loop_fold mC_117 mD_117 ?_
 refine (w_117_0 k x0 x1 x2 x3).trans ?_
 refine br_eti h rfl (fun c21 h => ?_) (fun c21 h => ?_)
 ·cases h; exact hk
 refine br_g h rfl (fun c22 h => ?_)
 refine br_g h rfl (fun c23 h => ?_)
 refine br_g h rfl (fun c24 h => ?_)
 refine br_g h rfl (fun c25 h => ?_)
 refine br_t (by first | (simp [c24]; done) | (simp; omega) | (simp only [List.length_append, List.length_cons, List.length_nil, List.length_take, List.length_drop] at c25 c23 ⊢; simp; omega) | (simp only [List.length_append, List.length_cons, List.length_nil, List.length_take, List.length_drop] at c25 c23; simp; omega) | (simp_all; done)) ?_
 refine br_t (by first | (simp [c25]; done) | (simp; omega) | (simp only [List.length_append, List.length_cons, List.length_nil, List.length_take, List.length_drop] at c25 c23 ⊢; simp; omega) | (simp only [List.length_append, List.length_cons, List.length_nil, List.length_take, List.length_drop] at c25 c23; simp; omega) | (simp_all; done)) ?_
 exact (ih N (by omega)) _ _ _ _ _ _ h hk
theorem okc_117 (args : List (AV tau)) (m : Mem tau) (κ : AV tau → Mem tau → Option Unit) (hh : c_117 args m κ = some ()) : ∃ av m1, κ av m1 = some () ∧ ToldA Try.prog TT (pnT 117) 117 args m av m1 := by
 obtain ⟨bx_, rw_⟩ := m
 unfold c_117 at hh
 simp only at hh
 split at hh
 case h_2 => cases hh
 rename_i b0 b1 b2 b3 b4
 obtain ⟨l0, hx0, hh0⟩ := bO_some hh
 obtain ⟨l1_0, hx1, hh1⟩ := bO_some hh0
 obtain ⟨l1_1, hx2, hh2⟩ := bO_some hh1
 obtain ⟨a1_2, hx3, hh3⟩ := bO_some hh2
 obtain ⟨a1_3, hx4, hh4⟩ := bO_some hh3
 have ex0 := asSl_some hx0
 have ex1 := asSl_some hx1
 have ex2 := asSl_some hx2
 have ex3 := asI_some hx3
 have ex4 := asI_some hx4
 subst ex0 ex1 ex2 ex3 ex4
 obtain ⟨N, t, h, hκ⟩ := callX_some hh4
 refine ⟨_, _, hκ, told_of_run pq okC_117 (fun _ _ _ => drawA_ok pq okC_117 hmix) (E := E_117) (fn := Try.f117) (body := B_117) (by kernel_rfl) (by kernel_rfl) (by kernel_rfl) (by rfl) (by exact Nat.le_of_ble_eq_true rfl) (fun k hk => ?_)⟩
 refine (w_117 l0 l1_0 l1_1 a1_2 a1_3 k).trans ?_
 replace h : impl_ExecDo.f N l0 l1_0 l1_1 a1_2 a1_3 = some t := h
 unfold impl_ExecDo.f at h
 refine call_h N h (fun t0 e26 h => ?_)
 refine br_etn h (congrArg not dect) (fun c27 h => ?_) (fun c27 h => ?_)
 ·rcases N with _ | N
  · cases h
  first | rw [impl_ExecDo.j0] at h | simp only [impl_ExecDo.j0] at h | (unfold impl_ExecDo.j0 at h; dsimp only at h)
  replace h := ite_t h (by first | assumption | omega | simp_all)
  cases h; exact hk
 refine call_h N h (fun t1 e28 h => ?_)
 rcases N with _ | N
 · cases h
 first | rw [impl_ExecDo.j0] at h | simp only [impl_ExecDo.j0] at h | (unfold impl_ExecDo.j0 at h; dsimp only at h)
 refine br_ite h dect (fun c29 h => ?_) (fun c29 h => ?_)
 ·cases h; exact hk
 refine call_h 0 h (fun t2 e30 h => ?_)
 exact (L_117 N) _ _ _ _ _ _ h hk
noncomputable def C_47 : Ctr tau Unit := ctrS 117 c_117 C_117
noncomputable def D_47 : Drw tau := drawA E_47 C_47
theorem okC_47 : CtrOk Try.prog TT pnT C_47 := ctrS_ok okC_117 okc_117
theorem mC_47 : CtrMono C_47 := ctrS_mono mC_117 mc_117
theorem mD_47 : DrMono D_47 := drawA_mono mC_47
noncomputable def B_47 : Code := Try.f47.body.getD .skip
theorem mc_47 (args : List (AV tau)) (m : Mem tau) (k k' : AV tau → Mem tau → Option Unit) (hk : ∀ av m, k av m = some () → k' av m = some ()) (h : c_47 args m k = some ()) : c_47 args m k' = some () := by
 unfold c_47 at h ⊢
 split at h
 · repeat' first | exact callX_mono (fun _ h => hk _ _ h) h | refine bO_mono (fun _ h => ?_) h
 · cases h
noncomputable def K_47_0 (k : AV tau → Mem tau → Option Unit) : Kon tau := (kBlock 0 (kS E_47 C_47 D_47 (codeP B_47 [1, 1, 1, 1, 1]) (kEnd E_47 Try.f47 k)))
noncomputable def K_47_1 (k : AV tau → Mem tau → Option Unit) : Kon tau := (kBlock 3 (kS E_47 C_47 D_47 (codeP B_47 [1, 1, 1, 1, 1, 1, 1, 1, 1, 1]) (kEnd E_47 Try.f47 k)))
def st_47_0 (x0 : (List S84)) (x1 : Int) (x2 : Int) (x3 : Int) (x4 : (List S37)) (x5 : (List S84)) (x6 : Bool) (x7 : Int) (x8 : Int) (x9 : (List S39)) (x10 : (List S82)) (x11 : Int) (x12 : Int) (x13 : Int) (x14 : Int) (x15 : (List S37)) (x16 : (List S84)) (x17 : (List S37)) (x18 : (List S84)) : St tau := ⟨tmL 152 0 [(2, .ptr 0 0), (3, .ptr 1 0), (4, .ptr 2 0), (6, .ptr 3 0), (43, .sl 84 x0), (44, .int .i64 x1), (45, .int .i64 x2)], ⟨[some (69, [.int .i64 x3, .sl 37 x4, .sl 84 x5]), some (77, [.bool x6, .int .i64 x7, .int .i64 x8, .sl 39 x9, .sl 82 x10, .int .i64 x11, .int .i64 x12]), some (69, [.int .i64 x13, .own 0 0, .own 1 0]), some (69, [.int .i64 x14, .own 2 0, .own 3 0])], [some ⟨37, x15, 0⟩, some ⟨84, x16, 0⟩, some ⟨37, x17, 0⟩, some ⟨84, x18, 0⟩]⟩⟩
noncomputable def LP_47_0 (k : AV tau → Mem tau → Option Unit) (x0 : (List S84)) (x1 : Int) (x2 : Int) (x3 : Int) (x4 : (List S37)) (x5 : (List S84)) (x6 : Bool) (x7 : Int) (x8 : Int) (x9 : (List S39)) (x10 : (List S82)) (x11 : Int) (x12 : Int) (x13 : Int) (x14 : Int) (x15 : (List S37)) (x16 : (List S84)) (x17 : (List S37)) (x18 : (List S84)) : Option Unit := loopA E_47 (codeA E_47 C_47 D_47 (codeP B_47 [1, 1, 1, 1, 0, 1, 0, 0])) (codeP B_47 [1, 1, 1, 1, 0, 1, 0, 0]) (K_47_0 k) (st_47_0 x0 x1 x2 x3 x4 x5 x6 x7 x8 x9 x10 x11 x12 x13 x14 x15 x16 x17 x18)
def st_47_1 (x0 : Bool) (x1 : (List S84)) (x2 : Int) (x3 : Int) (x4 : Int) (x5 : Int) (x6 : Int) (x7 : Int) (x8 : Int) (x9 : Int) (x10 : (List S84)) (x11 : (List S37)) (x12 : (List S84)) (x13 : (List S37)) (x14 : (List S84)) : St tau := ⟨tmL 152 0 [(4, .ptr 0 0), (6, .ptr 1 0), (9, .ptr 2 0), (10, .own 0 0), (11, .bool x0), (107, .sl 84 x1), (108, .int .i64 x2), (109, .int .i64 x3)], ⟨[some (69, [.int .i64 x4, .own 1 0, .own 2 0]), some (69, [.int .i64 x5, .own 3 0, .own 4 0]), some (84, [.int .i64 x6, .int .i64 x7, .int .i64 x8, .int .i64 x9])], [some ⟨84, x10, 0⟩, some ⟨37, x11, 0⟩, some ⟨84, x12, 0⟩, some ⟨37, x13, 0⟩, some ⟨84, x14, 0⟩]⟩⟩
noncomputable def LP_47_1 (k : AV tau → Mem tau → Option Unit) (x0 : Bool) (x1 : (List S84)) (x2 : Int) (x3 : Int) (x4 : Int) (x5 : Int) (x6 : Int) (x7 : Int) (x8 : Int) (x9 : Int) (x10 : (List S84)) (x11 : (List S37)) (x12 : (List S84)) (x13 : (List S37)) (x14 : (List S84)) : Option Unit := loopA E_47 (codeA E_47 C_47 D_47 (codeP B_47 [1, 1, 1, 1, 1, 1, 1, 1, 1, 0, 1, 0, 0])) (codeP B_47 [1, 1, 1, 1, 1, 1, 1, 1, 1, 0, 1, 0, 0]) (K_47_1 k) (st_47_1 x0 x1 x2 x3 x4 x5 x6 x7 x8 x9 x10 x11 x12 x13 x14)
theorem w_47_0 (k : AV tau → Mem tau → Option Unit) (x0 : (List S84)) (x1 : Int) (x2 : Int) (x3 : Int) (x4 : (List S37)) (x5 : (List S84)) (x6 : Bool) (x7 : Int) (x8 : Int) (x9 : (List S39)) (x10 : (List S82)) (x11 : Int) (x12 : Int) (x13 : Int) (x14 : Int) (x15 : (List S37)) (x16 : (List S84)) (x17 : (List S37)) (x18 : (List S84)) : codeA E_47 C_47 D_47 (codeP B_47 [1, 1, 1, 1, 0, 1, 0, 0]) (kL E_47 C_47 D_47 (codeP B_47 [1, 1, 1, 1, 0, 1, 0, 0]) (K_47_0 k)) (st_47_0 x0 x1 x2 x3 x4 x5 x6 x7 x8 x9 x10 x11 x12 x13 x14 x15 x16 x17 x18) = (brA (decide (x2 < x1)) (brA (decide ((0 : Int) ≤ x2)) (brA (decide (x2 < ((x0.length : Nat) : Int))) (brA (decide (((rd_T84 x0 x2).f0).f0 = x7)) (brA (decide (((rd_T84 x0 x2).f0).f1 ≥ x8)) (callX (fun n => impl_copied_impl_Done.f x5) fun t6 => brA (decide (((rd_T84 x0 x2).f0).f1 = x8)) (k (.tup [.agg [.int .i64 x14, .own 0 0, .own 1 0], .int .i64 (3 : Int)]) ⟨[], [some ⟨37, x17, 0⟩, some ⟨84, t6, 0⟩]⟩) (k (.tup [.agg [.int .i64 x14, .own 0 0, .own 1 0], .int .i64 (4 : Int)]) ⟨[], [some ⟨37, x17, 0⟩, some ⟨84, t6, 0⟩]⟩)) (LP_47_0 k x0 x1 (wrap64 (x2 + (1 : Int))) x3 x4 x5 x6 x7 x8 x9 x10 x11 x12 x13 x14 x15 x16 x17 x18)) (LP_47_0 k x0 x1 (wrap64 (x2 + (1 : Int))) x3 x4 x5 x6 x7 x8 x9 x10 x11 x12 x13 x14 x15 x16 x17 x18)) (none)) (none)) (callX (fun n => impl_ExecFresh.f n x4 x9 x10 x11 x12) fun t7 => brA (!t7) (LP_47_1 k false x5 ((x5.length : Nat) : Int) (0 : Int) x13 x14 x7 x8 (1 : Int) (0 : Int) ([] : List S84) x15 x16 x17 x18) (brA (!(decide (x12 = (0 : Int)))) (LP_47_1 k false x5 ((x5.length : Nat) : Int) (0 : Int) x13 x14 x7 x8 (2 : Int) (0 : Int) ([] : List S84) x15 x16 x17 x18) (callX (fun n => impl_ExecDo.f n x4 x9 x10 x11 x12) fun t8 => LP_47_1 k false x5 ((x5.length : Nat) : Int) (0 : Int) x13 x14 x7 x8 (0 : Int) x11 ([] : List S84) x15 x16 t8 x18))) : Option Unit) := by
 simp only [← wrapA_i64]
 kernel_rfl
theorem w_47_1 (k : AV tau → Mem tau → Option Unit) (x0 : Bool) (x1 : (List S84)) (x2 : Int) (x3 : Int) (x4 : Int) (x5 : Int) (x6 : Int) (x7 : Int) (x8 : Int) (x9 : Int) (x10 : (List S84)) (x11 : (List S37)) (x12 : (List S84)) (x13 : (List S37)) (x14 : (List S84)) : codeA E_47 C_47 D_47 (codeP B_47 [1, 1, 1, 1, 1, 1, 1, 1, 1, 0, 1, 0, 0]) (kL E_47 C_47 D_47 (codeP B_47 [1, 1, 1, 1, 1, 1, 1, 1, 1, 0, 1, 0, 0]) (K_47_1 k)) (st_47_1 x0 x1 x2 x3 x4 x5 x6 x7 x8 x9 x10 x11 x12 x13 x14) = (brA (decide (x3 < x2)) (brA (decide ((0 : Int) ≤ x3)) (brA (decide (x3 < ((x1.length : Nat) : Int))) (brA (!x0) (brA (decide (((rd_T84 x1 x3).f0).f0 ≥ x6)) (brA (decide ((x10.length + 1) ≤ 4398046511104)) (brA (!(decide (((rd_T84 x1 x3).f0).f0 = x6))) (brA (decide (((x10 ++ ([(⟨(⟨x6, x7⟩ : S75), x8, x9⟩ : S84)] : List S84)).length + 1) ≤ 4398046511104)) (LP_47_1 k true x1 x2 (wrap64 (x3 + (1 : Int))) x4 x5 x6 x7 x8 x9 ((x10 ++ ([(⟨(⟨x6, x7⟩ : S75), x8, x9⟩ : S84)] : List S84)) ++ ([(⟨(⟨((rd_T84 x1 x3).f0).f0, ((rd_T84 x1 x3).f0).f1⟩ : S75), (rd_T84 x1 x3).f1, (rd_T84 x1 x3).f2⟩ : S84)] : List S84)) x11 x12 x13 x14) (none)) (LP_47_1 k true x1 x2 (wrap64 (x3 + (1 : Int))) x4 x5 x6 x7 x8 x9 (x10 ++ ([(⟨(⟨x6, x7⟩ : S75), x8, x9⟩ : S84)] : List S84)) x11 x12 x13 x14)) (none)) (brA (!(decide (((rd_T84 x1 x3).f0).f0 = x6))) (brA (decide ((x10.length + 1) ≤ 4398046511104)) (LP_47_1 k x0 x1 x2 (wrap64 (x3 + (1 : Int))) x4 x5 x6 x7 x8 x9 (x10 ++ ([(⟨(⟨((rd_T84 x1 x3).f0).f0, ((rd_T84 x1 x3).f0).f1⟩ : S75), (rd_T84 x1 x3).f1, (rd_T84 x1 x3).f2⟩ : S84)] : List S84)) x11 x12 x13 x14) (none)) (LP_47_1 k x0 x1 x2 (wrap64 (x3 + (1 : Int))) x4 x5 x6 x7 x8 x9 x10 x11 x12 x13 x14))) (brA (!(decide (((rd_T84 x1 x3).f0).f0 = x6))) (brA (decide ((x10.length + 1) ≤ 4398046511104)) (LP_47_1 k x0 x1 x2 (wrap64 (x3 + (1 : Int))) x4 x5 x6 x7 x8 x9 (x10 ++ ([(⟨(⟨((rd_T84 x1 x3).f0).f0, ((rd_T84 x1 x3).f0).f1⟩ : S75), (rd_T84 x1 x3).f1, (rd_T84 x1 x3).f2⟩ : S84)] : List S84)) x11 x12 x13 x14) (none)) (LP_47_1 k x0 x1 x2 (wrap64 (x3 + (1 : Int))) x4 x5 x6 x7 x8 x9 x10 x11 x12 x13 x14))) (none)) (none)) (brA (!x0) (brA (decide ((x10.length + 1) ≤ 4398046511104)) (callX (fun n => impl_copied_impl_Done.f (x10 ++ ([(⟨(⟨x6, x7⟩ : S75), x8, x9⟩ : S84)] : List S84))) fun t9 => k (.tup [.agg [.int .i64 x5, .own 0 0, .own 1 0], .int .i64 x8]) ⟨[], [some ⟨37, x13, 0⟩, some ⟨84, t9, 0⟩]⟩) (none)) (callX (fun n => impl_copied_impl_Done.f x10) fun t10 => k (.tup [.agg [.int .i64 x5, .own 0 0, .own 1 0], .int .i64 x8]) ⟨[], [some ⟨37, x13, 0⟩, some ⟨84, t10, 0⟩]⟩)) : Option Unit) := by
 simp only [← wrapA_i64]
 kernel_rfl
theorem w_47 (a0_0 : Int) (l0_1 : List S37) (l0_2 : List S84) (a1_0 : Bool) (a1_1 : Int) (a1_2 : Int) (l1_3 : List S39) (l1_4 : List S82) (a1_5 : Int) (a1_6 : Int) (k : AV tau → Mem tau → Option Unit) : fnA E_47 C_47 D_47 Try.f47 B_47 [.agg [.int .i64 a0_0, .sl 37 l0_1, .sl 84 l0_2], .agg [.bool a1_0, .int .i64 a1_1, .int .i64 a1_2, .sl 39 l1_3, .sl 82 l1_4, .int .i64 a1_5, .int .i64 a1_6]] ⟨[], []⟩ k = (callX (fun n => impl_CertOk.f n a0_0 l0_1 l0_2) fun t0 => brA (!t0) (k (.tup [.agg [.int .i64 (0 : Int), .own 0 0, .own 1 0], .int .i64 (-(1 : Int))]) ⟨[], [some ⟨37, ([] : List S37), 0⟩, some ⟨84, ([] : List S84), 0⟩]⟩) (callX (fun n => impl_CertEntry.f n a1_0 a1_1 a1_2 l1_3 l1_4 a1_5 a1_6) fun t1 => brA (!t1) (k (.tup [.agg [.int .i64 (0 : Int), .own 0 0, .own 1 0], .int .i64 (-(1 : Int))]) ⟨[], [some ⟨37, ([] : List S37), 0⟩, some ⟨84, ([] : List S84), 0⟩]⟩) (brA (decide (a0_0 = (40 : Int))) (k (.tup [.agg [.int .i64 (0 : Int), .own 0 0, .own 1 0], .int .i64 (-(1 : Int))]) ⟨[], [some ⟨37, ([] : List S37), 0⟩, some ⟨84, ([] : List S84), 0⟩]⟩) (andA (callX (fun n => impl_copied_impl_Box.f l0_1) fun t2 => brA a1_0 (callX (fun n => impl_copied_impl_Done.f l0_2) fun t3 => k (.tup [.agg [.int .i64 (wrap64 (a0_0 + (1 : Int))), .own 0 0, .own 1 0], .int .i64 (5 : Int)]) ⟨[], [some ⟨37, t2, 0⟩, some ⟨84, t3, 0⟩]⟩) (LP_47_0 k l0_2 ((l0_2.length : Nat) : Int) (0 : Int) a0_0 l0_1 l0_2 a1_0 a1_1 a1_2 l1_3 l1_4 a1_5 a1_6 (0 : Int) (wrap64 (a0_0 + (1 : Int))) ([] : List S37) ([] : List S84) t2 ([] : List S84))) (callX (fun n => impl_copied_impl_Box.f l0_1) fun t4 => brA a1_0 (callX (fun n => impl_copied_impl_Done.f l0_2) fun t5 => k (.tup [.agg [.int .i64 (wrap64 (a0_0 + (1 : Int))), .own 0 0, .own 1 0], .int .i64 (5 : Int)]) ⟨[], [some ⟨37, t4, 0⟩, some ⟨84, t5, 0⟩]⟩) (LP_47_0 k l0_2 ((l0_2.length : Nat) : Int) (0 : Int) a0_0 l0_1 l0_2 a1_0 a1_1 a1_2 l1_3 l1_4 a1_5 a1_6 (0 : Int) (wrap64 (a0_0 + (1 : Int))) ([] : List S37) ([] : List S84) t4 ([] : List S84)))))) : Option Unit) := by
 simp only [← wrapA_i64]
 kernel_rfl
def S_47_0 (N : Nat) : Prop := ∀ (k : AV tau → Mem tau → Option Unit) (x0 : (List S84)) (x1 : Int) (x2 : Int) (x3 : Int) (x4 : (List S37)) (x5 : (List S84)) (x6 : Bool) (x7 : Int) (x8 : Int) (x9 : (List S39)) (x10 : (List S82)) (x11 : Int) (x12 : Int) (x13 : Int) (x14 : Int) (x15 : (List S37)) (x16 : (List S84)) (x17 : (List S37)) (x18 : (List S84)) (r : Int × (List (S37)) × (List (S84)) × Int), impl_CertApply.l0 N (x0) (x1) (x2) (x3) (x4) (x5) (x6) (x7) (x8) (x9) (x10) (x11) (x12) (x14) (x17) = some r → k (.tup [.agg [.int .i64 (r.1), .own 0 0, .own 1 0], .int .i64 (r.2.2.2)]) ⟨[], [some ⟨37, r.2.1, 0⟩, some ⟨84, r.2.2.1, 0⟩]⟩ = some () → LP_47_0 k x0 x1 x2 x3 x4 x5 x6 x7 x8 x9 x10 x11 x12 x13 x14 x15 x16 x17 x18 = some ()
def S_47_1 (N : Nat) : Prop := ∀ (k : AV tau → Mem tau → Option Unit) (x0 : Bool) (x1 : (List S84)) (x2 : Int) (x3 : Int) (x4 : Int) (x5 : Int) (x6 : Int) (x7 : Int) (x8 : Int) (x9 : Int) (x10 : (List S84)) (x11 : (List S37)) (x12 : (List S84)) (x13 : (List S37)) (x14 : (List S84)) (r : Int × (List (S37)) × (List (S84)) × Int), impl_CertApply.l1 N (x10) (x0) (x1) (x2) (x3) (x5) (x13) (x6) (x7) (x8) (x9) = some r → k (.tup [.agg [.int .i64 (r.1), .own 0 0, .own 1 0], .int .i64 (r.2.2.2)]) ⟨[], [some ⟨37, r.2.1, 0⟩, some ⟨84, r.2.2.1, 0⟩]⟩ = some () → LP_47_1 k x0 x1 x2 x3 x4 x5 x6 x7 x8 x9 x10 x11 x12 x13 x14 = some ()
theorem L_47 (N : Nat) : S_47_0 N ∧ S_47_1 N := by
 induction N using Nat.strongRecOn with | _ N0 ih =>
 refine ⟨?_, ?_⟩
 ·intro k x0 x1 x2 x3 x4 x5 x6 x7 x8 x9 x10 x11 x12 x13 x14 x15 x16 x17 x18 r h hk
  rcases N0 with _ | N
  · cases h
  first | rw [impl_CertApply.l0] at h | simp only [impl_CertApply.l0] at h | (unfold impl_CertApply.l0 at h; dsimp only at h)
  refine loop_fold mC_47 mD_47 ?_
  refine (w_47_0 k x0 x1 x2 x3 x4 x5 x6 x7 x8 x9 x10 x11 x12 x13 x14 x15 x16 x17 x18).trans ?_
  refine br_eti h rfl (fun c77 h => ?_) (fun c77 h => ?_)
  ·refine call_h N h (fun t7 e78 h => ?_)
   refine br_etn h (congrArg not dect) (fun c79 h => ?_) (fun c79 h => ?_)
   ·rcases N with _ | N
    · cases h
    first | rw [impl_CertApply.j3] at h | simp only [impl_CertApply.j3] at h | (unfold impl_CertApply.j3 at h; dsimp only at h)
    exact (ih N (by omega)).2 _ _ _ _ _ _ _ _ _ _ _ _ _ _ _ _ _ h hk
   refine br_etn h rfl (fun c80 h => ?_) (fun c80 h => ?_)
   ·rcases N with _ | N
    · cases h
    first | rw [impl_CertApply.j3] at h | simp only [impl_CertApply.j3] at h | (unfold impl_CertApply.j3 at h; dsimp only at h)
    exact (ih N (by omega)).2 _ _ _ _ _ _ _ _ _ _ _ _ _ _ _ _ _ h hk
   refine call_h N h (fun t8 e81 h => ?_)
   rcases N with _ | N
   · cases h
   first | rw [impl_CertApply.j3] at h | simp only [impl_CertApply.j3] at h | (unfold impl_CertApply.j3 at h; dsimp only at h)
   exact (ih N (by omega)).2 _ _ _ _ _ _ _ _ _ _ _ _ _ _ _ _ _ h hk
  refine br_g h rfl (fun c82 h => ?_)
  refine br_g h rfl (fun c83 h => ?_)
  refine br_eti h rfl (fun c84 h => ?_) (fun c84 h => ?_)
  ·rcases N with _ | N
   · cases h
   first | rw [impl_CertApply.j2] at h | simp only [impl_CertApply.j2] at h | (unfold impl_CertApply.j2 at h; dsimp only at h)
   replace h := ite_f h (by first | assumption | omega | simp_all)
   exact (ih N (by omega)).1 _ _ _ _ _ _ _ _ _ _ _ _ _ _ _ _ _ _ _ _ _ h hk
  rcases N with _ | N
  · cases h
  first | rw [impl_CertApply.j2] at h | simp only [impl_CertApply.j2] at h | (unfold impl_CertApply.j2 at h; dsimp only at h)
  refine br_eti h (by first | rfl | exact dect | exact (congrArg not dect) | (simp; done) | (simp [beqI]; done) | (simp; omega)) (fun c85 h => ?_) (fun c85 h => ?_)
  ·exact (ih N (by omega)).1 _ _ _ _ _ _ _ _ _ _ _ _ _ _ _ _ _ _ _ _ _ h hk
  refine call_h 0 h (fun t6 e86 h => ?_)
  refine br_ite h rfl (fun c87 h => ?_) (fun c87 h => ?_)
  ·cases h; exact hk
  cases h; exact hk
 ·intro k x0 x1 x2 x3 x4 x5 x6 x7 x8 x9 x10 x11 x12 x13 x14 r h hk
  rcases N0 with _ | N
  · cases h
  first | rw [impl_CertApply.l1] at h | simp only [impl_CertApply.l1] at h | (unfold impl_CertApply.l1 at h; dsimp only at h)
  refine loop_fold mC_47 mD_47 ?_
  refine (w_47_1 k x0 x1 x2 x3 x4 x5 x6 x7 x8 x9 x10 x11 x12 x13 x14).trans ?_
  refine br_eti h rfl (fun c88 h => ?_) (fun c88 h => ?_)
  ·refine br_itn h (congrArg not dect) (fun c89 h => ?_) (fun c89 h => ?_)
   ·refine call_h 0 h (fun t10 e90 h => ?_)
    cases h; exact hk
   refine br_g h (by first | rfl | exact dect | exact (congrArg not dect) | (simp; done) | (simp [beqI]; done) | (simp; omega)) (fun c91 h => ?_)
   refine call_h 0 h (fun t9 e92 h => ?_)
   cases h; exact hk
  refine br_g h rfl (fun c93 h => ?_)
  refine br_g h rfl (fun c94 h => ?_)
  refine br_itn h (congrArg not dect) (fun c95 h => ?_) (fun c95 h => ?_)
  ·rcases N with _ | N
   · cases h
   first | rw [impl_CertApply.j5] at h | simp only [impl_CertApply.j5] at h | (unfold impl_CertApply.j5 at h; dsimp only at h)
   replace h := ite_f h (by first | assumption | omega | simp_all)
   refine br_itn h rfl (fun c96 h => ?_) (fun c96 h => ?_)
   ·exact (ih N (by omega)).2 _ _ _ _ _ _ _ _ _ _ _ _ _ _ _ _ _ h hk
   refine br_g h (by first | rfl | exact dect | exact (congrArg not dect) | (simp; done) | (simp [beqI]; done) | (simp; omega)) (fun c97 h => ?_)
   exact (ih N (by omega)).2 _ _ _ _ _ _ _ _ _ _ _ _ _ _ _ _ _ h hk
  rcases N with _ | N
  · cases h
  first | rw [impl_CertApply.j5] at h | simp only [impl_CertApply.j5] at h | (unfold impl_CertApply.j5 at h; dsimp only at h)
  refine br_eti h (by first | rfl | exact dect | exact (congrArg not dect) | (simp; done) | (simp [beqI]; done) | (simp; omega)) (fun c98 h => ?_) (fun c98 h => ?_)
  ·refine br_itn h rfl (fun c99 h => ?_) (fun c99 h => ?_)
   ·exact (ih N (by omega)).2 _ _ _ _ _ _ _ _ _ _ _ _ _ _ _ _ _ h hk
   refine br_g h (by first | rfl | exact dect | exact (congrArg not dect) | (simp; done) | (simp [beqI]; done) | (simp; omega)) (fun c100 h => ?_)
   exact (ih N (by omega)).2 _ _ _ _ _ _ _ _ _ _ _ _ _ _ _ _ _ h hk
  refine br_g h (by first | rfl | exact dect | exact (congrArg not dect) | (simp; done) | (simp [beqI]; done) | (simp; omega)) (fun c101 h => ?_)
  replace h := let_h h
  refine br_itn h rfl (fun c102 h => ?_) (fun c102 h => ?_)
  ·exact (ih N (by omega)).2 _ _ _ _ _ _ _ _ _ _ _ _ _ _ _ _ _ h hk
  refine br_g h (by first | rfl | exact dect | exact (congrArg not dect) | (simp; done) | (simp [beqI]; done) | (simp; omega)) (fun c103 h => ?_)
  exact (ih N (by omega)).2 _ _ _ _ _ _ _ _ _ _ _ _ _ _ _ _ _ h hk
theorem okc_47 (args : List (AV tau)) (m : Mem tau) (κ : AV tau → Mem tau → Option Unit) (hh : c_47 args m κ = some ()) : ∃ av m1, κ av m1 = some () ∧ ToldA Try.prog TT (pnT 47) 47 args m av m1 := by
 obtain ⟨bx_, rw_⟩ := m
 unfold c_47 at hh
 simp only at hh
 split at hh
 case h_2 => cases hh
 rename_i b0 b1 b2 b3 b4 b5 b6 b7 b8 b9
 obtain ⟨a0_0, hx0, hh0⟩ := bO_some hh
 obtain ⟨l0_1, hx1, hh1⟩ := bO_some hh0
 obtain ⟨l0_2, hx2, hh2⟩ := bO_some hh1
 obtain ⟨a1_0, hx3, hh3⟩ := bO_some hh2
 obtain ⟨a1_1, hx4, hh4⟩ := bO_some hh3
 obtain ⟨a1_2, hx5, hh5⟩ := bO_some hh4
 obtain ⟨l1_3, hx6, hh6⟩ := bO_some hh5
 obtain ⟨l1_4, hx7, hh7⟩ := bO_some hh6
 obtain ⟨a1_5, hx8, hh8⟩ := bO_some hh7
 obtain ⟨a1_6, hx9, hh9⟩ := bO_some hh8
 have ex0 := asI_some hx0
 have ex1 := asSl_some hx1
 have ex2 := asSl_some hx2
 have ex3 := asB_some hx3
 have ex4 := asI_some hx4
 have ex5 := asI_some hx5
 have ex6 := asSl_some hx6
 have ex7 := asSl_some hx7
 have ex8 := asI_some hx8
 have ex9 := asI_some hx9
 subst ex0 ex1 ex2 ex3 ex4 ex5 ex6 ex7 ex8 ex9
 obtain ⟨N, t, h, hκ⟩ := callX_some hh9
 refine ⟨_, _, hκ, told_of_run pq okC_47 (fun _ _ _ => drawA_ok pq okC_47 hmix) (E := E_47) (fn := Try.f47) (body := B_47) (by kernel_rfl) (by kernel_rfl) (by kernel_rfl) (by rfl) (by exact Nat.le_of_ble_eq_true rfl) (fun k hk => ?_)⟩
 refine (w_47 a0_0 l0_1 l0_2 a1_0 a1_1 a1_2 l1_3 l1_4 a1_5 a1_6 k).trans ?_
 replace h : impl_CertApply.f N a0_0 l0_1 l0_2 a1_0 a1_1 a1_2 l1_3 l1_4 a1_5 a1_6 = some t := h
 unfold impl_CertApply.f at h
 refine call_h N h (fun t0 e104 h => ?_)
 refine br_etn h (congrArg not dect) (fun c105 h => ?_) (fun c105 h => ?_)
 ·rcases N with _ | N
  · cases h
  first | rw [impl_CertApply.j0] at h | simp only [impl_CertApply.j0] at h | (unfold impl_CertApply.j0 at h; dsimp only at h)
  replace h := ite_t h (by first | assumption | omega | simp_all)
  cases h; exact hk
 refine call_h N h (fun t1 e106 h => ?_)
 refine br_etn h (congrArg not dect) (fun c107 h => ?_) (fun c107 h => ?_)
 ·rcases N with _ | N
  · cases h
  first | rw [impl_CertApply.j0] at h | simp only [impl_CertApply.j0] at h | (unfold impl_CertApply.j0 at h; dsimp only at h)
  replace h := ite_t h (by first | assumption | omega | simp_all)
  cases h; exact hk
 rcases N with _ | N
 · cases h
 first | rw [impl_CertApply.j0] at h | simp only [impl_CertApply.j0] at h | (unfold impl_CertApply.j0 at h; dsimp only at h)
 refine br_ite h (by first | rfl | exact dect | exact (congrArg not dect) | (simp; done) | (simp [beqI]; done) | (simp; omega)) (fun c108 h => ?_) (fun c108 h => ?_)
 ·cases h; exact hk
 refine andA_of ?_ ?_
 ·refine call_h 0 h (fun t2 e109 h => ?_)
  refine br_eti h dect (fun c110 h => ?_) (fun c110 h => ?_)
  ·exact (L_47 N).1 _ _ _ _ _ _ _ _ _ _ _ _ _ _ _ _ _ _ _ _ _ h hk
  refine call_h 0 h (fun t3 e111 h => ?_)
  cases h; exact hk
 refine call_h 0 h (fun t4 e112 h => ?_)
 refine br_eti h dect (fun c113 h => ?_) (fun c113 h => ?_)
 ·exact (L_47 N).1 _ _ _ _ _ _ _ _ _ _ _ _ _ _ _ _ _ _ _ _ _ h hk
 refine call_h 0 h (fun t5 e114 h => ?_)
 cases h; exact hk
noncomputable def C_125 : Ctr tau Unit := ctrS 47 c_47 C_47
noncomputable def D_125 : Drw tau := drawA E_125 C_125
theorem okC_125 : CtrOk Try.prog TT pnT C_125 := ctrS_ok okC_47 okc_47
theorem mC_125 : CtrMono C_125 := ctrS_mono mC_47 mc_47
theorem mD_125 : DrMono D_125 := drawA_mono mC_125
noncomputable def B_125 : Code := Try.f125.body.getD .skip
theorem mc_125 (args : List (AV tau)) (m : Mem tau) (k k' : AV tau → Mem tau → Option Unit) (hk : ∀ av m, k av m = some () → k' av m = some ()) (h : c_125 args m k = some ()) : c_125 args m k' = some () := by
 unfold c_125 at h ⊢
 split at h
 · repeat' first | exact callX_mono (fun _ h => hk _ _ h) h | refine bO_mono (fun _ h => ?_) h
 · cases h
theorem w_125  (k : AV tau → Mem tau → Option Unit) : fnA E_125 C_125 D_125 Try.f125 B_125 [] ⟨[], []⟩ k = (k (.own 0 0) ⟨[], [some ⟨37, ([(⟨(0 : Int), (0 : Int)⟩ : S37), (⟨(0 : Int), (0 : Int)⟩ : S37), (⟨(0 : Int), (0 : Int)⟩ : S37), (⟨(0 : Int), (0 : Int)⟩ : S37)] : List S37), 0⟩]⟩ : Option Unit) := by kernel_rfl
theorem okc_125 (args : List (AV tau)) (m : Mem tau) (κ : AV tau → Mem tau → Option Unit) (hh : c_125 args m κ = some ()) : ∃ av m1, κ av m1 = some () ∧ ToldA Try.prog TT (pnT 125) 125 args m av m1 := by
 obtain ⟨bx_, rw_⟩ := m
 unfold c_125 at hh
 simp only at hh
 split at hh
 case h_2 => cases hh
 obtain ⟨N, t, h, hκ⟩ := callX_some hh
 refine ⟨_, _, hκ, told_of_run pq okC_125 (fun _ _ _ => drawA_ok pq okC_125 hmix) (E := E_125) (fn := Try.f125) (body := B_125) (by kernel_rfl) (by kernel_rfl) (by kernel_rfl) (by rfl) (by exact Nat.le_of_ble_eq_true rfl) (fun k hk => ?_)⟩
 refine (w_125 k).trans ?_
 replace h : impl_BoxOpen.f = some t := h
 unfold impl_BoxOpen.f at h
 replace h := ite_t h (by first | assumption | omega | simp_all)
 cases h; exact hk
noncomputable def C_60 : Ctr tau Unit := ctrS 125 c_125 C_125
noncomputable def D_60 : Drw tau := drawA E_60 C_60
theorem okC_60 : CtrOk Try.prog TT pnT C_60 := ctrS_ok okC_125 okc_125
theorem mC_60 : CtrMono C_60 := ctrS_mono mC_125 mc_125
theorem mD_60 : DrMono D_60 := drawA_mono mC_60
noncomputable def B_60 : Code := Try.f60.body.getD .skip
theorem mc_60 (args : List (AV tau)) (m : Mem tau) (k k' : AV tau → Mem tau → Option Unit) (hk : ∀ av m, k av m = some () → k' av m = some ()) (h : c_60 args m k = some ()) : c_60 args m k' = some () := by
 unfold c_60 at h ⊢
 split at h
 · repeat' first | exact callX_mono (fun _ h => hk _ _ h) h | refine bO_mono (fun _ h => ?_) h
 · cases h
theorem w_60  (k : AV tau → Mem tau → Option Unit) : fnA E_60 C_60 D_60 Try.f60 B_60 [] ⟨[], []⟩ k = (callX (fun n => impl_BoxOpen.f ) fun t0 => k (.agg [.int .i64 (0 : Int), .own 0 0, .own 1 0]) ⟨[], [some ⟨37, t0, 0⟩, some ⟨84, ([] : List S84), 0⟩]⟩ : Option Unit) := by kernel_rfl
theorem okc_60 (args : List (AV tau)) (m : Mem tau) (κ : AV tau → Mem tau → Option Unit) (hh : c_60 args m κ = some ()) : ∃ av m1, κ av m1 = some () ∧ ToldA Try.prog TT (pnT 60) 60 args m av m1 := by
 obtain ⟨bx_, rw_⟩ := m
 unfold c_60 at hh
 simp only at hh
 split at hh
 case h_2 => cases hh
 obtain ⟨N, t, h, hκ⟩ := callX_some hh
 refine ⟨_, _, hκ, told_of_run pq okC_60 (fun _ _ _ => drawA_ok pq okC_60 hmix) (E := E_60) (fn := Try.f60) (body := B_60) (by kernel_rfl) (by kernel_rfl) (by kernel_rfl) (by rfl) (by exact Nat.le_of_ble_eq_true rfl) (fun k hk => ?_)⟩
 refine (w_60 k).trans ?_
 replace h : impl_CertOpen.f = some t := h
 unfold impl_CertOpen.f at h
 refine call_h 0 h (fun t0 e2 h => ?_)
 cases h; exact hk
noncomputable def C_112 : Ctr tau Unit := ctrS 60 c_60 C_60
noncomputable def D_112 : Drw tau := drawA E_112 C_112
theorem okC_112 : CtrOk Try.prog TT pnT C_112 := ctrS_ok okC_60 okc_60
theorem mC_112 : CtrMono C_112 := ctrS_mono mC_60 mc_60
theorem mD_112 : DrMono D_112 := drawA_mono mC_112
noncomputable def B_112 : Code := Try.f112.body.getD .skip
theorem mc_112 (args : List (AV tau)) (m : Mem tau) (k k' : AV tau → Mem tau → Option Unit) (hk : ∀ av m, k av m = some () → k' av m = some ()) (h : c_112 args m k = some ()) : c_112 args m k' = some () := by
 unfold c_112 at h ⊢
 split at h
 · repeat' first | exact callX_mono (fun _ h => hk _ _ h) h | refine bO_mono (fun _ h => ?_) h
 · cases h
noncomputable def K_112_0 (k : AV tau → Mem tau → Option Unit) : Kon tau := (kBlock 0 (kS E_112 C_112 D_112 (codeP B_112 [1, 1, 1, 1]) (kEnd E_112 Try.f112 k)))
def st_112_0 (x0 : (List S77)) (x1 : Int) (x2 : Int) (x3 : Int) (x4 : Int) (x5 : (List Int)) (x6 : (List S37)) (x7 : (List S84)) (x8 : (List S37)) (x9 : (List S84)) : St tau := ⟨tmL 31 0 [(2, .ptr 0 0), (4, .ptr 1 0), (5, .own 0 0), (11, .sl 77 x0), (12, .int .i64 x1), (13, .int .i64 x2)], ⟨[some (69, [.int .i64 x3, .own 1 0, .own 2 0]), some (69, [.int .i64 x4, .own 3 0, .own 4 0])], [some ⟨3, x5, 0⟩, some ⟨37, x6, 0⟩, some ⟨84, x7, 0⟩, some ⟨37, x8, 0⟩, some ⟨84, x9, 0⟩]⟩⟩
noncomputable def LP_112_0 (k : AV tau → Mem tau → Option Unit) (x0 : (List S77)) (x1 : Int) (x2 : Int) (x3 : Int) (x4 : Int) (x5 : (List Int)) (x6 : (List S37)) (x7 : (List S84)) (x8 : (List S37)) (x9 : (List S84)) : Option Unit := loopA E_112 (codeA E_112 C_112 D_112 (codeP B_112 [1, 1, 1, 0, 1, 0, 0])) (codeP B_112 [1, 1, 1, 0, 1, 0, 0]) (K_112_0 k) (st_112_0 x0 x1 x2 x3 x4 x5 x6 x7 x8 x9)
theorem w_112_0 (k : AV tau → Mem tau → Option Unit) (x0 : (List S77)) (x1 : Int) (x2 : Int) (x3 : Int) (x4 : Int) (x5 : (List Int)) (x6 : (List S37)) (x7 : (List S84)) (x8 : (List S37)) (x9 : (List S84)) : codeA E_112 C_112 D_112 (codeP B_112 [1, 1, 1, 0, 1, 0, 0]) (kL E_112 C_112 D_112 (codeP B_112 [1, 1, 1, 0, 1, 0, 0]) (K_112_0 k)) (st_112_0 x0 x1 x2 x3 x4 x5 x6 x7 x8 x9) = (brA (decide (x2 < x1)) (brA (decide ((0 : Int) ≤ x2)) (brA (decide (x2 < ((x0.length : Nat) : Int))) (callX (fun n => impl_CertApply.f n x4 x8 x9 ((rd_T77 x0 x2).f0) (((rd_T77 x0 x2).f1).f0) (((rd_T77 x0 x2).f1).f1) (((rd_T77 x0 x2).f2).f0) (((rd_T77 x0 x2).f2).f1) (((rd_T77 x0 x2).f2).f2) (((rd_T77 x0 x2).f2).f3)) fun t1 => brA (decide ((x5.length + 1) ≤ 17592186044416)) (LP_112_0 k x0 x1 (wrap64 (x2 + (1 : Int))) x3 t1.1 (x5 ++ ([t1.2.2.2] : List Int)) x6 x7 t1.2.1 t1.2.2.1) (none)) (none)) (none)) (k (.tup [.agg [.int .i64 x4, .own 0 0, .own 1 0], .own 2 0]) ⟨[], [some ⟨37, x8, 0⟩, some ⟨84, x9, 0⟩, some ⟨3, x5, 0⟩]⟩) : Option Unit) := by
 simp only [← wrapA_i64]
 kernel_rfl
theorem w_112 (l0 : List S77) (k : AV tau → Mem tau → Option Unit) : fnA E_112 C_112 D_112 Try.f112 B_112 [.sl 77 l0] ⟨[], []⟩ k = (callX (fun n => impl_CertOpen.f ) fun t0 => LP_112_0 k l0 ((l0.length : Nat) : Int) (0 : Int) (0 : Int) t0.1 ([] : List Int) ([] : List S37) ([] : List S84) t0.2.1 t0.2.2 : Option Unit) := by kernel_rfl
def S_112_0 (N : Nat) : Prop := ∀ (k : AV tau → Mem tau → Option Unit) (x0 : (List S77)) (x1 : Int) (x2 : Int) (x3 : Int) (x4 : Int) (x5 : (List Int)) (x6 : (List S37)) (x7 : (List S84)) (x8 : (List S37)) (x9 : (List S84)) (r : Int × (List (S37)) × (List (S84)) × List Int), impl_folded.l0 N (x5) (x0) (x1) (x2) (x4) (x8) (x9) = some r → k (.tup [.agg [.int .i64 (r.1), .own 0 0, .own 1 0], .own 2 0]) ⟨[], [some ⟨37, r.2.1, 0⟩, some ⟨84, r.2.2.1, 0⟩, some ⟨3, r.2.2.2, 0⟩]⟩ = some () → LP_112_0 k x0 x1 x2 x3 x4 x5 x6 x7 x8 x9 = some ()
theorem L_112 (N : Nat) : S_112_0 N := by
 induction N using Nat.strongRecOn with | _ N0 ih =>
 skip
 intro k x0 x1 x2 x3 x4 x5 x6 x7 x8 x9 r h hk
 rcases N0 with _ | N
 · cases h
 first | rw [impl_folded.l0] at h | simp only [impl_folded.l0] at h | (unfold impl_folded.l0 at h; dsimp only at h)
 refine loop_fold mC_112 mD_112 ?_
 refine (w_112_0 k x0 x1 x2 x3 x4 x5 x6 x7 x8 x9).trans ?_
 refine br_eti h rfl (fun c13 h => ?_) (fun c13 h => ?_)
 ·cases h; exact hk
 refine br_g h rfl (fun c14 h => ?_)
 refine br_g h rfl (fun c15 h => ?_)
 refine call_h N h (fun t1 e16 h => ?_)
 refine br_g h (by first | rfl | exact dect | exact (congrArg not dect) | (simp; done) | (simp [beqI]; done) | (simp; omega)) (fun c17 h => ?_)
 exact (ih N (by omega)) _ _ _ _ _ _ _ _ _ _ _ _ h hk
theorem okc_112 (args : List (AV tau)) (m : Mem tau) (κ : AV tau → Mem tau → Option Unit) (hh : c_112 args m κ = some ()) : ∃ av m1, κ av m1 = some () ∧ ToldA Try.prog TT (pnT 112) 112 args m av m1 := by
 obtain ⟨bx_, rw_⟩ := m
 unfold c_112 at hh
 simp only at hh
 split at hh
 case h_2 => cases hh
 rename_i b0
 obtain ⟨l0, hx0, hh0⟩ := bO_some hh
 have ex0 := asSl_some hx0
 subst ex0
 obtain ⟨N, t, h, hκ⟩ := callX_some hh0
 refine ⟨_, _, hκ, told_of_run pq okC_112 (fun _ _ _ => drawA_ok pq okC_112 hmix) (E := E_112) (fn := Try.f112) (body := B_112) (by kernel_rfl) (by kernel_rfl) (by kernel_rfl) (by rfl) (by exact Nat.le_of_ble_eq_true rfl) (fun k hk => ?_)⟩
 refine (w_112 l0 k).trans ?_
 replace h : impl_folded.f N l0 = some t := h
 unfold impl_folded.f at h
 refine call_h 0 h (fun t0 e18 h => ?_)
 exact (L_112 N) _ _ _ _ _ _ _ _ _ _ _ _ h hk
noncomputable def C_44 : Ctr tau Unit := ctrS 112 c_112 C_112
noncomputable def D_44 : Drw tau := drawA E_44 C_44
theorem okC_44 : CtrOk Try.prog TT pnT C_44 := ctrS_ok okC_112 okc_112
theorem mC_44 : CtrMono C_44 := ctrS_mono mC_112 mc_112
theorem mD_44 : DrMono D_44 := drawA_mono mC_44
noncomputable def B_44 : Code := Try.f44.body.getD .skip
theorem mc_44 (args : List (AV tau)) (m : Mem tau) (k k' : AV tau → Mem tau → Option Unit) (hk : ∀ av m, k av m = some () → k' av m = some ()) (h : c_44 args m k = some ()) : c_44 args m k' = some () := by
 unfold c_44 at h ⊢
 split at h
 · repeat' first | exact callX_mono (fun _ h => hk _ _ h) h | refine bO_mono (fun _ h => ?_) h
 · cases h
theorem w_44 (l0 : List S77) (k : AV tau → Mem tau → Option Unit) : fnA E_44 C_44 D_44 Try.f44 B_44 [.sl 77 l0] ⟨[], []⟩ k = (callX (fun n => impl_listOk.f n l0) fun t0 => brA (!t0) (k (.agg [.int .i64 (0 : Int), .own 0 0, .own 1 0]) ⟨[], [some ⟨37, ([] : List S37), 0⟩, some ⟨84, ([] : List S84), 0⟩]⟩) (callX (fun n => impl_folded.f n l0) fun t1 => k (.agg [.int .i64 t1.1, .own 0 0, .own 1 0]) ⟨[], [some ⟨37, t1.2.1, 0⟩, some ⟨84, t1.2.2.1, 0⟩]⟩) : Option Unit) := by kernel_rfl
theorem okc_44 (args : List (AV tau)) (m : Mem tau) (κ : AV tau → Mem tau → Option Unit) (hh : c_44 args m κ = some ()) : ∃ av m1, κ av m1 = some () ∧ ToldA Try.prog TT (pnT 44) 44 args m av m1 := by
 obtain ⟨bx_, rw_⟩ := m
 unfold c_44 at hh
 simp only at hh
 split at hh
 case h_2 => cases hh
 rename_i b0
 obtain ⟨l0, hx0, hh0⟩ := bO_some hh
 have ex0 := asSl_some hx0
 subst ex0
 obtain ⟨N, t, h, hκ⟩ := callX_some hh0
 refine ⟨_, _, hκ, told_of_run pq okC_44 (fun _ _ _ => drawA_ok pq okC_44 hmix) (E := E_44) (fn := Try.f44) (body := B_44) (by kernel_rfl) (by kernel_rfl) (by kernel_rfl) (by rfl) (by exact Nat.le_of_ble_eq_true rfl) (fun k hk => ?_)⟩
 refine (w_44 l0 k).trans ?_
 replace h : impl_CertFold.f N l0 = some t := h
 unfold impl_CertFold.f at h
 refine call_h N h (fun t0 e4 h => ?_)
 refine br_etn h (congrArg not dect) (fun c5 h => ?_) (fun c5 h => ?_)
 ·cases h; exact hk
 refine call_h N h (fun t1 e6 h => ?_)
 cases h; exact hk
noncomputable def C_19 : Ctr tau Unit := ctrS 44 c_44 C_44
noncomputable def D_19 : Drw tau := drawA E_19 C_19
theorem okC_19 : CtrOk Try.prog TT pnT C_19 := ctrS_ok okC_44 okc_44
theorem mC_19 : CtrMono C_19 := ctrS_mono mC_44 mc_44
theorem mD_19 : DrMono D_19 := drawA_mono mC_19
noncomputable def B_19 : Code := Try.f19.body.getD .skip
theorem mc_19 (args : List (AV tau)) (m : Mem tau) (k k' : AV tau → Mem tau → Option Unit) (hk : ∀ av m, k av m = some () → k' av m = some ()) (h : c_19 args m k = some ()) : c_19 args m k' = some () := by
 unfold c_19 at h ⊢
 split at h
 · repeat' first | exact callX_mono (fun _ h => hk _ _ h) h | refine bO_mono (fun _ h => ?_) h
 · cases h
noncomputable def K_19_0 (k : AV tau → Mem tau → Option Unit) : Kon tau := (kBlock 0 (kS E_19 C_19 D_19 (codeP B_19 [1, 1, 1]) (kEnd E_19 Try.f19 k)))
noncomputable def K_19_1 (k : AV tau → Mem tau → Option Unit) : Kon tau := (kBlock 2 (kS E_19 C_19 D_19 (codeP B_19 [1, 1, 1, 1]) (kEnd E_19 Try.f19 k)))
def st_19_0 (x0 : Int) (x1 : (List S39)) (x2 : (List S82)) (x3 : Int) (x4 : Int) (x5 : (List S39)) (x6 : (List S82)) (x7 : Int) (x8 : Int) : St tau := ⟨tmL 73 0 [(2, .ptr 0 0), (3, .ptr 1 0), (5, .int .i64 x0)], ⟨[some (26, [.sl 39 x1, .sl 82 x2, .int .i64 x3, .int .i64 x4]), some (26, [.sl 39 x5, .sl 82 x6, .int .i64 x7, .int .i64 x8])], []⟩⟩
noncomputable def LP_19_0 (k : AV tau → Mem tau → Option Unit) (x0 : Int) (x1 : (List S39)) (x2 : (List S82)) (x3 : Int) (x4 : Int) (x5 : (List S39)) (x6 : (List S82)) (x7 : Int) (x8 : Int) : Option Unit := loopA E_19 (codeA E_19 C_19 D_19 (codeP B_19 [1, 1, 0, 1, 0, 0])) (codeP B_19 [1, 1, 0, 1, 0, 0]) (K_19_0 k) (st_19_0 x0 x1 x2 x3 x4 x5 x6 x7 x8)
def st_19_1 (x0 : Int) (x1 : (List S39)) (x2 : (List S82)) (x3 : Int) (x4 : Int) (x5 : (List S39)) (x6 : (List S82)) (x7 : Int) (x8 : Int) : St tau := ⟨tmL 73 0 [(2, .ptr 0 0), (3, .ptr 1 0), (6, .int .i64 x0)], ⟨[some (26, [.sl 39 x1, .sl 82 x2, .int .i64 x3, .int .i64 x4]), some (26, [.sl 39 x5, .sl 82 x6, .int .i64 x7, .int .i64 x8])], []⟩⟩
noncomputable def LP_19_1 (k : AV tau → Mem tau → Option Unit) (x0 : Int) (x1 : (List S39)) (x2 : (List S82)) (x3 : Int) (x4 : Int) (x5 : (List S39)) (x6 : (List S82)) (x7 : Int) (x8 : Int) : Option Unit := loopA E_19 (codeA E_19 C_19 D_19 (codeP B_19 [1, 1, 1, 0, 1, 0, 0])) (codeP B_19 [1, 1, 1, 0, 1, 0, 0]) (K_19_1 k) (st_19_1 x0 x1 x2 x3 x4 x5 x6 x7 x8)
theorem w_19_0 (k : AV tau → Mem tau → Option Unit) (x0 : Int) (x1 : (List S39)) (x2 : (List S82)) (x3 : Int) (x4 : Int) (x5 : (List S39)) (x6 : (List S82)) (x7 : Int) (x8 : Int) : codeA E_19 C_19 D_19 (codeP B_19 [1, 1, 0, 1, 0, 0]) (kL E_19 C_19 D_19 (codeP B_19 [1, 1, 0, 1, 0, 0]) (K_19_0 k)) (st_19_0 x0 x1 x2 x3 x4 x5 x6 x7 x8) = (brA (decide (x0 < ((x1.length : Nat) : Int))) (brA (decide ((0 : Int) ≤ x0)) (brA (decide (x0 < ((x1.length : Nat) : Int))) (brA (decide ((0 : Int) ≤ x0)) (brA (decide (x0 < ((x5.length : Nat) : Int))) (brA (!(((rd_T39 x1 x0).f0 == (rd_T39 x5 x0).f0) && ((rd_T39 x1 x0).f1 == (rd_T39 x5 x0).f1))) (k (.bool false) ⟨[], []⟩) (LP_19_0 k (wrap64 (x0 + (1 : Int))) x1 x2 x3 x4 x5 x6 x7 x8)) (none)) (none)) (none)) (none)) (LP_19_1 k (0 : Int) x1 x2 x3 x4 x5 x6 x7 x8) : Option Unit) := by
 simp only [← wrapA_i64]
 kernel_rfl
theorem w_19_1 (k : AV tau → Mem tau → Option Unit) (x0 : Int) (x1 : (List S39)) (x2 : (List S82)) (x3 : Int) (x4 : Int) (x5 : (List S39)) (x6 : (List S82)) (x7 : Int) (x8 : Int) : codeA E_19 C_19 D_19 (codeP B_19 [1, 1, 1, 0, 1, 0, 0]) (kL E_19 C_19 D_19 (codeP B_19 [1, 1, 1, 0, 1, 0, 0]) (K_19_1 k)) (st_19_1 x0 x1 x2 x3 x4 x5 x6 x7 x8) = (brA (decide (x0 < ((x2.length : Nat) : Int))) (brA (decide ((0 : Int) ≤ x0)) (brA (decide (x0 < ((x2.length : Nat) : Int))) (brA (decide ((0 : Int) ≤ x0)) (brA (decide (x0 < ((x6.length : Nat) : Int))) (brA (!(((rd_T82 x2 x0).f0 == (rd_T82 x6 x0).f0) && ((rd_T82 x2 x0).f1 == (rd_T82 x6 x0).f1))) (k (.bool false) ⟨[], []⟩) (LP_19_1 k (wrap64 (x0 + (1 : Int))) x1 x2 x3 x4 x5 x6 x7 x8)) (none)) (none)) (none)) (none)) (k (.bool true) ⟨[], []⟩) : Option Unit) := by
 simp only [← wrapA_i64]
 kernel_rfl
theorem w_19 (l0_0 : List S39) (l0_1 : List S82) (a0_2 : Int) (a0_3 : Int) (l1_0 : List S39) (l1_1 : List S82) (a1_2 : Int) (a1_3 : Int) (k : AV tau → Mem tau → Option Unit) : fnA E_19 C_19 D_19 Try.f19 B_19 [.agg [.sl 39 l0_0, .sl 82 l0_1, .int .i64 a0_2, .int .i64 a0_3], .agg [.sl 39 l1_0, .sl 82 l1_1, .int .i64 a1_2, .int .i64 a1_3]] ⟨[], []⟩ k = (brA (!(decide (a0_2 = a1_2))) (k (.bool false) ⟨[], []⟩) (brA (!(decide (a0_3 = a1_3))) (k (.bool false) ⟨[], []⟩) (brA (!(decide (((l0_0.length : Nat) : Int) = ((l1_0.length : Nat) : Int)))) (k (.bool false) ⟨[], []⟩) (brA (!(decide (((l0_1.length : Nat) : Int) = ((l1_1.length : Nat) : Int)))) (k (.bool false) ⟨[], []⟩) (LP_19_0 k (0 : Int) l0_0 l0_1 a0_2 a0_3 l1_0 l1_1 a1_2 a1_3)))) : Option Unit) := by kernel_rfl
def S_19_0 (N : Nat) : Prop := ∀ (k : AV tau → Mem tau → Option Unit) (x0 : Int) (x1 : (List S39)) (x2 : (List S82)) (x3 : Int) (x4 : Int) (x5 : (List S39)) (x6 : (List S82)) (x7 : Int) (x8 : Int) (r : Bool), spec_ExecSame.l0 N (x0) (x1) (x2) (x3) (x4) (x5) (x6) (x7) (x8) = some r → k (.bool (r)) ⟨[], []⟩ = some () → LP_19_0 k x0 x1 x2 x3 x4 x5 x6 x7 x8 = some ()
def S_19_1 (N : Nat) : Prop := ∀ (k : AV tau → Mem tau → Option Unit) (x0 : Int) (x1 : (List S39)) (x2 : (List S82)) (x3 : Int) (x4 : Int) (x5 : (List S39)) (x6 : (List S82)) (x7 : Int) (x8 : Int) (r : Bool), spec_ExecSame.l1 N (x0) (x1) (x2) (x3) (x4) (x5) (x6) (x7) (x8) = some r → k (.bool (r)) ⟨[], []⟩ = some () → LP_19_1 k x0 x1 x2 x3 x4 x5 x6 x7 x8 = some ()
theorem L_19 (N : Nat) : S_19_0 N ∧ S_19_1 N := by
 induction N using Nat.strongRecOn with | _ N0 ih =>
 refine ⟨?_, ?_⟩
 ·intro k x0 x1 x2 x3 x4 x5 x6 x7 x8 r h hk
  rcases N0 with _ | N
  · cases h
  first | rw [spec_ExecSame.l0] at h | simp only [spec_ExecSame.l0] at h | (unfold spec_ExecSame.l0 at h; dsimp only at h)
  refine loop_fold mC_19 mD_19 ?_
  refine (w_19_0 k x0 x1 x2 x3 x4 x5 x6 x7 x8).trans ?_
  refine br_eti h rfl (fun c25 h => ?_) (fun c25 h => ?_)
  ·exact (ih N (by omega)).2 _ _ _ _ _ _ _ _ _ _ _ h hk
  refine br_g h rfl (fun c26 h => ?_)
  refine br_t (by first | (simp [c25]; done) | (simp; omega) | (simp only [List.length_append, List.length_cons, List.length_nil, List.length_take, List.length_drop] at c25 ⊢; simp; omega) | (simp only [List.length_append, List.length_cons, List.length_nil, List.length_take, List.length_drop] at c25; simp; omega) | (simp_all; done)) ?_
  refine br_t (by first | (simp [c26]; done) | (simp; omega) | (simp only [List.length_append, List.length_cons, List.length_nil, List.length_take, List.length_drop] at c25 ⊢; simp; omega) | (simp only [List.length_append, List.length_cons, List.length_nil, List.length_take, List.length_drop] at c25; simp; omega) | (simp_all; done)) ?_
  refine br_g h rfl (fun c27 h => ?_)
  refine br_ite h (by first | rfl | exact dect | exact (congrArg not dect) | (simp; done) | (simp [beqI]; done) | (simp; omega)) (fun c28 h => ?_) (fun c28 h => ?_)
  ·cases h; exact hk
  exact (ih N (by omega)).1 _ _ _ _ _ _ _ _ _ _ _ h hk
 ·intro k x0 x1 x2 x3 x4 x5 x6 x7 x8 r h hk
  rcases N0 with _ | N
  · cases h
  first | rw [spec_ExecSame.l1] at h | simp only [spec_ExecSame.l1] at h | (unfold spec_ExecSame.l1 at h; dsimp only at h)
  refine loop_fold mC_19 mD_19 ?_
  refine (w_19_1 k x0 x1 x2 x3 x4 x5 x6 x7 x8).trans ?_
  refine br_eti h rfl (fun c29 h => ?_) (fun c29 h => ?_)
  ·cases h; exact hk
  refine br_g h rfl (fun c30 h => ?_)
  refine br_t (by first | (simp [c29]; done) | (simp; omega) | (simp only [List.length_append, List.length_cons, List.length_nil, List.length_take, List.length_drop] at c29 ⊢; simp; omega) | (simp only [List.length_append, List.length_cons, List.length_nil, List.length_take, List.length_drop] at c29; simp; omega) | (simp_all; done)) ?_
  refine br_t (by first | (simp [c30]; done) | (simp; omega) | (simp only [List.length_append, List.length_cons, List.length_nil, List.length_take, List.length_drop] at c29 ⊢; simp; omega) | (simp only [List.length_append, List.length_cons, List.length_nil, List.length_take, List.length_drop] at c29; simp; omega) | (simp_all; done)) ?_
  refine br_g h rfl (fun c31 h => ?_)
  refine br_ite h (by first | rfl | exact dect | exact (congrArg not dect) | (simp; done) | (simp [beqI]; done) | (simp; omega)) (fun c32 h => ?_) (fun c32 h => ?_)
  ·cases h; exact hk
  exact (ih N (by omega)).2 _ _ _ _ _ _ _ _ _ _ _ h hk
theorem okc_19 (args : List (AV tau)) (m : Mem tau) (κ : AV tau → Mem tau → Option Unit) (hh : c_19 args m κ = some ()) : ∃ av m1, κ av m1 = some () ∧ ToldA Try.prog TT (pnT 19) 19 args m av m1 := by
 obtain ⟨bx_, rw_⟩ := m
 unfold c_19 at hh
 simp only at hh
 split at hh
 case h_2 => cases hh
 rename_i b0 b1 b2 b3 b4 b5 b6 b7
 obtain ⟨l0_0, hx0, hh0⟩ := bO_some hh
 obtain ⟨l0_1, hx1, hh1⟩ := bO_some hh0
 obtain ⟨a0_2, hx2, hh2⟩ := bO_some hh1
 obtain ⟨a0_3, hx3, hh3⟩ := bO_some hh2
 obtain ⟨l1_0, hx4, hh4⟩ := bO_some hh3
 obtain ⟨l1_1, hx5, hh5⟩ := bO_some hh4
 obtain ⟨a1_2, hx6, hh6⟩ := bO_some hh5
 obtain ⟨a1_3, hx7, hh7⟩ := bO_some hh6
 have ex0 := asSl_some hx0
 have ex1 := asSl_some hx1
 have ex2 := asI_some hx2
 have ex3 := asI_some hx3
 have ex4 := asSl_some hx4
 have ex5 := asSl_some hx5
 have ex6 := asI_some hx6
 have ex7 := asI_some hx7
 subst ex0 ex1 ex2 ex3 ex4 ex5 ex6 ex7
 obtain ⟨N, t, h, hκ⟩ := callX_some hh7
 refine ⟨_, _, hκ, told_of_run pq okC_19 (fun _ _ _ => drawA_ok pq okC_19 hmix) (E := E_19) (fn := Try.f19) (body := B_19) (by kernel_rfl) (by kernel_rfl) (by kernel_rfl) (by rfl) (by exact Nat.le_of_ble_eq_true rfl) (fun k hk => ?_)⟩
 refine (w_19 l0_0 l0_1 a0_2 a0_3 l1_0 l1_1 a1_2 a1_3 k).trans ?_
 replace h : spec_ExecSame.f N l0_0 l0_1 a0_2 a0_3 l1_0 l1_1 a1_2 a1_3 = some t := h
 unfold spec_ExecSame.f at h
 refine br_etn h rfl (fun c33 h => ?_) (fun c33 h => ?_)
 ·rcases N with _ | N
  · cases h
  first | rw [spec_ExecSame.j0] at h | simp only [spec_ExecSame.j0] at h | (unfold spec_ExecSame.j0 at h; dsimp only at h)
  replace h := ite_t h (by first | assumption | omega | simp_all)
  cases h; exact hk
 refine br_etn h rfl (fun c34 h => ?_) (fun c34 h => ?_)
 ·rcases N with _ | N
  · cases h
  first | rw [spec_ExecSame.j0] at h | simp only [spec_ExecSame.j0] at h | (unfold spec_ExecSame.j0 at h; dsimp only at h)
  replace h := ite_t h (by first | assumption | omega | simp_all)
  cases h; exact hk
 refine br_etn h rfl (fun c35 h => ?_) (fun c35 h => ?_)
 ·rcases N with _ | N
  · cases h
  first | rw [spec_ExecSame.j0] at h | simp only [spec_ExecSame.j0] at h | (unfold spec_ExecSame.j0 at h; dsimp only at h)
  replace h := ite_t h (by first | assumption | omega | simp_all)
  cases h; exact hk
 rcases N with _ | N
 · cases h
 first | rw [spec_ExecSame.j0] at h | simp only [spec_ExecSame.j0] at h | (unfold spec_ExecSame.j0 at h; dsimp only at h)
 refine br_ite h (by first | rfl | exact dect | exact (congrArg not dect) | (simp; done) | (simp [beqI]; done) | (simp; omega)) (fun c36 h => ?_) (fun c36 h => ?_)
 ·cases h; exact hk
 exact (L_19 N).1 _ _ _ _ _ _ _ _ _ _ _ h hk
noncomputable def C_84 : Ctr tau Unit := ctrS 19 c_19 C_19
noncomputable def D_84 : Drw tau := drawA E_84 C_84
theorem okC_84 : CtrOk Try.prog TT pnT C_84 := ctrS_ok okC_19 okc_19
theorem mC_84 : CtrMono C_84 := ctrS_mono mC_19 mc_19
theorem mD_84 : DrMono D_84 := drawA_mono mC_84
noncomputable def B_84 : Code := Try.f84.body.getD .skip
theorem mc_84 (args : List (AV tau)) (m : Mem tau) (k k' : AV tau → Mem tau → Option Unit) (hk : ∀ av m, k av m = some () → k' av m = some ()) (h : c_84 args m k = some ()) : c_84 args m k' = some () := by
 unfold c_84 at h ⊢
 split at h
 · repeat' first | exact callX_mono (fun _ h => hk _ _ h) h | refine bO_mono (fun _ h => ?_) h
 · cases h
theorem w_84 (a0 : Int) (k : AV tau → Mem tau → Option Unit) : fnA E_84 C_84 D_84 Try.f84 B_84 [.int .i64 a0] ⟨[], []⟩ k = (brA (decide (a0 ≥ (-(1000000 : Int)))) (k (.bool (decide (a0 ≤ (1000000 : Int)))) ⟨[], []⟩) (k (.bool false) ⟨[], []⟩) : Option Unit) := by kernel_rfl
theorem okc_84 (args : List (AV tau)) (m : Mem tau) (κ : AV tau → Mem tau → Option Unit) (hh : c_84 args m κ = some ()) : ∃ av m1, κ av m1 = some () ∧ ToldA Try.prog TT (pnT 84) 84 args m av m1 := by
 obtain ⟨bx_, rw_⟩ := m
 unfold c_84 at hh
 simp only at hh
 split at hh
 case h_2 => cases hh
 rename_i b0
 obtain ⟨a0, hx0, hh0⟩ := bO_some hh
 have ex0 := asI_some hx0
 subst ex0
 obtain ⟨N, t, h, hκ⟩ := callX_some hh0
 refine ⟨_, _, hκ, told_of_run pq okC_84 (fun _ _ _ => drawA_ok pq okC_84 hmix) (E := E_84) (fn := Try.f84) (body := B_84) (by kernel_rfl) (by kernel_rfl) (by kernel_rfl) (by rfl) (by exact Nat.le_of_ble_eq_true rfl) (fun k hk => ?_)⟩
 refine (w_84 a0 k).trans ?_
 replace h : spec_l1Num.f a0 = some t := h
 unfold spec_l1Num.f at h
 refine br_eti h rfl (fun c2 h => ?_) (fun c2 h => ?_)
 ·cases h; exact hk
 cases h; exact hk
noncomputable def C_85 : Ctr tau Unit := ctrS 84 c_84 C_84
noncomputable def D_85 : Drw tau := drawA E_85 C_85
theorem okC_85 : CtrOk Try.prog TT pnT C_85 := ctrS_ok okC_84 okc_84
theorem mC_85 : CtrMono C_85 := ctrS_mono mC_84 mc_84
theorem mD_85 : DrMono D_85 := drawA_mono mC_85
noncomputable def B_85 : Code := Try.f85.body.getD .skip
theorem mc_85 (args : List (AV tau)) (m : Mem tau) (k k' : AV tau → Mem tau → Option Unit) (hk : ∀ av m, k av m = some () → k' av m = some ()) (h : c_85 args m k = some ()) : c_85 args m k' = some () := by
 unfold c_85 at h ⊢
 split at h
 · repeat' first | exact callX_mono (fun _ h => hk _ _ h) h | refine bO_mono (fun _ h => ?_) h
 · cases h
theorem w_85 (a0 : Int) (k : AV tau → Mem tau → Option Unit) : fnA E_85 C_85 D_85 Try.f85 B_85 [.int .i64 a0] ⟨[], []⟩ k = (brA (decide (a0 ≥ (0 : Int))) (k (.bool (decide (a0 < (4 : Int)))) ⟨[], []⟩) (k (.bool false) ⟨[], []⟩) : Option Unit) := by kernel_rfl
theorem okc_85 (args : List (AV tau)) (m : Mem tau) (κ : AV tau → Mem tau → Option Unit) (hh : c_85 args m κ = some ()) : ∃ av m1, κ av m1 = some () ∧ ToldA Try.prog TT (pnT 85) 85 args m av m1 := by
 obtain ⟨bx_, rw_⟩ := m
 unfold c_85 at hh
 simp only at hh
 split at hh
 case h_2 => cases hh
 rename_i b0
 obtain ⟨a0, hx0, hh0⟩ := bO_some hh
 have ex0 := asI_some hx0
 subst ex0
 obtain ⟨N, t, h, hκ⟩ := callX_some hh0
 refine ⟨_, _, hκ, told_of_run pq okC_85 (fun _ _ _ => drawA_ok pq okC_85 hmix) (E := E_85) (fn := Try.f85) (body := B_85) (by kernel_rfl) (by kernel_rfl) (by kernel_rfl) (by rfl) (by exact Nat.le_of_ble_eq_true rfl) (fun k hk => ?_)⟩
 refine (w_85 a0 k).trans ?_
 replace h : spec_l2Box.f a0 = some t := h
 unfold spec_l2Box.f at h
 refine br_eti h rfl (fun c2 h => ?_) (fun c2 h => ?_)
 ·cases h; exact hk
 cases h; exact hk
noncomputable def C_86 : Ctr tau Unit := ctrS 85 c_85 C_85
noncomputable def D_86 : Drw tau := drawA E_86 C_86
theorem okC_86 : CtrOk Try.prog TT pnT C_86 := ctrS_ok okC_85 okc_85
theorem mC_86 : CtrMono C_86 := ctrS_mono mC_85 mc_85
theorem mD_86 : DrMono D_86 := drawA_mono mC_86
noncomputable def B_86 : Code := Try.f86.body.getD .skip
theorem mc_86 (args : List (AV tau)) (m : Mem tau) (k k' : AV tau → Mem tau → Option Unit) (hk : ∀ av m, k av m = some () → k' av m = some ()) (h : c_86 args m k = some ()) : c_86 args m k' = some () := by
 unfold c_86 at h ⊢
 split at h
 · repeat' first | exact callX_mono (fun _ h => hk _ _ h) h | refine bO_mono (fun _ h => ?_) h
 · cases h
noncomputable def K_86_0 (k : AV tau → Mem tau → Option Unit) : Kon tau := (kBlock 0 (kS E_86 C_86 D_86 (codeP B_86 [1, 1]) (kEnd E_86 Try.f86 k)))
def st_86_0 (x0 : (List S39)) (x1 : Int) (x2 : Int) : St tau := ⟨tmL 19 0 [(0, .sl 39 x0), (1, .int .i64 x1), (5, .int .i64 x2)], ⟨[], []⟩⟩
noncomputable def LP_86_0 (k : AV tau → Mem tau → Option Unit) (x0 : (List S39)) (x1 : Int) (x2 : Int) : Option Unit := loopA E_86 (codeA E_86 C_86 D_86 (codeP B_86 [1, 0, 1, 0, 0])) (codeP B_86 [1, 0, 1, 0, 0]) (K_86_0 k) (st_86_0 x0 x1 x2)
theorem w_86_0 (k : AV tau → Mem tau → Option Unit) (x0 : (List S39)) (x1 : Int) (x2 : Int) : codeA E_86 C_86 D_86 (codeP B_86 [1, 0, 1, 0, 0]) (kL E_86 C_86 D_86 (codeP B_86 [1, 0, 1, 0, 0]) (K_86_0 k)) (st_86_0 x0 x1 x2) = (brA (decide (x2 < ((x0.length : Nat) : Int))) (brA (decide ((0 : Int) ≤ x2)) (brA (decide (x2 < ((x0.length : Nat) : Int))) (brA (decide ((rd_T39 x0 x2).f0 = x1)) (k (.bool true) ⟨[], []⟩) (LP_86_0 k x0 x1 (wrap64 (x2 + (1 : Int))))) (none)) (none)) (k (.bool false) ⟨[], []⟩) : Option Unit) := by
 simp only [← wrapA_i64]
 kernel_rfl
theorem w_86 (l0 : List S39) (a1 : Int) (k : AV tau → Mem tau → Option Unit) : fnA E_86 C_86 D_86 Try.f86 B_86 [.sl 39 l0, .int .i64 a1] ⟨[], []⟩ k = (LP_86_0 k l0 a1 (0 : Int) : Option Unit) := by kernel_rfl
def S_86_0 (N : Nat) : Prop := ∀ (k : AV tau → Mem tau → Option Unit) (x0 : (List S39)) (x1 : Int) (x2 : Int) (r : Bool), spec_l3Saw.l0 N (x0) (x1) (x2) = some r → k (.bool (r)) ⟨[], []⟩ = some () → LP_86_0 k x0 x1 x2 = some ()
theorem L_86 (N : Nat) : S_86_0 N := by
 induction N using Nat.strongRecOn with | _ N0 ih =>
 skip
 intro k x0 x1 x2 r h hk
 rcases N0 with _ | N
 · cases h
 first | rw [spec_l3Saw.l0] at h | simp only [spec_l3Saw.l0] at h | (unfold spec_l3Saw.l0 at h; dsimp only at h)
 refine loop_fold mC_86 mD_86 ?_
 refine (w_86_0 k x0 x1 x2).trans ?_
 refine br_eti h rfl (fun c7 h => ?_) (fun c7 h => ?_)
 ·cases h; exact hk
 refine br_g h rfl (fun c8 h => ?_)
 refine br_t (by first | (simp [c7]; done) | (simp; omega) | (simp only [List.length_append, List.length_cons, List.length_nil, List.length_take, List.length_drop] at c7 ⊢; simp; omega) | (simp only [List.length_append, List.length_cons, List.length_nil, List.length_take, List.length_drop] at c7; simp; omega) | (simp_all; done)) ?_
 refine br_ite h rfl (fun c9 h => ?_) (fun c9 h => ?_)
 ·cases h; exact hk
 exact (ih N (by omega)) _ _ _ _ _ h hk
theorem okc_86 (args : List (AV tau)) (m : Mem tau) (κ : AV tau → Mem tau → Option Unit) (hh : c_86 args m κ = some ()) : ∃ av m1, κ av m1 = some () ∧ ToldA Try.prog TT (pnT 86) 86 args m av m1 := by
 obtain ⟨bx_, rw_⟩ := m
 unfold c_86 at hh
 simp only at hh
 split at hh
 case h_2 => cases hh
 rename_i b0 b1
 obtain ⟨l0, hx0, hh0⟩ := bO_some hh
 obtain ⟨a1, hx1, hh1⟩ := bO_some hh0
 have ex0 := asSl_some hx0
 have ex1 := asI_some hx1
 subst ex0 ex1
 obtain ⟨N, t, h, hκ⟩ := callX_some hh1
 refine ⟨_, _, hκ, told_of_run pq okC_86 (fun _ _ _ => drawA_ok pq okC_86 hmix) (E := E_86) (fn := Try.f86) (body := B_86) (by kernel_rfl) (by kernel_rfl) (by kernel_rfl) (by rfl) (by exact Nat.le_of_ble_eq_true rfl) (fun k hk => ?_)⟩
 refine (w_86 l0 a1 k).trans ?_
 replace h : spec_l3Saw.f N l0 a1 = some t := h
 unfold spec_l3Saw.f at h
 exact (L_86 N) _ _ _ _ _ h hk
noncomputable def C_87 : Ctr tau Unit := ctrS 86 c_86 C_86
noncomputable def D_87 : Drw tau := drawA E_87 C_87
theorem okC_87 : CtrOk Try.prog TT pnT C_87 := ctrS_ok okC_86 okc_86
theorem mC_87 : CtrMono C_87 := ctrS_mono mC_86 mc_86
theorem mD_87 : DrMono D_87 := drawA_mono mC_87
noncomputable def B_87 : Code := Try.f87.body.getD .skip
theorem mc_87 (args : List (AV tau)) (m : Mem tau) (k k' : AV tau → Mem tau → Option Unit) (hk : ∀ av m, k av m = some () → k' av m = some ()) (h : c_87 args m k = some ()) : c_87 args m k' = some () := by
 unfold c_87 at h ⊢
 split at h
 · repeat' first | exact callX_mono (fun _ h => hk _ _ h) h | refine bO_mono (fun _ h => ?_) h
 · cases h
noncomputable def K_87_0 (k : AV tau → Mem tau → Option Unit) : Kon tau := (kBlock 0 (kS E_87 C_87 D_87 (codeP B_87 [1, 1]) (kEnd E_87 Try.f87 k)))
def st_87_0 (x0 : (List S82)) (x1 : Int) (x2 : Int) : St tau := ⟨tmL 20 0 [(0, .sl 82 x0), (1, .int .i64 x1), (5, .int .i64 x2)], ⟨[], []⟩⟩
noncomputable def LP_87_0 (k : AV tau → Mem tau → Option Unit) (x0 : (List S82)) (x1 : Int) (x2 : Int) : Option Unit := loopA E_87 (codeA E_87 C_87 D_87 (codeP B_87 [1, 0, 1, 0, 0])) (codeP B_87 [1, 0, 1, 0, 0]) (K_87_0 k) (st_87_0 x0 x1 x2)
theorem w_87_0 (k : AV tau → Mem tau → Option Unit) (x0 : (List S82)) (x1 : Int) (x2 : Int) : codeA E_87 C_87 D_87 (codeP B_87 [1, 0, 1, 0, 0]) (kL E_87 C_87 D_87 (codeP B_87 [1, 0, 1, 0, 0]) (K_87_0 k)) (st_87_0 x0 x1 x2) = (brA (decide (x2 < ((x0.length : Nat) : Int))) (brA (decide ((0 : Int) ≤ x2)) (brA (decide (x2 < ((x0.length : Nat) : Int))) (brA (decide ((rd_T82 x0 x2).f0 = x1)) (k (.int .i64 x2) ⟨[], []⟩) (LP_87_0 k x0 x1 (wrap64 (x2 + (1 : Int))))) (none)) (none)) (k (.int .i64 (-(1 : Int))) ⟨[], []⟩) : Option Unit) := by
 simp only [← wrapA_i64]
 kernel_rfl
theorem w_87 (l0 : List S82) (a1 : Int) (k : AV tau → Mem tau → Option Unit) : fnA E_87 C_87 D_87 Try.f87 B_87 [.sl 82 l0, .int .i64 a1] ⟨[], []⟩ k = (LP_87_0 k l0 a1 (0 : Int) : Option Unit) := by kernel_rfl
def S_87_0 (N : Nat) : Prop := ∀ (k : AV tau → Mem tau → Option Unit) (x0 : (List S82)) (x1 : Int) (x2 : Int) (r : Int), spec_l3At.l0 N (x0) (x1) (x2) = some r → k (.int .i64 (r)) ⟨[], []⟩ = some () → LP_87_0 k x0 x1 x2 = some ()
theorem L_87 (N : Nat) : S_87_0 N := by
 induction N using Nat.strongRecOn with | _ N0 ih =>
 skip
 intro k x0 x1 x2 r h hk
 rcases N0 with _ | N
 · cases h
 first | rw [spec_l3At.l0] at h | simp only [spec_l3At.l0] at h | (unfold spec_l3At.l0 at h; dsimp only at h)
 refine loop_fold mC_87 mD_87 ?_
 refine (w_87_0 k x0 x1 x2).trans ?_
 refine br_eti h rfl (fun c7 h => ?_) (fun c7 h => ?_)
 ·cases h; exact hk
 refine br_g h rfl (fun c8 h => ?_)
 refine br_t (by first | (simp [c7]; done) | (simp; omega) | (simp only [List.length_append, List.length_cons, List.length_nil, List.length_take, List.length_drop] at c7 ⊢; simp; omega) | (simp only [List.length_append, List.length_cons, List.length_nil, List.length_take, List.length_drop] at c7; simp; omega) | (simp_all; done)) ?_
 refine br_ite h rfl (fun c9 h => ?_) (fun c9 h => ?_)
 ·cases h; exact hk
 exact (ih N (by omega)) _ _ _ _ _ h hk
theorem okc_87 (args : List (AV tau)) (m : Mem tau) (κ : AV tau → Mem tau → Option Unit) (hh : c_87 args m κ = some ()) : ∃ av m1, κ av m1 = some () ∧ ToldA Try.prog TT (pnT 87) 87 args m av m1 := by
 obtain ⟨bx_, rw_⟩ := m
 unfold c_87 at hh
 simp only at hh
 split at hh
 case h_2 => cases hh
 rename_i b0 b1
 obtain ⟨l0, hx0, hh0⟩ := bO_some hh
 obtain ⟨a1, hx1, hh1⟩ := bO_some hh0
 have ex0 := asSl_some hx0
 have ex1 := asI_some hx1
 subst ex0 ex1
 obtain ⟨N, t, h, hκ⟩ := callX_some hh1
 refine ⟨_, _, hκ, told_of_run pq okC_87 (fun _ _ _ => drawA_ok pq okC_87 hmix) (E := E_87) (fn := Try.f87) (body := B_87) (by kernel_rfl) (by kernel_rfl) (by kernel_rfl) (by rfl) (by exact Nat.le_of_ble_eq_true rfl) (fun k hk => ?_)⟩
 refine (w_87 l0 a1 k).trans ?_
 replace h : spec_l3At.f N l0 a1 = some t := h
 unfold spec_l3At.f at h
 exact (L_87 N) _ _ _ _ _ h hk
noncomputable def C_23 : Ctr tau Unit := ctrS 87 c_87 C_87
noncomputable def D_23 : Drw tau := drawA E_23 C_23
theorem okC_23 : CtrOk Try.prog TT pnT C_23 := ctrS_ok okC_87 okc_87
theorem mC_23 : CtrMono C_23 := ctrS_mono mC_87 mc_87
theorem mD_23 : DrMono D_23 := drawA_mono mC_23
noncomputable def B_23 : Code := Try.f23.body.getD .skip
theorem mc_23 (args : List (AV tau)) (m : Mem tau) (k k' : AV tau → Mem tau → Option Unit) (hk : ∀ av m, k av m = some () → k' av m = some ()) (h : c_23 args m k = some ()) : c_23 args m k' = some () := by
 unfold c_23 at h ⊢
 split at h
 · repeat' first | exact callX_mono (fun _ h => hk _ _ h) h | refine bO_mono (fun _ h => ?_) h
 · cases h
noncomputable def K_23_0 (k : AV tau → Mem tau → Option Unit) : Kon tau := (kBlock 0 (kS E_23 C_23 D_23 (codeP B_23 [1, 1, 1]) (kEnd E_23 Try.f23 k)))
noncomputable def K_23_1 (k : AV tau → Mem tau → Option Unit) : Kon tau := (kBlock 2 (kS E_23 C_23 D_23 (codeP B_23 [1, 1, 1, 1]) (kEnd E_23 Try.f23 k)))
def st_23_0 (x0 : Int) (x1 : (List S39)) (x2 : (List S82)) (x3 : Int) (x4 : Int) : St tau := ⟨tmL 131 0 [(1, .ptr 0 0), (3, .int .i64 x0)], ⟨[some (26, [.sl 39 x1, .sl 82 x2, .int .i64 x3, .int .i64 x4])], []⟩⟩
noncomputable def LP_23_0 (k : AV tau → Mem tau → Option Unit) (x0 : Int) (x1 : (List S39)) (x2 : (List S82)) (x3 : Int) (x4 : Int) : Option Unit := loopA E_23 (codeA E_23 C_23 D_23 (codeP B_23 [1, 1, 0, 1, 0, 0])) (codeP B_23 [1, 1, 0, 1, 0, 0]) (K_23_0 k) (st_23_0 x0 x1 x2 x3 x4)
def st_23_1 (x0 : Int) (x1 : (List S39)) (x2 : (List S82)) (x3 : Int) (x4 : Int) : St tau := ⟨tmL 131 0 [(1, .ptr 0 0), (4, .int .i64 x0)], ⟨[some (26, [.sl 39 x1, .sl 82 x2, .int .i64 x3, .int .i64 x4])], []⟩⟩
noncomputable def LP_23_1 (k : AV tau → Mem tau → Option Unit) (x0 : Int) (x1 : (List S39)) (x2 : (List S82)) (x3 : Int) (x4 : Int) : Option Unit := loopA E_23 (codeA E_23 C_23 D_23 (codeP B_23 [1, 1, 1, 0, 1, 0, 0])) (codeP B_23 [1, 1, 1, 0, 1, 0, 0]) (K_23_1 k) (st_23_1 x0 x1 x2 x3 x4)
theorem w_23_0 (k : AV tau → Mem tau → Option Unit) (x0 : Int) (x1 : (List S39)) (x2 : (List S82)) (x3 : Int) (x4 : Int) : codeA E_23 C_23 D_23 (codeP B_23 [1, 1, 0, 1, 0, 0]) (kL E_23 C_23 D_23 (codeP B_23 [1, 1, 0, 1, 0, 0]) (K_23_0 k)) (st_23_0 x0 x1 x2 x3 x4) = (brA (decide (x0 < ((x1.length : Nat) : Int))) (brA (decide ((0 : Int) ≤ x0)) (brA (decide (x0 < ((x1.length : Nat) : Int))) (callX (fun n => spec_l2Box.f ((rd_T39 x1 x0).f0)) fun t1 => brA (!t1) (k (.bool false) ⟨[], []⟩) (brA (decide ((0 : Int) ≤ x0)) (brA (decide (x0 < ((x1.length : Nat) : Int))) (brA (decide ((rd_T39 x1 x0).f1 < (0 : Int))) (k (.bool false) ⟨[], []⟩) (brA (decide ((0 : Int) ≤ x0)) (brA (decide (x0 < ((x1.length : Nat) : Int))) (brA (decide ((rd_T39 x1 x0).f1 > (1000000 : Int))) (k (.bool false) ⟨[], []⟩) (brA (decide ((0 : Int) ≤ x0)) (brA (decide (x0 ≤ ((x1.length : Nat) : Int))) (brA (decide ((0 : Int) ≤ x0)) (brA (decide (x0 < ((x1.length : Nat) : Int))) (callX (fun n => spec_l3Saw.f n (List.take (Int.toNat x0) x1) ((rd_T39 x1 x0).f0)) fun t2 => brA t2 (k (.bool false) ⟨[], []⟩) (LP_23_0 k (wrap64 (x0 + (1 : Int))) x1 x2 x3 x4)) (none)) (none)) (none)) (none))) (none)) (none))) (none)) (none))) (none)) (none)) (LP_23_1 k (0 : Int) x1 x2 x3 x4) : Option Unit) := by
 simp only [← wrapA_i64]
 kernel_rfl
theorem w_23_1 (k : AV tau → Mem tau → Option Unit) (x0 : Int) (x1 : (List S39)) (x2 : (List S82)) (x3 : Int) (x4 : Int) : codeA E_23 C_23 D_23 (codeP B_23 [1, 1, 1, 0, 1, 0, 0]) (kL E_23 C_23 D_23 (codeP B_23 [1, 1, 1, 0, 1, 0, 0]) (K_23_1 k)) (st_23_1 x0 x1 x2 x3 x4) = (brA (decide (x0 < ((x2.length : Nat) : Int))) (brA (decide ((0 : Int) ≤ x0)) (brA (decide (x0 < ((x2.length : Nat) : Int))) (callX (fun n => spec_l2Box.f ((rd_T82 x2 x0).f0)) fun t3 => brA (!t3) (k (.bool false) ⟨[], []⟩) (brA (decide ((0 : Int) ≤ x0)) (brA (decide (x0 < ((x2.length : Nat) : Int))) (callX (fun n => spec_l1Num.f ((rd_T82 x2 x0).f1)) fun t4 => brA (!t4) (k (.bool false) ⟨[], []⟩) (brA (decide ((0 : Int) ≤ x0)) (brA (decide (x0 ≤ ((x2.length : Nat) : Int))) (brA (decide ((0 : Int) ≤ x0)) (brA (decide (x0 < ((x2.length : Nat) : Int))) (callX (fun n => spec_l3At.f n (List.take (Int.toNat x0) x2) ((rd_T82 x2 x0).f0)) fun t5 => brA (decide (t5 ≥ (0 : Int))) (k (.bool false) ⟨[], []⟩) (LP_23_1 k (wrap64 (x0 + (1 : Int))) x1 x2 x3 x4)) (none)) (none)) (none)) (none))) (none)) (none))) (none)) (none)) (k (.bool true) ⟨[], []⟩) : Option Unit) := by
 simp only [← wrapA_i64]
 kernel_rfl
theorem w_23 (l0_0 : List S39) (l0_1 : List S82) (a0_2 : Int) (a0_3 : Int) (k : AV tau → Mem tau → Option Unit) : fnA E_23 C_23 D_23 Try.f23 B_23 [.agg [.sl 39 l0_0, .sl 82 l0_1, .int .i64 a0_2, .int .i64 a0_3]] ⟨[], []⟩ k = (brA (decide (a0_3 < (0 : Int))) (k (.bool false) ⟨[], []⟩) (brA (decide (a0_3 > (3 : Int))) (k (.bool false) ⟨[], []⟩) (callX (fun n => spec_l1Num.f a0_2) fun t0 => brA (!t0) (k (.bool false) ⟨[], []⟩) (brA (!(decide (a0_3 = (0 : Int)))) (brA (!(decide (a0_2 = (0 : Int)))) (k (.bool false) ⟨[], []⟩) (brA (decide (((l0_1.length : Nat) : Int) > (0 : Int))) (k (.bool false) ⟨[], []⟩) (brA (decide (a0_3 = (3 : Int))) (brA (decide (((l0_0.length : Nat) : Int) > (0 : Int))) (k (.bool false) ⟨[], []⟩) (LP_23_0 k (0 : Int) l0_0 l0_1 a0_2 a0_3)) (LP_23_0 k (0 : Int) l0_0 l0_1 a0_2 a0_3)))) (brA (decide (a0_3 = (3 : Int))) (brA (decide (((l0_0.length : Nat) : Int) > (0 : Int))) (k (.bool false) ⟨[], []⟩) (LP_23_0 k (0 : Int) l0_0 l0_1 a0_2 a0_3)) (LP_23_0 k (0 : Int) l0_0 l0_1 a0_2 a0_3))))) : Option Unit) := by kernel_rfl
def S_23_0 (N : Nat) : Prop := ∀ (k : AV tau → Mem tau → Option Unit) (x0 : Int) (x1 : (List S39)) (x2 : (List S82)) (x3 : Int) (x4 : Int) (r : Bool), spec_ExecOk.l0 N (x0) (x1) (x2) (x3) (x4) = some r → k (.bool (r)) ⟨[], []⟩ = some () → LP_23_0 k x0 x1 x2 x3 x4 = some ()
def S_23_1 (N : Nat) : Prop := ∀ (k : AV tau → Mem tau → Option Unit) (x0 : Int) (x1 : (List S39)) (x2 : (List S82)) (x3 : Int) (x4 : Int) (r : Bool), spec_ExecOk.l1 N (x0) (x1) (x2) (x3) (x4) = some r → k (.bool (r)) ⟨[], []⟩ = some () → LP_23_1 k x0 x1 x2 x3 x4 = some ()
theorem L_23 (N : Nat) : S_23_0 N ∧ S_23_1 N := by
 induction N using Nat.strongRecOn with | _ N0 ih =>
 refine ⟨?_, ?_⟩
 ·intro k x0 x1 x2 x3 x4 r h hk
  rcases N0 with _ | N
  · cases h
  first | rw [spec_ExecOk.l0] at h | simp only [spec_ExecOk.l0] at h | (unfold spec_ExecOk.l0 at h; dsimp only at h)
  refine loop_fold mC_23 mD_23 ?_
  refine (w_23_0 k x0 x1 x2 x3 x4).trans ?_
  refine br_eti h rfl (fun c59 h => ?_) (fun c59 h => ?_)
  ·exact (ih N (by omega)).2 _ _ _ _ _ _ _ h hk
  refine br_g h rfl (fun c60 h => ?_)
  refine br_t (by first | (simp [c59]; done) | (simp; omega) | (simp only [List.length_append, List.length_cons, List.length_nil, List.length_take, List.length_drop] at c59 ⊢; simp; omega) | (simp only [List.length_append, List.length_cons, List.length_nil, List.length_take, List.length_drop] at c59; simp; omega) | (simp_all; done)) ?_
  refine call_h 0 h (fun t1 e61 h => ?_)
  refine br_etn h (congrArg not dect) (fun c62 h => ?_) (fun c62 h => ?_)
  ·cases h; exact hk
  refine br_t (by first | (simp [c60]; done) | (simp; omega) | (simp only [List.length_append, List.length_cons, List.length_nil, List.length_take, List.length_drop] at c59 ⊢; simp; omega) | (simp only [List.length_append, List.length_cons, List.length_nil, List.length_take, List.length_drop] at c59; simp; omega) | (simp_all; done)) ?_
  refine br_t (by first | (simp [c59]; done) | (simp; omega) | (simp only [List.length_append, List.length_cons, List.length_nil, List.length_take, List.length_drop] at c59 ⊢; simp; omega) | (simp only [List.length_append, List.length_cons, List.length_nil, List.length_take, List.length_drop] at c59; simp; omega) | (simp_all; done)) ?_
  refine br_ite h rfl (fun c63 h => ?_) (fun c63 h => ?_)
  ·cases h; exact hk
  refine br_t (by first | (simp [c60]; done) | (simp; omega) | (simp only [List.length_append, List.length_cons, List.length_nil, List.length_take, List.length_drop] at c59 ⊢; simp; omega) | (simp only [List.length_append, List.length_cons, List.length_nil, List.length_take, List.length_drop] at c59; simp; omega) | (simp_all; done)) ?_
  refine br_t (by first | (simp [c59]; done) | (simp; omega) | (simp only [List.length_append, List.length_cons, List.length_nil, List.length_take, List.length_drop] at c59 ⊢; simp; omega) | (simp only [List.length_append, List.length_cons, List.length_nil, List.length_take, List.length_drop] at c59; simp; omega) | (simp_all; done)) ?_
  refine br_ite h rfl (fun c64 h => ?_) (fun c64 h => ?_)
  ·cases h; exact hk
  refine br_t (by first | (simp [c60]; done) | (simp; omega) | (simp only [List.length_append, List.length_cons, List.length_nil, List.length_take, List.length_drop] at c59 ⊢; simp; omega) | (simp only [List.length_append, List.length_cons, List.length_nil, List.length_take, List.length_drop] at c59; simp; omega) | (simp_all; done)) ?_
  refine br_g h rfl (fun c65 h => ?_)
  refine br_t (by first | (simp [c60]; done) | (simp; omega) | (simp only [List.length_append, List.length_cons, List.length_nil, List.length_take, List.length_drop] at c65 c59 ⊢; simp; omega) | (simp only [List.length_append, List.length_cons, List.length_nil, List.length_take, List.length_drop] at c65 c59; simp; omega) | (simp_all; done)) ?_
  refine br_t (by first | (simp [c59]; done) | (simp; omega) | (simp only [List.length_append, List.length_cons, List.length_nil, List.length_take, List.length_drop] at c65 c59 ⊢; simp; omega) | (simp only [List.length_append, List.length_cons, List.length_nil, List.length_take, List.length_drop] at c65 c59; simp; omega) | (simp_all; done)) ?_
  refine call_h N h (fun t2 e66 h => ?_)
  refine br_ite h dect (fun c67 h => ?_) (fun c67 h => ?_)
  ·cases h; exact hk
  exact (ih N (by omega)).1 _ _ _ _ _ _ _ h hk
 ·intro k x0 x1 x2 x3 x4 r h hk
  rcases N0 with _ | N
  · cases h
  first | rw [spec_ExecOk.l1] at h | simp only [spec_ExecOk.l1] at h | (unfold spec_ExecOk.l1 at h; dsimp only at h)
  refine loop_fold mC_23 mD_23 ?_
  refine (w_23_1 k x0 x1 x2 x3 x4).trans ?_
  refine br_eti h rfl (fun c68 h => ?_) (fun c68 h => ?_)
  ·cases h; exact hk
  refine br_g h rfl (fun c69 h => ?_)
  refine br_t (by first | (simp [c68]; done) | (simp; omega) | (simp only [List.length_append, List.length_cons, List.length_nil, List.length_take, List.length_drop] at c68 ⊢; simp; omega) | (simp only [List.length_append, List.length_cons, List.length_nil, List.length_take, List.length_drop] at c68; simp; omega) | (simp_all; done)) ?_
  refine call_h 0 h (fun t3 e70 h => ?_)
  refine br_etn h (congrArg not dect) (fun c71 h => ?_) (fun c71 h => ?_)
  ·cases h; exact hk
  refine br_t (by first | (simp [c69]; done) | (simp; omega) | (simp only [List.length_append, List.length_cons, List.length_nil, List.length_take, List.length_drop] at c68 ⊢; simp; omega) | (simp only [List.length_append, List.length_cons, List.length_nil, List.length_take, List.length_drop] at c68; simp; omega) | (simp_all; done)) ?_
  refine br_t (by first | (simp [c68]; done) | (simp; omega) | (simp only [List.length_append, List.length_cons, List.length_nil, List.length_take, List.length_drop] at c68 ⊢; simp; omega) | (simp only [List.length_append, List.length_cons, List.length_nil, List.length_take, List.length_drop] at c68; simp; omega) | (simp_all; done)) ?_
  refine call_h 0 h (fun t4 e72 h => ?_)
  refine br_etn h (congrArg not dect) (fun c73 h => ?_) (fun c73 h => ?_)
  ·cases h; exact hk
  refine br_t (by first | (simp [c69]; done) | (simp; omega) | (simp only [List.length_append, List.length_cons, List.length_nil, List.length_take, List.length_drop] at c68 ⊢; simp; omega) | (simp only [List.length_append, List.length_cons, List.length_nil, List.length_take, List.length_drop] at c68; simp; omega) | (simp_all; done)) ?_
  refine br_g h rfl (fun c74 h => ?_)
  refine br_t (by first | (simp [c69]; done) | (simp; omega) | (simp only [List.length_append, List.length_cons, List.length_nil, List.length_take, List.length_drop] at c74 c68 ⊢; simp; omega) | (simp only [List.length_append, List.length_cons, List.length_nil, List.length_take, List.length_drop] at c74 c68; simp; omega) | (simp_all; done)) ?_
  refine br_t (by first | (simp [c68]; done) | (simp; omega) | (simp only [List.length_append, List.length_cons, List.length_nil, List.length_take, List.length_drop] at c74 c68 ⊢; simp; omega) | (simp only [List.length_append, List.length_cons, List.length_nil, List.length_take, List.length_drop] at c74 c68; simp; omega) | (simp_all; done)) ?_
  refine call_h N h (fun t5 e75 h => ?_)
  refine br_ite h rfl (fun c76 h => ?_) (fun c76 h => ?_)
  ·cases h; exact hk
  exact (ih N (by omega)).2 _ _ _ _ _ _ _ h hk
theorem okc_23 (args : List (AV tau)) (m : Mem tau) (κ : AV tau → Mem tau → Option Unit) (hh : c_23 args m κ = some ()) : ∃ av m1, κ av m1 = some () ∧ ToldA Try.prog TT (pnT 23) 23 args m av m1 := by
 obtain ⟨bx_, rw_⟩ := m
 unfold c_23 at hh
 simp only at hh
 split at hh
 case h_2 => cases hh
 rename_i b0 b1 b2 b3
 obtain ⟨l0_0, hx0, hh0⟩ := bO_some hh
 obtain ⟨l0_1, hx1, hh1⟩ := bO_some hh0
 obtain ⟨a0_2, hx2, hh2⟩ := bO_some hh1
 obtain ⟨a0_3, hx3, hh3⟩ := bO_some hh2
 have ex0 := asSl_some hx0
 have ex1 := asSl_some hx1
 have ex2 := asI_some hx2
 have ex3 := asI_some hx3
 subst ex0 ex1 ex2 ex3
 obtain ⟨N, t, h, hκ⟩ := callX_some hh3
 refine ⟨_, _, hκ, told_of_run pq okC_23 (fun _ _ _ => drawA_ok pq okC_23 hmix) (E := E_23) (fn := Try.f23) (body := B_23) (by kernel_rfl) (by kernel_rfl) (by kernel_rfl) (by rfl) (by exact Nat.le_of_ble_eq_true rfl) (fun k hk => ?_)⟩
 refine (w_23 l0_0 l0_1 a0_2 a0_3 k).trans ?_
 replace h : spec_ExecOk.f N l0_0 l0_1 a0_2 a0_3 = some t := h
 unfold spec_ExecOk.f at h
 refine br_ite h rfl (fun c77 h => ?_) (fun c77 h => ?_)
 ·rcases N with _ | N
  · cases h
  first | rw [spec_ExecOk.j0] at h | simp only [spec_ExecOk.j0] at h | (unfold spec_ExecOk.j0 at h; dsimp only at h)
  replace h := ite_t h (by first | assumption | omega | simp_all)
  cases h; exact hk
 refine br_ite h rfl (fun c78 h => ?_) (fun c78 h => ?_)
 ·rcases N with _ | N
  · cases h
  first | rw [spec_ExecOk.j0] at h | simp only [spec_ExecOk.j0] at h | (unfold spec_ExecOk.j0 at h; dsimp only at h)
  replace h := ite_t h (by first | assumption | omega | simp_all)
  cases h; exact hk
 refine call_h 0 h (fun t0 e79 h => ?_)
 refine br_etn h (congrArg not dect) (fun c80 h => ?_) (fun c80 h => ?_)
 ·rcases N with _ | N
  · cases h
  first | rw [spec_ExecOk.j0] at h | simp only [spec_ExecOk.j0] at h | (unfold spec_ExecOk.j0 at h; dsimp only at h)
  replace h := ite_t h (by first | assumption | omega | simp_all)
  cases h; exact hk
 refine br_itn h rfl (fun c81 h => ?_) (fun c81 h => ?_)
 ·refine br_eti h rfl (fun c82 h => ?_) (fun c82 h => ?_)
  ·rcases N with _ | N
   · cases h
   first | rw [spec_ExecOk.j0] at h | simp only [spec_ExecOk.j0] at h | (unfold spec_ExecOk.j0 at h; dsimp only at h)
   replace h := ite_f h (by first | assumption | omega | simp_all)
   exact (L_23 N).1 _ _ _ _ _ _ _ h hk
  rcases N with _ | N
  · cases h
  first | rw [spec_ExecOk.j0] at h | simp only [spec_ExecOk.j0] at h | (unfold spec_ExecOk.j0 at h; dsimp only at h)
  refine br_ite h (by first | rfl | exact dect | exact (congrArg not dect) | (simp; done) | (simp [beqI]; done) | (simp; omega)) (fun c83 h => ?_) (fun c83 h => ?_)
  ·cases h; exact hk
  exact (L_23 N).1 _ _ _ _ _ _ _ h hk
 refine br_etn h rfl (fun c84 h => ?_) (fun c84 h => ?_)
 ·rcases N with _ | N
  · cases h
  first | rw [spec_ExecOk.j0] at h | simp only [spec_ExecOk.j0] at h | (unfold spec_ExecOk.j0 at h; dsimp only at h)
  replace h := ite_t h (by first | assumption | omega | simp_all)
  cases h; exact hk
 refine br_ite h rfl (fun c85 h => ?_) (fun c85 h => ?_)
 ·rcases N with _ | N
  · cases h
  first | rw [spec_ExecOk.j0] at h | simp only [spec_ExecOk.j0] at h | (unfold spec_ExecOk.j0 at h; dsimp only at h)
  replace h := ite_t h (by first | assumption | omega | simp_all)
  cases h; exact hk
 refine br_eti h rfl (fun c86 h => ?_) (fun c86 h => ?_)
 ·rcases N with _ | N
  · cases h
  first | rw [spec_ExecOk.j0] at h | simp only [spec_ExecOk.j0] at h | (unfold spec_ExecOk.j0 at h; dsimp only at h)
  replace h := ite_f h (by first | assumption | omega | simp_all)
  exact (L_23 N).1 _ _ _ _ _ _ _ h hk
 rcases N with _ | N
 · cases h
 first | rw [spec_ExecOk.j0] at h | simp only [spec_ExecOk.j0] at h | (unfold spec_ExecOk.j0 at h; dsimp only at h)
 refine br_ite h (by first | rfl | exact dect | exact (congrArg not dect) | (simp; done) | (simp [beqI]; done) | (simp; omega)) (fun c87 h => ?_) (fun c87 h => ?_)
 ·cases h; exact hk
 exact (L_23 N).1 _ _ _ _ _ _ _ h hk
noncomputable def C_120 : Ctr tau Unit := ctrS 23 c_23 C_23
noncomputable def D_120 : Drw tau := drawA E_120 C_120
theorem okC_120 : CtrOk Try.prog TT pnT C_120 := ctrS_ok okC_23 okc_23
theorem mC_120 : CtrMono C_120 := ctrS_mono mC_23 mc_23
theorem mD_120 : DrMono D_120 := drawA_mono mC_120
noncomputable def B_120 : Code := Try.f120.body.getD .skip
theorem mc_120 (args : List (AV tau)) (m : Mem tau) (k k' : AV tau → Mem tau → Option Unit) (hk : ∀ av m, k av m = some () → k' av m = some ()) (h : c_120 args m k = some ()) : c_120 args m k' = some () := by
 unfold c_120 at h ⊢
 split at h
 · repeat' first | exact callX_mono (fun _ h => hk _ _ h) h | refine bO_mono (fun _ h => ?_) h
 · cases h
theorem w_120 (a0_0 : Int) (a0_1 : Int) (k : AV tau → Mem tau → Option Unit) : fnA E_120 C_120 D_120 Try.f120 B_120 [.agg [.int .i64 a0_0, .int .i64 a0_1]] ⟨[], []⟩ k = (brA (decide (a0_0 ≥ (0 : Int))) (brA (decide (a0_0 < (3 : Int))) (brA (decide (a0_1 ≥ (1 : Int))) (k (.bool (decide (a0_1 ≤ (1000 : Int)))) ⟨[], []⟩) (k (.bool false) ⟨[], []⟩)) (k (.bool false) ⟨[], []⟩)) (k (.bool false) ⟨[], []⟩) : Option Unit) := by kernel_rfl
theorem okc_120 (args : List (AV tau)) (m : Mem tau) (κ : AV tau → Mem tau → Option Unit) (hh : c_120 args m κ = some ()) : ∃ av m1, κ av m1 = some () ∧ ToldA Try.prog TT (pnT 120) 120 args m av m1 := by
 obtain ⟨bx_, rw_⟩ := m
 unfold c_120 at hh
 simp only at hh
 split at hh
 case h_2 => cases hh
 rename_i b0 b1
 obtain ⟨a0_0, hx0, hh0⟩ := bO_some hh
 obtain ⟨a0_1, hx1, hh1⟩ := bO_some hh0
 have ex0 := asI_some hx0
 have ex1 := asI_some hx1
 subst ex0 ex1
 obtain ⟨N, t, h, hκ⟩ := callX_some hh1
 refine ⟨_, _, hκ, told_of_run pq okC_120 (fun _ _ _ => drawA_ok pq okC_120 hmix) (E := E_120) (fn := Try.f120) (body := B_120) (by kernel_rfl) (by kernel_rfl) (by kernel_rfl) (by rfl) (by exact Nat.le_of_ble_eq_true rfl) (fun k hk => ?_)⟩
 refine (w_120 a0_0 a0_1 k).trans ?_
 replace h : spec_l5Req.f a0_0 a0_1 = some t := h
 unfold spec_l5Req.f at h
 refine br_eti h rfl (fun c4 h => ?_) (fun c4 h => ?_)
 ·cases h; exact hk
 refine br_eti h rfl (fun c5 h => ?_) (fun c5 h => ?_)
 ·cases h; exact hk
 refine br_eti h rfl (fun c6 h => ?_) (fun c6 h => ?_)
 ·cases h; exact hk
 cases h; exact hk
noncomputable def C_53 : Ctr tau Unit := ctrS 120 c_120 C_120
noncomputable def D_53 : Drw tau := drawA E_53 C_53
theorem okC_53 : CtrOk Try.prog TT pnT C_53 := ctrS_ok okC_120 okc_120
theorem mC_53 : CtrMono C_53 := ctrS_mono mC_120 mc_120
theorem mD_53 : DrMono D_53 := drawA_mono mC_53
noncomputable def B_53 : Code := Try.f53.body.getD .skip
theorem mc_53 (args : List (AV tau)) (m : Mem tau) (k k' : AV tau → Mem tau → Option Unit) (hk : ∀ av m, k av m = some () → k' av m = some ()) (h : c_53 args m k = some ()) : c_53 args m k' = some () := by
 unfold c_53 at h ⊢
 split at h
 · repeat' first | exact callX_mono (fun _ h => hk _ _ h) h | refine bO_mono (fun _ h => ?_) h
 · cases h
theorem w_53 (a0_0 : Bool) (a0_1 : Int) (a0_2 : Int) (l0_3 : List S39) (l0_4 : List S82) (a0_5 : Int) (a0_6 : Int) (k : AV tau → Mem tau → Option Unit) : fnA E_53 C_53 D_53 Try.f53 B_53 [.agg [.bool a0_0, .int .i64 a0_1, .int .i64 a0_2, .sl 39 l0_3, .sl 82 l0_4, .int .i64 a0_5, .int .i64 a0_6]] ⟨[], []⟩ k = (brA a0_0 (brA ((a0_1 == (0 : Int)) && (a0_2 == (0 : Int))) (callX (fun n => spec_ExecSame.f n l0_3 l0_4 a0_5 a0_6 ([] : List S39) ([] : List S82) (0 : Int) (0 : Int)) fun t0 => k (.bool t0) ⟨[], []⟩) (k (.bool false) ⟨[], []⟩)) (callX (fun n => spec_l5Req.f a0_1 a0_2) fun t1 => brA t1 (callX (fun n => spec_ExecOk.f n l0_3 l0_4 a0_5 a0_6) fun t2 => brA t2 (k (.bool (!(decide (a0_6 = (3 : Int))))) ⟨[], []⟩) (k (.bool false) ⟨[], []⟩)) (k (.bool false) ⟨[], []⟩)) : Option Unit) := by kernel_rfl
theorem okc_53 (args : List (AV tau)) (m : Mem tau) (κ : AV tau → Mem tau → Option Unit) (hh : c_53 args m κ = some ()) : ∃ av m1, κ av m1 = some () ∧ ToldA Try.prog TT (pnT 53) 53 args m av m1 := by
 obtain ⟨bx_, rw_⟩ := m
 unfold c_53 at hh
 simp only at hh
 split at hh
 case h_2 => cases hh
 rename_i b0 b1 b2 b3 b4 b5 b6
 obtain ⟨a0_0, hx0, hh0⟩ := bO_some hh
 obtain ⟨a0_1, hx1, hh1⟩ := bO_some hh0
 obtain ⟨a0_2, hx2, hh2⟩ := bO_some hh1
 obtain ⟨l0_3, hx3, hh3⟩ := bO_some hh2
 obtain ⟨l0_4, hx4, hh4⟩ := bO_some hh3
 obtain ⟨a0_5, hx5, hh5⟩ := bO_some hh4
 obtain ⟨a0_6, hx6, hh6⟩ := bO_some hh5
 have ex0 := asB_some hx0
 have ex1 := asI_some hx1
 have ex2 := asI_some hx2
 have ex3 := asSl_some hx3
 have ex4 := asSl_some hx4
 have ex5 := asI_some hx5
 have ex6 := asI_some hx6
 subst ex0 ex1 ex2 ex3 ex4 ex5 ex6
 obtain ⟨N, t, h, hκ⟩ := callX_some hh6
 refine ⟨_, _, hκ, told_of_run pq okC_53 (fun _ _ _ => drawA_ok pq okC_53 hmix) (E := E_53) (fn := Try.f53) (body := B_53) (by kernel_rfl) (by kernel_rfl) (by kernel_rfl) (by rfl) (by exact Nat.le_of_ble_eq_true rfl) (fun k hk => ?_)⟩
 refine (w_53 a0_0 a0_1 a0_2 l0_3 l0_4 a0_5 a0_6 k).trans ?_
 replace h : spec_CertEntry.f N a0_0 a0_1 a0_2 l0_3 l0_4 a0_5 a0_6 = some t := h
 unfold spec_CertEntry.f at h
 refine br_ite h dect (fun c8 h => ?_) (fun c8 h => ?_)
 ·refine br_eti h (by first | rfl | exact dect | exact (congrArg not dect) | (simp; done) | (simp [beqI]; done) | (simp; omega)) (fun c9 h => ?_) (fun c9 h => ?_)
  ·cases h; exact hk
  refine call_h N h (fun t0 e10 h => ?_)
  cases h; exact hk
 refine call_h 0 h (fun t1 e11 h => ?_)
 refine br_eti h dect (fun c12 h => ?_) (fun c12 h => ?_)
 ·cases h; exact hk
 refine call_h N h (fun t2 e13 h => ?_)
 refine br_eti h dect (fun c14 h => ?_) (fun c14 h => ?_)
 ·cases h; exact hk
 cases h; exact hk
noncomputable def C_149 : Ctr tau Unit := ctrS 53 c_53 C_53
noncomputable def D_149 : Drw tau := drawA E_149 C_149
theorem okC_149 : CtrOk Try.prog TT pnT C_149 := ctrS_ok okC_53 okc_53
theorem mC_149 : CtrMono C_149 := ctrS_mono mC_53 mc_53
theorem mD_149 : DrMono D_149 := drawA_mono mC_149
noncomputable def B_149 : Code := Try.f149.body.getD .skip
theorem mc_149 (args : List (AV tau)) (m : Mem tau) (k k' : AV tau → Mem tau → Option Unit) (hk : ∀ av m, k av m = some () → k' av m = some ()) (h : c_149 args m k = some ()) : c_149 args m k' = some () := by
 unfold c_149 at h ⊢
 split at h
 · repeat' first | exact callX_mono (fun _ h => hk _ _ h) h | refine bO_mono (fun _ h => ?_) h
 · cases h
theorem w_149  (k : AV tau → Mem tau → Option Unit) : fnA E_149 C_149 D_149 Try.f149 B_149 [] ⟨[], []⟩ k = (k (.own 0 0) ⟨[], [some ⟨37, ([(⟨(0 : Int), (0 : Int)⟩ : S37), (⟨(0 : Int), (0 : Int)⟩ : S37), (⟨(0 : Int), (0 : Int)⟩ : S37), (⟨(0 : Int), (0 : Int)⟩ : S37)] : List S37), 0⟩]⟩ : Option Unit) := by kernel_rfl
theorem okc_149 (args : List (AV tau)) (m : Mem tau) (κ : AV tau → Mem tau → Option Unit) (hh : c_149 args m κ = some ()) : ∃ av m1, κ av m1 = some () ∧ ToldA Try.prog TT (pnT 149) 149 args m av m1 := by
 obtain ⟨bx_, rw_⟩ := m
 unfold c_149 at hh
 simp only at hh
 split at hh
 case h_2 => cases hh
 obtain ⟨N, t, h, hκ⟩ := callX_some hh
 refine ⟨_, _, hκ, told_of_run pq okC_149 (fun _ _ _ => drawA_ok pq okC_149 hmix) (E := E_149) (fn := Try.f149) (body := B_149) (by kernel_rfl) (by kernel_rfl) (by kernel_rfl) (by rfl) (by exact Nat.le_of_ble_eq_true rfl) (fun k hk => ?_)⟩
 refine (w_149 k).trans ?_
 replace h : spec_BoxOpen.f = some t := h
 unfold spec_BoxOpen.f at h
 replace h := ite_t h (by first | assumption | omega | simp_all)
 cases h; exact hk
noncomputable def C_114 : Ctr tau Unit := ctrS 149 c_149 C_149
noncomputable def D_114 : Drw tau := drawA E_114 C_114
theorem okC_114 : CtrOk Try.prog TT pnT C_114 := ctrS_ok okC_149 okc_149
theorem mC_114 : CtrMono C_114 := ctrS_mono mC_149 mc_149
theorem mD_114 : DrMono D_114 := drawA_mono mC_114
noncomputable def B_114 : Code := Try.f114.body.getD .skip
theorem mc_114 (args : List (AV tau)) (m : Mem tau) (k k' : AV tau → Mem tau → Option Unit) (hk : ∀ av m, k av m = some () → k' av m = some ()) (h : c_114 args m k = some ()) : c_114 args m k' = some () := by
 unfold c_114 at h ⊢
 split at h
 · repeat' first | exact callX_mono (fun _ h => hk _ _ h) h | refine bO_mono (fun _ h => ?_) h
 · cases h
theorem w_114  (k : AV tau → Mem tau → Option Unit) : fnA E_114 C_114 D_114 Try.f114 B_114 [] ⟨[], []⟩ k = (callX (fun n => spec_BoxOpen.f ) fun t0 => k (.agg [.int .i64 (0 : Int), .own 0 0, .own 1 0]) ⟨[], [some ⟨37, t0, 0⟩, some ⟨84, ([] : List S84), 0⟩]⟩ : Option Unit) := by kernel_rfl
theorem okc_114 (args : List (AV tau)) (m : Mem tau) (κ : AV tau → Mem tau → Option Unit) (hh : c_114 args m κ = some ()) : ∃ av m1, κ av m1 = some () ∧ ToldA Try.prog TT (pnT 114) 114 args m av m1 := by
 obtain ⟨bx_, rw_⟩ := m
 unfold c_114 at hh
 simp only at hh
 split at hh
 case h_2 => cases hh
 obtain ⟨N, t, h, hκ⟩ := callX_some hh
 refine ⟨_, _, hκ, told_of_run pq okC_114 (fun _ _ _ => drawA_ok pq okC_114 hmix) (E := E_114) (fn := Try.f114) (body := B_114) (by kernel_rfl) (by kernel_rfl) (by kernel_rfl) (by rfl) (by exact Nat.le_of_ble_eq_true rfl) (fun k hk => ?_)⟩
 refine (w_114 k).trans ?_
 replace h : spec_CertOpen.f = some t := h
 unfold spec_CertOpen.f at h
 refine call_h 0 h (fun t0 e2 h => ?_)
 cases h; exact hk
noncomputable def C_22 : Ctr tau Unit := ctrS 114 c_114 C_114
noncomputable def D_22 : Drw tau := drawA E_22 C_22
theorem okC_22 : CtrOk Try.prog TT pnT C_22 := ctrS_ok okC_114 okc_114
theorem mC_22 : CtrMono C_22 := ctrS_mono mC_114 mc_114
theorem mD_22 : DrMono D_22 := drawA_mono mC_22
noncomputable def B_22 : Code := Try.f22.body.getD .skip
theorem mc_22 (args : List (AV tau)) (m : Mem tau) (k k' : AV tau → Mem tau → Option Unit) (hk : ∀ av m, k av m = some () → k' av m = some ()) (h : c_22 args m k = some ()) : c_22 args m k' = some () := by
 unfold c_22 at h ⊢
 split at h
 · repeat' first | exact callX_mono (fun _ h => hk _ _ h) h | refine bO_mono (fun _ h => ?_) h
 · cases h
noncomputable def K_22_0 (k : AV tau → Mem tau → Option Unit) : Kon tau := (kBlock 0 (kS E_22 C_22 D_22 (codeP B_22 [1, 1, 1]) (kEnd E_22 Try.f22 k)))
def st_22_0 (x0 : (List S37)) (x1 : Int) : St tau := ⟨tmL 36 0 [(0, .sl 37 x0), (3, .int .i64 x1)], ⟨[], []⟩⟩
noncomputable def LP_22_0 (k : AV tau → Mem tau → Option Unit) (x0 : (List S37)) (x1 : Int) : Option Unit := loopA E_22 (codeA E_22 C_22 D_22 (codeP B_22 [1, 1, 0, 1, 0, 0])) (codeP B_22 [1, 1, 0, 1, 0, 0]) (K_22_0 k) (st_22_0 x0 x1)
theorem w_22_0 (k : AV tau → Mem tau → Option Unit) (x0 : (List S37)) (x1 : Int) : codeA E_22 C_22 D_22 (codeP B_22 [1, 1, 0, 1, 0, 0]) (kL E_22 C_22 D_22 (codeP B_22 [1, 1, 0, 1, 0, 0]) (K_22_0 k)) (st_22_0 x0 x1) = (brA (decide (x1 < ((x0.length : Nat) : Int))) (brA (decide ((0 : Int) ≤ x1)) (brA (decide (x1 < ((x0.length : Nat) : Int))) (brA (decide ((rd_T37 x0 x1).f0 < (0 : Int))) (k (.bool false) ⟨[], []⟩) (brA (decide ((0 : Int) ≤ x1)) (brA (decide (x1 < ((x0.length : Nat) : Int))) (brA (decide ((rd_T37 x0 x1).f0 > (1000000 : Int))) (k (.bool false) ⟨[], []⟩) (brA (decide ((0 : Int) ≤ x1)) (brA (decide (x1 < ((x0.length : Nat) : Int))) (callX (fun n => spec_l1Num.f ((rd_T37 x0 x1).f1)) fun t0 => brA (!t0) (k (.bool false) ⟨[], []⟩) (LP_22_0 k x0 (wrap64 (x1 + (1 : Int))))) (none)) (none))) (none)) (none))) (none)) (none)) (k (.bool true) ⟨[], []⟩) : Option Unit) := by
 simp only [← wrapA_i64]
 kernel_rfl
theorem w_22 (l0 : List S37) (k : AV tau → Mem tau → Option Unit) : fnA E_22 C_22 D_22 Try.f22 B_22 [.sl 37 l0] ⟨[], []⟩ k = (brA (!(decide (((l0.length : Nat) : Int) = (4 : Int)))) (k (.bool false) ⟨[], []⟩) (LP_22_0 k l0 (0 : Int)) : Option Unit) := by kernel_rfl
def S_22_0 (N : Nat) : Prop := ∀ (k : AV tau → Mem tau → Option Unit) (x0 : (List S37)) (x1 : Int) (r : Bool), spec_BoxOk.l0 N (x0) (x1) = some r → k (.bool (r)) ⟨[], []⟩ = some () → LP_22_0 k x0 x1 = some ()
theorem L_22 (N : Nat) : S_22_0 N := by
 induction N using Nat.strongRecOn with | _ N0 ih =>
 skip
 intro k x0 x1 r h hk
 rcases N0 with _ | N
 · cases h
 first | rw [spec_BoxOk.l0] at h | simp only [spec_BoxOk.l0] at h | (unfold spec_BoxOk.l0 at h; dsimp only at h)
 refine loop_fold mC_22 mD_22 ?_
 refine (w_22_0 k x0 x1).trans ?_
 refine br_eti h rfl (fun c15 h => ?_) (fun c15 h => ?_)
 ·cases h; exact hk
 refine br_g h rfl (fun c16 h => ?_)
 refine br_t (by first | (simp [c15]; done) | (simp; omega) | (simp only [List.length_append, List.length_cons, List.length_nil, List.length_take, List.length_drop] at c15 ⊢; simp; omega) | (simp only [List.length_append, List.length_cons, List.length_nil, List.length_take, List.length_drop] at c15; simp; omega) | (simp_all; done)) ?_
 refine br_ite h rfl (fun c17 h => ?_) (fun c17 h => ?_)
 ·cases h; exact hk
 refine br_t (by first | (simp [c16]; done) | (simp; omega) | (simp only [List.length_append, List.length_cons, List.length_nil, List.length_take, List.length_drop] at c15 ⊢; simp; omega) | (simp only [List.length_append, List.length_cons, List.length_nil, List.length_take, List.length_drop] at c15; simp; omega) | (simp_all; done)) ?_
 refine br_t (by first | (simp [c15]; done) | (simp; omega) | (simp only [List.length_append, List.length_cons, List.length_nil, List.length_take, List.length_drop] at c15 ⊢; simp; omega) | (simp only [List.length_append, List.length_cons, List.length_nil, List.length_take, List.length_drop] at c15; simp; omega) | (simp_all; done)) ?_
 refine br_ite h rfl (fun c18 h => ?_) (fun c18 h => ?_)
 ·cases h; exact hk
 refine br_t (by first | (simp [c16]; done) | (simp; omega) | (simp only [List.length_append, List.length_cons, List.length_nil, List.length_take, List.length_drop] at c15 ⊢; simp; omega) | (simp only [List.length_append, List.length_cons, List.length_nil, List.length_take, List.length_drop] at c15; simp; omega) | (simp_all; done)) ?_
 refine br_t (by first | (simp [c15]; done) | (simp; omega) | (simp only [List.length_append, List.length_cons, List.length_nil, List.length_take, List.length_drop] at c15 ⊢; simp; omega) | (simp only [List.length_append, List.length_cons, List.length_nil, List.length_take, List.length_drop] at c15; simp; omega) | (simp_all; done)) ?_
 refine call_h 0 h (fun t0 e19 h => ?_)
 refine br_etn h (congrArg not dect) (fun c20 h => ?_) (fun c20 h => ?_)
 ·cases h; exact hk
 exact (ih N (by omega)) _ _ _ _ h hk
theorem okc_22 (args : List (AV tau)) (m : Mem tau) (κ : AV tau → Mem tau → Option Unit) (hh : c_22 args m κ = some ()) : ∃ av m1, κ av m1 = some () ∧ ToldA Try.prog TT (pnT 22) 22 args m av m1 := by
 obtain ⟨bx_, rw_⟩ := m
 unfold c_22 at hh
 simp only at hh
 split at hh
 case h_2 => cases hh
 rename_i b0
 obtain ⟨l0, hx0, hh0⟩ := bO_some hh
 have ex0 := asSl_some hx0
 subst ex0
 obtain ⟨N, t, h, hκ⟩ := callX_some hh0
 refine ⟨_, _, hκ, told_of_run pq okC_22 (fun _ _ _ => drawA_ok pq okC_22 hmix) (E := E_22) (fn := Try.f22) (body := B_22) (by kernel_rfl) (by kernel_rfl) (by kernel_rfl) (by rfl) (by exact Nat.le_of_ble_eq_true rfl) (fun k hk => ?_)⟩
 refine (w_22 l0 k).trans ?_
 replace h : spec_BoxOk.f N l0 = some t := h
 unfold spec_BoxOk.f at h
 refine br_itn h rfl (fun c21 h => ?_) (fun c21 h => ?_)
 ·exact (L_22 N) _ _ _ _ h hk
 cases h; exact hk
noncomputable def C_21 : Ctr tau Unit := ctrS 22 c_22 C_22
noncomputable def D_21 : Drw tau := drawA E_21 C_21
theorem okC_21 : CtrOk Try.prog TT pnT C_21 := ctrS_ok okC_22 okc_22
theorem mC_21 : CtrMono C_21 := ctrS_mono mC_22 mc_22
theorem mD_21 : DrMono D_21 := drawA_mono mC_21
noncomputable def B_21 : Code := Try.f21.body.getD .skip
theorem mc_21 (args : List (AV tau)) (m : Mem tau) (k k' : AV tau → Mem tau → Option Unit) (hk : ∀ av m, k av m = some () → k' av m = some ()) (h : c_21 args m k = some ()) : c_21 args m k' = some () := by
 unfold c_21 at h ⊢
 split at h
 · repeat' first | exact callX_mono (fun _ h => hk _ _ h) h | refine bO_mono (fun _ h => ?_) h
 · cases h
noncomputable def K_21_0 (k : AV tau → Mem tau → Option Unit) : Kon tau := (kBlock 0 (kS E_21 C_21 D_21 (codeP B_21 [1, 1, 1]) (kEnd E_21 Try.f21 k)))
def st_21_0 (x0 : (List S37)) (x1 : Int) (x2 : (List S39)) (x3 : (List S82)) (x4 : Int) (x5 : Int) : St tau := ⟨tmL 38 0 [(0, .sl 37 x0), (3, .ptr 0 0), (5, .int .i64 x1)], ⟨[some (26, [.sl 39 x2, .sl 82 x3, .int .i64 x4, .int .i64 x5])], []⟩⟩
noncomputable def LP_21_0 (k : AV tau → Mem tau → Option Unit) (x0 : (List S37)) (x1 : Int) (x2 : (List S39)) (x3 : (List S82)) (x4 : Int) (x5 : Int) : Option Unit := loopA E_21 (codeA E_21 C_21 D_21 (codeP B_21 [1, 1, 0, 1, 0, 0])) (codeP B_21 [1, 1, 0, 1, 0, 0]) (K_21_0 k) (st_21_0 x0 x1 x2 x3 x4 x5)
theorem w_21_0 (k : AV tau → Mem tau → Option Unit) (x0 : (List S37)) (x1 : Int) (x2 : (List S39)) (x3 : (List S82)) (x4 : Int) (x5 : Int) : codeA E_21 C_21 D_21 (codeP B_21 [1, 1, 0, 1, 0, 0]) (kL E_21 C_21 D_21 (codeP B_21 [1, 1, 0, 1, 0, 0]) (K_21_0 k)) (st_21_0 x0 x1 x2 x3 x4 x5) = (brA (decide (x1 < ((x2.length : Nat) : Int))) (brA (decide ((0 : Int) ≤ x1)) (brA (decide (x1 < ((x2.length : Nat) : Int))) (brA (decide ((0 : Int) ≤ (rd_T39 x2 x1).f0)) (brA (decide ((rd_T39 x2 x1).f0 < ((x0.length : Nat) : Int))) (brA (decide ((0 : Int) ≤ x1)) (brA (decide (x1 < ((x2.length : Nat) : Int))) (brA (!(decide ((rd_T37 x0 ((rd_T39 x2 x1).f0)).f0 = (rd_T39 x2 x1).f1))) (k (.bool false) ⟨[], []⟩) (LP_21_0 k x0 (wrap64 (x1 + (1 : Int))) x2 x3 x4 x5)) (none)) (none)) (none)) (none)) (none)) (none)) (k (.bool true) ⟨[], []⟩) : Option Unit) := by
 simp only [← wrapA_i64]
 kernel_rfl
theorem w_21 (l0 : List S37) (l1_0 : List S39) (l1_1 : List S82) (a1_2 : Int) (a1_3 : Int) (k : AV tau → Mem tau → Option Unit) : fnA E_21 C_21 D_21 Try.f21 B_21 [.sl 37 l0, .agg [.sl 39 l1_0, .sl 82 l1_1, .int .i64 a1_2, .int .i64 a1_3]] ⟨[], []⟩ k = (callX (fun n => spec_BoxOk.f n l0) fun t0 => brA (!t0) (k (.bool false) ⟨[], []⟩) (callX (fun n => spec_ExecOk.f n l1_0 l1_1 a1_2 a1_3) fun t1 => brA (!t1) (k (.bool false) ⟨[], []⟩) (LP_21_0 k l0 (0 : Int) l1_0 l1_1 a1_2 a1_3)) : Option Unit) := by kernel_rfl
def S_21_0 (N : Nat) : Prop := ∀ (k : AV tau → Mem tau → Option Unit) (x0 : (List S37)) (x1 : Int) (x2 : (List S39)) (x3 : (List S82)) (x4 : Int) (x5 : Int) (r : Bool), spec_ExecFresh.l0 N (x0) (x1) (x2) (x3) (x4) (x5) = some r → k (.bool (r)) ⟨[], []⟩ = some () → LP_21_0 k x0 x1 x2 x3 x4 x5 = some ()
theorem L_21 (N : Nat) : S_21_0 N := by
 induction N using Nat.strongRecOn with | _ N0 ih =>
 skip
 intro k x0 x1 x2 x3 x4 x5 r h hk
 rcases N0 with _ | N
 · cases h
 first | rw [spec_ExecFresh.l0] at h | simp only [spec_ExecFresh.l0] at h | (unfold spec_ExecFresh.l0 at h; dsimp only at h)
 refine loop_fold mC_21 mD_21 ?_
 refine (w_21_0 k x0 x1 x2 x3 x4 x5).trans ?_
 refine br_eti h rfl (fun c19 h => ?_) (fun c19 h => ?_)
 ·cases h; exact hk
 refine br_g h rfl (fun c20 h => ?_)
 refine br_t (by first | (simp [c19]; done) | (simp; omega) | (simp only [List.length_append, List.length_cons, List.length_nil, List.length_take, List.length_drop] at c19 ⊢; simp; omega) | (simp only [List.length_append, List.length_cons, List.length_nil, List.length_take, List.length_drop] at c19; simp; omega) | (simp_all; done)) ?_
 refine br_g h rfl (fun c21 h => ?_)
 refine br_g h rfl (fun c22 h => ?_)
 refine br_t (by first | (simp [c20]; done) | (simp; omega) | (simp only [List.length_append, List.length_cons, List.length_nil, List.length_take, List.length_drop] at c22 c19 ⊢; simp; omega) | (simp only [List.length_append, List.length_cons, List.length_nil, List.length_take, List.length_drop] at c22 c19; simp; omega) | (simp_all; done)) ?_
 refine br_t (by first | (simp [c19]; done) | (simp; omega) | (simp only [List.length_append, List.length_cons, List.length_nil, List.length_take, List.length_drop] at c22 c19 ⊢; simp; omega) | (simp only [List.length_append, List.length_cons, List.length_nil, List.length_take, List.length_drop] at c22 c19; simp; omega) | (simp_all; done)) ?_
 refine br_etn h rfl (fun c23 h => ?_) (fun c23 h => ?_)
 ·cases h; exact hk
 exact (ih N (by omega)) _ _ _ _ _ _ _ _ h hk
theorem okc_21 (args : List (AV tau)) (m : Mem tau) (κ : AV tau → Mem tau → Option Unit) (hh : c_21 args m κ = some ()) : ∃ av m1, κ av m1 = some () ∧ ToldA Try.prog TT (pnT 21) 21 args m av m1 := by
 obtain ⟨bx_, rw_⟩ := m
 unfold c_21 at hh
 simp only at hh
 split at hh
 case h_2 => cases hh
 rename_i b0 b1 b2 b3 b4
 obtain ⟨l0, hx0, hh0⟩ := bO_some hh
 obtain ⟨l1_0, hx1, hh1⟩ := bO_some hh0
 obtain ⟨l1_1, hx2, hh2⟩ := bO_some hh1
 obtain ⟨a1_2, hx3, hh3⟩ := bO_some hh2
 obtain ⟨a1_3, hx4, hh4⟩ := bO_some hh3
 have ex0 := asSl_some hx0
 have ex1 := asSl_some hx1
 have ex2 := asSl_some hx2
 have ex3 := asI_some hx3
 have ex4 := asI_some hx4
 subst ex0 ex1 ex2 ex3 ex4
 obtain ⟨N, t, h, hκ⟩ := callX_some hh4
 refine ⟨_, _, hκ, told_of_run pq okC_21 (fun _ _ _ => drawA_ok pq okC_21 hmix) (E := E_21) (fn := Try.f21) (body := B_21) (by kernel_rfl) (by kernel_rfl) (by kernel_rfl) (by rfl) (by exact Nat.le_of_ble_eq_true rfl) (fun k hk => ?_)⟩
 refine (w_21 l0 l1_0 l1_1 a1_2 a1_3 k).trans ?_
 replace h : spec_ExecFresh.f N l0 l1_0 l1_1 a1_2 a1_3 = some t := h
 unfold spec_ExecFresh.f at h
 refine call_h N h (fun t0 e24 h => ?_)
 refine br_etn h (congrArg not dect) (fun c25 h => ?_) (fun c25 h => ?_)
 ·rcases N with _ | N
  · cases h
  first | rw [spec_ExecFresh.j0] at h | simp only [spec_ExecFresh.j0] at h | (unfold spec_ExecFresh.j0 at h; dsimp only at h)
  replace h := ite_t h (by first | assumption | omega | simp_all)
  cases h; exact hk
 refine call_h N h (fun t1 e26 h => ?_)
 rcases N with _ | N
 · cases h
 first | rw [spec_ExecFresh.j0] at h | simp only [spec_ExecFresh.j0] at h | (unfold spec_ExecFresh.j0 at h; dsimp only at h)
 refine br_ite h dect (fun c27 h => ?_) (fun c27 h => ?_)
 ·cases h; exact hk
 exact (L_21 N) _ _ _ _ _ _ _ _ h hk
noncomputable def C_167 : Ctr tau Unit := ctrS 21 c_21 C_21
noncomputable def D_167 : Drw tau := drawA E_167 C_167
theorem okC_167 : CtrOk Try.prog TT pnT C_167 := ctrS_ok okC_21 okc_21
theorem mC_167 : CtrMono C_167 := ctrS_mono mC_21 mc_21
theorem mD_167 : DrMono D_167 := drawA_mono mC_167
noncomputable def B_167 : Code := Try.f167.body.getD .skip
theorem mc_167 (args : List (AV tau)) (m : Mem tau) (k k' : AV tau → Mem tau → Option Unit) (hk : ∀ av m, k av m = some () → k' av m = some ()) (h : c_167 args m k = some ()) : c_167 args m k' = some () := by
 unfold c_167 at h ⊢
 split at h
 · repeat' first | exact callX_mono (fun _ h => hk _ _ h) h | refine bO_mono (fun _ h => ?_) h
 · cases h
theorem w_167 (a0 : Int) (a1 : Int) (k : AV tau → Mem tau → Option Unit) : fnA E_167 C_167 D_167 Try.f167 B_167 [.int .i64 a0, .int .i64 a1] ⟨[], []⟩ k = (brA (decide (a0 < a1)) (k (.int .i64 a0) ⟨[], []⟩) (k (.int .i64 a1) ⟨[], []⟩) : Option Unit) := by kernel_rfl
theorem okc_167 (args : List (AV tau)) (m : Mem tau) (κ : AV tau → Mem tau → Option Unit) (hh : c_167 args m κ = some ()) : ∃ av m1, κ av m1 = some () ∧ ToldA Try.prog TT (pnT 167) 167 args m av m1 := by
 obtain ⟨bx_, rw_⟩ := m
 unfold c_167 at hh
 simp only at hh
 split at hh
 case h_2 => cases hh
 rename_i b0 b1
 obtain ⟨a0, hx0, hh0⟩ := bO_some hh
 obtain ⟨a1, hx1, hh1⟩ := bO_some hh0
 have ex0 := asI_some hx0
 have ex1 := asI_some hx1
 subst ex0 ex1
 obtain ⟨N, t, h, hκ⟩ := callX_some hh1
 refine ⟨_, _, hκ, told_of_run pq okC_167 (fun _ _ _ => drawA_ok pq okC_167 hmix) (E := E_167) (fn := Try.f167) (body := B_167) (by kernel_rfl) (by kernel_rfl) (by kernel_rfl) (by rfl) (by exact Nat.le_of_ble_eq_true rfl) (fun k hk => ?_)⟩
 refine (w_167 a0 a1 k).trans ?_
 replace h : spec_l1Min.f a0 a1 = some t := h
 unfold spec_l1Min.f at h
 refine br_ite h rfl (fun c2 h => ?_) (fun c2 h => ?_)
 ·cases h; exact hk
 cases h; exact hk
noncomputable def C_146 : Ctr tau Unit := ctrS 167 c_167 C_167
noncomputable def D_146 : Drw tau := drawA E_146 C_146
theorem okC_146 : CtrOk Try.prog TT pnT C_146 := ctrS_ok okC_167 okc_167
theorem mC_146 : CtrMono C_146 := ctrS_mono mC_167 mc_167
theorem mD_146 : DrMono D_146 := drawA_mono mC_146
noncomputable def B_146 : Code := Try.f146.body.getD .skip
theorem mc_146 (args : List (AV tau)) (m : Mem tau) (k k' : AV tau → Mem tau → Option Unit) (hk : ∀ av m, k av m = some () → k' av m = some ()) (h : c_146 args m k = some ()) : c_146 args m k' = some () := by
 unfold c_146 at h ⊢
 split at h
 · repeat' first | exact callX_mono (fun _ h => hk _ _ h) h | refine bO_mono (fun _ h => ?_) h
 · cases h
noncomputable def K_146_0 (k : AV tau → Mem tau → Option Unit) : Kon tau := (kBlock 0 (kS E_146 C_146 D_146 (codeP B_146 [1, 1]) (kEnd E_146 Try.f146 k)))
def st_146_0 (x0 : Int) (x1 : (List S39)) (x2 : (List S82)) (x3 : Int) (x4 : Int) (x5 : (List S37)) : St tau := ⟨tmL 38 0 [(0, .own 0 0), (3, .ptr 0 0), (5, .int .i64 x0)], ⟨[some (26, [.sl 39 x1, .sl 82 x2, .int .i64 x3, .int .i64 x4])], [some ⟨37, x5, 0⟩]⟩⟩
noncomputable def LP_146_0 (k : AV tau → Mem tau → Option Unit) (x0 : Int) (x1 : (List S39)) (x2 : (List S82)) (x3 : Int) (x4 : Int) (x5 : (List S37)) : Option Unit := loopA E_146 (codeA E_146 C_146 D_146 (codeP B_146 [1, 0, 1, 0, 0])) (codeP B_146 [1, 0, 1, 0, 0]) (K_146_0 k) (st_146_0 x0 x1 x2 x3 x4 x5)
theorem w_146_0 (k : AV tau → Mem tau → Option Unit) (x0 : Int) (x1 : (List S39)) (x2 : (List S82)) (x3 : Int) (x4 : Int) (x5 : (List S37)) : codeA E_146 C_146 D_146 (codeP B_146 [1, 0, 1, 0, 0]) (kL E_146 C_146 D_146 (codeP B_146 [1, 0, 1, 0, 0]) (K_146_0 k)) (st_146_0 x0 x1 x2 x3 x4 x5) = (brA (decide (x0 < ((x2.length : Nat) : Int))) (brA (decide ((0 : Int) ≤ x0)) (brA (decide (x0 < ((x2.length : Nat) : Int))) (brA (decide ((0 : Int) ≤ (rd_T82 x2 x0).f0)) (brA (decide ((rd_T82 x2 x0).f0 < ((x5.length : Nat) : Int))) (brA (decide ((0 : Int) ≤ x0)) (brA (decide (x0 < ((x2.length : Nat) : Int))) (callX (fun n => spec_l1Min.f (1000000 : Int) (wrap64 ((rd_T37 x5 ((rd_T82 x2 x0).f0)).f0 + (1 : Int)))) fun t0 => brA (decide ((0 : Int) ≤ (rd_T82 x2 x0).f0)) (brA (decide ((rd_T82 x2 x0).f0 < ((x5.length : Nat) : Int))) (LP_146_0 k (wrap64 (x0 + (1 : Int))) x1 x2 x3 x4 (List.set x5 (Int.toNat ((rd_T82 x2 x0).f0)) (⟨t0, (rd_T82 x2 x0).f1⟩ : S37))) (none)) (none)) (none)) (none)) (none)) (none)) (none)) (none)) (k (.own 0 0) ⟨[], [some ⟨37, x5, 0⟩]⟩) : Option Unit) := by
 simp only [← wrapA_i64]
 kernel_rfl
theorem w_146 (l0 : List S37) (l1_0 : List S39) (l1_1 : List S82) (a1_2 : Int) (a1_3 : Int) (k : AV tau → Mem tau → Option Unit) : fnA E_146 C_146 D_146 Try.f146 B_146 [.own 0 0, .agg [.sl 39 l1_0, .sl 82 l1_1, .int .i64 a1_2, .int .i64 a1_3]] ⟨[], [some ⟨37, l0, 0⟩]⟩ k = (LP_146_0 k (0 : Int) l1_0 l1_1 a1_2 a1_3 l0 : Option Unit) := by kernel_rfl
def S_146_0 (N : Nat) : Prop := ∀ (k : AV tau → Mem tau → Option Unit) (x0 : Int) (x1 : (List S39)) (x2 : (List S82)) (x3 : Int) (x4 : Int) (x5 : (List S37)) (r : (List (S37))), spec_l3Do.l0 N (x5) (x0) (x1) (x2) (x3) (x4) = some r → k (.own 0 0) ⟨[], [some ⟨37, r, 0⟩]⟩ = some () → LP_146_0 k x0 x1 x2 x3 x4 x5 = some ()
theorem L_146 (N : Nat) : S_146_0 N := by
 induction N using Nat.strongRecOn with | _ N0 ih =>
 skip
 intro k x0 x1 x2 x3 x4 x5 r h hk
 rcases N0 with _ | N
 · cases h
 first | rw [spec_l3Do.l0] at h | simp only [spec_l3Do.l0] at h | (unfold spec_l3Do.l0 at h; dsimp only at h)
 refine loop_fold mC_146 mD_146 ?_
 refine (w_146_0 k x0 x1 x2 x3 x4 x5).trans ?_
 refine br_eti h rfl (fun c11 h => ?_) (fun c11 h => ?_)
 ·cases h; exact hk
 refine br_g h rfl (fun c12 h => ?_)
 refine br_t (by first | (simp [c11]; done) | (simp; omega) | (simp only [List.length_append, List.length_cons, List.length_nil, List.length_take, List.length_drop] at c11 ⊢; simp; omega) | (simp only [List.length_append, List.length_cons, List.length_nil, List.length_take, List.length_drop] at c11; simp; omega) | (simp_all; done)) ?_
 refine br_g h rfl (fun c13 h => ?_)
 refine br_g h rfl (fun c14 h => ?_)
 refine br_t (by first | (simp [c12]; done) | (simp; omega) | (simp only [List.length_append, List.length_cons, List.length_nil, List.length_take, List.length_drop] at c14 c11 ⊢; simp; omega) | (simp only [List.length_append, List.length_cons, List.length_nil, List.length_take, List.length_drop] at c14 c11; simp; omega) | (simp_all; done)) ?_
 refine br_t (by first | (simp [c11]; done) | (simp; omega) | (simp only [List.length_append, List.length_cons, List.length_nil, List.length_take, List.length_drop] at c14 c11 ⊢; simp; omega) | (simp only [List.length_append, List.length_cons, List.length_nil, List.length_take, List.length_drop] at c14 c11; simp; omega) | (simp_all; done)) ?_
 refine call_h 0 h (fun t0 e15 h => ?_)
 refine br_t (by first | (simp [c13]; done) | (simp; omega) | (simp only [List.length_append, List.length_cons, List.length_nil, List.length_take, List.length_drop] at c14 c11 ⊢; simp; omega) | (simp only [List.length_append, List.length_cons, List.length_nil, List.length_take, List.length_drop] at c14 c11; simp; omega) | (simp_all; done)) ?_
 refine br_t (by first | (simp [c14]; done) | (simp; omega) | (simp only [List.length_append, List.length_cons, List.length_nil, List.length_take, List.length_drop] at c14 c11 ⊢; simp; omega) | (simp only [List.length_append, List.length_cons, List.length_nil, List.length_take, List.length_drop] at c14 c11; simp; omega) | (simp_all; done)) ?_
 exact (ih N (by omega)) _ _ _ _ _ _ _ _ h hk
theorem okc_146 (args : List (AV tau)) (m : Mem tau) (κ : AV tau → Mem tau → Option Unit) (hh : c_146 args m κ = some ()) : ∃ av m1, κ av m1 = some () ∧ ToldA Try.prog TT (pnT 146) 146 args m av m1 := by
 obtain ⟨bx_, rw_⟩ := m
 unfold c_146 at hh
 simp only at hh
 split at hh
 case h_2 => cases hh
 rename_i b0 b1 b2 b3 b4 r0
 obtain ⟨u16, hx0, hh0⟩ := bO_some hh
 obtain ⟨l0, hx1, hh1⟩ := bO_some hh0
 obtain ⟨l1_0, hx2, hh2⟩ := bO_some hh1
 obtain ⟨l1_1, hx3, hh3⟩ := bO_some hh2
 obtain ⟨a1_2, hx4, hh4⟩ := bO_some hh3
 obtain ⟨a1_3, hx5, hh5⟩ := bO_some hh4
 have ex0 := asOwn_some hx0
 have ex1 := asRow_some hx1
 have ex2 := asSl_some hx2
 have ex3 := asSl_some hx3
 have ex4 := asI_some hx4
 have ex5 := asI_some hx5
 subst ex0 ex1 ex2 ex3 ex4 ex5
 obtain ⟨N, t, h, hκ⟩ := callX_some hh5
 refine ⟨_, _, hκ, told_of_run pq okC_146 (fun _ _ _ => drawA_ok pq okC_146 hmix) (E := E_146) (fn := Try.f146) (body := B_146) (by kernel_rfl) (by kernel_rfl) (by kernel_rfl) (by rfl) (by exact Nat.le_of_ble_eq_true rfl) (fun k hk => ?_)⟩
 refine (w_146 l0 l1_0 l1_1 a1_2 a1_3 k).trans ?_
 replace h : spec_l3Do.f N l0 l1_0 l1_1 a1_2 a1_3 = some t := h
 unfold spec_l3Do.f at h
 exact (L_146 N) _ _ _ _ _ _ _ _ h hk
noncomputable def C_155 : Ctr tau Unit := ctrS 146 c_146 C_146
noncomputable def D_155 : Drw tau := drawA E_155 C_155
theorem okC_155 : CtrOk Try.prog TT pnT C_155 := ctrS_ok okC_146 okc_146
theorem mC_155 : CtrMono C_155 := ctrS_mono mC_146 mc_146
theorem mD_155 : DrMono D_155 := drawA_mono mC_155
noncomputable def B_155 : Code := Try.f155.body.getD .skip
theorem mc_155 (args : List (AV tau)) (m : Mem tau) (k k' : AV tau → Mem tau → Option Unit) (hk : ∀ av m, k av m = some () → k' av m = some ()) (h : c_155 args m k = some ()) : c_155 args m k' = some () := by
 unfold c_155 at h ⊢
 split at h
 · repeat' first | exact callX_mono (fun _ h => hk _ _ h) h | refine bO_mono (fun _ h => ?_) h
 · cases h
noncomputable def K_155_0 (k : AV tau → Mem tau → Option Unit) : Kon tau := (kBlock 0 (kS E_155 C_155 D_155 (codeP B_155 [1, 1]) (kEnd E_155 Try.f155 k)))
def st_155_0 (x0 : Int) (x1 : Int) (x2 : Int) (x3 : (List S37)) (x4 : (List S84)) (x5 : Int) (x6 : Int) (x7 : Int) (x8 : Int) : St tau := ⟨tmL 29 0 [(1, .int .i64 x0), (2, .ptr 0 0), (4, .ptr 1 0), (6, .int .i64 x1)], ⟨[some (69, [.int .i64 x2, .sl 37 x3, .sl 84 x4]), some (84, [.int .i64 x5, .int .i64 x6, .int .i64 x7, .int .i64 x8])], []⟩⟩
noncomputable def LP_155_0 (k : AV tau → Mem tau → Option Unit) (x0 : Int) (x1 : Int) (x2 : Int) (x3 : (List S37)) (x4 : (List S84)) (x5 : Int) (x6 : Int) (x7 : Int) (x8 : Int) : Option Unit := loopA E_155 (codeA E_155 C_155 D_155 (codeP B_155 [1, 0, 1, 0, 0])) (codeP B_155 [1, 0, 1, 0, 0]) (K_155_0 k) (st_155_0 x0 x1 x2 x3 x4 x5 x6 x7 x8)
theorem w_155_0 (k : AV tau → Mem tau → Option Unit) (x0 : Int) (x1 : Int) (x2 : Int) (x3 : (List S37)) (x4 : (List S84)) (x5 : Int) (x6 : Int) (x7 : Int) (x8 : Int) : codeA E_155 C_155 D_155 (codeP B_155 [1, 0, 1, 0, 0]) (kL E_155 C_155 D_155 (codeP B_155 [1, 0, 1, 0, 0]) (K_155_0 k)) (st_155_0 x0 x1 x2 x3 x4 x5 x6 x7 x8) = (brA (decide (x1 < ((x4.length : Nat) : Int))) (brA (decide ((0 : Int) ≤ x1)) (brA (decide (x1 < ((x4.length : Nat) : Int))) (brA (decide (((rd_T84 x4 x1).f0).f0 = x0)) (brA (decide ((0 : Int) ≤ x1)) (brA (decide (x1 < ((x4.length : Nat) : Int))) (k (.tup [.agg [.int .i64 (((rd_T84 x4 x1).f0).f0), .int .i64 (((rd_T84 x4 x1).f0).f1), .int .i64 ((rd_T84 x4 x1).f1), .int .i64 ((rd_T84 x4 x1).f2)], .bool true]) ⟨[], []⟩) (none)) (none)) (LP_155_0 k x0 (wrap64 (x1 + (1 : Int))) x2 x3 x4 x5 x6 x7 x8)) (none)) (none)) (k (.tup [.agg [.int .i64 (0 : Int), .int .i64 (0 : Int), .int .i64 (0 : Int), .int .i64 (0 : Int)], .bool false]) ⟨[], []⟩) : Option Unit) := by
 simp only [← wrapA_i64]
 kernel_rfl
theorem w_155 (a0_0 : Int) (l0_1 : List S37) (l0_2 : List S84) (a1 : Int) (k : AV tau → Mem tau → Option Unit) : fnA E_155 C_155 D_155 Try.f155 B_155 [.agg [.int .i64 a0_0, .sl 37 l0_1, .sl 84 l0_2], .int .i64 a1] ⟨[], []⟩ k = (LP_155_0 k a1 (0 : Int) a0_0 l0_1 l0_2 (0 : Int) (0 : Int) (0 : Int) (0 : Int) : Option Unit) := by kernel_rfl
def S_155_0 (N : Nat) : Prop := ∀ (k : AV tau → Mem tau → Option Unit) (x0 : Int) (x1 : Int) (x2 : Int) (x3 : (List S37)) (x4 : (List S84)) (x5 : Int) (x6 : Int) (x7 : Int) (x8 : Int) (r : Int × Int × Int × Int × Bool), spec_l5Last.l0 N (x0) (x1) (x2) (x3) (x4) = some r → k (.tup [.agg [.int .i64 (r.1), .int .i64 (r.2.1), .int .i64 (r.2.2.1), .int .i64 (r.2.2.2.1)], .bool (r.2.2.2.2)]) ⟨[], []⟩ = some () → LP_155_0 k x0 x1 x2 x3 x4 x5 x6 x7 x8 = some ()
theorem L_155 (N : Nat) : S_155_0 N := by
 induction N using Nat.strongRecOn with | _ N0 ih =>
 skip
 intro k x0 x1 x2 x3 x4 x5 x6 x7 x8 r h hk
 rcases N0 with _ | N
 · cases h
 first | rw [spec_l5Last.l0] at h | simp only [spec_l5Last.l0] at h | (unfold spec_l5Last.l0 at h; dsimp only at h)
 refine loop_fold mC_155 mD_155 ?_
 refine (w_155_0 k x0 x1 x2 x3 x4 x5 x6 x7 x8).trans ?_
 refine br_eti h rfl (fun c7 h => ?_) (fun c7 h => ?_)
 ·cases h; exact hk
 refine br_g h rfl (fun c8 h => ?_)
 refine br_t (by first | (simp [c7]; done) | (simp; omega) | (simp only [List.length_append, List.length_cons, List.length_nil, List.length_take, List.length_drop] at c7 ⊢; simp; omega) | (simp only [List.length_append, List.length_cons, List.length_nil, List.length_take, List.length_drop] at c7; simp; omega) | (simp_all; done)) ?_
 refine br_eti h rfl (fun c9 h => ?_) (fun c9 h => ?_)
 ·exact (ih N (by omega)) _ _ _ _ _ _ _ _ _ _ _ h hk
 refine br_t (by first | (simp [c8]; done) | (simp; omega) | (simp only [List.length_append, List.length_cons, List.length_nil, List.length_take, List.length_drop] at c7 ⊢; simp; omega) | (simp only [List.length_append, List.length_cons, List.length_nil, List.length_take, List.length_drop] at c7; simp; omega) | (simp_all; done)) ?_
 refine br_t (by first | (simp [c7]; done) | (simp; omega) | (simp only [List.length_append, List.length_cons, List.length_nil, List.length_take, List.length_drop] at c7 ⊢; simp; omega) | (simp only [List.length_append, List.length_cons, List.length_nil, List.length_take, List.length_drop] at c7; simp; omega) | (simp_all; done)) ?_
 cases h; exact hk
theorem okc_155 (args : List (AV tau)) (m : Mem tau) (κ : AV tau → Mem tau → Option Unit) (hh : c_155 args m κ = some ()) : ∃ av m1, κ av m1 = some () ∧ ToldA Try.prog TT (pnT 155) 155 args m av m1 := by
 obtain ⟨bx_, rw_⟩ := m
 unfold c_155 at hh
 simp only at hh
 split at hh
 case h_2 => cases hh
 rename_i b0 b1 b2 b3
 obtain ⟨a0_0, hx0, hh0⟩ := bO_some hh
 obtain ⟨l0_1, hx1, hh1⟩ := bO_some hh0
 obtain ⟨l0_2, hx2, hh2⟩ := bO_some hh1
 obtain ⟨a1, hx3, hh3⟩ := bO_some hh2
 have ex0 := asI_some hx0
 have ex1 := asSl_some hx1
 have ex2 := asSl_some hx2
 have ex3 := asI_some hx3
 subst ex0 ex1 ex2 ex3
 obtain ⟨N, t, h, hκ⟩ := callX_some hh3
 refine ⟨_, _, hκ, told_of_run pq okC_155 (fun _ _ _ => drawA_ok pq okC_155 hmix) (E := E_155) (fn := Try.f155) (body := B_155) (by kernel_rfl) (by kernel_rfl) (by kernel_rfl) (by rfl) (by exact Nat.le_of_ble_eq_true rfl) (fun k hk => ?_)⟩
 refine (w_155 a0_0 l0_1 l0_2 a1 k).trans ?_
 replace h : spec_l5Last.f N a0_0 l0_1 l0_2 a1 = some t := h
 unfold spec_l5Last.f at h
 exact (L_155 N) _ _ _ _ _ _ _ _ _ _ _ h hk
noncomputable def C_156 : Ctr tau Unit := ctrS 155 c_155 C_155
noncomputable def D_156 : Drw tau := drawA E_156 C_156
theorem okC_156 : CtrOk Try.prog TT pnT C_156 := ctrS_ok okC_155 okc_155
theorem mC_156 : CtrMono C_156 := ctrS_mono mC_155 mc_155
theorem mD_156 : DrMono D_156 := drawA_mono mC_156
noncomputable def B_156 : Code := Try.f156.body.getD .skip
theorem mc_156 (args : List (AV tau)) (m : Mem tau) (k k' : AV tau → Mem tau → Option Unit) (hk : ∀ av m, k av m = some () → k' av m = some ()) (h : c_156 args m k = some ()) : c_156 args m k' = some () := by
 unfold c_156 at h ⊢
 split at h
 · repeat' first | exact callX_mono (fun _ h => hk _ _ h) h | refine bO_mono (fun _ h => ?_) h
 · cases h
noncomputable def K_156_0 (k : AV tau → Mem tau → Option Unit) : Kon tau := (kBlock 0 (kS E_156 C_156 D_156 (codeP B_156 [1, 1, 1, 1]) (kEnd E_156 Try.f156 k)))
def st_156_0 (x0 : (List S84)) (x1 : Bool) (x2 : Int) (x3 : Int) (x4 : Int) (x5 : Int) (x6 : Int) (x7 : (List S84)) : St tau := ⟨tmL 57 0 [(0, .sl 84 x0), (3, .ptr 0 0), (5, .own 0 0), (6, .bool x1), (7, .int .i64 x2)], ⟨[some (84, [.int .i64 x3, .int .i64 x4, .int .i64 x5, .int .i64 x6])], [some ⟨84, x7, 0⟩]⟩⟩
noncomputable def LP_156_0 (k : AV tau → Mem tau → Option Unit) (x0 : (List S84)) (x1 : Bool) (x2 : Int) (x3 : Int) (x4 : Int) (x5 : Int) (x6 : Int) (x7 : (List S84)) : Option Unit := loopA E_156 (codeA E_156 C_156 D_156 (codeP B_156 [1, 1, 1, 0, 1, 0, 0])) (codeP B_156 [1, 1, 1, 0, 1, 0, 0]) (K_156_0 k) (st_156_0 x0 x1 x2 x3 x4 x5 x6 x7)
theorem w_156_0 (k : AV tau → Mem tau → Option Unit) (x0 : (List S84)) (x1 : Bool) (x2 : Int) (x3 : Int) (x4 : Int) (x5 : Int) (x6 : Int) (x7 : (List S84)) : codeA E_156 C_156 D_156 (codeP B_156 [1, 1, 1, 0, 1, 0, 0]) (kL E_156 C_156 D_156 (codeP B_156 [1, 1, 1, 0, 1, 0, 0]) (K_156_0 k)) (st_156_0 x0 x1 x2 x3 x4 x5 x6 x7) = (brA (decide (x2 < ((x0.length : Nat) : Int))) (brA (!x1) (brA (decide ((0 : Int) ≤ x2)) (brA (decide (x2 < ((x0.length : Nat) : Int))) (brA (decide (((rd_T84 x0 x2).f0).f0 ≥ x3)) (brA (decide ((x7.length + 1) ≤ 4398046511104)) (brA (decide ((0 : Int) ≤ x2)) (brA (decide (x2 < ((x0.length : Nat) : Int))) (brA (!(decide (((rd_T84 x0 x2).f0).f0 = x3))) (brA (decide ((0 : Int) ≤ x2)) (brA (decide (x2 < ((x0.length : Nat) : Int))) (brA (decide (((x7 ++ ([(⟨(⟨x3, x4⟩ : S75), x5, x6⟩ : S84)] : List S84)).length + 1) ≤ 4398046511104)) (LP_156_0 k x0 true (wrap64 (x2 + (1 : Int))) x3 x4 x5 x6 ((x7 ++ ([(⟨(⟨x3, x4⟩ : S75), x5, x6⟩ : S84)] : List S84)) ++ ([(⟨(⟨((rd_T84 x0 x2).f0).f0, ((rd_T84 x0 x2).f0).f1⟩ : S75), (rd_T84 x0 x2).f1, (rd_T84 x0 x2).f2⟩ : S84)] : List S84))) (none)) (none)) (none)) (LP_156_0 k x0 true (wrap64 (x2 + (1 : Int))) x3 x4 x5 x6 (x7 ++ ([(⟨(⟨x3, x4⟩ : S75), x5, x6⟩ : S84)] : List S84)))) (none)) (none)) (none)) (brA (decide ((0 : Int) ≤ x2)) (brA (decide (x2 < ((x0.length : Nat) : Int))) (brA (!(decide (((rd_T84 x0 x2).f0).f0 = x3))) (brA (decide ((0 : Int) ≤ x2)) (brA (decide (x2 < ((x0.length : Nat) : Int))) (brA (decide ((x7.length + 1) ≤ 4398046511104)) (LP_156_0 k x0 x1 (wrap64 (x2 + (1 : Int))) x3 x4 x5 x6 (x7 ++ ([(⟨(⟨((rd_T84 x0 x2).f0).f0, ((rd_T84 x0 x2).f0).f1⟩ : S75), (rd_T84 x0 x2).f1, (rd_T84 x0 x2).f2⟩ : S84)] : List S84))) (none)) (none)) (none)) (LP_156_0 k x0 x1 (wrap64 (x2 + (1 : Int))) x3 x4 x5 x6 x7)) (none)) (none))) (none)) (none)) (brA (decide ((0 : Int) ≤ x2)) (brA (decide (x2 < ((x0.length : Nat) : Int))) (brA (!(decide (((rd_T84 x0 x2).f0).f0 = x3))) (brA (decide ((0 : Int) ≤ x2)) (brA (decide (x2 < ((x0.length : Nat) : Int))) (brA (decide ((x7.length + 1) ≤ 4398046511104)) (LP_156_0 k x0 x1 (wrap64 (x2 + (1 : Int))) x3 x4 x5 x6 (x7 ++ ([(⟨(⟨((rd_T84 x0 x2).f0).f0, ((rd_T84 x0 x2).f0).f1⟩ : S75), (rd_T84 x0 x2).f1, (rd_T84 x0 x2).f2⟩ : S84)] : List S84))) (none)) (none)) (none)) (LP_156_0 k x0 x1 (wrap64 (x2 + (1 : Int))) x3 x4 x5 x6 x7)) (none)) (none))) (brA (!x1) (brA (decide ((x7.length + 1) ≤ 4398046511104)) (k (.own 0 0) ⟨[], [some ⟨84, (x7 ++ ([(⟨(⟨x3, x4⟩ : S75), x5, x6⟩ : S84)] : List S84)), 0⟩]⟩) (none)) (k (.own 0 0) ⟨[], [some ⟨84, x7, 0⟩]⟩)) : Option Unit) := by
 simp only [← wrapA_i64]
 kernel_rfl
theorem w_156 (l0 : List S84) (a1_0 : Int) (a1_1 : Int) (a1_2 : Int) (a1_3 : Int) (k : AV tau → Mem tau → Option Unit) : fnA E_156 C_156 D_156 Try.f156 B_156 [.sl 84 l0, .agg [.int .i64 a1_0, .int .i64 a1_1, .int .i64 a1_2, .int .i64 a1_3]] ⟨[], []⟩ k = (LP_156_0 k l0 false (0 : Int) a1_0 a1_1 a1_2 a1_3 ([] : List S84) : Option Unit) := by kernel_rfl
def S_156_0 (N : Nat) : Prop := ∀ (k : AV tau → Mem tau → Option Unit) (x0 : (List S84)) (x1 : Bool) (x2 : Int) (x3 : Int) (x4 : Int) (x5 : Int) (x6 : Int) (x7 : (List S84)) (r : (List (S84))), spec_l5Put.l0 N (x0) (x7) (x1) (x2) (x3) (x4) (x5) (x6) = some r → k (.own 0 0) ⟨[], [some ⟨84, r, 0⟩]⟩ = some () → LP_156_0 k x0 x1 x2 x3 x4 x5 x6 x7 = some ()
theorem L_156 (N : Nat) : S_156_0 N := by
 induction N using Nat.strongRecOn with | _ N0 ih =>
 skip
 intro k x0 x1 x2 x3 x4 x5 x6 x7 r h hk
 rcases N0 with _ | N
 · cases h
 first | rw [spec_l5Put.l0] at h | simp only [spec_l5Put.l0] at h | (unfold spec_l5Put.l0 at h; dsimp only at h)
 refine loop_fold mC_156 mD_156 ?_
 refine (w_156_0 k x0 x1 x2 x3 x4 x5 x6 x7).trans ?_
 refine br_eti h rfl (fun c39 h => ?_) (fun c39 h => ?_)
 ·refine br_itn h (congrArg not dect) (fun c40 h => ?_) (fun c40 h => ?_)
  ·cases h; exact hk
  refine br_g h (by first | rfl | exact dect | exact (congrArg not dect) | (simp; done) | (simp [beqI]; done) | (simp; omega)) (fun c41 h => ?_)
  cases h; exact hk
 refine br_itn h (congrArg not dect) (fun c42 h => ?_) (fun c42 h => ?_)
 ·rcases N with _ | N
  · cases h
  first | rw [spec_l5Put.j1] at h | simp only [spec_l5Put.j1] at h | (unfold spec_l5Put.j1 at h; dsimp only at h)
  replace h := ite_f h (by first | assumption | omega | simp_all)
  refine br_g h rfl (fun c43 h => ?_)
  refine br_g h rfl (fun c44 h => ?_)
  refine br_itn h rfl (fun c45 h => ?_) (fun c45 h => ?_)
  ·exact (ih N (by omega)) _ _ _ _ _ _ _ _ _ _ h hk
  refine br_t (by first | (simp [c43]; done) | (simp; omega) | (simp only [List.length_append, List.length_cons, List.length_nil, List.length_take, List.length_drop] at c44 c39 ⊢; simp; omega) | (simp only [List.length_append, List.length_cons, List.length_nil, List.length_take, List.length_drop] at c44 c39; simp; omega) | (simp_all; done)) ?_
  refine br_t (by first | (simp [c44]; done) | (simp; omega) | (simp only [List.length_append, List.length_cons, List.length_nil, List.length_take, List.length_drop] at c44 c39 ⊢; simp; omega) | (simp only [List.length_append, List.length_cons, List.length_nil, List.length_take, List.length_drop] at c44 c39; simp; omega) | (simp_all; done)) ?_
  refine br_g h (by first | rfl | exact dect | exact (congrArg not dect) | (simp; done) | (simp [beqI]; done) | (simp; omega)) (fun c46 h => ?_)
  exact (ih N (by omega)) _ _ _ _ _ _ _ _ _ _ h hk
 refine br_g h rfl (fun c47 h => ?_)
 rcases N with _ | N
 · cases h
 first | rw [spec_l5Put.j1] at h | simp only [spec_l5Put.j1] at h | (unfold spec_l5Put.j1 at h; dsimp only at h)
 refine br_t (by first | (simp [c39]; done) | (simp; omega) | (simp only [List.length_append, List.length_cons, List.length_nil, List.length_take, List.length_drop] at c39 ⊢; simp; omega) | (simp only [List.length_append, List.length_cons, List.length_nil, List.length_take, List.length_drop] at c39; simp; omega) | (simp_all; done)) ?_
 refine br_eti h (by first | rfl | exact dect | exact (congrArg not dect) | (simp; done) | (simp [beqI]; done) | (simp; omega)) (fun c48 h => ?_) (fun c48 h => ?_)
 ·refine br_g h rfl (fun c49 h => ?_)
  refine br_g h rfl (fun c50 h => ?_)
  refine br_itn h rfl (fun c51 h => ?_) (fun c51 h => ?_)
  ·exact (ih N (by omega)) _ _ _ _ _ _ _ _ _ _ h hk
  refine br_t (by first | (simp [c49]; done) | (simp; omega) | (simp only [List.length_append, List.length_cons, List.length_nil, List.length_take, List.length_drop] at c50 c39 ⊢; simp; omega) | (simp only [List.length_append, List.length_cons, List.length_nil, List.length_take, List.length_drop] at c50 c39; simp; omega) | (simp_all; done)) ?_
  refine br_t (by first | (simp [c50]; done) | (simp; omega) | (simp only [List.length_append, List.length_cons, List.length_nil, List.length_take, List.length_drop] at c50 c39 ⊢; simp; omega) | (simp only [List.length_append, List.length_cons, List.length_nil, List.length_take, List.length_drop] at c50 c39; simp; omega) | (simp_all; done)) ?_
  refine br_g h (by first | rfl | exact dect | exact (congrArg not dect) | (simp; done) | (simp [beqI]; done) | (simp; omega)) (fun c52 h => ?_)
  exact (ih N (by omega)) _ _ _ _ _ _ _ _ _ _ h hk
 refine br_g h (by first | rfl | exact dect | exact (congrArg not dect) | (simp; done) | (simp [beqI]; done) | (simp; omega)) (fun c53 h => ?_)
 replace h := let_h h
 refine br_g h rfl (fun c54 h => ?_)
 refine br_g h rfl (fun c55 h => ?_)
 refine br_itn h rfl (fun c56 h => ?_) (fun c56 h => ?_)
 ·exact (ih N (by omega)) _ _ _ _ _ _ _ _ _ _ h hk
 refine br_t (by first | (simp [c54]; done) | (simp; omega) | (simp only [List.length_append, List.length_cons, List.length_nil, List.length_take, List.length_drop] at c55 c53 c39 ⊢; simp; omega) | (simp only [List.length_append, List.length_cons, List.length_nil, List.length_take, List.length_drop] at c55 c53 c39; simp; omega) | (simp_all; done)) ?_
 refine br_t (by first | (simp [c55]; done) | (simp; omega) | (simp only [List.length_append, List.length_cons, List.length_nil, List.length_take, List.length_drop] at c55 c53 c39 ⊢; simp; omega) | (simp only [List.length_append, List.length_cons, List.length_nil, List.length_take, List.length_drop] at c55 c53 c39; simp; omega) | (simp_all; done)) ?_
 refine br_g h (by first | rfl | exact dect | exact (congrArg not dect) | (simp; done) | (simp [beqI]; done) | (simp; omega)) (fun c57 h => ?_)
 exact (ih N (by omega)) _ _ _ _ _ _ _ _ _ _ h hk
theorem okc_156 (args : List (AV tau)) (m : Mem tau) (κ : AV tau → Mem tau → Option Unit) (hh : c_156 args m κ = some ()) : ∃ av m1, κ av m1 = some () ∧ ToldA Try.prog TT (pnT 156) 156 args m av m1 := by
 obtain ⟨bx_, rw_⟩ := m
 unfold c_156 at hh
 simp only at hh
 split at hh
 case h_2 => cases hh
 rename_i b0 b1 b2 b3 b4
 obtain ⟨l0, hx0, hh0⟩ := bO_some hh
 obtain ⟨a1_0, hx1, hh1⟩ := bO_some hh0
 obtain ⟨a1_1, hx2, hh2⟩ := bO_some hh1
 obtain ⟨a1_2, hx3, hh3⟩ := bO_some hh2
 obtain ⟨a1_3, hx4, hh4⟩ := bO_some hh3
 have ex0 := asSl_some hx0
 have ex1 := asI_some hx1
 have ex2 := asI_some hx2
 have ex3 := asI_some hx3
 have ex4 := asI_some hx4
 subst ex0 ex1 ex2 ex3 ex4
 obtain ⟨N, t, h, hκ⟩ := callX_some hh4
 refine ⟨_, _, hκ, told_of_run pq okC_156 (fun _ _ _ => drawA_ok pq okC_156 hmix) (E := E_156) (fn := Try.f156) (body := B_156) (by kernel_rfl) (by kernel_rfl) (by kernel_rfl) (by rfl) (by exact Nat.le_of_ble_eq_true rfl) (fun k hk => ?_)⟩
 refine (w_156 l0 a1_0 a1_1 a1_2 a1_3 k).trans ?_
 replace h : spec_l5Put.f N l0 a1_0 a1_1 a1_2 a1_3 = some t := h
 unfold spec_l5Put.f at h
 exact (L_156 N) _ _ _ _ _ _ _ _ _ _ h hk
noncomputable def C_115 : Ctr tau Unit := ctrS 156 c_156 C_156
noncomputable def D_115 : Drw tau := drawA E_115 C_115
theorem okC_115 : CtrOk Try.prog TT pnT C_115 := ctrS_ok okC_156 okc_156
theorem mC_115 : CtrMono C_115 := ctrS_mono mC_156 mc_156
theorem mD_115 : DrMono D_115 := drawA_mono mC_115
noncomputable def B_115 : Code := Try.f115.body.getD .skip
theorem mc_115 (args : List (AV tau)) (m : Mem tau) (k k' : AV tau → Mem tau → Option Unit) (hk : ∀ av m, k av m = some () → k' av m = some ()) (h : c_115 args m k = some ()) : c_115 args m k' = some () := by
 unfold c_115 at h ⊢
 split at h
 · repeat' first | exact callX_mono (fun _ h => hk _ _ h) h | refine bO_mono (fun _ h => ?_) h
 · cases h
theorem w_115 (a0_0 : Int) (l0_1 : List S37) (l0_2 : List S84) (a1_0 : Bool) (a1_1 : Int) (a1_2 : Int) (l1_3 : List S39) (l1_4 : List S82) (a1_5 : Int) (a1_6 : Int) (k : AV tau → Mem tau → Option Unit) : fnA E_115 C_115 D_115 Try.f115 B_115 [.agg [.int .i64 a0_0, .own 0 0, .own 1 0], .agg [.bool a1_0, .int .i64 a1_1, .int .i64 a1_2, .sl 39 l1_3, .sl 82 l1_4, .int .i64 a1_5, .int .i64 a1_6]] ⟨[], [some ⟨37, l0_1, 0⟩, some ⟨84, l0_2, 0⟩]⟩ k = (brA a1_0 (k (.tup [.agg [.int .i64 (wrap64 (a0_0 + (1 : Int))), .own 0 0, .own 1 0], .int .i64 (5 : Int)]) ⟨[], [some ⟨37, l0_1, 0⟩, some ⟨84, l0_2, 0⟩]⟩) (callX (fun n => spec_l5Last.f n (wrap64 (a0_0 + (1 : Int))) l0_1 l0_2 a1_1) fun t0 => brA t0.2.2.2.2 (brA ((t0.1 == a1_1) && (t0.2.1 == a1_2)) (k (.tup [.agg [.int .i64 (wrap64 (a0_0 + (1 : Int))), .own 0 0, .own 1 0], .int .i64 (3 : Int)]) ⟨[], [some ⟨37, l0_1, 0⟩, some ⟨84, l0_2, 0⟩]⟩) (brA t0.2.2.2.2 (brA (decide (t0.2.1 > a1_2)) (k (.tup [.agg [.int .i64 (wrap64 (a0_0 + (1 : Int))), .own 0 0, .own 1 0], .int .i64 (4 : Int)]) ⟨[], [some ⟨37, l0_1, 0⟩, some ⟨84, l0_2, 0⟩]⟩) (callX (fun n => spec_ExecFresh.f n l0_1 l1_3 l1_4 a1_5 a1_6) fun t1 => brA t1 (brA (decide (a1_6 = (0 : Int))) (callX (fun n => spec_l3Do.f n l0_1 l1_3 l1_4 a1_5 a1_6) fun t2 => callX (fun n => spec_l5Put.f n l0_2 a1_1 a1_2 (0 : Int) a1_5) fun t3 => k (.tup [.agg [.int .i64 (wrap64 (a0_0 + (1 : Int))), .own 0 0, .own 1 0], .int .i64 (0 : Int)]) ⟨[], [some ⟨37, t2, 0⟩, some ⟨84, t3, 0⟩]⟩) (callX (fun n => spec_l5Put.f n l0_2 a1_1 a1_2 (2 : Int) (0 : Int)) fun t4 => k (.tup [.agg [.int .i64 (wrap64 (a0_0 + (1 : Int))), .own 0 0, .own 1 0], .int .i64 (2 : Int)]) ⟨[], [some ⟨37, l0_1, 0⟩, some ⟨84, t4, 0⟩]⟩)) (callX (fun n => spec_l5Put.f n l0_2 a1_1 a1_2 (1 : Int) (0 : Int)) fun t5 => k (.tup [.agg [.int .i64 (wrap64 (a0_0 + (1 : Int))), .own 0 0, .own 1 0], .int .i64 (1 : Int)]) ⟨[], [some ⟨37, l0_1, 0⟩, some ⟨84, t5, 0⟩]⟩))) (callX (fun n => spec_ExecFresh.f n l0_1 l1_3 l1_4 a1_5 a1_6) fun t6 => brA t6 (brA (decide (a1_6 = (0 : Int))) (callX (fun n => spec_l3Do.f n l0_1 l1_3 l1_4 a1_5 a1_6) fun t7 => callX (fun n => spec_l5Put.f n l0_2 a1_1 a1_2 (0 : Int) a1_5) fun t8 => k (.tup [.agg [.int .i64 (wrap64 (a0_0 + (1 : Int))), .own 0 0, .own 1 0], .int .i64 (0 : Int)]) ⟨[], [some ⟨37, t7, 0⟩, some ⟨84, t8, 0⟩]⟩) (callX (fun n => spec_l5Put.f n l0_2 a1_1 a1_2 (2 : Int) (0 : Int)) fun t9 => k (.tup [.agg [.int .i64 (wrap64 (a0_0 + (1 : Int))), .own 0 0, .own 1 0], .int .i64 (2 : Int)]) ⟨[], [some ⟨37, l0_1, 0⟩, some ⟨84, t9, 0⟩]⟩)) (callX (fun n => spec_l5Put.f n l0_2 a1_1 a1_2 (1 : Int) (0 : Int)) fun t10 => k (.tup [.agg [.int .i64 (wrap64 (a0_0 + (1 : Int))), .own 0 0, .own 1 0], .int .i64 (1 : Int)]) ⟨[], [some ⟨37, l0_1, 0⟩, some ⟨84, t10, 0⟩]⟩)))) (brA t0.2.2.2.2 (brA (decide (t0.2.1 > a1_2)) (k (.tup [.agg [.int .i64 (wrap64 (a0_0 + (1 : Int))), .own 0 0, .own 1 0], .int .i64 (4 : Int)]) ⟨[], [some ⟨37, l0_1, 0⟩, some ⟨84, l0_2, 0⟩]⟩) (callX (fun n => spec_ExecFresh.f n l0_1 l1_3 l1_4 a1_5 a1_6) fun t11 => brA t11 (brA (decide (a1_6 = (0 : Int))) (callX (fun n => spec_l3Do.f n l0_1 l1_3 l1_4 a1_5 a1_6) fun t12 => callX (fun n => spec_l5Put.f n l0_2 a1_1 a1_2 (0 : Int) a1_5) fun t13 => k (.tup [.agg [.int .i64 (wrap64 (a0_0 + (1 : Int))), .own 0 0, .own 1 0], .int .i64 (0 : Int)]) ⟨[], [some ⟨37, t12, 0⟩, some ⟨84, t13, 0⟩]⟩) (callX (fun n => spec_l5Put.f n l0_2 a1_1 a1_2 (2 : Int) (0 : Int)) fun t14 => k (.tup [.agg [.int .i64 (wrap64 (a0_0 + (1 : Int))), .own 0 0, .own 1 0], .int .i64 (2 : Int)]) ⟨[], [some ⟨37, l0_1, 0⟩, some ⟨84, t14, 0⟩]⟩)) (callX (fun n => spec_l5Put.f n l0_2 a1_1 a1_2 (1 : Int) (0 : Int)) fun t15 => k (.tup [.agg [.int .i64 (wrap64 (a0_0 + (1 : Int))), .own 0 0, .own 1 0], .int .i64 (1 : Int)]) ⟨[], [some ⟨37, l0_1, 0⟩, some ⟨84, t15, 0⟩]⟩))) (callX (fun n => spec_ExecFresh.f n l0_1 l1_3 l1_4 a1_5 a1_6) fun t16 => brA t16 (brA (decide (a1_6 = (0 : Int))) (callX (fun n => spec_l3Do.f n l0_1 l1_3 l1_4 a1_5 a1_6) fun t17 => callX (fun n => spec_l5Put.f n l0_2 a1_1 a1_2 (0 : Int) a1_5) fun t18 => k (.tup [.agg [.int .i64 (wrap64 (a0_0 + (1 : Int))), .own 0 0, .own 1 0], .int .i64 (0 : Int)]) ⟨[], [some ⟨37, t17, 0⟩, some ⟨84, t18, 0⟩]⟩) (callX (fun n => spec_l5Put.f n l0_2 a1_1 a1_2 (2 : Int) (0 : Int)) fun t19 => k (.tup [.agg [.int .i64 (wrap64 (a0_0 + (1 : Int))), .own 0 0, .own 1 0], .int .i64 (2 : Int)]) ⟨[], [some ⟨37, l0_1, 0⟩, some ⟨84, t19, 0⟩]⟩)) (callX (fun n => spec_l5Put.f n l0_2 a1_1 a1_2 (1 : Int) (0 : Int)) fun t20 => k (.tup [.agg [.int .i64 (wrap64 (a0_0 + (1 : Int))), .own 0 0, .own 1 0], .int .i64 (1 : Int)]) ⟨[], [some ⟨37, l0_1, 0⟩, some ⟨84, t20, 0⟩]⟩)))) : Option Unit) := by
 simp only [← wrapA_i64]
 kernel_rfl
theorem okc_115 (args : List (AV tau)) (m : Mem tau) (κ : AV tau → Mem tau → Option Unit) (hh : c_115 args m κ = some ()) : ∃ av m1, κ av m1 = some () ∧ ToldA Try.prog TT (pnT 115) 115 args m av m1 := by
 obtain ⟨bx_, rw_⟩ := m
 unfold c_115 at hh
 simp only at hh
 split at hh
 case h_2 => cases hh
 rename_i b0 b1 b2 b3 b4 b5 b6 b7 b8 b9 r0 r1
 obtain ⟨a0_0, hx0, hh0⟩ := bO_some hh
 obtain ⟨u28, hx1, hh1⟩ := bO_some hh0
 obtain ⟨l0_1, hx2, hh2⟩ := bO_some hh1
 obtain ⟨u29, hx3, hh3⟩ := bO_some hh2
 obtain ⟨l0_2, hx4, hh4⟩ := bO_some hh3
 obtain ⟨a1_0, hx5, hh5⟩ := bO_some hh4
 obtain ⟨a1_1, hx6, hh6⟩ := bO_some hh5
 obtain ⟨a1_2, hx7, hh7⟩ := bO_some hh6
 obtain ⟨l1_3, hx8, hh8⟩ := bO_some hh7
 obtain ⟨l1_4, hx9, hh9⟩ := bO_some hh8
 obtain ⟨a1_5, hx10, hh10⟩ := bO_some hh9
 obtain ⟨a1_6, hx11, hh11⟩ := bO_some hh10
 have ex0 := asI_some hx0
 have ex1 := asOwn_some hx1
 have ex2 := asRow_some hx2
 have ex3 := asOwn_some hx3
 have ex4 := asRow_some hx4
 have ex5 := asB_some hx5
 have ex6 := asI_some hx6
 have ex7 := asI_some hx7
 have ex8 := asSl_some hx8
 have ex9 := asSl_some hx9
 have ex10 := asI_some hx10
 have ex11 := asI_some hx11
 subst ex0 ex1 ex2 ex3 ex4 ex5 ex6 ex7 ex8 ex9 ex10 ex11
 obtain ⟨N, t, h, hκ⟩ := callX_some hh11
 refine ⟨_, _, hκ, told_of_run pq okC_115 (fun _ _ _ => drawA_ok pq okC_115 hmix) (E := E_115) (fn := Try.f115) (body := B_115) (by kernel_rfl) (by kernel_rfl) (by kernel_rfl) (by rfl) (by exact Nat.le_of_ble_eq_true rfl) (fun k hk => ?_)⟩
 refine (w_115 a0_0 l0_1 l0_2 a1_0 a1_1 a1_2 l1_3 l1_4 a1_5 a1_6 k).trans ?_
 replace h : spec_l5Apply.f N a0_0 l0_1 l0_2 a1_0 a1_1 a1_2 l1_3 l1_4 a1_5 a1_6 = some t := h
 unfold spec_l5Apply.f at h
 refine br_ite h dect (fun c30 h => ?_) (fun c30 h => ?_)
 ·cases h; exact hk
 refine call_h N h (fun t0 e31 h => ?_)
 refine br_eti h dect (fun c32 h => ?_) (fun c32 h => ?_)
 ·rcases N with _ | N
  · cases h
  first | rw [spec_l5Apply.j0] at h | simp only [spec_l5Apply.j0] at h | (unfold spec_l5Apply.j0 at h; dsimp only at h)
  refine br_f (by first | (simp [c32]; done) | (simp; omega) | (simp_all; done)) ?_
  replace h := ite_f h (by first | assumption | omega | simp_all)
  replace h := ite_f h (by first | assumption | omega | simp_all)
  rcases N with _ | N
  · cases h
  first | rw [spec_l5Apply.j1] at h | simp only [spec_l5Apply.j1] at h | (unfold spec_l5Apply.j1 at h; dsimp only at h)
  refine call_h N h (fun t16 e33 h => ?_)
  refine br_eti h dect (fun c34 h => ?_) (fun c34 h => ?_)
  ·rcases N with _ | N
   · cases h
   first | rw [spec_l5Apply.j2] at h | simp only [spec_l5Apply.j2] at h | (unfold spec_l5Apply.j2 at h; dsimp only at h)
   replace h := ite_f h (by first | assumption | omega | simp_all)
   rcases N with _ | N
   · cases h
   first | rw [spec_l5Apply.j3] at h | simp only [spec_l5Apply.j3] at h | (unfold spec_l5Apply.j3 at h; dsimp only at h)
   replace h := ite_f h (by first | assumption | omega | simp_all)
   refine call_h N h (fun t20 e35 h => ?_)
   cases h; exact hk
  rcases N with _ | N
  · cases h
  first | rw [spec_l5Apply.j2] at h | simp only [spec_l5Apply.j2] at h | (unfold spec_l5Apply.j2 at h; dsimp only at h)
  replace h := ite_t h (by first | assumption | omega | simp_all)
  rcases N with _ | N
  · cases h
  first | rw [spec_l5Apply.j3] at h | simp only [spec_l5Apply.j3] at h | (unfold spec_l5Apply.j3 at h; dsimp only at h)
  refine br_eti h (by first | rfl | exact dect | exact (congrArg not dect) | (simp; done) | (simp [beqI]; done) | (simp; omega)) (fun c36 h => ?_) (fun c36 h => ?_)
  ·refine call_h N h (fun t19 e37 h => ?_)
   cases h; exact hk
  refine call_h N h (fun t17 e38 h => ?_)
  refine call_h N h (fun t18 e39 h => ?_)
  cases h; exact hk
 rcases N with _ | N
 · cases h
 first | rw [spec_l5Apply.j0] at h | simp only [spec_l5Apply.j0] at h | (unfold spec_l5Apply.j0 at h; dsimp only at h)
 refine br_ite h (by first | rfl | exact dect | exact (congrArg not dect) | (simp; done) | (simp [beqI]; done) | (simp; omega)) (fun c40 h => ?_) (fun c40 h => ?_)
 ·cases h; exact hk
 refine br_eti h dect (fun c41 h => ?_) (fun c41 h => ?_)
 ·rcases N with _ | N
  · cases h
  first | rw [spec_l5Apply.j1] at h | simp only [spec_l5Apply.j1] at h | (unfold spec_l5Apply.j1 at h; dsimp only at h)
  refine call_h N h (fun t6 e42 h => ?_)
  refine br_eti h dect (fun c43 h => ?_) (fun c43 h => ?_)
  ·rcases N with _ | N
   · cases h
   first | rw [spec_l5Apply.j2] at h | simp only [spec_l5Apply.j2] at h | (unfold spec_l5Apply.j2 at h; dsimp only at h)
   replace h := ite_f h (by first | assumption | omega | simp_all)
   rcases N with _ | N
   · cases h
   first | rw [spec_l5Apply.j3] at h | simp only [spec_l5Apply.j3] at h | (unfold spec_l5Apply.j3 at h; dsimp only at h)
   replace h := ite_f h (by first | assumption | omega | simp_all)
   refine call_h N h (fun t10 e44 h => ?_)
   cases h; exact hk
  rcases N with _ | N
  · cases h
  first | rw [spec_l5Apply.j2] at h | simp only [spec_l5Apply.j2] at h | (unfold spec_l5Apply.j2 at h; dsimp only at h)
  replace h := ite_t h (by first | assumption | omega | simp_all)
  rcases N with _ | N
  · cases h
  first | rw [spec_l5Apply.j3] at h | simp only [spec_l5Apply.j3] at h | (unfold spec_l5Apply.j3 at h; dsimp only at h)
  refine br_eti h (by first | rfl | exact dect | exact (congrArg not dect) | (simp; done) | (simp [beqI]; done) | (simp; omega)) (fun c45 h => ?_) (fun c45 h => ?_)
  ·refine call_h N h (fun t9 e46 h => ?_)
   cases h; exact hk
  refine call_h N h (fun t7 e47 h => ?_)
  refine call_h N h (fun t8 e48 h => ?_)
  cases h; exact hk
 refine br_ite h rfl (fun c49 h => ?_) (fun c49 h => ?_)
 ·cases h; exact hk
 rcases N with _ | N
 · cases h
 first | rw [spec_l5Apply.j1] at h | simp only [spec_l5Apply.j1] at h | (unfold spec_l5Apply.j1 at h; dsimp only at h)
 refine call_h N h (fun t1 e50 h => ?_)
 refine br_eti h dect (fun c51 h => ?_) (fun c51 h => ?_)
 ·rcases N with _ | N
  · cases h
  first | rw [spec_l5Apply.j2] at h | simp only [spec_l5Apply.j2] at h | (unfold spec_l5Apply.j2 at h; dsimp only at h)
  replace h := ite_f h (by first | assumption | omega | simp_all)
  rcases N with _ | N
  · cases h
  first | rw [spec_l5Apply.j3] at h | simp only [spec_l5Apply.j3] at h | (unfold spec_l5Apply.j3 at h; dsimp only at h)
  replace h := ite_f h (by first | assumption | omega | simp_all)
  refine call_h N h (fun t5 e52 h => ?_)
  cases h; exact hk
 rcases N with _ | N
 · cases h
 first | rw [spec_l5Apply.j2] at h | simp only [spec_l5Apply.j2] at h | (unfold spec_l5Apply.j2 at h; dsimp only at h)
 replace h := ite_t h (by first | assumption | omega | simp_all)
 rcases N with _ | N
 · cases h
 first | rw [spec_l5Apply.j3] at h | simp only [spec_l5Apply.j3] at h | (unfold spec_l5Apply.j3 at h; dsimp only at h)
 refine br_eti h (by first | rfl | exact dect | exact (congrArg not dect) | (simp; done) | (simp [beqI]; done) | (simp; omega)) (fun c53 h => ?_) (fun c53 h => ?_)
 ·refine call_h N h (fun t4 e54 h => ?_)
  cases h; exact hk
 refine call_h N h (fun t2 e55 h => ?_)
 refine call_h N h (fun t3 e56 h => ?_)
 cases h; exact hk
noncomputable def C_46 : Ctr tau Unit := ctrS 115 c_115 C_115
noncomputable def D_46 : Drw tau := drawA E_46 C_46
theorem okC_46 : CtrOk Try.prog TT pnT C_46 := ctrS_ok okC_115 okc_115
theorem mC_46 : CtrMono C_46 := ctrS_mono mC_115 mc_115
theorem mD_46 : DrMono D_46 := drawA_mono mC_46
noncomputable def B_46 : Code := Try.f46.body.getD .skip
theorem mc_46 (args : List (AV tau)) (m : Mem tau) (k k' : AV tau → Mem tau → Option Unit) (hk : ∀ av m, k av m = some () → k' av m = some ()) (h : c_46 args m k = some ()) : c_46 args m k' = some () := by
 unfold c_46 at h ⊢
 split at h
 · repeat' first | exact callX_mono (fun _ h => hk _ _ h) h | refine bO_mono (fun _ h => ?_) h
 · cases h
noncomputable def K_46_0 (k : AV tau → Mem tau → Option Unit) : Kon tau := (kBlock 0 (kS E_46 C_46 D_46 (codeP B_46 [1, 1, 1, 1]) (kEnd E_46 Try.f46 k)))
def st_46_0 (x0 : (List S77)) (x1 : Int) (x2 : Int) (x3 : Int) (x4 : (List S37)) (x5 : (List S84)) (x6 : (List S37)) (x7 : (List S84)) : St tau := ⟨tmL 36 0 [(0, .sl 77 x0), (2, .ptr 0 0), (3, .ptr 1 0), (4, .int .i64 x1)], ⟨[some (69, [.int .i64 x2, .own 0 0, .own 1 0]), some (69, [.int .i64 x3, .own 2 0, .own 3 0])], [some ⟨37, x4, 0⟩, some ⟨84, x5, 0⟩, some ⟨37, x6, 0⟩, some ⟨84, x7, 0⟩]⟩⟩
noncomputable def LP_46_0 (k : AV tau → Mem tau → Option Unit) (x0 : (List S77)) (x1 : Int) (x2 : Int) (x3 : Int) (x4 : (List S37)) (x5 : (List S84)) (x6 : (List S37)) (x7 : (List S84)) : Option Unit := loopA E_46 (codeA E_46 C_46 D_46 (codeP B_46 [1, 1, 1, 0, 1, 0, 0])) (codeP B_46 [1, 1, 1, 0, 1, 0, 0]) (K_46_0 k) (st_46_0 x0 x1 x2 x3 x4 x5 x6 x7)
theorem w_46_0 (k : AV tau → Mem tau → Option Unit) (x0 : (List S77)) (x1 : Int) (x2 : Int) (x3 : Int) (x4 : (List S37)) (x5 : (List S84)) (x6 : (List S37)) (x7 : (List S84)) : codeA E_46 C_46 D_46 (codeP B_46 [1, 1, 1, 0, 1, 0, 0]) (kL E_46 C_46 D_46 (codeP B_46 [1, 1, 1, 0, 1, 0, 0]) (K_46_0 k)) (st_46_0 x0 x1 x2 x3 x4 x5 x6 x7) = (brA (decide (x1 < ((x0.length : Nat) : Int))) (brA (decide ((0 : Int) ≤ x1)) (brA (decide (x1 < ((x0.length : Nat) : Int))) (callX (fun n => spec_CertEntry.f n ((rd_T77 x0 x1).f0) (((rd_T77 x0 x1).f1).f0) (((rd_T77 x0 x1).f1).f1) (((rd_T77 x0 x1).f2).f0) (((rd_T77 x0 x1).f2).f1) (((rd_T77 x0 x1).f2).f2) (((rd_T77 x0 x1).f2).f3)) fun t1 => brA (!t1) (k (.agg [.int .i64 (0 : Int), .own 0 0, .own 1 0]) ⟨[], [some ⟨37, ([] : List S37), 0⟩, some ⟨84, ([] : List S84), 0⟩]⟩) (brA (decide ((0 : Int) ≤ x1)) (brA (decide (x1 < ((x0.length : Nat) : Int))) (andA (callX (fun n => spec_l5Apply.f n x3 x6 x7 ((rd_T77 x0 x1).f0) (((rd_T77 x0 x1).f1).f0) (((rd_T77 x0 x1).f1).f1) (((rd_T77 x0 x1).f2).f0) (((rd_T77 x0 x1).f2).f1) (((rd_T77 x0 x1).f2).f2) (((rd_T77 x0 x1).f2).f3)) fun t2 => LP_46_0 k x0 (wrap64 (x1 + (1 : Int))) x2 t2.1 x4 x5 t2.2.1 t2.2.2.1) (callX (fun n => spec_l5Apply.f n x3 x6 x7 ((rd_T77 x0 x1).f0) (((rd_T77 x0 x1).f1).f0) (((rd_T77 x0 x1).f1).f1) (((rd_T77 x0 x1).f2).f0) (((rd_T77 x0 x1).f2).f1) (((rd_T77 x0 x1).f2).f2) (((rd_T77 x0 x1).f2).f3)) fun t3 => LP_46_0 k x0 (wrap64 (x1 + (1 : Int))) x2 t3.1 x4 x5 t3.2.1 t3.2.2.1)) (none)) (none))) (none)) (none)) (k (.agg [.int .i64 x3, .own 0 0, .own 1 0]) ⟨[], [some ⟨37, x6, 0⟩, some ⟨84, x7, 0⟩]⟩) : Option Unit) := by
 simp only [← wrapA_i64]
 kernel_rfl
theorem w_46 (l0 : List S77) (k : AV tau → Mem tau → Option Unit) : fnA E_46 C_46 D_46 Try.f46 B_46 [.sl 77 l0] ⟨[], []⟩ k = (callX (fun n => spec_CertOpen.f ) fun t0 => brA (decide (((l0.length : Nat) : Int) > (40 : Int))) (k (.agg [.int .i64 (0 : Int), .own 0 0, .own 1 0]) ⟨[], [some ⟨37, ([] : List S37), 0⟩, some ⟨84, ([] : List S84), 0⟩]⟩) (LP_46_0 k l0 (0 : Int) (0 : Int) t0.1 ([] : List S37) ([] : List S84) t0.2.1 t0.2.2) : Option Unit) := by kernel_rfl
def S_46_0 (N : Nat) : Prop := ∀ (k : AV tau → Mem tau → Option Unit) (x0 : (List S77)) (x1 : Int) (x2 : Int) (x3 : Int) (x4 : (List S37)) (x5 : (List S84)) (x6 : (List S37)) (x7 : (List S84)) (r : Int × (List (S37)) × (List (S84))), spec_CertFold.l0 N (x0) (x1) (x3) (x6) (x7) = some r → k (.agg [.int .i64 (r.1), .own 0 0, .own 1 0]) ⟨[], [some ⟨37, r.2.1, 0⟩, some ⟨84, r.2.2, 0⟩]⟩ = some () → LP_46_0 k x0 x1 x2 x3 x4 x5 x6 x7 = some ()
theorem L_46 (N : Nat) : S_46_0 N := by
 induction N using Nat.strongRecOn with | _ N0 ih =>
 skip
 intro k x0 x1 x2 x3 x4 x5 x6 x7 r h hk
 rcases N0 with _ | N
 · cases h
 first | rw [spec_CertFold.l0] at h | simp only [spec_CertFold.l0] at h | (unfold spec_CertFold.l0 at h; dsimp only at h)
 refine loop_fold mC_46 mD_46 ?_
 refine (w_46_0 k x0 x1 x2 x3 x4 x5 x6 x7).trans ?_
 refine br_eti h rfl (fun c17 h => ?_) (fun c17 h => ?_)
 ·cases h; exact hk
 refine br_g h rfl (fun c18 h => ?_)
 refine br_t (by first | (simp [c17]; done) | (simp; omega) | (simp only [List.length_append, List.length_cons, List.length_nil, List.length_take, List.length_drop] at c17 ⊢; simp; omega) | (simp only [List.length_append, List.length_cons, List.length_nil, List.length_take, List.length_drop] at c17; simp; omega) | (simp_all; done)) ?_
 refine call_h N h (fun t1 e19 h => ?_)
 refine br_etn h (congrArg not dect) (fun c20 h => ?_) (fun c20 h => ?_)
 ·cases h; exact hk
 refine br_t (by first | (simp [c18]; done) | (simp; omega) | (simp only [List.length_append, List.length_cons, List.length_nil, List.length_take, List.length_drop] at c17 ⊢; simp; omega) | (simp only [List.length_append, List.length_cons, List.length_nil, List.length_take, List.length_drop] at c17; simp; omega) | (simp_all; done)) ?_
 refine br_t (by first | (simp [c17]; done) | (simp; omega) | (simp only [List.length_append, List.length_cons, List.length_nil, List.length_take, List.length_drop] at c17 ⊢; simp; omega) | (simp only [List.length_append, List.length_cons, List.length_nil, List.length_take, List.length_drop] at c17; simp; omega) | (simp_all; done)) ?_
 refine andA_of ?_ ?_
 ·refine call_h N h (fun t2 e21 h => ?_)
  exact (ih N (by omega)) _ _ _ _ _ _ _ _ _ _ h hk
 refine call_h N h (fun t3 e22 h => ?_)
 exact (ih N (by omega)) _ _ _ _ _ _ _ _ _ _ h hk
theorem okc_46 (args : List (AV tau)) (m : Mem tau) (κ : AV tau → Mem tau → Option Unit) (hh : c_46 args m κ = some ()) : ∃ av m1, κ av m1 = some () ∧ ToldA Try.prog TT (pnT 46) 46 args m av m1 := by
 obtain ⟨bx_, rw_⟩ := m
 unfold c_46 at hh
 simp only at hh
 split at hh
 case h_2 => cases hh
 rename_i b0
 obtain ⟨l0, hx0, hh0⟩ := bO_some hh
 have ex0 := asSl_some hx0
 subst ex0
 obtain ⟨N, t, h, hκ⟩ := callX_some hh0
 refine ⟨_, _, hκ, told_of_run pq okC_46 (fun _ _ _ => drawA_ok pq okC_46 hmix) (E := E_46) (fn := Try.f46) (body := B_46) (by kernel_rfl) (by kernel_rfl) (by kernel_rfl) (by rfl) (by exact Nat.le_of_ble_eq_true rfl) (fun k hk => ?_)⟩
 refine (w_46 l0 k).trans ?_
 replace h : spec_CertFold.f N l0 = some t := h
 unfold spec_CertFold.f at h
 refine call_h 0 h (fun t0 e23 h => ?_)
 refine br_eti h rfl (fun c24 h => ?_) (fun c24 h => ?_)
 ·exact (L_46 N) _ _ _ _ _ _ _ _ _ _ h hk
 cases h; exact hk
noncomputable def C_95 : Ctr tau Unit := ctrS 46 c_46 C_46
noncomputable def D_95 : Drw tau := drawA E_95 C_95
theorem okC_95 : CtrOk Try.prog TT pnT C_95 := ctrS_ok okC_46 okc_46
theorem mC_95 : CtrMono C_95 := ctrS_mono mC_46 mc_46
theorem mD_95 : DrMono D_95 := drawA_mono mC_95
noncomputable def B_95 : Code := Try.f95.body.getD .skip
theorem mc_95 (args : List (AV tau)) (m : Mem tau) (k k' : AV tau → Mem tau → Option Unit) (hk : ∀ av m, k av m = some () → k' av m = some ()) (h : c_95 args m k = some ()) : c_95 args m k' = some () := by
 unfold c_95 at h ⊢
 split at h
 · repeat' first | exact callX_mono (fun _ h => hk _ _ h) h | refine bO_mono (fun _ h => ?_) h
 · cases h
theorem w_95 (a0_0 : Int) (a0_1 : Int) (a1_0 : Int) (a1_1 : Int) (k : AV tau → Mem tau → Option Unit) : fnA E_95 C_95 D_95 Try.f95 B_95 [.agg [.int .i64 a0_0, .int .i64 a0_1], .agg [.int .i64 a1_0, .int .i64 a1_1]] ⟨[], []⟩ k = (brA (!(decide (a0_0 = a1_0))) (k (.bool false) ⟨[], []⟩) (brA (!(decide (a0_1 = a1_1))) (k (.bool false) ⟨[], []⟩) (k (.bool true) ⟨[], []⟩)) : Option Unit) := by kernel_rfl
theorem okc_95 (args : List (AV tau)) (m : Mem tau) (κ : AV tau → Mem tau → Option Unit) (hh : c_95 args m κ = some ()) : ∃ av m1, κ av m1 = some () ∧ ToldA Try.prog TT (pnT 95) 95 args m av m1 := by
 obtain ⟨bx_, rw_⟩ := m
 unfold c_95 at hh
 simp only at hh
 split at hh
 case h_2 => cases hh
 rename_i b0 b1 b2 b3
 obtain ⟨a0_0, hx0, hh0⟩ := bO_some hh
 obtain ⟨a0_1, hx1, hh1⟩ := bO_some hh0
 obtain ⟨a1_0, hx2, hh2⟩ := bO_some hh1
 obtain ⟨a1_1, hx3, hh3⟩ := bO_some hh2
 have ex0 := asI_some hx0
 have ex1 := asI_some hx1
 have ex2 := asI_some hx2
 have ex3 := asI_some hx3
 subst ex0 ex1 ex2 ex3
 obtain ⟨N, t, h, hκ⟩ := callX_some hh3
 refine ⟨_, _, hκ, told_of_run pq okC_95 (fun _ _ _ => drawA_ok pq okC_95 hmix) (E := E_95) (fn := Try.f95) (body := B_95) (by kernel_rfl) (by kernel_rfl) (by kernel_rfl) (by rfl) (by exact Nat.le_of_ble_eq_true rfl) (fun k hk => ?_)⟩
 refine (w_95 a0_0 a0_1 a1_0 a1_1 k).trans ?_
 replace h : laws_eqBox.f a0_0 a0_1 a1_0 a1_1 = some t := h
 unfold laws_eqBox.f at h
 refine br_etn h rfl (fun c3 h => ?_) (fun c3 h => ?_)
 ·cases h; exact hk
 refine br_itn h rfl (fun c4 h => ?_) (fun c4 h => ?_)
 ·cases h; exact hk
 cases h; exact hk
noncomputable def C_30 : Ctr tau Unit := ctrS 95 c_95 C_95
noncomputable def D_30 : Drw tau := drawA E_30 C_30
theorem okC_30 : CtrOk Try.prog TT pnT C_30 := ctrS_ok okC_95 okc_95
theorem mC_30 : CtrMono C_30 := ctrS_mono mC_95 mc_95
theorem mD_30 : DrMono D_30 := drawA_mono mC_30
noncomputable def B_30 : Code := Try.f30.body.getD .skip
theorem mc_30 (args : List (AV tau)) (m : Mem tau) (k k' : AV tau → Mem tau → Option Unit) (hk : ∀ av m, k av m = some () → k' av m = some ()) (h : c_30 args m k = some ()) : c_30 args m k' = some () := by
 unfold c_30 at h ⊢
 split at h
 · repeat' first | exact callX_mono (fun _ h => hk _ _ h) h | refine bO_mono (fun _ h => ?_) h
 · cases h
noncomputable def K_30_0 (k : AV tau → Mem tau → Option Unit) : Kon tau := (kBlock 0 (kS E_30 C_30 D_30 (codeP B_30 [1, 1, 1]) (kEnd E_30 Try.f30 k)))
def st_30_0 (x0 : (List S37)) (x1 : (List S37)) (x2 : Int) : St tau := ⟨tmL 27 0 [(0, .sl 37 x0), (1, .sl 37 x1), (5, .int .i64 x2)], ⟨[], []⟩⟩
noncomputable def LP_30_0 (k : AV tau → Mem tau → Option Unit) (x0 : (List S37)) (x1 : (List S37)) (x2 : Int) : Option Unit := loopA E_30 (codeA E_30 C_30 D_30 (codeP B_30 [1, 1, 0, 1, 0, 0])) (codeP B_30 [1, 1, 0, 1, 0, 0]) (K_30_0 k) (st_30_0 x0 x1 x2)
theorem w_30_0 (k : AV tau → Mem tau → Option Unit) (x0 : (List S37)) (x1 : (List S37)) (x2 : Int) : codeA E_30 C_30 D_30 (codeP B_30 [1, 1, 0, 1, 0, 0]) (kL E_30 C_30 D_30 (codeP B_30 [1, 1, 0, 1, 0, 0]) (K_30_0 k)) (st_30_0 x0 x1 x2) = (brA (decide (x2 < ((x0.length : Nat) : Int))) (brA (decide ((0 : Int) ≤ x2)) (brA (decide (x2 < ((x0.length : Nat) : Int))) (brA (decide ((0 : Int) ≤ x2)) (brA (decide (x2 < ((x1.length : Nat) : Int))) (callX (fun n => laws_eqBox.f ((rd_T37 x0 x2).f0) ((rd_T37 x0 x2).f1) ((rd_T37 x1 x2).f0) ((rd_T37 x1 x2).f1)) fun t0 => brA (!t0) (k (.bool false) ⟨[], []⟩) (LP_30_0 k x0 x1 (wrap64 (x2 + (1 : Int))))) (none)) (none)) (none)) (none)) (k (.bool true) ⟨[], []⟩) : Option Unit) := by
 simp only [← wrapA_i64]
 kernel_rfl
theorem w_30 (l0 : List S37) (l1 : List S37) (k : AV tau → Mem tau → Option Unit) : fnA E_30 C_30 D_30 Try.f30 B_30 [.sl 37 l0, .sl 37 l1] ⟨[], []⟩ k = (brA (!(decide (((l0.length : Nat) : Int) = ((l1.length : Nat) : Int)))) (k (.bool false) ⟨[], []⟩) (LP_30_0 k l0 l1 (0 : Int)) : Option Unit) := by kernel_rfl
def S_30_0 (N : Nat) : Prop := ∀ (k : AV tau → Mem tau → Option Unit) (x0 : (List S37)) (x1 : (List S37)) (x2 : Int) (r : Bool), laws_eqBoxS.l0 N (x0) (x1) (x2) = some r → k (.bool (r)) ⟨[], []⟩ = some () → LP_30_0 k x0 x1 x2 = some ()
theorem L_30 (N : Nat) : S_30_0 N := by
 induction N using Nat.strongRecOn with | _ N0 ih =>
 skip
 intro k x0 x1 x2 r h hk
 rcases N0 with _ | N
 · cases h
 first | rw [laws_eqBoxS.l0] at h | simp only [laws_eqBoxS.l0] at h | (unfold laws_eqBoxS.l0 at h; dsimp only at h)
 refine loop_fold mC_30 mD_30 ?_
 refine (w_30_0 k x0 x1 x2).trans ?_
 refine br_eti h rfl (fun c13 h => ?_) (fun c13 h => ?_)
 ·cases h; exact hk
 refine br_g h rfl (fun c14 h => ?_)
 refine br_t (by first | (simp [c13]; done) | (simp; omega) | (simp only [List.length_append, List.length_cons, List.length_nil, List.length_take, List.length_drop] at c13 ⊢; simp; omega) | (simp only [List.length_append, List.length_cons, List.length_nil, List.length_take, List.length_drop] at c13; simp; omega) | (simp_all; done)) ?_
 refine br_t (by first | (simp [c14]; done) | (simp; omega) | (simp only [List.length_append, List.length_cons, List.length_nil, List.length_take, List.length_drop] at c13 ⊢; simp; omega) | (simp only [List.length_append, List.length_cons, List.length_nil, List.length_take, List.length_drop] at c13; simp; omega) | (simp_all; done)) ?_
 refine br_g h rfl (fun c15 h => ?_)
 refine call_h 0 h (fun t0 e16 h => ?_)
 refine br_etn h (congrArg not dect) (fun c17 h => ?_) (fun c17 h => ?_)
 ·cases h; exact hk
 exact (ih N (by omega)) _ _ _ _ _ h hk
theorem okc_30 (args : List (AV tau)) (m : Mem tau) (κ : AV tau → Mem tau → Option Unit) (hh : c_30 args m κ = some ()) : ∃ av m1, κ av m1 = some () ∧ ToldA Try.prog TT (pnT 30) 30 args m av m1 := by
 obtain ⟨bx_, rw_⟩ := m
 unfold c_30 at hh
 simp only at hh
 split at hh
 case h_2 => cases hh
 rename_i b0 b1
 obtain ⟨l0, hx0, hh0⟩ := bO_some hh
 obtain ⟨l1, hx1, hh1⟩ := bO_some hh0
 have ex0 := asSl_some hx0
 have ex1 := asSl_some hx1
 subst ex0 ex1
 obtain ⟨N, t, h, hκ⟩ := callX_some hh1
 refine ⟨_, _, hκ, told_of_run pq okC_30 (fun _ _ _ => drawA_ok pq okC_30 hmix) (E := E_30) (fn := Try.f30) (body := B_30) (by kernel_rfl) (by kernel_rfl) (by kernel_rfl) (by rfl) (by exact Nat.le_of_ble_eq_true rfl) (fun k hk => ?_)⟩
 refine (w_30 l0 l1 k).trans ?_
 replace h : laws_eqBoxS.f N l0 l1 = some t := h
 unfold laws_eqBoxS.f at h
 refine br_etn h rfl (fun c18 h => ?_) (fun c18 h => ?_)
 ·cases h; exact hk
 exact (L_30 N) _ _ _ _ _ h hk
noncomputable def C_137 : Ctr tau Unit := ctrS 30 c_30 C_30
noncomputable def D_137 : Drw tau := drawA E_137 C_137
theorem okC_137 : CtrOk Try.prog TT pnT C_137 := ctrS_ok okC_30 okc_30
theorem mC_137 : CtrMono C_137 := ctrS_mono mC_30 mc_30
theorem mD_137 : DrMono D_137 := drawA_mono mC_137
noncomputable def B_137 : Code := Try.f137.body.getD .skip
theorem mc_137 (args : List (AV tau)) (m : Mem tau) (k k' : AV tau → Mem tau → Option Unit) (hk : ∀ av m, k av m = some () → k' av m = some ()) (h : c_137 args m k = some ()) : c_137 args m k' = some () := by
 unfold c_137 at h ⊢
 split at h
 · repeat' first | exact callX_mono (fun _ h => hk _ _ h) h | refine bO_mono (fun _ h => ?_) h
 · cases h
theorem w_137 (a0_0 : Int) (a0_1 : Int) (a1_0 : Int) (a1_1 : Int) (k : AV tau → Mem tau → Option Unit) : fnA E_137 C_137 D_137 Try.f137 B_137 [.agg [.int .i64 a0_0, .int .i64 a0_1], .agg [.int .i64 a1_0, .int .i64 a1_1]] ⟨[], []⟩ k = (brA (!(decide (a0_0 = a1_0))) (k (.bool false) ⟨[], []⟩) (brA (!(decide (a0_1 = a1_1))) (k (.bool false) ⟨[], []⟩) (k (.bool true) ⟨[], []⟩)) : Option Unit) := by kernel_rfl
theorem okc_137 (args : List (AV tau)) (m : Mem tau) (κ : AV tau → Mem tau → Option Unit) (hh : c_137 args m κ = some ()) : ∃ av m1, κ av m1 = some () ∧ ToldA Try.prog TT (pnT 137) 137 args m av m1 := by
 obtain ⟨bx_, rw_⟩ := m
 unfold c_137 at hh
 simp only at hh
 split at hh
 case h_2 => cases hh
 rename_i b0 b1 b2 b3
 obtain ⟨a0_0, hx0, hh0⟩ := bO_some hh
 obtain ⟨a0_1, hx1, hh1⟩ := bO_some hh0
 obtain ⟨a1_0, hx2, hh2⟩ := bO_some hh1
 obtain ⟨a1_1, hx3, hh3⟩ := bO_some hh2
 have ex0 := asI_some hx0
 have ex1 := asI_some hx1
 have ex2 := asI_some hx2
 have ex3 := asI_some hx3
 subst ex0 ex1 ex2 ex3
 obtain ⟨N, t, h, hκ⟩ := callX_some hh3
 refine ⟨_, _, hκ, told_of_run pq okC_137 (fun _ _ _ => drawA_ok pq okC_137 hmix) (E := E_137) (fn := Try.f137) (body := B_137) (by kernel_rfl) (by kernel_rfl) (by kernel_rfl) (by rfl) (by exact Nat.le_of_ble_eq_true rfl) (fun k hk => ?_)⟩
 refine (w_137 a0_0 a0_1 a1_0 a1_1 k).trans ?_
 replace h : laws_eqReq.f a0_0 a0_1 a1_0 a1_1 = some t := h
 unfold laws_eqReq.f at h
 refine br_etn h rfl (fun c3 h => ?_) (fun c3 h => ?_)
 ·cases h; exact hk
 refine br_itn h rfl (fun c4 h => ?_) (fun c4 h => ?_)
 ·cases h; exact hk
 cases h; exact hk
noncomputable def C_163 : Ctr tau Unit := ctrS 137 c_137 C_137
noncomputable def D_163 : Drw tau := drawA E_163 C_163
theorem okC_163 : CtrOk Try.prog TT pnT C_163 := ctrS_ok okC_137 okc_137
theorem mC_163 : CtrMono C_163 := ctrS_mono mC_137 mc_137
theorem mD_163 : DrMono D_163 := drawA_mono mC_163
noncomputable def B_163 : Code := Try.f163.body.getD .skip
theorem mc_163 (args : List (AV tau)) (m : Mem tau) (k k' : AV tau → Mem tau → Option Unit) (hk : ∀ av m, k av m = some () → k' av m = some ()) (h : c_163 args m k = some ()) : c_163 args m k' = some () := by
 unfold c_163 at h ⊢
 split at h
 · repeat' first | exact callX_mono (fun _ h => hk _ _ h) h | refine bO_mono (fun _ h => ?_) h
 · cases h
theorem w_163 (a0_0 : Int) (a0_1 : Int) (a0_2 : Int) (a0_3 : Int) (a1_0 : Int) (a1_1 : Int) (a1_2 : Int) (a1_3 : Int) (k : AV tau → Mem tau → Option Unit) : fnA E_163 C_163 D_163 Try.f163 B_163 [.agg [.int .i64 a0_0, .int .i64 a0_1, .int .i64 a0_2, .int .i64 a0_3], .agg [.int .i64 a1_0, .int .i64 a1_1, .int .i64 a1_2, .int .i64 a1_3]] ⟨[], []⟩ k = (callX (fun n => laws_eqReq.f a0_0 a0_1 a1_0 a1_1) fun t0 => brA (!t0) (k (.bool false) ⟨[], []⟩) (brA (!(decide (a0_2 = a1_2))) (k (.bool false) ⟨[], []⟩) (brA (!(decide (a0_3 = a1_3))) (k (.bool false) ⟨[], []⟩) (k (.bool true) ⟨[], []⟩))) : Option Unit) := by kernel_rfl
theorem okc_163 (args : List (AV tau)) (m : Mem tau) (κ : AV tau → Mem tau → Option Unit) (hh : c_163 args m κ = some ()) : ∃ av m1, κ av m1 = some () ∧ ToldA Try.prog TT (pnT 163) 163 args m av m1 := by
 obtain ⟨bx_, rw_⟩ := m
 unfold c_163 at hh
 simp only at hh
 split at hh
 case h_2 => cases hh
 rename_i b0 b1 b2 b3 b4 b5 b6 b7
 obtain ⟨a0_0, hx0, hh0⟩ := bO_some hh
 obtain ⟨a0_1, hx1, hh1⟩ := bO_some hh0
 obtain ⟨a0_2, hx2, hh2⟩ := bO_some hh1
 obtain ⟨a0_3, hx3, hh3⟩ := bO_some hh2
 obtain ⟨a1_0, hx4, hh4⟩ := bO_some hh3
 obtain ⟨a1_1, hx5, hh5⟩ := bO_some hh4
 obtain ⟨a1_2, hx6, hh6⟩ := bO_some hh5
 obtain ⟨a1_3, hx7, hh7⟩ := bO_some hh6
 have ex0 := asI_some hx0
 have ex1 := asI_some hx1
 have ex2 := asI_some hx2
 have ex3 := asI_some hx3
 have ex4 := asI_some hx4
 have ex5 := asI_some hx5
 have ex6 := asI_some hx6
 have ex7 := asI_some hx7
 subst ex0 ex1 ex2 ex3 ex4 ex5 ex6 ex7
 obtain ⟨N, t, h, hκ⟩ := callX_some hh7
 refine ⟨_, _, hκ, told_of_run pq okC_163 (fun _ _ _ => drawA_ok pq okC_163 hmix) (E := E_163) (fn := Try.f163) (body := B_163) (by kernel_rfl) (by kernel_rfl) (by kernel_rfl) (by rfl) (by exact Nat.le_of_ble_eq_true rfl) (fun k hk => ?_)⟩
 refine (w_163 a0_0 a0_1 a0_2 a0_3 a1_0 a1_1 a1_2 a1_3 k).trans ?_
 replace h : laws_eqDone.f a0_0 a0_1 a0_2 a0_3 a1_0 a1_1 a1_2 a1_3 = some t := h
 unfold laws_eqDone.f at h
 refine call_h 0 h (fun t0 e5 h => ?_)
 refine br_etn h (congrArg not dect) (fun c6 h => ?_) (fun c6 h => ?_)
 ·cases h; exact hk
 refine br_etn h rfl (fun c7 h => ?_) (fun c7 h => ?_)
 ·cases h; exact hk
 refine br_itn h rfl (fun c8 h => ?_) (fun c8 h => ?_)
 ·cases h; exact hk
 cases h; exact hk
noncomputable def C_136 : Ctr tau Unit := ctrS 163 c_163 C_163
noncomputable def D_136 : Drw tau := drawA E_136 C_136
theorem okC_136 : CtrOk Try.prog TT pnT C_136 := ctrS_ok okC_163 okc_163
theorem mC_136 : CtrMono C_136 := ctrS_mono mC_163 mc_163
theorem mD_136 : DrMono D_136 := drawA_mono mC_136
noncomputable def B_136 : Code := Try.f136.body.getD .skip
theorem mc_136 (args : List (AV tau)) (m : Mem tau) (k k' : AV tau → Mem tau → Option Unit) (hk : ∀ av m, k av m = some () → k' av m = some ()) (h : c_136 args m k = some ()) : c_136 args m k' = some () := by
 unfold c_136 at h ⊢
 split at h
 · repeat' first | exact callX_mono (fun _ h => hk _ _ h) h | refine bO_mono (fun _ h => ?_) h
 · cases h
noncomputable def K_136_0 (k : AV tau → Mem tau → Option Unit) : Kon tau := (kBlock 0 (kS E_136 C_136 D_136 (codeP B_136 [1, 1, 1]) (kEnd E_136 Try.f136 k)))
def st_136_0 (x0 : (List S84)) (x1 : (List S84)) (x2 : Int) : St tau := ⟨tmL 27 0 [(0, .sl 84 x0), (1, .sl 84 x1), (5, .int .i64 x2)], ⟨[], []⟩⟩
noncomputable def LP_136_0 (k : AV tau → Mem tau → Option Unit) (x0 : (List S84)) (x1 : (List S84)) (x2 : Int) : Option Unit := loopA E_136 (codeA E_136 C_136 D_136 (codeP B_136 [1, 1, 0, 1, 0, 0])) (codeP B_136 [1, 1, 0, 1, 0, 0]) (K_136_0 k) (st_136_0 x0 x1 x2)
theorem w_136_0 (k : AV tau → Mem tau → Option Unit) (x0 : (List S84)) (x1 : (List S84)) (x2 : Int) : codeA E_136 C_136 D_136 (codeP B_136 [1, 1, 0, 1, 0, 0]) (kL E_136 C_136 D_136 (codeP B_136 [1, 1, 0, 1, 0, 0]) (K_136_0 k)) (st_136_0 x0 x1 x2) = (brA (decide (x2 < ((x0.length : Nat) : Int))) (brA (decide ((0 : Int) ≤ x2)) (brA (decide (x2 < ((x0.length : Nat) : Int))) (brA (decide ((0 : Int) ≤ x2)) (brA (decide (x2 < ((x1.length : Nat) : Int))) (callX (fun n => laws_eqDone.f (((rd_T84 x0 x2).f0).f0) (((rd_T84 x0 x2).f0).f1) ((rd_T84 x0 x2).f1) ((rd_T84 x0 x2).f2) (((rd_T84 x1 x2).f0).f0) (((rd_T84 x1 x2).f0).f1) ((rd_T84 x1 x2).f1) ((rd_T84 x1 x2).f2)) fun t0 => brA (!t0) (k (.bool false) ⟨[], []⟩) (LP_136_0 k x0 x1 (wrap64 (x2 + (1 : Int))))) (none)) (none)) (none)) (none)) (k (.bool true) ⟨[], []⟩) : Option Unit) := by
 simp only [← wrapA_i64]
 kernel_rfl
theorem w_136 (l0 : List S84) (l1 : List S84) (k : AV tau → Mem tau → Option Unit) : fnA E_136 C_136 D_136 Try.f136 B_136 [.sl 84 l0, .sl 84 l1] ⟨[], []⟩ k = (brA (!(decide (((l0.length : Nat) : Int) = ((l1.length : Nat) : Int)))) (k (.bool false) ⟨[], []⟩) (LP_136_0 k l0 l1 (0 : Int)) : Option Unit) := by kernel_rfl
def S_136_0 (N : Nat) : Prop := ∀ (k : AV tau → Mem tau → Option Unit) (x0 : (List S84)) (x1 : (List S84)) (x2 : Int) (r : Bool), laws_eqDoneS.l0 N (x0) (x1) (x2) = some r → k (.bool (r)) ⟨[], []⟩ = some () → LP_136_0 k x0 x1 x2 = some ()
theorem L_136 (N : Nat) : S_136_0 N := by
 induction N using Nat.strongRecOn with | _ N0 ih =>
 skip
 intro k x0 x1 x2 r h hk
 rcases N0 with _ | N
 · cases h
 first | rw [laws_eqDoneS.l0] at h | simp only [laws_eqDoneS.l0] at h | (unfold laws_eqDoneS.l0 at h; dsimp only at h)
 refine loop_fold mC_136 mD_136 ?_
 refine (w_136_0 k x0 x1 x2).trans ?_
 refine br_eti h rfl (fun c13 h => ?_) (fun c13 h => ?_)
 ·cases h; exact hk
 refine br_g h rfl (fun c14 h => ?_)
 refine br_t (by first | (simp [c13]; done) | (simp; omega) | (simp only [List.length_append, List.length_cons, List.length_nil, List.length_take, List.length_drop] at c13 ⊢; simp; omega) | (simp only [List.length_append, List.length_cons, List.length_nil, List.length_take, List.length_drop] at c13; simp; omega) | (simp_all; done)) ?_
 refine br_t (by first | (simp [c14]; done) | (simp; omega) | (simp only [List.length_append, List.length_cons, List.length_nil, List.length_take, List.length_drop] at c13 ⊢; simp; omega) | (simp only [List.length_append, List.length_cons, List.length_nil, List.length_take, List.length_drop] at c13; simp; omega) | (simp_all; done)) ?_
 refine br_g h rfl (fun c15 h => ?_)
 refine call_h 0 h (fun t0 e16 h => ?_)
 refine br_etn h (congrArg not dect) (fun c17 h => ?_) (fun c17 h => ?_)
 ·cases h; exact hk
 exact (ih N (by omega)) _ _ _ _ _ h hk
theorem okc_136 (args : List (AV tau)) (m : Mem tau) (κ : AV tau → Mem tau → Option Unit) (hh : c_136 args m κ = some ()) : ∃ av m1, κ av m1 = some () ∧ ToldA Try.prog TT (pnT 136) 136 args m av m1 := by
 obtain ⟨bx_, rw_⟩ := m
 unfold c_136 at hh
 simp only at hh
 split at hh
 case h_2 => cases hh
 rename_i b0 b1
 obtain ⟨l0, hx0, hh0⟩ := bO_some hh
 obtain ⟨l1, hx1, hh1⟩ := bO_some hh0
 have ex0 := asSl_some hx0
 have ex1 := asSl_some hx1
 subst ex0 ex1
 obtain ⟨N, t, h, hκ⟩ := callX_some hh1
 refine ⟨_, _, hκ, told_of_run pq okC_136 (fun _ _ _ => drawA_ok pq okC_136 hmix) (E := E_136) (fn := Try.f136) (body := B_136) (by kernel_rfl) (by kernel_rfl) (by kernel_rfl) (by rfl) (by exact Nat.le_of_ble_eq_true rfl) (fun k hk => ?_)⟩
 refine (w_136 l0 l1 k).trans ?_
 replace h : laws_eqDoneS.f N l0 l1 = some t := h
 unfold laws_eqDoneS.f at h
 refine br_etn h rfl (fun c18 h => ?_) (fun c18 h => ?_)
 ·cases h; exact hk
 exact (L_136 N) _ _ _ _ _ h hk
noncomputable def C_68 : Ctr tau Unit := ctrS 136 c_136 C_136
noncomputable def D_68 : Drw tau := drawA E_68 C_68
theorem okC_68 : CtrOk Try.prog TT pnT C_68 := ctrS_ok okC_136 okc_136
theorem mC_68 : CtrMono C_68 := ctrS_mono mC_136 mc_136
theorem mD_68 : DrMono D_68 := drawA_mono mC_68
noncomputable def B_68 : Code := Try.f68.body.getD .skip
theorem mc_68 (args : List (AV tau)) (m : Mem tau) (k k' : AV tau → Mem tau → Option Unit) (hk : ∀ av m, k av m = some () → k' av m = some ()) (h : c_68 args m k = some ()) : c_68 args m k' = some () := by
 unfold c_68 at h ⊢
 split at h
 · repeat' first | exact callX_mono (fun _ h => hk _ _ h) h | refine bO_mono (fun _ h => ?_) h
 · cases h
theorem w_68 (a0_0 : Int) (l0_1 : List S37) (l0_2 : List S84) (a1_0 : Int) (l1_1 : List S37) (l1_2 : List S84) (k : AV tau → Mem tau → Option Unit) : fnA E_68 C_68 D_68 Try.f68 B_68 [.agg [.int .i64 a0_0, .sl 37 l0_1, .sl 84 l0_2], .agg [.int .i64 a1_0, .sl 37 l1_1, .sl 84 l1_2]] ⟨[], []⟩ k = (brA (!(decide (a0_0 = a1_0))) (k (.bool false) ⟨[], []⟩) (callX (fun n => laws_eqBoxS.f n l0_1 l1_1) fun t0 => brA (!t0) (k (.bool false) ⟨[], []⟩) (callX (fun n => laws_eqDoneS.f n l0_2 l1_2) fun t1 => brA (!t1) (k (.bool false) ⟨[], []⟩) (k (.bool true) ⟨[], []⟩))) : Option Unit) := by kernel_rfl
theorem okc_68 (args : List (AV tau)) (m : Mem tau) (κ : AV tau → Mem tau → Option Unit) (hh : c_68 args m κ = some ()) : ∃ av m1, κ av m1 = some () ∧ ToldA Try.prog TT (pnT 68) 68 args m av m1 := by
 obtain ⟨bx_, rw_⟩ := m
 unfold c_68 at hh
 simp only at hh
 split at hh
 case h_2 => cases hh
 rename_i b0 b1 b2 b3 b4 b5
 obtain ⟨a0_0, hx0, hh0⟩ := bO_some hh
 obtain ⟨l0_1, hx1, hh1⟩ := bO_some hh0
 obtain ⟨l0_2, hx2, hh2⟩ := bO_some hh1
 obtain ⟨a1_0, hx3, hh3⟩ := bO_some hh2
 obtain ⟨l1_1, hx4, hh4⟩ := bO_some hh3
 obtain ⟨l1_2, hx5, hh5⟩ := bO_some hh4
 have ex0 := asI_some hx0
 have ex1 := asSl_some hx1
 have ex2 := asSl_some hx2
 have ex3 := asI_some hx3
 have ex4 := asSl_some hx4
 have ex5 := asSl_some hx5
 subst ex0 ex1 ex2 ex3 ex4 ex5
 obtain ⟨N, t, h, hκ⟩ := callX_some hh5
 refine ⟨_, _, hκ, told_of_run pq okC_68 (fun _ _ _ => drawA_ok pq okC_68 hmix) (E := E_68) (fn := Try.f68) (body := B_68) (by kernel_rfl) (by kernel_rfl) (by kernel_rfl) (by rfl) (by exact Nat.le_of_ble_eq_true rfl) (fun k hk => ?_)⟩
 refine (w_68 a0_0 l0_1 l0_2 a1_0 l1_1 l1_2 k).trans ?_
 replace h : laws_eqState.f N a0_0 l0_1 l0_2 a1_0 l1_1 l1_2 = some t := h
 unfold laws_eqState.f at h
 refine br_etn h rfl (fun c6 h => ?_) (fun c6 h => ?_)
 ·cases h; exact hk
 refine call_h N h (fun t0 e7 h => ?_)
 refine br_etn h (congrArg not dect) (fun c8 h => ?_) (fun c8 h => ?_)
 ·cases h; exact hk
 refine call_h N h (fun t1 e9 h => ?_)
 refine br_itn h (congrArg not dect) (fun c10 h => ?_) (fun c10 h => ?_)
 ·cases h; exact hk
 cases h; exact hk
noncomputable def C_33 : Ctr tau Unit := ctrS 68 c_68 C_68
noncomputable def D_33 : Drw tau := drawA E_33 C_33
theorem okC_33 : CtrOk Try.prog TT pnT C_33 := ctrS_ok okC_68 okc_68
theorem mC_33 : CtrMono C_33 := ctrS_mono mC_68 mc_68
theorem mD_33 : DrMono D_33 := drawA_mono mC_33
noncomputable def B_33 : Code := Try.f33.body.getD .skip
theorem mc_33 (args : List (AV tau)) (m : Mem tau) (k k' : AV tau → Mem tau → Option Unit) (hk : ∀ av m, k av m = some () → k' av m = some ()) (h : c_33 args m k = some ()) : c_33 args m k' = some () := by
 unfold c_33 at h ⊢
 split at h
 · repeat' first | exact callX_mono (fun _ h => hk _ _ h) h | refine bO_mono (fun _ h => ?_) h
 · cases h
noncomputable def K_33_0 (k : AV tau → Mem tau → Option Unit) : Kon tau := (kBlock 0 (kS E_33 C_33 D_33 (codeP B_33 [1, 1]) (kEnd E_33 Try.f33 k)))
def st_33_0 (x0 : Int) (x1 : Int) (x2 : (List S37)) : St tau := ⟨tmL 27 0 [(0, .own 0 0), (1, .int .i64 x0), (5, .int .i64 x1)], ⟨[], [some ⟨37, x2, 0⟩]⟩⟩
noncomputable def LP_33_0 (k : AV tau → Mem tau → Option Unit) (x0 : Int) (x1 : Int) (x2 : (List S37)) : Option Unit := loopA E_33 (codeA E_33 C_33 D_33 (codeP B_33 [1, 0, 1, 0, 0])) (codeP B_33 [1, 0, 1, 0, 0]) (K_33_0 k) (st_33_0 x0 x1 x2)
theorem w_33_0 (k : AV tau → Mem tau → Option Unit) (x0 : Int) (x1 : Int) (x2 : (List S37)) : codeA E_33 C_33 D_33 (codeP B_33 [1, 0, 1, 0, 0]) (kL E_33 C_33 D_33 (codeP B_33 [1, 0, 1, 0, 0]) (K_33_0 k)) (st_33_0 x0 x1 x2) = (brA (decide (x1 < ((x2.length : Nat) : Int))) (brA (decide ((0 : Int) ≤ x1)) (brA (decide (x1 < ((x2.length : Nat) : Int))) (brA (decide ((0 : Int) ≤ x1)) (brA (decide (x1 < (((List.set x2 (Int.toNat x1) (⟨x0, (rd_T37 x2 x1).f1⟩ : S37)).length : Nat) : Int))) (LP_33_0 k (wrap64 ((wrap64 (x0 + (1 : Int))) + (1 : Int))) (wrap64 (x1 + (1 : Int))) (List.set (List.set x2 (Int.toNat x1) (⟨x0, (rd_T37 x2 x1).f1⟩ : S37)) (Int.toNat x1) (⟨(rd_T37 (List.set x2 (Int.toNat x1) (⟨x0, (rd_T37 x2 x1).f1⟩ : S37)) x1).f0, (wrap64 (x0 + (1 : Int)))⟩ : S37))) (none)) (none)) (none)) (none)) (k (.int .i64 x0) ⟨[], [some ⟨37, x2, 0⟩]⟩) : Option Unit) := by
 simp only [← wrapA_i64]
 kernel_rfl
theorem w_33 (l0 : List S37) (a1 : Int) (k : AV tau → Mem tau → Option Unit) : fnA E_33 C_33 D_33 Try.f33 B_33 [.own 0 0, .int .i64 a1] ⟨[], [some ⟨37, l0, 0⟩]⟩ k = (LP_33_0 k a1 (0 : Int) l0 : Option Unit) := by kernel_rfl
def S_33_0 (N : Nat) : Prop := ∀ (k : AV tau → Mem tau → Option Unit) (x0 : Int) (x1 : Int) (x2 : (List S37)) (r : Int × (List (S37))), laws_markBoxS.l0 N (x2) (x0) (x1) = some r → k (.int .i64 (r.1)) ⟨[], [some ⟨37, r.2, 0⟩]⟩ = some () → LP_33_0 k x0 x1 x2 = some ()
theorem L_33 (N : Nat) : S_33_0 N := by
 induction N using Nat.strongRecOn with | _ N0 ih =>
 skip
 intro k x0 x1 x2 r h hk
 rcases N0 with _ | N
 · cases h
 first | rw [laws_markBoxS.l0] at h | simp only [laws_markBoxS.l0] at h | (unfold laws_markBoxS.l0 at h; dsimp only at h)
 refine loop_fold mC_33 mD_33 ?_
 refine (w_33_0 k x0 x1 x2).trans ?_
 refine br_eti h rfl (fun c5 h => ?_) (fun c5 h => ?_)
 ·cases h; exact hk
 refine br_g h rfl (fun c6 h => ?_)
 replace h := let_h h
 refine br_t (by first | (simp [c5]; done) | (simp; omega) | (simp only [List.length_append, List.length_cons, List.length_nil, List.length_take, List.length_drop] at c5 ⊢; simp; omega) | (simp only [List.length_append, List.length_cons, List.length_nil, List.length_take, List.length_drop] at c5; simp; omega) | (simp_all; done)) ?_
 refine br_t (by first | (simp [c6]; done) | (simp; omega) | (simp only [List.length_append, List.length_cons, List.length_nil, List.length_take, List.length_drop] at c5 ⊢; simp; omega) | (simp only [List.length_append, List.length_cons, List.length_nil, List.length_take, List.length_drop] at c5; simp; omega) | (simp_all; done)) ?_
 refine br_t (by first | (simp; omega) | (simp only [List.length_append, List.length_cons, List.length_nil, List.length_take, List.length_drop] at c5 ⊢; simp; omega) | (simp only [List.length_append, List.length_cons, List.length_nil, List.length_take, List.length_drop] at c5; simp; omega)) ?_
 exact (ih N (by omega)) _ _ _ _ _ h hk
theorem okc_33 (args : List (AV tau)) (m : Mem tau) (κ : AV tau → Mem tau → Option Unit) (hh : c_33 args m κ = some ()) : ∃ av m1, κ av m1 = some () ∧ ToldA Try.prog TT (pnT 33) 33 args m av m1 := by
 obtain ⟨bx_, rw_⟩ := m
 unfold c_33 at hh
 simp only at hh
 split at hh
 case h_2 => cases hh
 rename_i b0 b1 r0
 obtain ⟨u7, hx0, hh0⟩ := bO_some hh
 obtain ⟨l0, hx1, hh1⟩ := bO_some hh0
 obtain ⟨a1, hx2, hh2⟩ := bO_some hh1
 have ex0 := asOwn_some hx0
 have ex1 := asRow_some hx1
 have ex2 := asI_some hx2
 subst ex0 ex1 ex2
 obtain ⟨N, t, h, hκ⟩ := callX_some hh2
 refine ⟨_, _, hκ, told_of_run pq okC_33 (fun _ _ _ => drawA_ok pq okC_33 hmix) (E := E_33) (fn := Try.f33) (body := B_33) (by kernel_rfl) (by kernel_rfl) (by kernel_rfl) (by rfl) (by exact Nat.le_of_ble_eq_true rfl) (fun k hk => ?_)⟩
 refine (w_33 l0 a1 k).trans ?_
 replace h : laws_markBoxS.f N l0 a1 = some t := h
 unfold laws_markBoxS.f at h
 exact (L_33 N) _ _ _ _ _ h hk
noncomputable def C_139 : Ctr tau Unit := ctrS 33 c_33 C_33
noncomputable def D_139 : Drw tau := drawA E_139 C_139
theorem okC_139 : CtrOk Try.prog TT pnT C_139 := ctrS_ok okC_33 okc_33
theorem mC_139 : CtrMono C_139 := ctrS_mono mC_33 mc_33
theorem mD_139 : DrMono D_139 := drawA_mono mC_139
noncomputable def B_139 : Code := Try.f139.body.getD .skip
theorem mc_139 (args : List (AV tau)) (m : Mem tau) (k k' : AV tau → Mem tau → Option Unit) (hk : ∀ av m, k av m = some () → k' av m = some ()) (h : c_139 args m k = some ()) : c_139 args m k' = some () := by
 unfold c_139 at h ⊢
 split at h
 · repeat' first | exact callX_mono (fun _ h => hk _ _ h) h | refine bO_mono (fun _ h => ?_) h
 · cases h
noncomputable def K_139_0 (k : AV tau → Mem tau → Option Unit) : Kon tau := (kBlock 0 (kS E_139 C_139 D_139 (codeP B_139 [1, 1]) (kEnd E_139 Try.f139 k)))
def st_139_0 (x0 : Int) (x1 : Int) (x2 : (List S84)) : St tau := ⟨tmL 43 0 [(0, .own 0 0), (1, .int .i64 x0), (5, .int .i64 x1)], ⟨[], [some ⟨84, x2, 0⟩]⟩⟩
noncomputable def LP_139_0 (k : AV tau → Mem tau → Option Unit) (x0 : Int) (x1 : Int) (x2 : (List S84)) : Option Unit := loopA E_139 (codeA E_139 C_139 D_139 (codeP B_139 [1, 0, 1, 0, 0])) (codeP B_139 [1, 0, 1, 0, 0]) (K_139_0 k) (st_139_0 x0 x1 x2)
theorem w_139_0 (k : AV tau → Mem tau → Option Unit) (x0 : Int) (x1 : Int) (x2 : (List S84)) : codeA E_139 C_139 D_139 (codeP B_139 [1, 0, 1, 0, 0]) (kL E_139 C_139 D_139 (codeP B_139 [1, 0, 1, 0, 0]) (K_139_0 k)) (st_139_0 x0 x1 x2) = (brA (decide (x1 < ((x2.length : Nat) : Int))) (brA (decide ((0 : Int) ≤ x1)) (brA (decide (x1 < ((x2.length : Nat) : Int))) (brA (decide ((0 : Int) ≤ x1)) (brA (decide (x1 < (((List.set x2 (Int.toNat x1) (⟨(⟨x0, ((rd_T84 x2 x1).f0).f1⟩ : S75), (rd_T84 x2 x1).f1, (rd_T84 x2 x1).f2⟩ : S84)).length : Nat) : Int))) (brA (decide ((0 : Int) ≤ x1)) (brA (decide (x1 < (((List.set (List.set x2 (Int.toNat x1) (⟨(⟨x0, ((rd_T84 x2 x1).f0).f1⟩ : S75), (rd_T84 x2 x1).f1, (rd_T84 x2 x1).f2⟩ : S84)) (Int.toNat x1) (⟨(⟨((rd_T84 (List.set x2 (Int.toNat x1) (⟨(⟨x0, ((rd_T84 x2 x1).f0).f1⟩ : S75), (rd_T84 x2 x1).f1, (rd_T84 x2 x1).f2⟩ : S84)) x1).f0).f0, (wrap64 (x0 + (1 : Int)))⟩ : S75), (rd_T84 (List.set x2 (Int.toNat x1) (⟨(⟨x0, ((rd_T84 x2 x1).f0).f1⟩ : S75), (rd_T84 x2 x1).f1, (rd_T84 x2 x1).f2⟩ : S84)) x1).f1, (rd_T84 (List.set x2 (Int.toNat x1) (⟨(⟨x0, ((rd_T84 x2 x1).f0).f1⟩ : S75), (rd_T84 x2 x1).f1, (rd_T84 x2 x1).f2⟩ : S84)) x1).f2⟩ : S84)).length : Nat) : Int))) (brA (decide ((0 : Int) ≤ x1)) (brA (decide (x1 < (((List.set (List.set (List.set x2 (Int.toNat x1) (⟨(⟨x0, ((rd_T84 x2 x1).f0).f1⟩ : S75), (rd_T84 x2 x1).f1, (rd_T84 x2 x1).f2⟩ : S84)) (Int.toNat x1) (⟨(⟨((rd_T84 (List.set x2 (Int.toNat x1) (⟨(⟨x0, ((rd_T84 x2 x1).f0).f1⟩ : S75), (rd_T84 x2 x1).f1, (rd_T84 x2 x1).f2⟩ : S84)) x1).f0).f0, (wrap64 (x0 + (1 : Int)))⟩ : S75), (rd_T84 (List.set x2 (Int.toNat x1) (⟨(⟨x0, ((rd_T84 x2 x1).f0).f1⟩ : S75), (rd_T84 x2 x1).f1, (rd_T84 x2 x1).f2⟩ : S84)) x1).f1, (rd_T84 (List.set x2 (Int.toNat x1) (⟨(⟨x0, ((rd_T84 x2 x1).f0).f1⟩ : S75), (rd_T84 x2 x1).f1, (rd_T84 x2 x1).f2⟩ : S84)) x1).f2⟩ : S84)) (Int.toNat x1) (⟨(⟨((rd_T84 (List.set (List.set x2 (Int.toNat x1) (⟨(⟨x0, ((rd_T84 x2 x1).f0).f1⟩ : S75), (rd_T84 x2 x1).f1, (rd_T84 x2 x1).f2⟩ : S84)) (Int.toNat x1) (⟨(⟨((rd_T84 (List.set x2 (Int.toNat x1) (⟨(⟨x0, ((rd_T84 x2 x1).f0).f1⟩ : S75), (rd_T84 x2 x1).f1, (rd_T84 x2 x1).f2⟩ : S84)) x1).f0).f0, (wrap64 (x0 + (1 : Int)))⟩ : S75), (rd_T84 (List.set x2 (Int.toNat x1) (⟨(⟨x0, ((rd_T84 x2 x1).f0).f1⟩ : S75), (rd_T84 x2 x1).f1, (rd_T84 x2 x1).f2⟩ : S84)) x1).f1, (rd_T84 (List.set x2 (Int.toNat x1) (⟨(⟨x0, ((rd_T84 x2 x1).f0).f1⟩ : S75), (rd_T84 x2 x1).f1, (rd_T84 x2 x1).f2⟩ : S84)) x1).f2⟩ : S84)) x1).f0).f0, ((rd_T84 (List.set (List.set x2 (Int.toNat x1) (⟨(⟨x0, ((rd_T84 x2 x1).f0).f1⟩ : S75), (rd_T84 x2 x1).f1, (rd_T84 x2 x1).f2⟩ : S84)) (Int.toNat x1) (⟨(⟨((rd_T84 (List.set x2 (Int.toNat x1) (⟨(⟨x0, ((rd_T84 x2 x1).f0).f1⟩ : S75), (rd_T84 x2 x1).f1, (rd_T84 x2 x1).f2⟩ : S84)) x1).f0).f0, (wrap64 (x0 + (1 : Int)))⟩ : S75), (rd_T84 (List.set x2 (Int.toNat x1) (⟨(⟨x0, ((rd_T84 x2 x1).f0).f1⟩ : S75), (rd_T84 x2 x1).f1, (rd_T84 x2 x1).f2⟩ : S84)) x1).f1, (rd_T84 (List.set x2 (Int.toNat x1) (⟨(⟨x0, ((rd_T84 x2 x1).f0).f1⟩ : S75), (rd_T84 x2 x1).f1, (rd_T84 x2 x1).f2⟩ : S84)) x1).f2⟩ : S84)) x1).f0).f1⟩ : S75), (wrap64 ((wrap64 (x0 + (1 : Int))) + (1 : Int))), (rd_T84 (List.set (List.set x2 (Int.toNat x1) (⟨(⟨x0, ((rd_T84 x2 x1).f0).f1⟩ : S75), (rd_T84 x2 x1).f1, (rd_T84 x2 x1).f2⟩ : S84)) (Int.toNat x1) (⟨(⟨((rd_T84 (List.set x2 (Int.toNat x1) (⟨(⟨x0, ((rd_T84 x2 x1).f0).f1⟩ : S75), (rd_T84 x2 x1).f1, (rd_T84 x2 x1).f2⟩ : S84)) x1).f0).f0, (wrap64 (x0 + (1 : Int)))⟩ : S75), (rd_T84 (List.set x2 (Int.toNat x1) (⟨(⟨x0, ((rd_T84 x2 x1).f0).f1⟩ : S75), (rd_T84 x2 x1).f1, (rd_T84 x2 x1).f2⟩ : S84)) x1).f1, (rd_T84 (List.set x2 (Int.toNat x1) (⟨(⟨x0, ((rd_T84 x2 x1).f0).f1⟩ : S75), (rd_T84 x2 x1).f1, (rd_T84 x2 x1).f2⟩ : S84)) x1).f2⟩ : S84)) x1).f2⟩ : S84)).length : Nat) : Int))) (LP_139_0 k (wrap64 ((wrap64 ((wrap64 ((wrap64 (x0 + (1 : Int))) + (1 : Int))) + (1 : Int))) + (1 : Int))) (wrap64 (x1 + (1 : Int))) (List.set (List.set (List.set (List.set x2 (Int.toNat x1) (⟨(⟨x0, ((rd_T84 x2 x1).f0).f1⟩ : S75), (rd_T84 x2 x1).f1, (rd_T84 x2 x1).f2⟩ : S84)) (Int.toNat x1) (⟨(⟨((rd_T84 (List.set x2 (Int.toNat x1) (⟨(⟨x0, ((rd_T84 x2 x1).f0).f1⟩ : S75), (rd_T84 x2 x1).f1, (rd_T84 x2 x1).f2⟩ : S84)) x1).f0).f0, (wrap64 (x0 + (1 : Int)))⟩ : S75), (rd_T84 (List.set x2 (Int.toNat x1) (⟨(⟨x0, ((rd_T84 x2 x1).f0).f1⟩ : S75), (rd_T84 x2 x1).f1, (rd_T84 x2 x1).f2⟩ : S84)) x1).f1, (rd_T84 (List.set x2 (Int.toNat x1) (⟨(⟨x0, ((rd_T84 x2 x1).f0).f1⟩ : S75), (rd_T84 x2 x1).f1, (rd_T84 x2 x1).f2⟩ : S84)) x1).f2⟩ : S84)) (Int.toNat x1) (⟨(⟨((rd_T84 (List.set (List.set x2 (Int.toNat x1) (⟨(⟨x0, ((rd_T84 x2 x1).f0).f1⟩ : S75), (rd_T84 x2 x1).f1, (rd_T84 x2 x1).f2⟩ : S84)) (Int.toNat x1) (⟨(⟨((rd_T84 (List.set x2 (Int.toNat x1) (⟨(⟨x0, ((rd_T84 x2 x1).f0).f1⟩ : S75), (rd_T84 x2 x1).f1, (rd_T84 x2 x1).f2⟩ : S84)) x1).f0).f0, (wrap64 (x0 + (1 : Int)))⟩ : S75), (rd_T84 (List.set x2 (Int.toNat x1) (⟨(⟨x0, ((rd_T84 x2 x1).f0).f1⟩ : S75), (rd_T84 x2 x1).f1, (rd_T84 x2 x1).f2⟩ : S84)) x1).f1, (rd_T84 (List.set x2 (Int.toNat x1) (⟨(⟨x0, ((rd_T84 x2 x1).f0).f1⟩ : S75), (rd_T84 x2 x1).f1, (rd_T84 x2 x1).f2⟩ : S84)) x1).f2⟩ : S84)) x1).f0).f0, ((rd_T84 (List.set (List.set x2 (Int.toNat x1) (⟨(⟨x0, ((rd_T84 x2 x1).f0).f1⟩ : S75), (rd_T84 x2 x1).f1, (rd_T84 x2 x1).f2⟩ : S84)) (Int.toNat x1) (⟨(⟨((rd_T84 (List.set x2 (Int.toNat x1) (⟨(⟨x0, ((rd_T84 x2 x1).f0).f1⟩ : S75), (rd_T84 x2 x1).f1, (rd_T84 x2 x1).f2⟩ : S84)) x1).f0).f0, (wrap64 (x0 + (1 : Int)))⟩ : S75), (rd_T84 (List.set x2 (Int.toNat x1) (⟨(⟨x0, ((rd_T84 x2 x1).f0).f1⟩ : S75), (rd_T84 x2 x1).f1, (rd_T84 x2 x1).f2⟩ : S84)) x1).f1, (rd_T84 (List.set x2 (Int.toNat x1) (⟨(⟨x0, ((rd_T84 x2 x1).f0).f1⟩ : S75), (rd_T84 x2 x1).f1, (rd_T84 x2 x1).f2⟩ : S84)) x1).f2⟩ : S84)) x1).f0).f1⟩ : S75), (wrap64 ((wrap64 (x0 + (1 : Int))) + (1 : Int))), (rd_T84 (List.set (List.set x2 (Int.toNat x1) (⟨(⟨x0, ((rd_T84 x2 x1).f0).f1⟩ : S75), (rd_T84 x2 x1).f1, (rd_T84 x2 x1).f2⟩ : S84)) (Int.toNat x1) (⟨(⟨((rd_T84 (List.set x2 (Int.toNat x1) (⟨(⟨x0, ((rd_T84 x2 x1).f0).f1⟩ : S75), (rd_T84 x2 x1).f1, (rd_T84 x2 x1).f2⟩ : S84)) x1).f0).f0, (wrap64 (x0 + (1 : Int)))⟩ : S75), (rd_T84 (List.set x2 (Int.toNat x1) (⟨(⟨x0, ((rd_T84 x2 x1).f0).f1⟩ : S75), (rd_T84 x2 x1).f1, (rd_T84 x2 x1).f2⟩ : S84)) x1).f1, (rd_T84 (List.set x2 (Int.toNat x1) (⟨(⟨x0, ((rd_T84 x2 x1).f0).f1⟩ : S75), (rd_T84 x2 x1).f1, (rd_T84 x2 x1).f2⟩ : S84)) x1).f2⟩ : S84)) x1).f2⟩ : S84)) (Int.toNat x1) (⟨(⟨((rd_T84 (List.set (List.set (List.set x2 (Int.toNat x1) (⟨(⟨x0, ((rd_T84 x2 x1).f0).f1⟩ : S75), (rd_T84 x2 x1).f1, (rd_T84 x2 x1).f2⟩ : S84)) (Int.toNat x1) (⟨(⟨((rd_T84 (List.set x2 (Int.toNat x1) (⟨(⟨x0, ((rd_T84 x2 x1).f0).f1⟩ : S75), (rd_T84 x2 x1).f1, (rd_T84 x2 x1).f2⟩ : S84)) x1).f0).f0, (wrap64 (x0 + (1 : Int)))⟩ : S75), (rd_T84 (List.set x2 (Int.toNat x1) (⟨(⟨x0, ((rd_T84 x2 x1).f0).f1⟩ : S75), (rd_T84 x2 x1).f1, (rd_T84 x2 x1).f2⟩ : S84)) x1).f1, (rd_T84 (List.set x2 (Int.toNat x1) (⟨(⟨x0, ((rd_T84 x2 x1).f0).f1⟩ : S75), (rd_T84 x2 x1).f1, (rd_T84 x2 x1).f2⟩ : S84)) x1).f2⟩ : S84)) (Int.toNat x1) (⟨(⟨((rd_T84 (List.set (List.set x2 (Int.toNat x1) (⟨(⟨x0, ((rd_T84 x2 x1).f0).f1⟩ : S75), (rd_T84 x2 x1).f1, (rd_T84 x2 x1).f2⟩ : S84)) (Int.toNat x1) (⟨(⟨((rd_T84 (List.set x2 (Int.toNat x1) (⟨(⟨x0, ((rd_T84 x2 x1).f0).f1⟩ : S75), (rd_T84 x2 x1).f1, (rd_T84 x2 x1).f2⟩ : S84)) x1).f0).f0, (wrap64 (x0 + (1 : Int)))⟩ : S75), (rd_T84 (List.set x2 (Int.toNat x1) (⟨(⟨x0, ((rd_T84 x2 x1).f0).f1⟩ : S75), (rd_T84 x2 x1).f1, (rd_T84 x2 x1).f2⟩ : S84)) x1).f1, (rd_T84 (List.set x2 (Int.toNat x1) (⟨(⟨x0, ((rd_T84 x2 x1).f0).f1⟩ : S75), (rd_T84 x2 x1).f1, (rd_T84 x2 x1).f2⟩ : S84)) x1).f2⟩ : S84)) x1).f0).f0, ((rd_T84 (List.set (List.set x2 (Int.toNat x1) (⟨(⟨x0, ((rd_T84 x2 x1).f0).f1⟩ : S75), (rd_T84 x2 x1).f1, (rd_T84 x2 x1).f2⟩ : S84)) (Int.toNat x1) (⟨(⟨((rd_T84 (List.set x2 (Int.toNat x1) (⟨(⟨x0, ((rd_T84 x2 x1).f0).f1⟩ : S75), (rd_T84 x2 x1).f1, (rd_T84 x2 x1).f2⟩ : S84)) x1).f0).f0, (wrap64 (x0 + (1 : Int)))⟩ : S75), (rd_T84 (List.set x2 (Int.toNat x1) (⟨(⟨x0, ((rd_T84 x2 x1).f0).f1⟩ : S75), (rd_T84 x2 x1).f1, (rd_T84 x2 x1).f2⟩ : S84)) x1).f1, (rd_T84 (List.set x2 (Int.toNat x1) (⟨(⟨x0, ((rd_T84 x2 x1).f0).f1⟩ : S75), (rd_T84 x2 x1).f1, (rd_T84 x2 x1).f2⟩ : S84)) x1).f2⟩ : S84)) x1).f0).f1⟩ : S75), (wrap64 ((wrap64 (x0 + (1 : Int))) + (1 : Int))), (rd_T84 (List.set (List.set x2 (Int.toNat x1) (⟨(⟨x0, ((rd_T84 x2 x1).f0).f1⟩ : S75), (rd_T84 x2 x1).f1, (rd_T84 x2 x1).f2⟩ : S84)) (Int.toNat x1) (⟨(⟨((rd_T84 (List.set x2 (Int.toNat x1) (⟨(⟨x0, ((rd_T84 x2 x1).f0).f1⟩ : S75), (rd_T84 x2 x1).f1, (rd_T84 x2 x1).f2⟩ : S84)) x1).f0).f0, (wrap64 (x0 + (1 : Int)))⟩ : S75), (rd_T84 (List.set x2 (Int.toNat x1) (⟨(⟨x0, ((rd_T84 x2 x1).f0).f1⟩ : S75), (rd_T84 x2 x1).f1, (rd_T84 x2 x1).f2⟩ : S84)) x1).f1, (rd_T84 (List.set x2 (Int.toNat x1) (⟨(⟨x0, ((rd_T84 x2 x1).f0).f1⟩ : S75), (rd_T84 x2 x1).f1, (rd_T84 x2 x1).f2⟩ : S84)) x1).f2⟩ : S84)) x1).f2⟩ : S84)) x1).f0).f0, ((rd_T84 (List.set (List.set (List.set x2 (Int.toNat x1) (⟨(⟨x0, ((rd_T84 x2 x1).f0).f1⟩ : S75), (rd_T84 x2 x1).f1, (rd_T84 x2 x1).f2⟩ : S84)) (Int.toNat x1) (⟨(⟨((rd_T84 (List.set x2 (Int.toNat x1) (⟨(⟨x0, ((rd_T84 x2 x1).f0).f1⟩ : S75), (rd_T84 x2 x1).f1, (rd_T84 x2 x1).f2⟩ : S84)) x1).f0).f0, (wrap64 (x0 + (1 : Int)))⟩ : S75), (rd_T84 (List.set x2 (Int.toNat x1) (⟨(⟨x0, ((rd_T84 x2 x1).f0).f1⟩ : S75), (rd_T84 x2 x1).f1, (rd_T84 x2 x1).f2⟩ : S84)) x1).f1, (rd_T84 (List.set x2 (Int.toNat x1) (⟨(⟨x0, ((rd_T84 x2 x1).f0).f1⟩ : S75), (rd_T84 x2 x1).f1, (rd_T84 x2 x1).f2⟩ : S84)) x1).f2⟩ : S84)) (Int.toNat x1) (⟨(⟨((rd_T84 (List.set (List.set x2 (Int.toNat x1) (⟨(⟨x0, ((rd_T84 x2 x1).f0).f1⟩ : S75), (rd_T84 x2 x1).f1, (rd_T84 x2 x1).f2⟩ : S84)) (Int.toNat x1) (⟨(⟨((rd_T84 (List.set x2 (Int.toNat x1) (⟨(⟨x0, ((rd_T84 x2 x1).f0).f1⟩ : S75), (rd_T84 x2 x1).f1, (rd_T84 x2 x1).f2⟩ : S84)) x1).f0).f0, (wrap64 (x0 + (1 : Int)))⟩ : S75), (rd_T84 (List.set x2 (Int.toNat x1) (⟨(⟨x0, ((rd_T84 x2 x1).f0).f1⟩ : S75), (rd_T84 x2 x1).f1, (rd_T84 x2 x1).f2⟩ : S84)) x1).f1, (rd_T84 (List.set x2 (Int.toNat x1) (⟨(⟨x0, ((rd_T84 x2 x1).f0).f1⟩ : S75), (rd_T84 x2 x1).f1, (rd_T84 x2 x1).f2⟩ : S84)) x1).f2⟩ : S84)) x1).f0).f0, ((rd_T84 (List.set (List.set x2 (Int.toNat x1) (⟨(⟨x0, ((rd_T84 x2 x1).f0).f1⟩ : S75), (rd_T84 x2 x1).f1, (rd_T84 x2 x1).f2⟩ : S84)) (Int.toNat x1) (⟨(⟨((rd_T84 (List.set x2 (Int.toNat x1) (⟨(⟨x0, ((rd_T84 x2 x1).f0).f1⟩ : S75), (rd_T84 x2 x1).f1, (rd_T84 x2 x1).f2⟩ : S84)) x1).f0).f0, (wrap64 (x0 + (1 : Int)))⟩ : S75), (rd_T84 (List.set x2 (Int.toNat x1) (⟨(⟨x0, ((rd_T84 x2 x1).f0).f1⟩ : S75), (rd_T84 x2 x1).f1, (rd_T84 x2 x1).f2⟩ : S84)) x1).f1, (rd_T84 (List.set x2 (Int.toNat x1) (⟨(⟨x0, ((rd_T84 x2 x1).f0).f1⟩ : S75), (rd_T84 x2 x1).f1, (rd_T84 x2 x1).f2⟩ : S84)) x1).f2⟩ : S84)) x1).f0).f1⟩ : S75), (wrap64 ((wrap64 (x0 + (1 : Int))) + (1 : Int))), (rd_T84 (List.set (List.set x2 (Int.toNat x1) (⟨(⟨x0, ((rd_T84 x2 x1).f0).f1⟩ : S75), (rd_T84 x2 x1).f1, (rd_T84 x2 x1).f2⟩ : S84)) (Int.toNat x1) (⟨(⟨((rd_T84 (List.set x2 (Int.toNat x1) (⟨(⟨x0, ((rd_T84 x2 x1).f0).f1⟩ : S75), (rd_T84 x2 x1).f1, (rd_T84 x2 x1).f2⟩ : S84)) x1).f0).f0, (wrap64 (x0 + (1 : Int)))⟩ : S75), (rd_T84 (List.set x2 (Int.toNat x1) (⟨(⟨x0, ((rd_T84 x2 x1).f0).f1⟩ : S75), (rd_T84 x2 x1).f1, (rd_T84 x2 x1).f2⟩ : S84)) x1).f1, (rd_T84 (List.set x2 (Int.toNat x1) (⟨(⟨x0, ((rd_T84 x2 x1).f0).f1⟩ : S75), (rd_T84 x2 x1).f1, (rd_T84 x2 x1).f2⟩ : S84)) x1).f2⟩ : S84)) x1).f2⟩ : S84)) x1).f0).f1⟩ : S75), (rd_T84 (List.set (List.set (List.set x2 (Int.toNat x1) (⟨(⟨x0, ((rd_T84 x2 x1).f0).f1⟩ : S75), (rd_T84 x2 x1).f1, (rd_T84 x2 x1).f2⟩ : S84)) (Int.toNat x1) (⟨(⟨((rd_T84 (List.set x2 (Int.toNat x1) (⟨(⟨x0, ((rd_T84 x2 x1).f0).f1⟩ : S75), (rd_T84 x2 x1).f1, (rd_T84 x2 x1).f2⟩ : S84)) x1).f0).f0, (wrap64 (x0 + (1 : Int)))⟩ : S75), (rd_T84 (List.set x2 (Int.toNat x1) (⟨(⟨x0, ((rd_T84 x2 x1).f0).f1⟩ : S75), (rd_T84 x2 x1).f1, (rd_T84 x2 x1).f2⟩ : S84)) x1).f1, (rd_T84 (List.set x2 (Int.toNat x1) (⟨(⟨x0, ((rd_T84 x2 x1).f0).f1⟩ : S75), (rd_T84 x2 x1).f1, (rd_T84 x2 x1).f2⟩ : S84)) x1).f2⟩ : S84)) (Int.toNat x1) (⟨(⟨((rd_T84 (List.set (List.set x2 (Int.toNat x1) (⟨(⟨x0, ((rd_T84 x2 x1).f0).f1⟩ : S75), (rd_T84 x2 x1).f1, (rd_T84 x2 x1).f2⟩ : S84)) (Int.toNat x1) (⟨(⟨((rd_T84 (List.set x2 (Int.toNat x1) (⟨(⟨x0, ((rd_T84 x2 x1).f0).f1⟩ : S75), (rd_T84 x2 x1).f1, (rd_T84 x2 x1).f2⟩ : S84)) x1).f0).f0, (wrap64 (x0 + (1 : Int)))⟩ : S75), (rd_T84 (List.set x2 (Int.toNat x1) (⟨(⟨x0, ((rd_T84 x2 x1).f0).f1⟩ : S75), (rd_T84 x2 x1).f1, (rd_T84 x2 x1).f2⟩ : S84)) x1).f1, (rd_T84 (List.set x2 (Int.toNat x1) (⟨(⟨x0, ((rd_T84 x2 x1).f0).f1⟩ : S75), (rd_T84 x2 x1).f1, (rd_T84 x2 x1).f2⟩ : S84)) x1).f2⟩ : S84)) x1).f0).f0, ((rd_T84 (List.set (List.set x2 (Int.toNat x1) (⟨(⟨x0, ((rd_T84 x2 x1).f0).f1⟩ : S75), (rd_T84 x2 x1).f1, (rd_T84 x2 x1).f2⟩ : S84)) (Int.toNat x1) (⟨(⟨((rd_T84 (List.set x2 (Int.toNat x1) (⟨(⟨x0, ((rd_T84 x2 x1).f0).f1⟩ : S75), (rd_T84 x2 x1).f1, (rd_T84 x2 x1).f2⟩ : S84)) x1).f0).f0, (wrap64 (x0 + (1 : Int)))⟩ : S75), (rd_T84 (List.set x2 (Int.toNat x1) (⟨(⟨x0, ((rd_T84 x2 x1).f0).f1⟩ : S75), (rd_T84 x2 x1).f1, (rd_T84 x2 x1).f2⟩ : S84)) x1).f1, (rd_T84 (List.set x2 (Int.toNat x1) (⟨(⟨x0, ((rd_T84 x2 x1).f0).f1⟩ : S75), (rd_T84 x2 x1).f1, (rd_T84 x2 x1).f2⟩ : S84)) x1).f2⟩ : S84)) x1).f0).f1⟩ : S75), (wrap64 ((wrap64 (x0 + (1 : Int))) + (1 : Int))), (rd_T84 (List.set (List.set x2 (Int.toNat x1) (⟨(⟨x0, ((rd_T84 x2 x1).f0).f1⟩ : S75), (rd_T84 x2 x1).f1, (rd_T84 x2 x1).f2⟩ : S84)) (Int.toNat x1) (⟨(⟨((rd_T84 (List.set x2 (Int.toNat x1) (⟨(⟨x0, ((rd_T84 x2 x1).f0).f1⟩ : S75), (rd_T84 x2 x1).f1, (rd_T84 x2 x1).f2⟩ : S84)) x1).f0).f0, (wrap64 (x0 + (1 : Int)))⟩ : S75), (rd_T84 (List.set x2 (Int.toNat x1) (⟨(⟨x0, ((rd_T84 x2 x1).f0).f1⟩ : S75), (rd_T84 x2 x1).f1, (rd_T84 x2 x1).f2⟩ : S84)) x1).f1, (rd_T84 (List.set x2 (Int.toNat x1) (⟨(⟨x0, ((rd_T84 x2 x1).f0).f1⟩ : S75), (rd_T84 x2 x1).f1, (rd_T84 x2 x1).f2⟩ : S84)) x1).f2⟩ : S84)) x1).f2⟩ : S84)) x1).f1, (wrap64 ((wrap64 ((wrap64 (x0 + (1 : Int))) + (1 : Int))) + (1 : Int)))⟩ : S84))) (none)) (none)) (none)) (none)) (none)) (none)) (none)) (none)) (k (.int .i64 x0) ⟨[], [some ⟨84, x2, 0⟩]⟩) : Option Unit) := by
 simp only [← wrapA_i64]
 kernel_rfl
theorem w_139 (l0 : List S84) (a1 : Int) (k : AV tau → Mem tau → Option Unit) : fnA E_139 C_139 D_139 Try.f139 B_139 [.own 0 0, .int .i64 a1] ⟨[], [some ⟨84, l0, 0⟩]⟩ k = (LP_139_0 k a1 (0 : Int) l0 : Option Unit) := by kernel_rfl
def S_139_0 (N : Nat) : Prop := ∀ (k : AV tau → Mem tau → Option Unit) (x0 : Int) (x1 : Int) (x2 : (List S84)) (r : Int × (List (S84))), laws_markDoneS.l0 N (x2) (x0) (x1) = some r → k (.int .i64 (r.1)) ⟨[], [some ⟨84, r.2, 0⟩]⟩ = some () → LP_139_0 k x0 x1 x2 = some ()
theorem L_139 (N : Nat) : S_139_0 N := by
 induction N using Nat.strongRecOn with | _ N0 ih =>
 skip
 intro k x0 x1 x2 r h hk
 rcases N0 with _ | N
 · cases h
 first | rw [laws_markDoneS.l0] at h | simp only [laws_markDoneS.l0] at h | (unfold laws_markDoneS.l0 at h; dsimp only at h)
 refine loop_fold mC_139 mD_139 ?_
 refine (w_139_0 k x0 x1 x2).trans ?_
 refine br_eti h rfl (fun c5 h => ?_) (fun c5 h => ?_)
 ·cases h; exact hk
 refine br_g h rfl (fun c6 h => ?_)
 replace h := let_h h
 replace h := let_h h
 replace h := let_h h
 refine br_t (by first | (simp [c5]; done) | (simp; omega) | (simp only [List.length_append, List.length_cons, List.length_nil, List.length_take, List.length_drop] at c5 ⊢; simp; omega) | (simp only [List.length_append, List.length_cons, List.length_nil, List.length_take, List.length_drop] at c5; simp; omega) | (simp_all; done)) ?_
 refine br_t (by first | (simp [c6]; done) | (simp; omega) | (simp only [List.length_append, List.length_cons, List.length_nil, List.length_take, List.length_drop] at c5 ⊢; simp; omega) | (simp only [List.length_append, List.length_cons, List.length_nil, List.length_take, List.length_drop] at c5; simp; omega) | (simp_all; done)) ?_
 refine br_t (by first | (simp; omega) | (simp only [List.length_append, List.length_cons, List.length_nil, List.length_take, List.length_drop] at c5 ⊢; simp; omega) | (simp only [List.length_append, List.length_cons, List.length_nil, List.length_take, List.length_drop] at c5; simp; omega)) ?_
 refine br_t (by first | (simp [c6]; done) | (simp; omega) | (simp only [List.length_append, List.length_cons, List.length_nil, List.length_take, List.length_drop] at c5 ⊢; simp; omega) | (simp only [List.length_append, List.length_cons, List.length_nil, List.length_take, List.length_drop] at c5; simp; omega) | (simp_all; done)) ?_
 refine br_t (by first | (simp; omega) | (simp only [List.length_append, List.length_cons, List.length_nil, List.length_take, List.length_drop] at c5 ⊢; simp; omega) | (simp only [List.length_append, List.length_cons, List.length_nil, List.length_take, List.length_drop] at c5; simp; omega)) ?_
 refine br_t (by first | (simp [c6]; done) | (simp; omega) | (simp only [List.length_append, List.length_cons, List.length_nil, List.length_take, List.length_drop] at c5 ⊢; simp; omega) | (simp only [List.length_append, List.length_cons, List.length_nil, List.length_take, List.length_drop] at c5; simp; omega) | (simp_all; done)) ?_
 refine br_t (by first | (simp; omega) | (simp only [List.length_append, List.length_cons, List.length_nil, List.length_take, List.length_drop] at c5 ⊢; simp; omega) | (simp only [List.length_append, List.length_cons, List.length_nil, List.length_take, List.length_drop] at c5; simp; omega)) ?_
 exact (ih N (by omega)) _ _ _ _ _ h hk
theorem okc_139 (args : List (AV tau)) (m : Mem tau) (κ : AV tau → Mem tau → Option Unit) (hh : c_139 args m κ = some ()) : ∃ av m1, κ av m1 = some () ∧ ToldA Try.prog TT (pnT 139) 139 args m av m1 := by
 obtain ⟨bx_, rw_⟩ := m
 unfold c_139 at hh
 simp only at hh
 split at hh
 case h_2 => cases hh
 rename_i b0 b1 r0
 obtain ⟨u7, hx0, hh0⟩ := bO_some hh
 obtain ⟨l0, hx1, hh1⟩ := bO_some hh0
 obtain ⟨a1, hx2, hh2⟩ := bO_some hh1
 have ex0 := asOwn_some hx0
 have ex1 := asRow_some hx1
 have ex2 := asI_some hx2
 subst ex0 ex1 ex2
 obtain ⟨N, t, h, hκ⟩ := callX_some hh2
 refine ⟨_, _, hκ, told_of_run pq okC_139 (fun _ _ _ => drawA_ok pq okC_139 hmix) (E := E_139) (fn := Try.f139) (body := B_139) (by kernel_rfl) (by kernel_rfl) (by kernel_rfl) (by rfl) (by exact Nat.le_of_ble_eq_true rfl) (fun k hk => ?_)⟩
 refine (w_139 l0 a1 k).trans ?_
 replace h : laws_markDoneS.f N l0 a1 = some t := h
 unfold laws_markDoneS.f at h
 exact (L_139 N) _ _ _ _ _ h hk
noncomputable def C_70 : Ctr tau Unit := ctrS 139 c_139 C_139
noncomputable def D_70 : Drw tau := drawA E_70 C_70
theorem okC_70 : CtrOk Try.prog TT pnT C_70 := ctrS_ok okC_139 okc_139
theorem mC_70 : CtrMono C_70 := ctrS_mono mC_139 mc_139
theorem mD_70 : DrMono D_70 := drawA_mono mC_70
noncomputable def B_70 : Code := Try.f70.body.getD .skip
theorem mc_70 (args : List (AV tau)) (m : Mem tau) (k k' : AV tau → Mem tau → Option Unit) (hk : ∀ av m, k av m = some () → k' av m = some ()) (h : c_70 args m k = some ()) : c_70 args m k' = some () := by
 unfold c_70 at h ⊢
 split at h
 · repeat' first | exact callX_mono (fun _ h => hk _ _ h) h | refine bO_mono (fun _ h => ?_) h
 · cases h
theorem w_70 (a0_0 : Int) (l0_1 : List S37) (l0_2 : List S84) (a1 : Int) (k : AV tau → Mem tau → Option Unit) : fnA E_70 C_70 D_70 Try.f70 B_70 [.agg [.int .i64 a0_0, .own 0 0, .own 1 0], .int .i64 a1] ⟨[], [some ⟨37, l0_1, 0⟩, some ⟨84, l0_2, 0⟩]⟩ k = (callX (fun n => laws_markBoxS.f n l0_1 a1) fun t0 => callX (fun n => laws_markDoneS.f n l0_2 t0.1) fun t1 => k (.int .i64 t1.1) ⟨[], [some ⟨37, t0.2, 0⟩, some ⟨84, t1.2, 0⟩]⟩ : Option Unit) := by kernel_rfl
theorem okc_70 (args : List (AV tau)) (m : Mem tau) (κ : AV tau → Mem tau → Option Unit) (hh : c_70 args m κ = some ()) : ∃ av m1, κ av m1 = some () ∧ ToldA Try.prog TT (pnT 70) 70 args m av m1 := by
 obtain ⟨bx_, rw_⟩ := m
 unfold c_70 at hh
 simp only at hh
 split at hh
 case h_2 => cases hh
 rename_i b0 b1 b2 b3 r0 r1
 obtain ⟨a0_0, hx0, hh0⟩ := bO_some hh
 obtain ⟨u3, hx1, hh1⟩ := bO_some hh0
 obtain ⟨l0_1, hx2, hh2⟩ := bO_some hh1
 obtain ⟨u4, hx3, hh3⟩ := bO_some hh2
 obtain ⟨l0_2, hx4, hh4⟩ := bO_some hh3
 obtain ⟨a1, hx5, hh5⟩ := bO_some hh4
 have ex0 := asI_some hx0
 have ex1 := asOwn_some hx1
 have ex2 := asRow_some hx2
 have ex3 := asOwn_some hx3
 have ex4 := asRow_some hx4
 have ex5 := asI_some hx5
 subst ex0 ex1 ex2 ex3 ex4 ex5
 obtain ⟨N, t, h, hκ⟩ := callX_some hh5
 refine ⟨_, _, hκ, told_of_run pq okC_70 (fun _ _ _ => drawA_ok pq okC_70 hmix) (E := E_70) (fn := Try.f70) (body := B_70) (by kernel_rfl) (by kernel_rfl) (by kernel_rfl) (by rfl) (by exact Nat.le_of_ble_eq_true rfl) (fun k hk => ?_)⟩
 refine (w_70 a0_0 l0_1 l0_2 a1 k).trans ?_
 replace h : laws_markState.f N a0_0 l0_1 l0_2 a1 = some t := h
 unfold laws_markState.f at h
 refine call_h N h (fun t0 e5 h => ?_)
 refine call_h N h (fun t1 e6 h => ?_)
 cases h; exact hk
noncomputable def C_36 : Ctr tau Unit := ctrS 70 c_70 C_70
noncomputable def D_36 : Drw tau := drawA E_36 C_36
theorem okC_36 : CtrOk Try.prog TT pnT C_36 := ctrS_ok okC_70 okc_70
theorem mC_36 : CtrMono C_36 := ctrS_mono mC_70 mc_70
theorem mD_36 : DrMono D_36 := drawA_mono mC_36
noncomputable def B_36 : Code := Try.f36.body.getD .skip
theorem mc_36 (args : List (AV tau)) (m : Mem tau) (k k' : AV tau → Mem tau → Option Unit) (hk : ∀ av m, k av m = some () → k' av m = some ()) (h : c_36 args m k = some ()) : c_36 args m k' = some () := by
 unfold c_36 at h ⊢
 split at h
 · repeat' first | exact callX_mono (fun _ h => hk _ _ h) h | refine bO_mono (fun _ h => ?_) h
 · cases h
noncomputable def K_36_0 (k : AV tau → Mem tau → Option Unit) : Kon tau := (kBlock 0 (kS E_36 C_36 D_36 (codeP B_36 [1, 1]) (kEnd E_36 Try.f36 k)))
def st_36_0 (x0 : (List S37)) (x1 : Int) (x2 : Int) : St tau := ⟨tmL 31 0 [(0, .sl 37 x0), (1, .int .i64 x1), (5, .int .i64 x2)], ⟨[], []⟩⟩
noncomputable def LP_36_0 (k : AV tau → Mem tau → Option Unit) (x0 : (List S37)) (x1 : Int) (x2 : Int) : Option Unit := loopA E_36 (codeA E_36 C_36 D_36 (codeP B_36 [1, 0, 1, 0, 0])) (codeP B_36 [1, 0, 1, 0, 0]) (K_36_0 k) (st_36_0 x0 x1 x2)
theorem w_36_0 (k : AV tau → Mem tau → Option Unit) (x0 : (List S37)) (x1 : Int) (x2 : Int) : codeA E_36 C_36 D_36 (codeP B_36 [1, 0, 1, 0, 0]) (kL E_36 C_36 D_36 (codeP B_36 [1, 0, 1, 0, 0]) (K_36_0 k)) (st_36_0 x0 x1 x2) = (brA (decide (x2 < ((x0.length : Nat) : Int))) (brA (decide ((0 : Int) ≤ x2)) (brA (decide (x2 < ((x0.length : Nat) : Int))) (brA (!(decide ((rd_T37 x0 x2).f0 = x1))) (k (.int .i64 (-(1 : Int))) ⟨[], []⟩) (brA (decide ((0 : Int) ≤ x2)) (brA (decide (x2 < ((x0.length : Nat) : Int))) (brA (!(decide ((rd_T37 x0 x2).f1 = (wrap64 (x1 + (1 : Int)))))) (k (.int .i64 (-(1 : Int))) ⟨[], []⟩) (LP_36_0 k x0 (wrap64 ((wrap64 (x1 + (1 : Int))) + (1 : Int))) (wrap64 (x2 + (1 : Int))))) (none)) (none))) (none)) (none)) (k (.int .i64 x1) ⟨[], []⟩) : Option Unit) := by
 simp only [← wrapA_i64]
 kernel_rfl
theorem w_36 (l0 : List S37) (a1 : Int) (k : AV tau → Mem tau → Option Unit) : fnA E_36 C_36 D_36 Try.f36 B_36 [.sl 37 l0, .int .i64 a1] ⟨[], []⟩ k = (LP_36_0 k l0 a1 (0 : Int) : Option Unit) := by kernel_rfl
def S_36_0 (N : Nat) : Prop := ∀ (k : AV tau → Mem tau → Option Unit) (x0 : (List S37)) (x1 : Int) (x2 : Int) (r : Int), laws_heldBoxS.l0 N (x0) (x1) (x2) = some r → k (.int .i64 (r)) ⟨[], []⟩ = some () → LP_36_0 k x0 x1 x2 = some ()
theorem L_36 (N : Nat) : S_36_0 N := by
 induction N using Nat.strongRecOn with | _ N0 ih =>
 skip
 intro k x0 x1 x2 r h hk
 rcases N0 with _ | N
 · cases h
 first | rw [laws_heldBoxS.l0] at h | simp only [laws_heldBoxS.l0] at h | (unfold laws_heldBoxS.l0 at h; dsimp only at h)
 refine loop_fold mC_36 mD_36 ?_
 refine (w_36_0 k x0 x1 x2).trans ?_
 refine br_eti h rfl (fun c9 h => ?_) (fun c9 h => ?_)
 ·cases h; exact hk
 refine br_g h rfl (fun c10 h => ?_)
 refine br_t (by first | (simp [c9]; done) | (simp; omega) | (simp only [List.length_append, List.length_cons, List.length_nil, List.length_take, List.length_drop] at c9 ⊢; simp; omega) | (simp only [List.length_append, List.length_cons, List.length_nil, List.length_take, List.length_drop] at c9; simp; omega) | (simp_all; done)) ?_
 refine br_etn h rfl (fun c11 h => ?_) (fun c11 h => ?_)
 ·cases h; exact hk
 refine br_t (by first | (simp [c10]; done) | (simp; omega) | (simp only [List.length_append, List.length_cons, List.length_nil, List.length_take, List.length_drop] at c9 ⊢; simp; omega) | (simp only [List.length_append, List.length_cons, List.length_nil, List.length_take, List.length_drop] at c9; simp; omega) | (simp_all; done)) ?_
 refine br_t (by first | (simp [c9]; done) | (simp; omega) | (simp only [List.length_append, List.length_cons, List.length_nil, List.length_take, List.length_drop] at c9 ⊢; simp; omega) | (simp only [List.length_append, List.length_cons, List.length_nil, List.length_take, List.length_drop] at c9; simp; omega) | (simp_all; done)) ?_
 refine br_etn h rfl (fun c12 h => ?_) (fun c12 h => ?_)
 ·cases h; exact hk
 exact (ih N (by omega)) _ _ _ _ _ h hk
theorem okc_36 (args : List (AV tau)) (m : Mem tau) (κ : AV tau → Mem tau → Option Unit) (hh : c_36 args m κ = some ()) : ∃ av m1, κ av m1 = some () ∧ ToldA Try.prog TT (pnT 36) 36 args m av m1 := by
 obtain ⟨bx_, rw_⟩ := m
 unfold c_36 at hh
 simp only at hh
 split at hh
 case h_2 => cases hh
 rename_i b0 b1
 obtain ⟨l0, hx0, hh0⟩ := bO_some hh
 obtain ⟨a1, hx1, hh1⟩ := bO_some hh0
 have ex0 := asSl_some hx0
 have ex1 := asI_some hx1
 subst ex0 ex1
 obtain ⟨N, t, h, hκ⟩ := callX_some hh1
 refine ⟨_, _, hκ, told_of_run pq okC_36 (fun _ _ _ => drawA_ok pq okC_36 hmix) (E := E_36) (fn := Try.f36) (body := B_36) (by kernel_rfl) (by kernel_rfl) (by kernel_rfl) (by rfl) (by exact Nat.le_of_ble_eq_true rfl) (fun k hk => ?_)⟩
 refine (w_36 l0 a1 k).trans ?_
 replace h : laws_heldBoxS.f N l0 a1 = some t := h
 unfold laws_heldBoxS.f at h
 exact (L_36 N) _ _ _ _ _ h hk
noncomputable def C_141 : Ctr tau Unit := ctrS 36 c_36 C_36
noncomputable def D_141 : Drw tau := drawA E_141 C_141
theorem okC_141 : CtrOk Try.prog TT pnT C_141 := ctrS_ok okC_36 okc_36
theorem mC_141 : CtrMono C_141 := ctrS_mono mC_36 mc_36
theorem mD_141 : DrMono D_141 := drawA_mono mC_141
noncomputable def B_141 : Code := Try.f141.body.getD .skip
theorem mc_141 (args : List (AV tau)) (m : Mem tau) (k k' : AV tau → Mem tau → Option Unit) (hk : ∀ av m, k av m = some () → k' av m = some ()) (h : c_141 args m k = some ()) : c_141 args m k' = some () := by
 unfold c_141 at h ⊢
 split at h
 · repeat' first | exact callX_mono (fun _ h => hk _ _ h) h | refine bO_mono (fun _ h => ?_) h
 · cases h
noncomputable def K_141_0 (k : AV tau → Mem tau → Option Unit) : Kon tau := (kBlock 0 (kS E_141 C_141 D_141 (codeP B_141 [1, 1]) (kEnd E_141 Try.f141 k)))
def st_141_0 (x0 : (List S84)) (x1 : Int) (x2 : Int) : St tau := ⟨tmL 51 0 [(0, .sl 84 x0), (1, .int .i64 x1), (5, .int .i64 x2)], ⟨[], []⟩⟩
noncomputable def LP_141_0 (k : AV tau → Mem tau → Option Unit) (x0 : (List S84)) (x1 : Int) (x2 : Int) : Option Unit := loopA E_141 (codeA E_141 C_141 D_141 (codeP B_141 [1, 0, 1, 0, 0])) (codeP B_141 [1, 0, 1, 0, 0]) (K_141_0 k) (st_141_0 x0 x1 x2)
theorem w_141_0 (k : AV tau → Mem tau → Option Unit) (x0 : (List S84)) (x1 : Int) (x2 : Int) : codeA E_141 C_141 D_141 (codeP B_141 [1, 0, 1, 0, 0]) (kL E_141 C_141 D_141 (codeP B_141 [1, 0, 1, 0, 0]) (K_141_0 k)) (st_141_0 x0 x1 x2) = (brA (decide (x2 < ((x0.length : Nat) : Int))) (brA (decide ((0 : Int) ≤ x2)) (brA (decide (x2 < ((x0.length : Nat) : Int))) (brA (!(decide (((rd_T84 x0 x2).f0).f0 = x1))) (k (.int .i64 (-(1 : Int))) ⟨[], []⟩) (brA (decide ((0 : Int) ≤ x2)) (brA (decide (x2 < ((x0.length : Nat) : Int))) (brA (!(decide (((rd_T84 x0 x2).f0).f1 = (wrap64 (x1 + (1 : Int)))))) (k (.int .i64 (-(1 : Int))) ⟨[], []⟩) (brA (decide ((0 : Int) ≤ x2)) (brA (decide (x2 < ((x0.length : Nat) : Int))) (brA (!(decide ((rd_T84 x0 x2).f1 = (wrap64 ((wrap64 (x1 + (1 : Int))) + (1 : Int)))))) (k (.int .i64 (-(1 : Int))) ⟨[], []⟩) (brA (decide ((0 : Int) ≤ x2)) (brA (decide (x2 < ((x0.length : Nat) : Int))) (brA (!(decide ((rd_T84 x0 x2).f2 = (wrap64 ((wrap64 ((wrap64 (x1 + (1 : Int))) + (1 : Int))) + (1 : Int)))))) (k (.int .i64 (-(1 : Int))) ⟨[], []⟩) (LP_141_0 k x0 (wrap64 ((wrap64 ((wrap64 ((wrap64 (x1 + (1 : Int))) + (1 : Int))) + (1 : Int))) + (1 : Int))) (wrap64 (x2 + (1 : Int))))) (none)) (none))) (none)) (none))) (none)) (none))) (none)) (none)) (k (.int .i64 x1) ⟨[], []⟩) : Option Unit) := by
 simp only [← wrapA_i64]
 kernel_rfl
theorem w_141 (l0 : List S84) (a1 : Int) (k : AV tau → Mem tau → Option Unit) : fnA E_141 C_141 D_141 Try.f141 B_141 [.sl 84 l0, .int .i64 a1] ⟨[], []⟩ k = (LP_141_0 k l0 a1 (0 : Int) : Option Unit) := by kernel_rfl
def S_141_0 (N : Nat) : Prop := ∀ (k : AV tau → Mem tau → Option Unit) (x0 : (List S84)) (x1 : Int) (x2 : Int) (r : Int), laws_heldDoneS.l0 N (x0) (x1) (x2) = some r → k (.int .i64 (r)) ⟨[], []⟩ = some () → LP_141_0 k x0 x1 x2 = some ()
theorem L_141 (N : Nat) : S_141_0 N := by
 induction N using Nat.strongRecOn with | _ N0 ih =>
 skip
 intro k x0 x1 x2 r h hk
 rcases N0 with _ | N
 · cases h
 first | rw [laws_heldDoneS.l0] at h | simp only [laws_heldDoneS.l0] at h | (unfold laws_heldDoneS.l0 at h; dsimp only at h)
 refine loop_fold mC_141 mD_141 ?_
 refine (w_141_0 k x0 x1 x2).trans ?_
 refine br_eti h rfl (fun c13 h => ?_) (fun c13 h => ?_)
 ·cases h; exact hk
 refine br_g h rfl (fun c14 h => ?_)
 refine br_t (by first | (simp [c13]; done) | (simp; omega) | (simp only [List.length_append, List.length_cons, List.length_nil, List.length_take, List.length_drop] at c13 ⊢; simp; omega) | (simp only [List.length_append, List.length_cons, List.length_nil, List.length_take, List.length_drop] at c13; simp; omega) | (simp_all; done)) ?_
 refine br_etn h rfl (fun c15 h => ?_) (fun c15 h => ?_)
 ·cases h; exact hk
 refine br_t (by first | (simp [c14]; done) | (simp; omega) | (simp only [List.length_append, List.length_cons, List.length_nil, List.length_take, List.length_drop] at c13 ⊢; simp; omega) | (simp only [List.length_append, List.length_cons, List.length_nil, List.length_take, List.length_drop] at c13; simp; omega) | (simp_all; done)) ?_
 refine br_t (by first | (simp [c13]; done) | (simp; omega) | (simp only [List.length_append, List.length_cons, List.length_nil, List.length_take, List.length_drop] at c13 ⊢; simp; omega) | (simp only [List.length_append, List.length_cons, List.length_nil, List.length_take, List.length_drop] at c13; simp; omega) | (simp_all; done)) ?_
 refine br_etn h rfl (fun c16 h => ?_) (fun c16 h => ?_)
 ·cases h; exact hk
 refine br_t (by first | (simp [c14]; done) | (simp; omega) | (simp only [List.length_append, List.length_cons, List.length_nil, List.length_take, List.length_drop] at c13 ⊢; simp; omega) | (simp only [List.length_append, List.length_cons, List.length_nil, List.length_take, List.length_drop] at c13; simp; omega) | (simp_all; done)) ?_
 refine br_t (by first | (simp [c13]; done) | (simp; omega) | (simp only [List.length_append, List.length_cons, List.length_nil, List.length_take, List.length_drop] at c13 ⊢; simp; omega) | (simp only [List.length_append, List.length_cons, List.length_nil, List.length_take, List.length_drop] at c13; simp; omega) | (simp_all; done)) ?_
 refine br_etn h rfl (fun c17 h => ?_) (fun c17 h => ?_)
 ·cases h; exact hk
 refine br_t (by first | (simp [c14]; done) | (simp; omega) | (simp only [List.length_append, List.length_cons, List.length_nil, List.length_take, List.length_drop] at c13 ⊢; simp; omega) | (simp only [List.length_append, List.length_cons, List.length_nil, List.length_take, List.length_drop] at c13; simp; omega) | (simp_all; done)) ?_
 refine br_t (by first | (simp [c13]; done) | (simp; omega) | (simp only [List.length_append, List.length_cons, List.length_nil, List.length_take, List.length_drop] at c13 ⊢; simp; omega) | (simp only [List.length_append, List.length_cons, List.length_nil, List.length_take, List.length_drop] at c13; simp; omega) | (simp_all; done)) ?_
 refine br_etn h rfl (fun c18 h => ?_) (fun c18 h => ?_)
 ·cases h; exact hk
 exact (ih N (by omega)) _ _ _ _ _ h hk
theorem okc_141 (args : List (AV tau)) (m : Mem tau) (κ : AV tau → Mem tau → Option Unit) (hh : c_141 args m κ = some ()) : ∃ av m1, κ av m1 = some () ∧ ToldA Try.prog TT (pnT 141) 141 args m av m1 := by
 obtain ⟨bx_, rw_⟩ := m
 unfold c_141 at hh
 simp only at hh
 split at hh
 case h_2 => cases hh
 rename_i b0 b1
 obtain ⟨l0, hx0, hh0⟩ := bO_some hh
 obtain ⟨a1, hx1, hh1⟩ := bO_some hh0
 have ex0 := asSl_some hx0
 have ex1 := asI_some hx1
 subst ex0 ex1
 obtain ⟨N, t, h, hκ⟩ := callX_some hh1
 refine ⟨_, _, hκ, told_of_run pq okC_141 (fun _ _ _ => drawA_ok pq okC_141 hmix) (E := E_141) (fn := Try.f141) (body := B_141) (by kernel_rfl) (by kernel_rfl) (by kernel_rfl) (by rfl) (by exact Nat.le_of_ble_eq_true rfl) (fun k hk => ?_)⟩
 refine (w_141 l0 a1 k).trans ?_
 replace h : laws_heldDoneS.f N l0 a1 = some t := h
 unfold laws_heldDoneS.f at h
 exact (L_141 N) _ _ _ _ _ h hk
noncomputable def C_72 : Ctr tau Unit := ctrS 141 c_141 C_141
noncomputable def D_72 : Drw tau := drawA E_72 C_72
theorem okC_72 : CtrOk Try.prog TT pnT C_72 := ctrS_ok okC_141 okc_141
theorem mC_72 : CtrMono C_72 := ctrS_mono mC_141 mc_141
theorem mD_72 : DrMono D_72 := drawA_mono mC_72
noncomputable def B_72 : Code := Try.f72.body.getD .skip
theorem mc_72 (args : List (AV tau)) (m : Mem tau) (k k' : AV tau → Mem tau → Option Unit) (hk : ∀ av m, k av m = some () → k' av m = some ()) (h : c_72 args m k = some ()) : c_72 args m k' = some () := by
 unfold c_72 at h ⊢
 split at h
 · repeat' first | exact callX_mono (fun _ h => hk _ _ h) h | refine bO_mono (fun _ h => ?_) h
 · cases h
theorem w_72 (a0_0 : Int) (l0_1 : List S37) (l0_2 : List S84) (a1 : Int) (k : AV tau → Mem tau → Option Unit) : fnA E_72 C_72 D_72 Try.f72 B_72 [.agg [.int .i64 a0_0, .sl 37 l0_1, .sl 84 l0_2], .int .i64 a1] ⟨[], []⟩ k = (callX (fun n => laws_heldBoxS.f n l0_1 a1) fun t0 => brA (decide (t0 < (0 : Int))) (k (.int .i64 (-(1 : Int))) ⟨[], []⟩) (callX (fun n => laws_heldDoneS.f n l0_2 t0) fun t1 => brA (decide (t1 < (0 : Int))) (k (.int .i64 (-(1 : Int))) ⟨[], []⟩) (k (.int .i64 t1) ⟨[], []⟩)) : Option Unit) := by kernel_rfl
theorem okc_72 (args : List (AV tau)) (m : Mem tau) (κ : AV tau → Mem tau → Option Unit) (hh : c_72 args m κ = some ()) : ∃ av m1, κ av m1 = some () ∧ ToldA Try.prog TT (pnT 72) 72 args m av m1 := by
 obtain ⟨bx_, rw_⟩ := m
 unfold c_72 at hh
 simp only at hh
 split at hh
 case h_2 => cases hh
 rename_i b0 b1 b2 b3
 obtain ⟨a0_0, hx0, hh0⟩ := bO_some hh
 obtain ⟨l0_1, hx1, hh1⟩ := bO_some hh0
 obtain ⟨l0_2, hx2, hh2⟩ := bO_some hh1
 obtain ⟨a1, hx3, hh3⟩ := bO_some hh2
 have ex0 := asI_some hx0
 have ex1 := asSl_some hx1
 have ex2 := asSl_some hx2
 have ex3 := asI_some hx3
 subst ex0 ex1 ex2 ex3
 obtain ⟨N, t, h, hκ⟩ := callX_some hh3
 refine ⟨_, _, hκ, told_of_run pq okC_72 (fun _ _ _ => drawA_ok pq okC_72 hmix) (E := E_72) (fn := Try.f72) (body := B_72) (by kernel_rfl) (by kernel_rfl) (by kernel_rfl) (by rfl) (by exact Nat.le_of_ble_eq_true rfl) (fun k hk => ?_)⟩
 refine (w_72 a0_0 l0_1 l0_2 a1 k).trans ?_
 replace h : laws_heldState.f N a0_0 l0_1 l0_2 a1 = some t := h
 unfold laws_heldState.f at h
 refine call_h N h (fun t0 e5 h => ?_)
 refine br_ite h rfl (fun c6 h => ?_) (fun c6 h => ?_)
 ·cases h; exact hk
 refine call_h N h (fun t1 e7 h => ?_)
 refine br_ite h rfl (fun c8 h => ?_) (fun c8 h => ?_)
 ·cases h; exact hk
 cases h; exact hk
noncomputable def C_158 : Ctr tau Unit := ctrS 72 c_72 C_72
noncomputable def D_158 : Drw tau := drawA E_158 C_158
theorem okC_158 : CtrOk Try.prog TT pnT C_158 := ctrS_ok okC_72 okc_72
theorem mC_158 : CtrMono C_158 := ctrS_mono mC_72 mc_72
theorem mD_158 : DrMono D_158 := drawA_mono mC_158
noncomputable def B_158 : Code := Try.f158.body.getD .skip
theorem mc_158 (args : List (AV tau)) (m : Mem tau) (k k' : AV tau → Mem tau → Option Unit) (hk : ∀ av m, k av m = some () → k' av m = some ()) (h : c_158 args m k = some ()) : c_158 args m k' = some () := by
 unfold c_158 at h ⊢
 split at h
 · repeat' first | exact callX_mono (fun _ h => hk _ _ h) h | refine bO_mono (fun _ h => ?_) h
 · cases h
theorem w_158 (l0 : List S196) (a1 : Int) (k : AV tau → Mem tau → Option Unit) : fnA E_158 C_158 D_158 Try.f158 B_158 [.sl 196 l0, .int .i64 a1] ⟨[], []⟩ k = (brA (decide ((wrap64 (a1 - ((l0.length : Nat) : Int))) < (0 : Int))) (k (.int .i64 (-(1 : Int))) ⟨[], []⟩) (k (.int .i64 (wrap64 (a1 - ((l0.length : Nat) : Int)))) ⟨[], []⟩) : Option Unit) := by
 simp only [← wrapA_i64]
 kernel_rfl
theorem okc_158 (args : List (AV tau)) (m : Mem tau) (κ : AV tau → Mem tau → Option Unit) (hh : c_158 args m κ = some ()) : ∃ av m1, κ av m1 = some () ∧ ToldA Try.prog TT (pnT 158) 158 args m av m1 := by
 obtain ⟨bx_, rw_⟩ := m
 unfold c_158 at hh
 simp only at hh
 split at hh
 case h_2 => cases hh
 rename_i b0 b1
 obtain ⟨l0, hx0, hh0⟩ := bO_some hh
 obtain ⟨a1, hx1, hh1⟩ := bO_some hh0
 have ex0 := asSl_some hx0
 have ex1 := asI_some hx1
 subst ex0 ex1
 obtain ⟨N, t, h, hκ⟩ := callX_some hh1
 refine ⟨_, _, hκ, told_of_run pq okC_158 (fun _ _ _ => drawA_ok pq okC_158 hmix) (E := E_158) (fn := Try.f158) (body := B_158) (by kernel_rfl) (by kernel_rfl) (by kernel_rfl) (by rfl) (by exact Nat.le_of_ble_eq_true rfl) (fun k hk => ?_)⟩
 refine (w_158 l0 a1 k).trans ?_
 replace h : laws_szReadS.f l0 a1 = some t := h
 unfold laws_szReadS.f at h
 refine br_ite h rfl (fun c2 h => ?_) (fun c2 h => ?_)
 ·cases h; exact hk
 cases h; exact hk
noncomputable def C_159 : Ctr tau Unit := ctrS 158 c_158 C_158
noncomputable def D_159 : Drw tau := drawA E_159 C_159
theorem okC_159 : CtrOk Try.prog TT pnT C_159 := ctrS_ok okC_158 okc_158
theorem mC_159 : CtrMono C_159 := ctrS_mono mC_158 mc_158
theorem mD_159 : DrMono D_159 := drawA_mono mC_159
noncomputable def B_159 : Code := Try.f159.body.getD .skip
theorem mc_159 (args : List (AV tau)) (m : Mem tau) (k k' : AV tau → Mem tau → Option Unit) (hk : ∀ av m, k av m = some () → k' av m = some ()) (h : c_159 args m k = some ()) : c_159 args m k' = some () := by
 unfold c_159 at h ⊢
 split at h
 · repeat' first | exact callX_mono (fun _ h => hk _ _ h) h | refine bO_mono (fun _ h => ?_) h
 · cases h
theorem w_159 (l0 : List S198) (a1 : Int) (k : AV tau → Mem tau → Option Unit) : fnA E_159 C_159 D_159 Try.f159 B_159 [.sl 198 l0, .int .i64 a1] ⟨[], []⟩ k = (brA (decide ((wrap64 (a1 - ((l0.length : Nat) : Int))) < (0 : Int))) (k (.int .i64 (-(1 : Int))) ⟨[], []⟩) (k (.int .i64 (wrap64 (a1 - ((l0.length : Nat) : Int)))) ⟨[], []⟩) : Option Unit) := by
 simp only [← wrapA_i64]
 kernel_rfl
theorem okc_159 (args : List (AV tau)) (m : Mem tau) (κ : AV tau → Mem tau → Option Unit) (hh : c_159 args m κ = some ()) : ∃ av m1, κ av m1 = some () ∧ ToldA Try.prog TT (pnT 159) 159 args m av m1 := by
 obtain ⟨bx_, rw_⟩ := m
 unfold c_159 at hh
 simp only at hh
 split at hh
 case h_2 => cases hh
 rename_i b0 b1
 obtain ⟨l0, hx0, hh0⟩ := bO_some hh
 obtain ⟨a1, hx1, hh1⟩ := bO_some hh0
 have ex0 := asSl_some hx0
 have ex1 := asI_some hx1
 subst ex0 ex1
 obtain ⟨N, t, h, hκ⟩ := callX_some hh1
 refine ⟨_, _, hκ, told_of_run pq okC_159 (fun _ _ _ => drawA_ok pq okC_159 hmix) (E := E_159) (fn := Try.f159) (body := B_159) (by kernel_rfl) (by kernel_rfl) (by kernel_rfl) (by rfl) (by exact Nat.le_of_ble_eq_true rfl) (fun k hk => ?_)⟩
 refine (w_159 l0 a1 k).trans ?_
 replace h : laws_szPutS.f l0 a1 = some t := h
 unfold laws_szPutS.f at h
 refine br_ite h rfl (fun c2 h => ?_) (fun c2 h => ?_)
 ·cases h; exact hk
 cases h; exact hk
noncomputable def C_132 : Ctr tau Unit := ctrS 159 c_159 C_159
noncomputable def D_132 : Drw tau := drawA E_132 C_132
theorem okC_132 : CtrOk Try.prog TT pnT C_132 := ctrS_ok okC_159 okc_159
theorem mC_132 : CtrMono C_132 := ctrS_mono mC_159 mc_159
theorem mD_132 : DrMono D_132 := drawA_mono mC_132
noncomputable def B_132 : Code := Try.f132.body.getD .skip
theorem mc_132 (args : List (AV tau)) (m : Mem tau) (k k' : AV tau → Mem tau → Option Unit) (hk : ∀ av m, k av m = some () → k' av m = some ()) (h : c_132 args m k = some ()) : c_132 args m k' = some () := by
 unfold c_132 at h ⊢
 split at h
 · repeat' first | exact callX_mono (fun _ h => hk _ _ h) h | refine bO_mono (fun _ h => ?_) h
 · cases h
theorem w_132 (l0_0 : List S196) (l0_1 : List S198) (a0_2 : Int) (a0_3 : Int) (a1 : Int) (k : AV tau → Mem tau → Option Unit) : fnA E_132 C_132 D_132 Try.f132 B_132 [.agg [.sl 196 l0_0, .sl 198 l0_1, .int .i64 a0_2, .int .i64 a0_3], .int .i64 a1] ⟨[], []⟩ k = (callX (fun n => laws_szReadS.f l0_0 a1) fun t0 => brA (decide (t0 < (0 : Int))) (k (.int .i64 (-(1 : Int))) ⟨[], []⟩) (callX (fun n => laws_szPutS.f l0_1 t0) fun t1 => brA (decide (t1 < (0 : Int))) (k (.int .i64 (-(1 : Int))) ⟨[], []⟩) (k (.int .i64 t1) ⟨[], []⟩)) : Option Unit) := by kernel_rfl
theorem okc_132 (args : List (AV tau)) (m : Mem tau) (κ : AV tau → Mem tau → Option Unit) (hh : c_132 args m κ = some ()) : ∃ av m1, κ av m1 = some () ∧ ToldA Try.prog TT (pnT 132) 132 args m av m1 := by
 obtain ⟨bx_, rw_⟩ := m
 unfold c_132 at hh
 simp only at hh
 split at hh
 case h_2 => cases hh
 rename_i b0 b1 b2 b3 b4
 obtain ⟨l0_0, hx0, hh0⟩ := bO_some hh
 obtain ⟨l0_1, hx1, hh1⟩ := bO_some hh0
 obtain ⟨a0_2, hx2, hh2⟩ := bO_some hh1
 obtain ⟨a0_3, hx3, hh3⟩ := bO_some hh2
 obtain ⟨a1, hx4, hh4⟩ := bO_some hh3
 have ex0 := asSl_some hx0
 have ex1 := asSl_some hx1
 have ex2 := asI_some hx2
 have ex3 := asI_some hx3
 have ex4 := asI_some hx4
 subst ex0 ex1 ex2 ex3 ex4
 obtain ⟨N, t, h, hκ⟩ := callX_some hh4
 refine ⟨_, _, hκ, told_of_run pq okC_132 (fun _ _ _ => drawA_ok pq okC_132 hmix) (E := E_132) (fn := Try.f132) (body := B_132) (by kernel_rfl) (by kernel_rfl) (by kernel_rfl) (by rfl) (by exact Nat.le_of_ble_eq_true rfl) (fun k hk => ?_)⟩
 refine (w_132 l0_0 l0_1 a0_2 a0_3 a1 k).trans ?_
 replace h : laws_szRun.f l0_0 l0_1 a0_2 a0_3 a1 = some t := h
 unfold laws_szRun.f at h
 refine call_h 0 h (fun t0 e5 h => ?_)
 refine br_ite h rfl (fun c6 h => ?_) (fun c6 h => ?_)
 ·cases h; exact hk
 refine call_h 0 h (fun t1 e7 h => ?_)
 refine br_ite h rfl (fun c8 h => ?_) (fun c8 h => ?_)
 ·cases h; exact hk
 cases h; exact hk
noncomputable def C_65 : Ctr tau Unit := ctrS 132 c_132 C_132
noncomputable def D_65 : Drw tau := drawA E_65 C_65
theorem okC_65 : CtrOk Try.prog TT pnT C_65 := ctrS_ok okC_132 okc_132
theorem mC_65 : CtrMono C_65 := ctrS_mono mC_132 mc_132
theorem mD_65 : DrMono D_65 := drawA_mono mC_65
noncomputable def B_65 : Code := Try.f65.body.getD .skip
theorem mc_65 (args : List (AV tau)) (m : Mem tau) (k k' : AV tau → Mem tau → Option Unit) (hk : ∀ av m, k av m = some () → k' av m = some ()) (h : c_65 args m k = some ()) : c_65 args m k' = some () := by
 unfold c_65 at h ⊢
 split at h
 · repeat' first | exact callX_mono (fun _ h => hk _ _ h) h | refine bO_mono (fun _ h => ?_) h
 · cases h
theorem w_65 (a0_0 : Bool) (a0_1 : Int) (a0_2 : Int) (l0_3 : List S196) (l0_4 : List S198) (a0_5 : Int) (a0_6 : Int) (a1 : Int) (k : AV tau → Mem tau → Option Unit) : fnA E_65 C_65 D_65 Try.f65 B_65 [.agg [.bool a0_0, .int .i64 a0_1, .int .i64 a0_2, .sl 196 l0_3, .sl 198 l0_4, .int .i64 a0_5, .int .i64 a0_6], .int .i64 a1] ⟨[], []⟩ k = (callX (fun n => laws_szRun.f l0_3 l0_4 a0_5 a0_6 a1) fun t0 => brA (decide (t0 < (0 : Int))) (k (.int .i64 (-(1 : Int))) ⟨[], []⟩) (k (.int .i64 t0) ⟨[], []⟩) : Option Unit) := by kernel_rfl
theorem okc_65 (args : List (AV tau)) (m : Mem tau) (κ : AV tau → Mem tau → Option Unit) (hh : c_65 args m κ = some ()) : ∃ av m1, κ av m1 = some () ∧ ToldA Try.prog TT (pnT 65) 65 args m av m1 := by
 obtain ⟨bx_, rw_⟩ := m
 unfold c_65 at hh
 simp only at hh
 split at hh
 case h_2 => cases hh
 rename_i b0 b1 b2 b3 b4 b5 b6 b7
 obtain ⟨a0_0, hx0, hh0⟩ := bO_some hh
 obtain ⟨a0_1, hx1, hh1⟩ := bO_some hh0
 obtain ⟨a0_2, hx2, hh2⟩ := bO_some hh1
 obtain ⟨l0_3, hx3, hh3⟩ := bO_some hh2
 obtain ⟨l0_4, hx4, hh4⟩ := bO_some hh3
 obtain ⟨a0_5, hx5, hh5⟩ := bO_some hh4
 obtain ⟨a0_6, hx6, hh6⟩ := bO_some hh5
 obtain ⟨a1, hx7, hh7⟩ := bO_some hh6
 have ex0 := asB_some hx0
 have ex1 := asI_some hx1
 have ex2 := asI_some hx2
 have ex3 := asSl_some hx3
 have ex4 := asSl_some hx4
 have ex5 := asI_some hx5
 have ex6 := asI_some hx6
 have ex7 := asI_some hx7
 subst ex0 ex1 ex2 ex3 ex4 ex5 ex6 ex7
 obtain ⟨N, t, h, hκ⟩ := callX_some hh7
 refine ⟨_, _, hκ, told_of_run pq okC_65 (fun _ _ _ => drawA_ok pq okC_65 hmix) (E := E_65) (fn := Try.f65) (body := B_65) (by kernel_rfl) (by kernel_rfl) (by kernel_rfl) (by rfl) (by exact Nat.le_of_ble_eq_true rfl) (fun k hk => ?_)⟩
 refine (w_65 a0_0 a0_1 a0_2 l0_3 l0_4 a0_5 a0_6 a1 k).trans ?_
 replace h : laws_szEntry.f a0_0 a0_1 a0_2 l0_3 l0_4 a0_5 a0_6 a1 = some t := h
 unfold laws_szEntry.f at h
 refine call_h 0 h (fun t0 e3 h => ?_)
 refine br_ite h rfl (fun c4 h => ?_) (fun c4 h => ?_)
 ·cases h; exact hk
 cases h; exact hk
noncomputable def C_73 : Ctr tau Unit := ctrS 65 c_65 C_65
noncomputable def D_73 : Drw tau := drawA E_73 C_73
theorem okC_73 : CtrOk Try.prog TT pnT C_73 := ctrS_ok okC_65 okc_65
theorem mC_73 : CtrMono C_73 := ctrS_mono mC_65 mc_65
theorem mD_73 : DrMono D_73 := drawA_mono mC_73
noncomputable def B_73 : Code := Try.f73.body.getD .skip
theorem mc_73 (args : List (AV tau)) (m : Mem tau) (k k' : AV tau → Mem tau → Option Unit) (hk : ∀ av m, k av m = some () → k' av m = some ()) (h : c_73 args m k = some ()) : c_73 args m k' = some () := by
 unfold c_73 at h ⊢
 split at h
 · repeat' first | exact callX_mono (fun _ h => hk _ _ h) h | refine bO_mono (fun _ h => ?_) h
 · cases h
noncomputable def K_73_0 (k : AV tau → Mem tau → Option Unit) : Kon tau := (kBlock 0 (kS E_73 C_73 D_73 (codeP B_73 [1, 1, 1, 1]) (kEnd E_73 Try.f73 k)))
def st_73_0 (x0 : (List S109)) (x1 : Int) (x2 : Int) : St tau := ⟨tmL 27 0 [(0, .sl 109 x0), (1, .int .i64 x1), (5, .int .i64 x2)], ⟨[], []⟩⟩
noncomputable def LP_73_0 (k : AV tau → Mem tau → Option Unit) (x0 : (List S109)) (x1 : Int) (x2 : Int) : Option Unit := loopA E_73 (codeA E_73 C_73 D_73 (codeP B_73 [1, 1, 1, 0, 1, 0, 0])) (codeP B_73 [1, 1, 1, 0, 1, 0, 0]) (K_73_0 k) (st_73_0 x0 x1 x2)
theorem w_73_0 (k : AV tau → Mem tau → Option Unit) (x0 : (List S109)) (x1 : Int) (x2 : Int) : codeA E_73 C_73 D_73 (codeP B_73 [1, 1, 1, 0, 1, 0, 0]) (kL E_73 C_73 D_73 (codeP B_73 [1, 1, 1, 0, 1, 0, 0]) (K_73_0 k)) (st_73_0 x0 x1 x2) = (brA (decide (x2 < ((x0.length : Nat) : Int))) (brA (decide ((0 : Int) ≤ x2)) (brA (decide (x2 < ((x0.length : Nat) : Int))) (callX (fun n => laws_szEntry.f ((rd_T109 x0 x2).f0) (((rd_T109 x0 x2).f1).f0) (((rd_T109 x0 x2).f1).f1) (((rd_T109 x0 x2).f2).f0) (((rd_T109 x0 x2).f2).f1) (((rd_T109 x0 x2).f2).f2) (((rd_T109 x0 x2).f2).f3) x1) fun t0 => brA (decide (t0 < (0 : Int))) (k (.int .i64 (-(1 : Int))) ⟨[], []⟩) (LP_73_0 k x0 t0 (wrap64 (x2 + (1 : Int))))) (none)) (none)) (k (.int .i64 x1) ⟨[], []⟩) : Option Unit) := by
 simp only [← wrapA_i64]
 kernel_rfl
end Go.Proofs.Ytkkmhlfpombgfaa.PFnExactCertFold