/- The machine's texts of FnCertFold (links). Conditions: none. -/
import Derived.Test.YtkkmhlfpombgfaaPFnCertFoldx1
set_option linter.unusedVariables false
set_option linter.unusedSimpArgs false
set_option maxRecDepth 100000
set_option maxHeartbeats 4000000
namespace Go.Proofs.Ytkkmhlfpombgfaa.PFnCertFold
open Go.RowKit Go.Proofs.YtkkmhlfpombgfaaW.PrintWords Go.Proofs.YtkkmhlfpombgfaaW.PrintLast Go.Proofs.YtkkmhlfpombgfaaW.PrintMore
open Go Go.Proofs Am
theorem okc_44 (args : List (AV tau)) (m : Mem tau) (κ : AV tau → Mem tau → Option Unit) (hh : c_44 args m κ = some ()) : ∃ av m1, κ av m1 = some () ∧ ToldA Try.prog TT (pnT 44) 44 args m av m1 := by
 obtain ⟨bx_, rw_⟩ := m
 unfold c_44 at hh
 simp only at hh
 split at hh
 case h_2 => cases hh
 rename_i b0
 obtain ⟨l0, hx0, hh0⟩ := bO_some hh
 have ex0 := asSl_some hx0
 subst ex0
 obtain ⟨N, t, h, hκ⟩ := callX_some hh0
 refine ⟨_, _, hκ, told_of_run pq okC_44 (fun _ _ _ => drawA_ok pq okC_44 hmix) (E := E_44) (fn := Try.f44) (body := B_44) (by kernel_rfl) (by kernel_rfl) (by kernel_rfl) (by rfl) (by exact Nat.le_of_ble_eq_true rfl) (fun k hk => ?_)⟩
 refine (w_44 l0 k).trans ?_
 replace h : impl_CertFold.f N l0 = some t := h
 unfold impl_CertFold.f at h
 refine call_h N h (fun t0 e4 h => ?_)
 refine br_etn h (congrArg not dect) (fun c5 h => ?_) (fun c5 h => ?_)
 ·cases h; exact hk
 refine call_h N h (fun t1 e6 h => ?_)
 cases h; exact hk
noncomputable def C_101 : Ctr tau Unit := ctrS 44 c_44 C_44
noncomputable def D_101 : Drw tau := drawA E_101 C_101
theorem okC_101 : CtrOk Try.prog TT pnT C_101 := ctrS_ok okC_44 okc_44
theorem mC_101 : CtrMono C_101 := ctrS_mono mC_44 mc_44
theorem mD_101 : DrMono D_101 := drawA_mono mC_101
noncomputable def B_101 : Code := Try.f101.body.getD .skip
theorem mc_101 (args : List (AV tau)) (m : Mem tau) (k k' : AV tau → Mem tau → Option Unit) (hk : ∀ av m, k av m = some () → k' av m = some ()) (h : c_101 args m k = some ()) : c_101 args m k' = some () := by
 unfold c_101 at h ⊢
 split at h
 · repeat' first | exact callX_mono (fun _ h => hk _ _ h) h | refine bO_mono (fun _ h => ?_) h
 · cases h
noncomputable def K_101_0 (k : AV tau → Mem tau → Option Unit) : Kon tau := (kBlock 0 (kS E_101 C_101 D_101 (codeP B_101 [1, 1, 1]) (kEnd E_101 Try.f101 k)))
def st_101_0 (x0 : (List S37)) (x1 : (List S37)) (x2 : Int) (x3 : Int) : St tau := ⟨tmL 26 0 [(0, .sl 37 x0), (1, .sl 37 x1), (12, .int .i64 x2), (13, .int .i64 x3)], ⟨[], []⟩⟩
noncomputable def LP_101_0 (k : AV tau → Mem tau → Option Unit) (x0 : (List S37)) (x1 : (List S37)) (x2 : Int) (x3 : Int) : Option Unit := loopA E_101 (codeA E_101 C_101 D_101 (codeP B_101 [1, 1, 0, 1, 0, 0])) (codeP B_101 [1, 1, 0, 1, 0, 0]) (K_101_0 k) (st_101_0 x0 x1 x2 x3)
theorem w_101_0 (k : AV tau → Mem tau → Option Unit) (x0 : (List S37)) (x1 : (List S37)) (x2 : Int) (x3 : Int) : codeA E_101 C_101 D_101 (codeP B_101 [1, 1, 0, 1, 0, 0]) (kL E_101 C_101 D_101 (codeP B_101 [1, 1, 0, 1, 0, 0]) (K_101_0 k)) (st_101_0 x0 x1 x2 x3) = (brA (decide (x3 < x2)) (brA (decide ((0 : Int) ≤ x3)) (brA (decide (x3 < ((x0.length : Nat) : Int))) (brA (decide ((0 : Int) ≤ x3)) (brA (decide (x3 < ((x1.length : Nat) : Int))) (brA (!(((rd_T37 x0 x3).f0 == (rd_T37 x1 x3).f0) && ((rd_T37 x0 x3).f1 == (rd_T37 x1 x3).f1))) (k (.bool false) ⟨[], []⟩) (LP_101_0 k x0 x1 x2 (wrap64 (x3 + (1 : Int))))) (none)) (none)) (none)) (none)) (k (.bool true) ⟨[], []⟩) : Option Unit) := by
 simp only [← wrapA_i64]
 kernel_rfl
theorem w_101 (l0 : List S37) (l1 : List S37) (k : AV tau → Mem tau → Option Unit) : fnA E_101 C_101 D_101 Try.f101 B_101 [.sl 37 l0, .sl 37 l1] ⟨[], []⟩ k = (brA (!(decide (((l0.length : Nat) : Int) = ((l1.length : Nat) : Int)))) (k (.bool false) ⟨[], []⟩) (LP_101_0 k l0 l1 ((l0.length : Nat) : Int) (0 : Int)) : Option Unit) := by kernel_rfl
def S_101_0 (N : Nat) : Prop := ∀ (k : AV tau → Mem tau → Option Unit) (x0 : (List S37)) (x1 : (List S37)) (x2 : Int) (x3 : Int) (r : Bool), impl_same_impl_Box.l0 N (x0) (x1) (x2) (x3) = some r → k (.bool (r)) ⟨[], []⟩ = some () → LP_101_0 k x0 x1 x2 x3 = some ()
theorem L_101 (N : Nat) : S_101_0 N := by
 induction N using Nat.strongRecOn with | _ N0 ih =>
 skip
 intro k x0 x1 x2 x3 r h hk
 rcases N0 with _ | N
 · cases h
 first | rw [impl_same_impl_Box.l0] at h | simp only [impl_same_impl_Box.l0] at h | (unfold impl_same_impl_Box.l0 at h; dsimp only at h)
 refine loop_fold mC_101 mD_101 ?_
 refine (w_101_0 k x0 x1 x2 x3).trans ?_
 refine br_eti h rfl (fun c13 h => ?_) (fun c13 h => ?_)
 ·cases h; exact hk
 refine br_g h rfl (fun c14 h => ?_)
 refine br_g h rfl (fun c15 h => ?_)
 refine br_t (by first | (simp [c14]; done) | (simp; omega) | (simp only [List.length_append, List.length_cons, List.length_nil, List.length_take, List.length_drop] at c15 ⊢; simp; omega) | (simp only [List.length_append, List.length_cons, List.length_nil, List.length_take, List.length_drop] at c15; simp; omega) | (simp_all; done)) ?_
 refine br_g h rfl (fun c16 h => ?_)
 refine br_ite h (by first | rfl | exact dect | exact (congrArg not dect) | (simp; done) | (simp [beqI]; done) | (simp; omega)) (fun c17 h => ?_) (fun c17 h => ?_)
 ·cases h; exact hk
 exact (ih N (by omega)) _ _ _ _ _ _ h hk
theorem okc_101 (args : List (AV tau)) (m : Mem tau) (κ : AV tau → Mem tau → Option Unit) (hh : c_101 args m κ = some ()) : ∃ av m1, κ av m1 = some () ∧ ToldA Try.prog TT (pnT 101) 101 args m av m1 := by
 obtain ⟨bx_, rw_⟩ := m
 unfold c_101 at hh
 simp only at hh
 split at hh
 case h_2 => cases hh
 rename_i b0 b1
 obtain ⟨l0, hx0, hh0⟩ := bO_some hh
 obtain ⟨l1, hx1, hh1⟩ := bO_some hh0
 have ex0 := asSl_some hx0
 have ex1 := asSl_some hx1
 subst ex0 ex1
 obtain ⟨N, t, h, hκ⟩ := callX_some hh1
 refine ⟨_, _, hκ, told_of_run pq okC_101 (fun _ _ _ => drawA_ok pq okC_101 hmix) (E := E_101) (fn := Try.f101) (body := B_101) (by kernel_rfl) (by kernel_rfl) (by kernel_rfl) (by rfl) (by exact Nat.le_of_ble_eq_true rfl) (fun k hk => ?_)⟩
 refine (w_101 l0 l1 k).trans ?_
 replace h : impl_same_impl_Box.f N l0 l1 = some t := h
 unfold impl_same_impl_Box.f at h
 refine br_etn h rfl (fun c18 h => ?_) (fun c18 h => ?_)
 ·cases h; exact hk
 exact (L_101 N) _ _ _ _ _ _ h hk
noncomputable def C_39 : Ctr tau Unit := ctrS 101 c_101 C_101
noncomputable def D_39 : Drw tau := drawA E_39 C_39
theorem okC_39 : CtrOk Try.prog TT pnT C_39 := ctrS_ok okC_101 okc_101
theorem mC_39 : CtrMono C_39 := ctrS_mono mC_101 mc_101
theorem mD_39 : DrMono D_39 := drawA_mono mC_39
noncomputable def B_39 : Code := Try.f39.body.getD .skip
theorem mc_39 (args : List (AV tau)) (m : Mem tau) (k k' : AV tau → Mem tau → Option Unit) (hk : ∀ av m, k av m = some () → k' av m = some ()) (h : c_39 args m k = some ()) : c_39 args m k' = some () := by
 unfold c_39 at h ⊢
 split at h
 · repeat' first | exact callX_mono (fun _ h => hk _ _ h) h | refine bO_mono (fun _ h => ?_) h
 · cases h
theorem w_39 (l0 : List S37) (l1 : List S37) (k : AV tau → Mem tau → Option Unit) : fnA E_39 C_39 D_39 Try.f39 B_39 [.sl 37 l0, .sl 37 l1] ⟨[], []⟩ k = (callX (fun n => impl_same_impl_Box.f n l0 l1) fun t0 => k (.bool t0) ⟨[], []⟩ : Option Unit) := by kernel_rfl
theorem okc_39 (args : List (AV tau)) (m : Mem tau) (κ : AV tau → Mem tau → Option Unit) (hh : c_39 args m κ = some ()) : ∃ av m1, κ av m1 = some () ∧ ToldA Try.prog TT (pnT 39) 39 args m av m1 := by
 obtain ⟨bx_, rw_⟩ := m
 unfold c_39 at hh
 simp only at hh
 split at hh
 case h_2 => cases hh
 rename_i b0 b1
 obtain ⟨l0, hx0, hh0⟩ := bO_some hh
 obtain ⟨l1, hx1, hh1⟩ := bO_some hh0
 have ex0 := asSl_some hx0
 have ex1 := asSl_some hx1
 subst ex0 ex1
 obtain ⟨N, t, h, hκ⟩ := callX_some hh1
 refine ⟨_, _, hκ, told_of_run pq okC_39 (fun _ _ _ => drawA_ok pq okC_39 hmix) (E := E_39) (fn := Try.f39) (body := B_39) (by kernel_rfl) (by kernel_rfl) (by kernel_rfl) (by rfl) (by exact Nat.le_of_ble_eq_true rfl) (fun k hk => ?_)⟩
 refine (w_39 l0 l1 k).trans ?_
 replace h : impl_BoxSame.f N l0 l1 = some t := h
 unfold impl_BoxSame.f at h
 refine call_h N h (fun t0 e2 h => ?_)
 cases h; exact hk
noncomputable def C_113 : Ctr tau Unit := ctrS 39 c_39 C_39
noncomputable def D_113 : Drw tau := drawA E_113 C_113
theorem okC_113 : CtrOk Try.prog TT pnT C_113 := ctrS_ok okC_39 okc_39
theorem mC_113 : CtrMono C_113 := ctrS_mono mC_39 mc_39
theorem mD_113 : DrMono D_113 := drawA_mono mC_113
noncomputable def B_113 : Code := Try.f113.body.getD .skip
theorem mc_113 (args : List (AV tau)) (m : Mem tau) (k k' : AV tau → Mem tau → Option Unit) (hk : ∀ av m, k av m = some () → k' av m = some ()) (h : c_113 args m k = some ()) : c_113 args m k' = some () := by
 unfold c_113 at h ⊢
 split at h
 · repeat' first | exact callX_mono (fun _ h => hk _ _ h) h | refine bO_mono (fun _ h => ?_) h
 · cases h
noncomputable def K_113_0 (k : AV tau → Mem tau → Option Unit) : Kon tau := (kBlock 0 (kS E_113 C_113 D_113 (codeP B_113 [1, 1, 1]) (kEnd E_113 Try.f113 k)))
def st_113_0 (x0 : (List S84)) (x1 : (List S84)) (x2 : Int) (x3 : Int) : St tau := ⟨tmL 26 0 [(0, .sl 84 x0), (1, .sl 84 x1), (12, .int .i64 x2), (13, .int .i64 x3)], ⟨[], []⟩⟩
noncomputable def LP_113_0 (k : AV tau → Mem tau → Option Unit) (x0 : (List S84)) (x1 : (List S84)) (x2 : Int) (x3 : Int) : Option Unit := loopA E_113 (codeA E_113 C_113 D_113 (codeP B_113 [1, 1, 0, 1, 0, 0])) (codeP B_113 [1, 1, 0, 1, 0, 0]) (K_113_0 k) (st_113_0 x0 x1 x2 x3)
theorem w_113_0 (k : AV tau → Mem tau → Option Unit) (x0 : (List S84)) (x1 : (List S84)) (x2 : Int) (x3 : Int) : codeA E_113 C_113 D_113 (codeP B_113 [1, 1, 0, 1, 0, 0]) (kL E_113 C_113 D_113 (codeP B_113 [1, 1, 0, 1, 0, 0]) (K_113_0 k)) (st_113_0 x0 x1 x2 x3) = (brA (decide (x3 < x2)) (brA (decide ((0 : Int) ≤ x3)) (brA (decide (x3 < ((x0.length : Nat) : Int))) (brA (decide ((0 : Int) ≤ x3)) (brA (decide (x3 < ((x1.length : Nat) : Int))) (brA (!(((((rd_T84 x0 x3).f0).f0 == ((rd_T84 x1 x3).f0).f0) && (((rd_T84 x0 x3).f0).f1 == ((rd_T84 x1 x3).f0).f1)) && (((rd_T84 x0 x3).f1 == (rd_T84 x1 x3).f1) && ((rd_T84 x0 x3).f2 == (rd_T84 x1 x3).f2)))) (k (.bool false) ⟨[], []⟩) (LP_113_0 k x0 x1 x2 (wrap64 (x3 + (1 : Int))))) (none)) (none)) (none)) (none)) (k (.bool true) ⟨[], []⟩) : Option Unit) := by
 simp only [← wrapA_i64]
 kernel_rfl
theorem w_113 (l0 : List S84) (l1 : List S84) (k : AV tau → Mem tau → Option Unit) : fnA E_113 C_113 D_113 Try.f113 B_113 [.sl 84 l0, .sl 84 l1] ⟨[], []⟩ k = (brA (!(decide (((l0.length : Nat) : Int) = ((l1.length : Nat) : Int)))) (k (.bool false) ⟨[], []⟩) (LP_113_0 k l0 l1 ((l0.length : Nat) : Int) (0 : Int)) : Option Unit) := by kernel_rfl
def S_113_0 (N : Nat) : Prop := ∀ (k : AV tau → Mem tau → Option Unit) (x0 : (List S84)) (x1 : (List S84)) (x2 : Int) (x3 : Int) (r : Bool), impl_same_impl_Done.l0 N (x0) (x1) (x2) (x3) = some r → k (.bool (r)) ⟨[], []⟩ = some () → LP_113_0 k x0 x1 x2 x3 = some ()
theorem L_113 (N : Nat) : S_113_0 N := by
 induction N using Nat.strongRecOn with | _ N0 ih =>
 skip
 intro k x0 x1 x2 x3 r h hk
 rcases N0 with _ | N
 · cases h
 first | rw [impl_same_impl_Done.l0] at h | simp only [impl_same_impl_Done.l0] at h | (unfold impl_same_impl_Done.l0 at h; dsimp only at h)
 refine loop_fold mC_113 mD_113 ?_
 refine (w_113_0 k x0 x1 x2 x3).trans ?_
 refine br_eti h rfl (fun c13 h => ?_) (fun c13 h => ?_)
 ·cases h; exact hk
 refine br_g h rfl (fun c14 h => ?_)
 refine br_g h rfl (fun c15 h => ?_)
 refine br_t (by first | (simp [c14]; done) | (simp; omega) | (simp only [List.length_append, List.length_cons, List.length_nil, List.length_take, List.length_drop] at c15 ⊢; simp; omega) | (simp only [List.length_append, List.length_cons, List.length_nil, List.length_take, List.length_drop] at c15; simp; omega) | (simp_all; done)) ?_
 refine br_g h rfl (fun c16 h => ?_)
 refine br_ite h (by first | rfl | exact dect | exact (congrArg not dect) | (simp; done) | (simp [beqI]; done) | (simp; omega)) (fun c17 h => ?_) (fun c17 h => ?_)
 ·cases h; exact hk
 exact (ih N (by omega)) _ _ _ _ _ _ h hk
theorem okc_113 (args : List (AV tau)) (m : Mem tau) (κ : AV tau → Mem tau → Option Unit) (hh : c_113 args m κ = some ()) : ∃ av m1, κ av m1 = some () ∧ ToldA Try.prog TT (pnT 113) 113 args m av m1 := by
 obtain ⟨bx_, rw_⟩ := m
 unfold c_113 at hh
 simp only at hh
 split at hh
 case h_2 => cases hh
 rename_i b0 b1
 obtain ⟨l0, hx0, hh0⟩ := bO_some hh
 obtain ⟨l1, hx1, hh1⟩ := bO_some hh0
 have ex0 := asSl_some hx0
 have ex1 := asSl_some hx1
 subst ex0 ex1
 obtain ⟨N, t, h, hκ⟩ := callX_some hh1
 refine ⟨_, _, hκ, told_of_run pq okC_113 (fun _ _ _ => drawA_ok pq okC_113 hmix) (E := E_113) (fn := Try.f113) (body := B_113) (by kernel_rfl) (by kernel_rfl) (by kernel_rfl) (by rfl) (by exact Nat.le_of_ble_eq_true rfl) (fun k hk => ?_)⟩
 refine (w_113 l0 l1 k).trans ?_
 replace h : impl_same_impl_Done.f N l0 l1 = some t := h
 unfold impl_same_impl_Done.f at h
 refine br_etn h rfl (fun c18 h => ?_) (fun c18 h => ?_)
 ·cases h; exact hk
 exact (L_113 N) _ _ _ _ _ _ h hk
noncomputable def C_45 : Ctr tau Unit := ctrS 113 c_113 C_113
noncomputable def D_45 : Drw tau := drawA E_45 C_45
theorem okC_45 : CtrOk Try.prog TT pnT C_45 := ctrS_ok okC_113 okc_113
theorem mC_45 : CtrMono C_45 := ctrS_mono mC_113 mc_113
theorem mD_45 : DrMono D_45 := drawA_mono mC_45
noncomputable def B_45 : Code := Try.f45.body.getD .skip
theorem mc_45 (args : List (AV tau)) (m : Mem tau) (k k' : AV tau → Mem tau → Option Unit) (hk : ∀ av m, k av m = some () → k' av m = some ()) (h : c_45 args m k = some ()) : c_45 args m k' = some () := by
 unfold c_45 at h ⊢
 split at h
 · repeat' first | exact callX_mono (fun _ h => hk _ _ h) h | refine bO_mono (fun _ h => ?_) h
 · cases h
theorem w_45 (a0_0 : Int) (l0_1 : List S37) (l0_2 : List S84) (a1_0 : Int) (l1_1 : List S37) (l1_2 : List S84) (k : AV tau → Mem tau → Option Unit) : fnA E_45 C_45 D_45 Try.f45 B_45 [.agg [.int .i64 a0_0, .sl 37 l0_1, .sl 84 l0_2], .agg [.int .i64 a1_0, .sl 37 l1_1, .sl 84 l1_2]] ⟨[], []⟩ k = (brA (decide (a0_0 = a1_0)) (callX (fun n => impl_BoxSame.f n l0_1 l1_1) fun t0 => brA t0 (callX (fun n => impl_same_impl_Done.f n l0_2 l1_2) fun t1 => k (.bool t1) ⟨[], []⟩) (k (.bool false) ⟨[], []⟩)) (k (.bool false) ⟨[], []⟩) : Option Unit) := by kernel_rfl
theorem okc_45 (args : List (AV tau)) (m : Mem tau) (κ : AV tau → Mem tau → Option Unit) (hh : c_45 args m κ = some ()) : ∃ av m1, κ av m1 = some () ∧ ToldA Try.prog TT (pnT 45) 45 args m av m1 := by
 obtain ⟨bx_, rw_⟩ := m
 unfold c_45 at hh
 simp only at hh
 split at hh
 case h_2 => cases hh
 rename_i b0 b1 b2 b3 b4 b5
 obtain ⟨a0_0, hx0, hh0⟩ := bO_some hh
 obtain ⟨l0_1, hx1, hh1⟩ := bO_some hh0
 obtain ⟨l0_2, hx2, hh2⟩ := bO_some hh1
 obtain ⟨a1_0, hx3, hh3⟩ := bO_some hh2
 obtain ⟨l1_1, hx4, hh4⟩ := bO_some hh3
 obtain ⟨l1_2, hx5, hh5⟩ := bO_some hh4
 have ex0 := asI_some hx0
 have ex1 := asSl_some hx1
 have ex2 := asSl_some hx2
 have ex3 := asI_some hx3
 have ex4 := asSl_some hx4
 have ex5 := asSl_some hx5
 subst ex0 ex1 ex2 ex3 ex4 ex5
 obtain ⟨N, t, h, hκ⟩ := callX_some hh5
 refine ⟨_, _, hκ, told_of_run pq okC_45 (fun _ _ _ => drawA_ok pq okC_45 hmix) (E := E_45) (fn := Try.f45) (body := B_45) (by kernel_rfl) (by kernel_rfl) (by kernel_rfl) (by rfl) (by exact Nat.le_of_ble_eq_true rfl) (fun k hk => ?_)⟩
 refine (w_45 a0_0 l0_1 l0_2 a1_0 l1_1 l1_2 k).trans ?_
 replace h : impl_CertSame.f N a0_0 l0_1 l0_2 a1_0 l1_1 l1_2 = some t := h
 unfold impl_CertSame.f at h
 refine br_eti h rfl (fun c5 h => ?_) (fun c5 h => ?_)
 ·cases h; exact hk
 refine call_h N h (fun t0 e6 h => ?_)
 refine br_eti h dect (fun c7 h => ?_) (fun c7 h => ?_)
 ·cases h; exact hk
 refine call_h N h (fun t1 e8 h => ?_)
 cases h; exact hk
noncomputable def C_46 : Ctr tau Unit := ctrS 45 c_45 C_45
noncomputable def D_46 : Drw tau := drawA E_46 C_46
theorem okC_46 : CtrOk Try.prog TT pnT C_46 := ctrS_ok okC_45 okc_45
theorem mC_46 : CtrMono C_46 := ctrS_mono mC_45 mc_45
theorem mD_46 : DrMono D_46 := drawA_mono mC_46
noncomputable def B_46 : Code := Try.f46.body.getD .skip
theorem mc_46 (args : List (AV tau)) (m : Mem tau) (k k' : AV tau → Mem tau → Option Unit) (hk : ∀ av m, k av m = some () → k' av m = some ()) (h : c_46 args m k = some ()) : c_46 args m k' = some () := by
 unfold c_46 at h ⊢
 split at h
 · repeat' first | exact callX_mono (fun _ h => hk _ _ h) h | refine bO_mono (fun _ h => ?_) h
 · cases h
noncomputable def K_46_0 (k : AV tau → Mem tau → Option Unit) : Kon tau := (kBlock 0 (kS E_46 C_46 D_46 (codeP B_46 [1, 1, 1, 1]) (kEnd E_46 Try.f46 k)))
def st_46_0 (x0 : (List S77)) (x1 : Int) (x2 : Int) (x3 : Int) (x4 : (List S37)) (x5 : (List S84)) (x6 : (List S37)) (x7 : (List S84)) : St tau := ⟨tmL 36 0 [(0, .sl 77 x0), (2, .ptr 0 0), (3, .ptr 1 0), (4, .int .i64 x1)], ⟨[some (69, [.int .i64 x2, .own 0 0, .own 1 0]), some (69, [.int .i64 x3, .own 2 0, .own 3 0])], [some ⟨37, x4, 0⟩, some ⟨84, x5, 0⟩, some ⟨37, x6, 0⟩, some ⟨84, x7, 0⟩]⟩⟩
noncomputable def LP_46_0 (k : AV tau → Mem tau → Option Unit) (x0 : (List S77)) (x1 : Int) (x2 : Int) (x3 : Int) (x4 : (List S37)) (x5 : (List S84)) (x6 : (List S37)) (x7 : (List S84)) : Option Unit := loopA E_46 (codeA E_46 C_46 D_46 (codeP B_46 [1, 1, 1, 0, 1, 0, 0])) (codeP B_46 [1, 1, 1, 0, 1, 0, 0]) (K_46_0 k) (st_46_0 x0 x1 x2 x3 x4 x5 x6 x7)
theorem w_46_0 (k : AV tau → Mem tau → Option Unit) (x0 : (List S77)) (x1 : Int) (x2 : Int) (x3 : Int) (x4 : (List S37)) (x5 : (List S84)) (x6 : (List S37)) (x7 : (List S84)) : codeA E_46 C_46 D_46 (codeP B_46 [1, 1, 1, 0, 1, 0, 0]) (kL E_46 C_46 D_46 (codeP B_46 [1, 1, 1, 0, 1, 0, 0]) (K_46_0 k)) (st_46_0 x0 x1 x2 x3 x4 x5 x6 x7) = (brA (decide (x1 < ((x0.length : Nat) : Int))) (brA (decide ((0 : Int) ≤ x1)) (brA (decide (x1 < ((x0.length : Nat) : Int))) (callX (fun n => spec_CertEntry.f n ((rd_T77 x0 x1).f0) (((rd_T77 x0 x1).f1).f0) (((rd_T77 x0 x1).f1).f1) (((rd_T77 x0 x1).f2).f0) (((rd_T77 x0 x1).f2).f1) (((rd_T77 x0 x1).f2).f2) (((rd_T77 x0 x1).f2).f3)) fun t1 => brA (!t1) (k (.agg [.int .i64 (0 : Int), .own 0 0, .own 1 0]) ⟨[], [some ⟨37, ([] : List S37), 0⟩, some ⟨84, ([] : List S84), 0⟩]⟩) (brA (decide ((0 : Int) ≤ x1)) (brA (decide (x1 < ((x0.length : Nat) : Int))) (andA (callX (fun n => spec_l5Apply.f n x3 x6 x7 ((rd_T77 x0 x1).f0) (((rd_T77 x0 x1).f1).f0) (((rd_T77 x0 x1).f1).f1) (((rd_T77 x0 x1).f2).f0) (((rd_T77 x0 x1).f2).f1) (((rd_T77 x0 x1).f2).f2) (((rd_T77 x0 x1).f2).f3)) fun t2 => LP_46_0 k x0 (wrap64 (x1 + (1 : Int))) x2 t2.1 x4 x5 t2.2.1 t2.2.2.1) (callX (fun n => spec_l5Apply.f n x3 x6 x7 ((rd_T77 x0 x1).f0) (((rd_T77 x0 x1).f1).f0) (((rd_T77 x0 x1).f1).f1) (((rd_T77 x0 x1).f2).f0) (((rd_T77 x0 x1).f2).f1) (((rd_T77 x0 x1).f2).f2) (((rd_T77 x0 x1).f2).f3)) fun t3 => LP_46_0 k x0 (wrap64 (x1 + (1 : Int))) x2 t3.1 x4 x5 t3.2.1 t3.2.2.1)) (none)) (none))) (none)) (none)) (k (.agg [.int .i64 x3, .own 0 0, .own 1 0]) ⟨[], [some ⟨37, x6, 0⟩, some ⟨84, x7, 0⟩]⟩) : Option Unit) := by
 simp only [← wrapA_i64]
 kernel_rfl
theorem w_46 (l0 : List S77) (k : AV tau → Mem tau → Option Unit) : fnA E_46 C_46 D_46 Try.f46 B_46 [.sl 77 l0] ⟨[], []⟩ k = (callX (fun n => spec_CertOpen.f ) fun t0 => brA (decide (((l0.length : Nat) : Int) > (40 : Int))) (k (.agg [.int .i64 (0 : Int), .own 0 0, .own 1 0]) ⟨[], [some ⟨37, ([] : List S37), 0⟩, some ⟨84, ([] : List S84), 0⟩]⟩) (LP_46_0 k l0 (0 : Int) (0 : Int) t0.1 ([] : List S37) ([] : List S84) t0.2.1 t0.2.2) : Option Unit) := by kernel_rfl
def S_46_0 (N : Nat) : Prop := ∀ (k : AV tau → Mem tau → Option Unit) (x0 : (List S77)) (x1 : Int) (x2 : Int) (x3 : Int) (x4 : (List S37)) (x5 : (List S84)) (x6 : (List S37)) (x7 : (List S84)) (r : Int × (List (S37)) × (List (S84))), spec_CertFold.l0 N (x0) (x1) (x3) (x6) (x7) = some r → k (.agg [.int .i64 (r.1), .own 0 0, .own 1 0]) ⟨[], [some ⟨37, r.2.1, 0⟩, some ⟨84, r.2.2, 0⟩]⟩ = some () → LP_46_0 k x0 x1 x2 x3 x4 x5 x6 x7 = some ()
theorem L_46 (N : Nat) : S_46_0 N := by
 induction N using Nat.strongRecOn with | _ N0 ih =>
 skip
 intro k x0 x1 x2 x3 x4 x5 x6 x7 r h hk
 rcases N0 with _ | N
 · cases h
 first | rw [spec_CertFold.l0] at h | simp only [spec_CertFold.l0] at h | (unfold spec_CertFold.l0 at h; dsimp only at h)
 refine loop_fold mC_46 mD_46 ?_
 refine (w_46_0 k x0 x1 x2 x3 x4 x5 x6 x7).trans ?_
 refine br_eti h rfl (fun c17 h => ?_) (fun c17 h => ?_)
 ·cases h; exact hk
 refine br_g h rfl (fun c18 h => ?_)
 refine br_t (by first | (simp [c17]; done) | (simp; omega) | (simp only [List.length_append, List.length_cons, List.length_nil, List.length_take, List.length_drop] at c17 ⊢; simp; omega) | (simp only [List.length_append, List.length_cons, List.length_nil, List.length_take, List.length_drop] at c17; simp; omega) | (simp_all; done)) ?_
 refine call_h N h (fun t1 e19 h => ?_)
 refine br_etn h (congrArg not dect) (fun c20 h => ?_) (fun c20 h => ?_)
 ·cases h; exact hk
 refine br_t (by first | (simp [c18]; done) | (simp; omega) | (simp only [List.length_append, List.length_cons, List.length_nil, List.length_take, List.length_drop] at c17 ⊢; simp; omega) | (simp only [List.length_append, List.length_cons, List.length_nil, List.length_take, List.length_drop] at c17; simp; omega) | (simp_all; done)) ?_
 refine br_t (by first | (simp [c17]; done) | (simp; omega) | (simp only [List.length_append, List.length_cons, List.length_nil, List.length_take, List.length_drop] at c17 ⊢; simp; omega) | (simp only [List.length_append, List.length_cons, List.length_nil, List.length_take, List.length_drop] at c17; simp; omega) | (simp_all; done)) ?_
 refine andA_of ?_ ?_
 ·refine call_h N h (fun t2 e21 h => ?_)
  exact (ih N (by omega)) _ _ _ _ _ _ _ _ _ _ h hk
 refine call_h N h (fun t3 e22 h => ?_)
 exact (ih N (by omega)) _ _ _ _ _ _ _ _ _ _ h hk
theorem okc_46 (args : List (AV tau)) (m : Mem tau) (κ : AV tau → Mem tau → Option Unit) (hh : c_46 args m κ = some ()) : ∃ av m1, κ av m1 = some () ∧ ToldA Try.prog TT (pnT 46) 46 args m av m1 := by
 obtain ⟨bx_, rw_⟩ := m
 unfold c_46 at hh
 simp only at hh
 split at hh
 case h_2 => cases hh
 rename_i b0
 obtain ⟨l0, hx0, hh0⟩ := bO_some hh
 have ex0 := asSl_some hx0
 subst ex0
 obtain ⟨N, t, h, hκ⟩ := callX_some hh0
 refine ⟨_, _, hκ, told_of_run pq okC_46 (fun _ _ _ => drawA_ok pq okC_46 hmix) (E := E_46) (fn := Try.f46) (body := B_46) (by kernel_rfl) (by kernel_rfl) (by kernel_rfl) (by rfl) (by exact Nat.le_of_ble_eq_true rfl) (fun k hk => ?_)⟩
 refine (w_46 l0 k).trans ?_
 replace h : spec_CertFold.f N l0 = some t := h
 unfold spec_CertFold.f at h
 refine call_h 0 h (fun t0 e23 h => ?_)
 refine br_eti h rfl (fun c24 h => ?_) (fun c24 h => ?_)
 ·exact (L_46 N) _ _ _ _ _ _ _ _ _ _ h hk
 cases h; exact hk
noncomputable def C_6 : Ctr tau Unit := ctrS 46 c_46 C_46
noncomputable def D_6 : Drw tau := drawA E_6 C_6
theorem okC_6 : CtrOk Try.prog TT pnT C_6 := ctrS_ok okC_46 okc_46
theorem mC_6 : CtrMono C_6 := ctrS_mono mC_46 mc_46
theorem mD_6 : DrMono D_6 := drawA_mono mC_6
noncomputable def B_6 : Code := Try.f6.body.getD .skip
theorem mc_6 (args : List (AV tau)) (m : Mem tau) (k k' : AV tau → Mem tau → Option Unit) (hk : ∀ av m, k av m = some () → k' av m = some ()) (h : c_6 args m k = some ()) : c_6 args m k' = some () := by
 unfold c_6 at h ⊢
 split at h
 · repeat' first | exact callX_mono (fun _ h => hk _ _ h) h | refine bO_mono (fun _ h => ?_) h
 · cases h
noncomputable def K_6_0 (k : AV tau → Mem tau → Option Unit) : Kon tau := (kBlock 0 (kS E_6 C_6 D_6 (codeP B_6 [1, 1, 1, 1, 1, 1, 1, 1, 1]) (kEnd E_6 Try.f6 k)))
def st_6_0 (x0 : (List S77)) (x1 : Int) (x2 : Int) (x3 : Int) (x4 : Int) (x5 : (List S37)) (x6 : (List S84)) (x7 : (List S37)) (x8 : (List S84)) : St tau := ⟨tmL 96 0 [(5, .sl 77 x0), (6, .ptr 0 0), (7, .int .i64 x1), (8, .ptr 1 0), (9, .int .i64 x2)], ⟨[some (69, [.int .i64 x3, .own 0 0, .own 1 0]), some (69, [.int .i64 x4, .own 2 0, .own 3 0])], [some ⟨37, x5, 0⟩, some ⟨84, x6, 0⟩, some ⟨37, x7, 0⟩, some ⟨84, x8, 0⟩]⟩⟩
noncomputable def LP_6_0 (k : AV tau → Mem tau → Option Unit) (x0 : (List S77)) (x1 : Int) (x2 : Int) (x3 : Int) (x4 : Int) (x5 : (List S37)) (x6 : (List S84)) (x7 : (List S37)) (x8 : (List S84)) : Option Unit := loopA E_6 (codeA E_6 C_6 D_6 (codeP B_6 [1, 1, 1, 1, 1, 1, 1, 1, 0, 1, 0, 0])) (codeP B_6 [1, 1, 1, 1, 1, 1, 1, 1, 0, 1, 0, 0]) (K_6_0 k) (st_6_0 x0 x1 x2 x3 x4 x5 x6 x7 x8)
theorem w_6_0 (k : AV tau → Mem tau → Option Unit) (x0 : (List S77)) (x1 : Int) (x2 : Int) (x3 : Int) (x4 : Int) (x5 : (List S37)) (x6 : (List S84)) (x7 : (List S37)) (x8 : (List S84)) : codeA E_6 C_6 D_6 (codeP B_6 [1, 1, 1, 1, 1, 1, 1, 1, 0, 1, 0, 0]) (kL E_6 C_6 D_6 (codeP B_6 [1, 1, 1, 1, 1, 1, 1, 1, 0, 1, 0, 0]) (K_6_0 k)) (st_6_0 x0 x1 x2 x3 x4 x5 x6 x7 x8) = (brA (decide (x2 < ((x0.length : Nat) : Int))) (brA (decide ((0 : Int) ≤ x2)) (brA (decide (x2 < ((x0.length : Nat) : Int))) (andA (callX (fun n => impl_CertApply.f n x4 x7 x8 ((rd_T77 x0 x2).f0) (((rd_T77 x0 x2).f1).f0) (((rd_T77 x0 x2).f1).f1) (((rd_T77 x0 x2).f2).f0) (((rd_T77 x0 x2).f2).f1) (((rd_T77 x0 x2).f2).f2) (((rd_T77 x0 x2).f2).f3)) fun t5 => brA (decide (t5.2.2.2 < (0 : Int))) (k (.bool false) ⟨[], []⟩) (LP_6_0 k x0 x1 (wrap64 (x2 + (1 : Int))) x3 t5.1 x5 x6 t5.2.1 t5.2.2.1)) (callX (fun n => impl_CertApply.f n x4 x7 x8 ((rd_T77 x0 x2).f0) (((rd_T77 x0 x2).f1).f0) (((rd_T77 x0 x2).f1).f1) (((rd_T77 x0 x2).f2).f0) (((rd_T77 x0 x2).f2).f1) (((rd_T77 x0 x2).f2).f2) (((rd_T77 x0 x2).f2).f3)) fun t6 => brA (decide (t6.2.2.2 < (0 : Int))) (k (.bool false) ⟨[], []⟩) (LP_6_0 k x0 x1 (wrap64 (x2 + (1 : Int))) x3 t6.1 x5 x6 t6.2.1 t6.2.2.1))) (none)) (none)) (callX (fun n => impl_CertSame.f n x4 x7 x8 x3 x5 x6) fun t7 => brA (!t7) (callX (fun n => impl_CertSame.f n x4 x7 x8 x3 x5 x6) fun t8 => k (.bool t8) ⟨[], []⟩) (brA (decide (((x0.length : Nat) : Int) = (40 : Int))) (callX (fun n => impl_CertSame.f n x4 x7 x8 x3 x5 x6) fun t9 => k (.bool t9) ⟨[], []⟩) (brA (decide ((0 : Int) ≤ x1)) (brA (decide (x1 ≤ ((x0.length : Nat) : Int))) (brA (decide ((0 + (List.take (Int.toNat x1) x0).length) ≤ 1599289640401)) (brA (decide (((([] : List S77) ++ (List.take (Int.toNat x1) x0)).length + 1) ≤ 1599289640401)) (brA (decide ((0 : Int) ≤ x1)) (brA (decide (x1 ≤ ((x0.length : Nat) : Int))) (brA (decide ((((([] : List S77) ++ (List.take (Int.toNat x1) x0)) ++ ([(⟨true, (⟨(0 : Int), (0 : Int)⟩ : S75), (⟨([] : List S39), ([] : List S82), (0 : Int), (0 : Int)⟩ : S26)⟩ : S77)] : List S77)).length + (List.drop (Int.toNat x1) x0).length) ≤ 1599289640401)) (callX (fun n => impl_CertFold.f n (((([] : List S77) ++ (List.take (Int.toNat x1) x0)) ++ ([(⟨true, (⟨(0 : Int), (0 : Int)⟩ : S75), (⟨([] : List S39), ([] : List S82), (0 : Int), (0 : Int)⟩ : S26)⟩ : S77)] : List S77)) ++ (List.drop (Int.toNat x1) x0))) fun t10 => callX (fun n => impl_CertSame.f n x3 t10.2.1 t10.2.2 x3 x5 x6) fun t11 => k (.bool t11) ⟨[], []⟩) (none)) (none)) (none)) (none)) (none)) (none)) (none)))) : Option Unit) := by
 simp only [← wrapA_i64]
 kernel_rfl
theorem w_6 (l0 : List Int) (l1 : List Int) (k : AV tau → Mem tau → Option Unit) : fnA E_6 C_6 D_6 Try.f6 B_6 [.sl 5 l0, .sl 5 l1] ⟨[], []⟩ k = (brA (decide (((l0.length : Nat) : Int) > (1048576 : Int))) (k (.bool true) ⟨[], []⟩) (brA (decide (((l1.length : Nat) : Int) > (1048576 : Int))) (k (.bool true) ⟨[], []⟩) (callX (fun n => spec_DrawCertFold.f n l0) fun t0 => callX (fun n => impl_CertFold.f n t0) fun t1 => callX (fun n => spec_CertFold.f n t0) fun t2 => callX (fun n => impl_CertSame.f n t1.1 t1.2.1 t1.2.2 t2.1 t2.2.1 t2.2.2) fun t3 => brA (!t3) (k (.bool false) ⟨[], []⟩) (brA (decide (((t1.2.1.length : Nat) : Int) = (0 : Int))) (k (.bool true) ⟨[], []⟩) (brA (!(decide ((wrap64 (((t0.length : Nat) : Int) + (1 : Int))) = (0 : Int)))) (brA (decide ((0 : Int) ≤ (Int.tmod ((l1.length : Nat) : Int) (wrap64 (((t0.length : Nat) : Int) + (1 : Int)))))) (brA (decide ((Int.tmod ((l1.length : Nat) : Int) (wrap64 (((t0.length : Nat) : Int) + (1 : Int)))) ≤ ((t0.length : Nat) : Int))) (callX (fun n => impl_CertFold.f n (List.take (Int.toNat (Int.tmod ((l1.length : Nat) : Int) (wrap64 (((t0.length : Nat) : Int) + (1 : Int))))) t0)) fun t4 => LP_6_0 k t0 (Int.tmod ((l1.length : Nat) : Int) (wrap64 (((t0.length : Nat) : Int) + (1 : Int)))) (Int.tmod ((l1.length : Nat) : Int) (wrap64 (((t0.length : Nat) : Int) + (1 : Int)))) t1.1 t4.1 t1.2.1 t1.2.2 t4.2.1 t4.2.2) (none)) (none)) (none))))) : Option Unit) := by
 simp only [← wrapA_i64]
 kernel_rfl
def S_6_0 (N : Nat) : Prop := ∀ (k : AV tau → Mem tau → Option Unit) (x0 : (List S77)) (x1 : Int) (x2 : Int) (x3 : Int) (x4 : Int) (x5 : (List S37)) (x6 : (List S84)) (x7 : (List S37)) (x8 : (List S84)) (r : Bool), laws_FnCertFold.l0 N (x0) (x1) (x2) (x3) (x5) (x6) (x4) (x7) (x8) = some r → k (.bool (r)) ⟨[], []⟩ = some () → LP_6_0 k x0 x1 x2 x3 x4 x5 x6 x7 x8 = some ()
theorem L_6 (N : Nat) : S_6_0 N := by
 induction N using Nat.strongRecOn with | _ N0 ih =>
 skip
 intro k x0 x1 x2 x3 x4 x5 x6 x7 x8 r h hk
 rcases N0 with _ | N
 · cases h
 first | rw [laws_FnCertFold.l0] at h | simp only [laws_FnCertFold.l0] at h | (unfold laws_FnCertFold.l0 at h; dsimp only at h)
 refine loop_fold mC_6 mD_6 ?_
 refine (w_6_0 k x0 x1 x2 x3 x4 x5 x6 x7 x8).trans ?_
 refine br_ite h rfl (fun c61 h => ?_) (fun c61 h => ?_)
 ·refine br_g h rfl (fun c62 h => ?_)
  refine br_t (by first | (simp [c61]; done) | (simp; omega) | (simp only [List.length_append, List.length_cons, List.length_nil, List.length_take, List.length_drop] at c61 ⊢; simp; omega) | (simp only [List.length_append, List.length_cons, List.length_nil, List.length_take, List.length_drop] at c61; simp; omega) | (simp_all; done)) ?_
  refine andA_of ?_ ?_
  ·refine call_h N h (fun t5 e63 h => ?_)
   refine br_ite h rfl (fun c64 h => ?_) (fun c64 h => ?_)
   ·cases h; exact hk
   exact (ih N (by omega)) _ _ _ _ _ _ _ _ _ _ _ h hk
  refine call_h N h (fun t6 e65 h => ?_)
  refine br_ite h rfl (fun c66 h => ?_) (fun c66 h => ?_)
  ·cases h; exact hk
  exact (ih N (by omega)) _ _ _ _ _ _ _ _ _ _ _ h hk
 refine call_h N h (fun t7 e67 h => ?_)
 refine br_etn h (congrArg not dect) (fun c68 h => ?_) (fun c68 h => ?_)
 ·refine call_h N h (fun t8 e69 h => ?_)
  cases h; exact hk
 refine br_ite h rfl (fun c70 h => ?_) (fun c70 h => ?_)
 ·refine call_h N h (fun t9 e71 h => ?_)
  cases h; exact hk
 replace h := let_h h
 refine br_g h rfl (fun c72 h => ?_)
 refine br_g h rfl (fun c73 h => ?_)
 replace h := let_h h
 refine ite_x h (fun c74 h => ?_) (fun _ h => by cases h)
 replace h := let_h h
 refine ite_x h (fun c75 h => ?_) (fun _ h => by cases h)
 replace h := let_h h
 replace h := let_h h
 refine ite_x h (fun c76 h => ?_) (fun _ h => by cases h)
 refine br_t (by first | (simp; omega) | (simp only [List.length_append, List.length_cons, List.length_nil, List.length_take, List.length_drop] at c76 c75 c74 c73 c70 ⊢; simp; omega) | (simp only [List.length_append, List.length_cons, List.length_nil, List.length_take, List.length_drop] at c76 c75 c74 c73 c70; simp; omega)) ?_
 refine br_t (by first | (simp [c75]; done) | (simp; omega) | (simp only [List.length_append, List.length_cons, List.length_nil, List.length_take, List.length_drop] at c76 c75 c74 c73 c70 ⊢; simp; omega) | (simp only [List.length_append, List.length_cons, List.length_nil, List.length_take, List.length_drop] at c76 c75 c74 c73 c70; simp; omega) | (simp_all; done)) ?_
 refine br_t (by first | (simp [c72]; done) | (simp; omega) | (simp only [List.length_append, List.length_cons, List.length_nil, List.length_take, List.length_drop] at c76 c75 c74 c73 c70 ⊢; simp; omega) | (simp only [List.length_append, List.length_cons, List.length_nil, List.length_take, List.length_drop] at c76 c75 c74 c73 c70; simp; omega) | (simp_all; done)) ?_
 refine br_t (by first | (simp [c73]; done) | (simp; omega) | (simp only [List.length_append, List.length_cons, List.length_nil, List.length_take, List.length_drop] at c76 c75 c74 c73 c70 ⊢; simp; omega) | (simp only [List.length_append, List.length_cons, List.length_nil, List.length_take, List.length_drop] at c76 c75 c74 c73 c70; simp; omega) | (simp_all; done)) ?_
 refine br_t (by first | (simp; omega) | (simp only [List.length_append, List.length_cons, List.length_nil, List.length_take, List.length_drop] at c76 c75 c74 c73 c70 ⊢; simp; omega) | (simp only [List.length_append, List.length_cons, List.length_nil, List.length_take, List.length_drop] at c76 c75 c74 c73 c70; simp; omega)) ?_
 refine call_h N h (fun t10 e77 h => ?_)
 refine call_h N h (fun t11 e78 h => ?_)
 cases h; exact hk
theorem okc_6 (args : List (AV tau)) (m : Mem tau) (κ : AV tau → Mem tau → Option Unit) (hh : c_6 args m κ = some ()) : ∃ av m1, κ av m1 = some () ∧ ToldA Try.prog TT (pnT 6) 6 args m av m1 := by
 obtain ⟨bx_, rw_⟩ := m
 unfold c_6 at hh
 simp only at hh
 split at hh
 case h_2 => cases hh
 rename_i b0 b1
 obtain ⟨l0, hx0, hh0⟩ := bO_some hh
 obtain ⟨l1, hx1, hh1⟩ := bO_some hh0
 have ex0 := asSl_some hx0
 have ex1 := asSl_some hx1
 subst ex0 ex1
 obtain ⟨N, t, h, hκ⟩ := callX_some hh1
 refine ⟨_, _, hκ, told_of_run pq okC_6 (fun _ _ _ => drawA_ok pq okC_6 hmix) (E := E_6) (fn := Try.f6) (body := B_6) (by kernel_rfl) (by kernel_rfl) (by kernel_rfl) (by rfl) (by exact Nat.le_of_ble_eq_true rfl) (fun k hk => ?_)⟩
 refine (w_6 l0 l1 k).trans ?_
 replace h : laws_FnCertFold.f N l0 l1 = some t := h
 unfold laws_FnCertFold.f at h; simp only [pct_len (α := Int) l1] at h
 refine br_ite h rfl (fun c79 h => ?_) (fun c79 h => ?_)
 ·cases h; exact hk
 refine br_ite h rfl (fun c80 h => ?_) (fun c80 h => ?_)
 ·cases h; exact hk
 refine call_h N h (fun t0 e81 h => ?_)
 refine call_h N h (fun t1 e82 h => ?_)
 refine call_h N h (fun t2 e83 h => ?_)
 refine call_h N h (fun t3 e84 h => ?_)
 refine br_etn h (congrArg not dect) (fun c85 h => ?_) (fun c85 h => ?_)
 ·cases h; exact hk
 refine br_ite h rfl (fun c86 h => ?_) (fun c86 h => ?_)
 ·cases h; exact hk
 refine br_nn h rfl (fun c87 h => ?_)
 refine br_g h rfl (fun c88 h => ?_)
 refine br_g h rfl (fun c89 h => ?_)
 refine call_h N h (fun t4 e90 h => ?_)
 exact (L_6 N) _ _ _ _ _ _ _ _ _ _ _ h hk
end Go.Proofs.Ytkkmhlfpombgfaa.PFnCertFold